/- The law of orders: the contract of its row. -/
import Derived.Test.YtpaeganfehemnaaGreatWor
import Derived.Test.YtpaeganfehemnaaGreatRows
import Derived.ProofKit

namespace Go.Ev
open Go.Proofs

theorem r6top {a0 a1 a2 : Value} {st : St} {Q : Value → St → Prop} (h : R6 a0 a1 a2 st Q) : TopP Tryz.prog 6 [a0, a1, a2] st Q :=
  fun_top oT_ok oS_ok (ann := annL [(0, [8]), (2, [9]), (4, [16]), (6, [17]), (8, [18])]) fr6 ((show R6 a0 a1 a2 st Q = denF Tryz.prog oT (annL [(0, [8]), (2, [9]), (4, [16]), (6, [17]), (8, [18])]) (rowF Tryz.f6) [a0, a1, a2] st Q by kernel_rfl).mp h)

/-- A call that keeps the evaluator's memory keeps the world. -/
theorem top_world {W : World} {f : FuncId} {args : List Value} {args' : Array Value} {b : Bool} (h : TopP Tryz.prog f args (startS W) fun u s => u = .bool b ∧ Keeps (startS W) s) (hv : VL (startE W) args args'.toList) :
    Calls Tryz.prog f args' W fun e w' => e = .returned (.bool b) ∧ RowKit.Below W.heap.size W w' := by
  obtain ⟨h⟩ := h
  obtain ⟨v, st', ⟨rfl, hk⟩, _, hrun⟩ := h (start_live W)
  obtain ⟨E2, w2, v2, h1, h2, h3⟩ := hrun (startE W) W args' (start_fresh W _) (start_sim W) hv
  have hv2 : v2 = .bool b := (h1.bool_iff b).1 rfl
  subst hv2
  exact h3.mono fun e w' ⟨he, hw⟩ => ⟨he, by rw [hw]; exact start_back hk h2⟩
end Go.Ev

namespace Go.Proofs.YtpaeganfehemnaaGreat
open Go.ChangeShapes Go.WideShapes Go.ChangeAt Go.RowKit Go.Ev

theorem Tryz.own : ownKnob Tryz.prog.godebug = none := by kernel_rfl
theorem Tryz.laidOut : laidOutB Tryz.prog = true := by kernel_rfl

set_option maxRecDepth 100000 in
theorem orders_lifted (os : Os) (started : os.Started) (H : Type) (enc : TypeId × Value → H) :
    ReturnsInHanded {} Tryz.checked os 6 .any (Rows.topOrdersSpec.pre6 enc Tryz.prog Tryz.f6 Rows.topOrdersRow.domain false) (Rows.topOrdersSpec.post enc Tryz.prog Tryz.f6 false true false false) := by
  refine returnsInHanded_of_change (C := Tryz.checked) Tryz.own started (by kernel_rfl) Tryz.func6
    (ChangeSpec.witness6 (enc := enc) (C := Tryz.checked) false ⟨#[], #[.slice none 0 0,
      .agg #[.string ⟨#[]⟩, .string ⟨#[]⟩, .string ⟨#[]⟩, .int .i64 0, .int .i64 0, .string ⟨#[]⟩, .bool false, .bool false, .slice none 0 0,
        .string ⟨#[]⟩, .string ⟨#[]⟩, .string ⟨#[]⟩, .int .i64 0, .int .i64 0, .string ⟨#[]⟩, .bool false, .bool false, .slice none 0 0,
        .string ⟨#[]⟩, .string ⟨#[]⟩, .string ⟨#[]⟩, .int .i64 0, .int .i64 0, .string ⟨#[]⟩, .bool false, .bool false, .slice none 0 0],
      .agg #[.int .i64 0, .int .i64 0, .int .i64 0]], []⟩ 8 (by kernel_rfl) (by kernel_rfl) (by kernel_rfl) (by kernel_rfl)) ?_
  intro W base args ds gs before hval0 hW hcnd _
  have hval : ∀ (j : Nat) t v, Tryz.f6.params[j]? = some t → args[j]? = some v → Value.okWide Tryz.prog W .any base t v := hval0
  have hW' := hW
  obtain ⟨p, q, hA0, hV, rfl, hfz, hnd⟩ := hW
  have hA : DataW.TrodAll enc Tryz.prog W 0 (fun _ => true) true Tryz.f6.params.toList args.toList ds p := hA0
  rw [Tryz.params6] at hA hval
  obtain ⟨v0, v1, v2, d0, d1, d2, p0, p1, p2, rfl, rfl, rfl, h0, h1, h2⟩ := trodAll_three hA
  obtain ⟨rfl, rfl⟩ := trodVars_none hV
  obtain ⟨c0, l, hc⟩ := clauses_read (hval 0 74 v0 rfl rfl) h0
  obtain ⟨g, x, rfl, hg⟩ := three_read (hval 1 78 v1 rfl rfl) h1
  obtain ⟨pl, rfl⟩ := nums_read (hval 2 79 v2 rfl rfl) h2
  clear hA0 hval0
  simp only [List.append_nil] at hW'
  have hlt : ∀ y ∈ p0 ++ p1 ++ p2, y.block < W.heap.size := fun y hy => by simpa using hW'.lt y hy
  have hguests : VL (startE W) (guL (g 0) (absV W.heap.size (x 0)) ++ (guL (g 1) (absV W.heap.size (x 1)) ++ guL (g 2) (absV W.heap.size (x 2)))) (guL (g 0) (x 0) ++ (guL (g 1) (x 1) ++ guL (g 2) (x 2))) := by
    have := VL_abs (W := W) (l := guL (g 0) (x 0) ++ (guL (g 1) (x 1) ++ guL (g 2) (x 2))) (by
      rw [List.map_append, List.map_append, guL_abs, guL_abs, guL_abs]
      refine noHole_one ?_
      simp only [List.all_append, guL_one (hg 0 (by omega)).one, guL_one (hg 1 (by omega)).one, guL_one (hg 2 (by omega)).one, Bool.and_self])
    rw [List.map_append, List.map_append, guL_abs, guL_abs, guL_abs] at this
    exact this
  have hnums : VL (startE W) [.int .i64 (pl 0), .int .i64 (pl 1), .int .i64 (pl 2)] [.int .i64 (pl 0), .int .i64 (pl 1), .int .i64 (pl 2)] :=
    VL.cons (.int _ _) (VL.cons (.int _ _) (VL.cons (.int _ _) (VL.nil _)))
  refine (top_world (args' := #[v0, .agg ⟨guL (g 0) (x 0) ++ (guL (g 1) (x 1) ++ guL (g 2) (x 2))⟩, .agg ⟨[.int .i64 (pl 0), .int .i64 (pl 1), .int .i64 (pl 2)]⟩])
    (r6top (orders_core (start_live W) quiet8 hc ⟨g, pl⟩ (fun i => absV W.heap.size (x i)) hg))
    (VL.cons c0 (VL.cons (.agg' hguests) (VL.cons (.agg' hnums) (VL.nil _))))).mono fun e W' ⟨he, bel⟩ => ?_
  subst he
  refine ⟨_, rfl, _, _, _, [], p0 ++ p1 ++ p2, [], hW', trodAll_mk1 (shut_bool Tryz.underlying4 true), ?_, rfl, bel.frame _, fun h => by cases h⟩
  rw [List.append_assoc]
  exact trodAll_mk3 (Below.trod Tryz.laidOut (by kernel_rfl) (of_decide_eq_true (by kernel_rfl)) h0 bel fun y hy => hlt y (by simp [hy]))
    (Below.trod Tryz.laidOut (by kernel_rfl) (of_decide_eq_true (by kernel_rfl)) h1 bel fun y hy => hlt y (by simp [hy]))
    (Below.trod Tryz.laidOut (by kernel_rfl) (of_decide_eq_true (by kernel_rfl)) h2 bel fun y hy => hlt y (by simp [hy]))

end Go.Proofs.YtpaeganfehemnaaGreat
