/- The law of bounds: the contract of its row. -/
import Derived.Test.YtpaeganfehemnaaGreatWob
import Derived.Test.YtpaeganfehemnaaGreatRows
import Derived.ProofKit

namespace Go.Ev
open Go.Proofs

theorem r5top {a0 a1 a2 : Value} {st : St} {Q : Value → St → Prop} (h : R5 a0 a1 a2 st Q) : TopP Tryz.prog 5 [a0, a1, a2] st Q :=
  fun_top oT_ok oS_ok (ann := annL [(0, [7]), (2, [11, 12]), (4, [11, 13]), (6, [15]), (8, [16])]) fr5 ((show R5 a0 a1 a2 st Q = denF Tryz.prog oT (annL [(0, [7]), (2, [11, 12]), (4, [11, 13]), (6, [15]), (8, [16])]) (rowF Tryz.f5) [a0, a1, a2] st Q by kernel_rfl).mp h)

/-- A call that keeps the evaluator's memory keeps the world. -/
theorem top_world5 {W : World} {f : FuncId} {args : List Value} {args' : Array Value} {b : Bool} (h : TopP Tryz.prog f args (startS W) fun u s => u = .bool b ∧ Keeps (startS W) s) (hv : VL (startE W) args args'.toList) :
    Calls Tryz.prog f args' W fun e w' => e = .returned (.bool b) ∧ RowKit.Below W.heap.size W w' := by
  obtain ⟨h⟩ := h
  obtain ⟨v, st', ⟨rfl, hk⟩, _, hrun⟩ := h (start_live W)
  obtain ⟨E2, w2, v2, h1, h2, h3⟩ := hrun (startE W) W args' (start_fresh W _) (start_sim W) hv
  have hv2 : v2 = .bool b := (h1.bool_iff b).1 rfl
  subst hv2
  exact h3.mono fun e w' ⟨he, hw⟩ => ⟨he, by rw [hw]; exact start_back hk h2⟩
end Go.Ev

namespace Go.Proofs.YtpaeganfehemnaaGreat
open Go.ChangeShapes Go.WideShapes Go.ChangeAt Go.RowKit Go.Ev

theorem Tryz.own5 : ownKnob Tryz.prog.godebug = none := by kernel_rfl
theorem Tryz.laidOut5 : laidOutB Tryz.prog = true := by kernel_rfl

set_option maxRecDepth 100000 in
theorem bounds_lifted (os : Os) (started : os.Started) (H : Type) (enc : TypeId × Value → H) :
    ReturnsInHanded {} Tryz.checked os 5 .any (Rows.topBoundsSpec.pre6 enc Tryz.prog Tryz.f5 Rows.topBoundsRow.domain false) (Rows.topBoundsSpec.post enc Tryz.prog Tryz.f5 false true false false) := by
  refine returnsInHanded_of_change (C := Tryz.checked) Tryz.own5 started (by kernel_rfl) Tryz.func5
    (ChangeSpec.witness6 (enc := enc) (C := Tryz.checked) false ⟨#[], #[.int .i64 0, .slice none 0 0, .slice none 0 0], []⟩ 8 (by kernel_rfl) (by kernel_rfl) (by kernel_rfl) (by kernel_rfl)) ?_
  intro W base args ds gs before hval0 hW hcnd _
  have hval : ∀ (j : Nat) t v, Tryz.f5.params[j]? = some t → args[j]? = some v → Value.okWide Tryz.prog W .any base t v := hval0
  have hW' := hW
  obtain ⟨p, q, hA0, hV, rfl, hfz, hnd⟩ := hW
  have hA : DataW.TrodAll enc Tryz.prog W 0 (fun _ => true) true Tryz.f5.params.toList args.toList ds p := hA0
  rw [Tryz.params5] at hA hval
  obtain ⟨v0, v1, v2, d0, d1, d2, p0, p1, p2, rfl, rfl, rfl, h0, h1, h2⟩ := trodAll_three hA
  obtain ⟨rfl, rfl⟩ := trodVars_none hV
  obtain ⟨x, rfl⟩ := okWide_int Tryz.underlying3 (hval 0 3 v0 rfl rfl)
  obtain ⟨e1, l, hl⟩ := ints_top (d := d1) (ps := p1) (hval 1 25 v1 rfl rfl) h1
  obtain ⟨e2, S, hS⟩ := sch_top (d := d2) (ps := p2) (hval 2 67 v2 rfl rfl) h2
  clear hA0 hval0
  simp only [List.append_nil] at hW'
  have hlt : ∀ y ∈ p0 ++ p1 ++ p2, y.block < W.heap.size := fun y hy => by simpa using hW'.lt y hy
  refine (top_world5 (args' := #[.int .i64 x, v1, v2]) (r5top (bounds_core (start_live W) quiet8 hl hS)) (VL.cons (.int _ _) (VL.cons e1 (VL.cons e2 (VL.nil _))))).mono fun e W' ⟨he, bel⟩ => ?_
  subst he
  refine ⟨_, rfl, _, _, _, [], p0 ++ p1 ++ p2, [], hW', trodAll_mk1 (shut_bool Tryz.underlying4 true), ?_, rfl, bel.frame _, fun h => by cases h⟩
  rw [List.append_assoc]
  exact trodAll_mk3 (Below.trod Tryz.laidOut5 (by kernel_rfl) (of_decide_eq_true (by kernel_rfl)) h0 bel fun y hy => hlt y (by simp [hy]))
    (Below.trod Tryz.laidOut5 (by kernel_rfl) (of_decide_eq_true (by kernel_rfl)) h1 bel fun y hy => hlt y (by simp [hy]))
    (Below.trod Tryz.laidOut5 (by kernel_rfl) (of_decide_eq_true (by kernel_rfl)) h2 bel fun y hy => hlt y (by simp [hy]))

end Go.Proofs.YtpaeganfehemnaaGreat
