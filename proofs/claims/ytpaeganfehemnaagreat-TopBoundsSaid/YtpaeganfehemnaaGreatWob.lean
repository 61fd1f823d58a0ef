/- From a world to the small memory and back; readings of arguments. -/
import Derived.Test.YtpaeganfehemnaaGreatSyb
import Derived.ProofKit
import Derived.Test.YtpaeganfehemnaaGreatAlive
import Derived.Test.YtpaeganfehemnaaGreatBob
import Derived.OpenShut

namespace Go.Ev
open Go.Proofs

/-! ### the whole call -/
/-- A function that is called gives a value; its frame stands at its end. -/
inductive TopP (P : Program) (f : FuncId) (args : List Value) (st : St) (Q : Value → St → Prop) : Prop
  | mk (h : Live st → ∃ v st', Q v st' ∧ Abs st st' ∧ ∀ E w args', Fresh E st.nxt st'.nxt → Sim E (hget st.heap) w → VL E args (Array.toList args') →
      ∃ E2 w2 v2, VR E2 v v2 ∧ Out E (hget st.heap) st.nxt w E2 (hget st'.heap) st'.nxt w2 ∧ Calls P f args' w fun e w' => e = .returned v2 ∧ w' = w2) : TopP P f args st Q

theorem fun_top {P : Program} {T : Tab} (hT : TabOk P T) (hS : SumOk P T) {ann : Nat → Option (List Nat)} {f : FuncId} {r : FnRow} (hr : T.fn f = some r) {args : List Value} {st : St} {Q : Value → St → Prop} (h : denF P T ann r args st Q) : TopP P f args st Q := by
  refine ⟨fun hl => ?_⟩
  have hrow := hT.fn _ _ hr
  let K : AF → St → Prop := fun fe se => fe.fn = f ∧ ∃ l, evResults T se fe.tmps r.results = some l ∧ Q (oneOf l) se
  have hle := entry_le args (r.ntmps - args.length)
  have hret : ∀ (e' : OEnv) (df' : List Deferred) (st' : St) (tmps' : List Value) (rest' : List AItem), EnvLe e' tmps' → retF T r.results Q e' df' st' → RunsTo P { mkF f .normal none tmps' rest' df' with ret := true } st' K := fun e' df' st' tmps' rest' he' hq => by
    refine Dfs_runs hT hS rfl rfl df' st' _ hq rfl fun st2 h2 => ?_
    obtain ⟨l, h3, h4⟩ := resO_spec he' _ _ _ h2
    exact ⟨rfl, l, h3, by simpa using h4⟩
  obtain ⟨fe, se, d1, d2, d3, l, d4, d5⟩ := den_sound (round := none) (kind := .normal) (fn := f) (K := K) hT hS r.body [] _ _ _ _ [] st _ [] (.inl rfl) h hle
    (fun e' df' st' tmps' he' _ hq => RunsTo.go hT hS (fr1 := { mkF f .normal none tmps' [] df' with ret := true }) rfl (hret e' df' st' tmps' [] he' hq))
    (fun id k' hl => by simp [look] at hl) (fun id _ => rfl)
    (fun e' df' st' tmps' rest' he' hq => RunsTo.go hT hS (fr1 := { mkF f .normal none tmps' (.code .ret :: rest') df' with ret := true }) rfl (hret e' df' st' tmps' _ he' hq))
    (fun id e' df' st' tmps' rest' _ _ h => h.elim) hl
  have hround : fe.round = none := d1.round
  have hkind : fe.kind = .normal := d1.kind
  have hfin : fe.ret = true ∧ fe.defers = [] := by
    have := d2
    unfold Final at this
    rw [hround] at this
    exact this
  refine ⟨oneOf l, se, d5, d1.abs, fun E w args' hf hs hv => ?_⟩
  obtain ⟨E2, w2, F2, q1, q2, q3⟩ := d1.run E w (Frame.enter P f args' .normal) hf hs (enter_FR hrow hv .normal)
  obtain ⟨fn, f1, f2, f3, f4, f5⟩ := hrow.ok
  have hfn : F2.fn = f := by rw [q2.fn, d3]
  have hdef : F2.defers = [] := by
    have := q2.defers
    rw [hfin.2] at this
    exact this.nil_inv
  obtain ⟨v2, hv2, hres⟩ : ∃ v2, VR E2 (oneOf l) v2 ∧ (results fn F2.tmps).run P w2 = .ok v2 w2 := by
    rw [← f4] at d4
    obtain ⟨l', r1, r2⟩ := results_ok (P := P) hT q2.tmps q1.sim _ _ d4
    rw [results_eq, Array.mapM_eq_mapM_toList]
    simp only [Sem.run_bind, Sem.run_map, r2, Result.andThen_ok, Sem.run_pure]
    match l, r1 with
    | [], r1 =>
      have := r1.nil_inv
      subst this
      exact ⟨_, .tuple' (VL.nil E2), rfl⟩
    | [v], r1 =>
      obtain ⟨x', t', e1, r3, r4⟩ := r1.cons_inv
      have e2 := r4.nil_inv
      subst e2 e1
      exact ⟨x', r3, by simp⟩
    | a :: b :: t, r1 =>
      have hl' : l'.length ≠ 1 := by have := r1.1; simp at this; omega
      exact ⟨.tuple ⟨l'⟩, .tuple' r1, by rw [dif_neg (by simpa using hl')]⟩
  refine ⟨E2, w2, v2, hv2, q1, fun cs => ⟨.returned v2, w2, F2, ⟨rfl, rfl⟩, q3 cs, hfn, ?_, hdef, ?_, fn, ?_, hres⟩⟩
  · rw [q2.mode, hfin.1]; rfl
  · rw [q2.kind, hkind]
  · rw [hfn]; exact f1

/-! ### a world in the evaluator's memory -/
def absV (n : Nat) : Value → Value
  | .bool b => .bool b
  | .int k x => .int k x
  | .string s => .string s
  | .pointer none => .pointer none
  | .pointer (some ⟨b, o, none⟩) => cond (Nat.blt b n) (.pointer (some ⟨b, o, none⟩)) (.iface 0 (.pointer (some ⟨b, o, none⟩)))
  | .slice none x c => .slice none x c
  | .slice (some ⟨b, o, none⟩) x c => cond (Nat.blt b n) (.slice (some ⟨b, o, none⟩) x c) (cond (Nat.beq x 0 && Nat.beq c 0) (.iface 1 (.slice (some ⟨b, o, none⟩) 0 0)) (.iface 0 (.slice (some ⟨b, o, none⟩) x c)))
  | .slice (some a) x c => cond (Nat.beq x 0 && Nat.beq c 0) (.iface 1 (.slice (some a) 0 0)) (.iface 0 (.slice (some a) x c))
  | v => .iface 0 v

def absO (n : Nat) : Obj → Option Obj
  | .cells c e f => some (.cells ⟨c.toList.map (absV n)⟩ e f)
  | _ => none

def absH (n : Nat) : Nat → List Obj → Heap
  | _, [] => []
  | i, o :: l => match absO n o with | some o' => (i, o') :: absH n (i + 1) l | none => absH n (i + 1) l

def startS (W : World) : St := { heap := absH W.heap.size 0 W.heap.toList, nxt := W.heap.size, wr := W.heap.size }

def startE (W : World) : Env := fun b => match W.heap[b]? with
  | some (.cells c _ _) => some ⟨b, 0, c.size⟩
  | some _ => some ⟨b, 0, 0⟩
  | none => none

theorem hget_absH (n : Nat) : ∀ (l : List Obj) (i k : Nat), hget (absH n i l) k = if i ≤ k then (l[k - i]?).bind (absO n) else none := by
  intro l
  induction l with
  | nil => intro i k; simp [absH, hget]
  | cons o l ih =>
    intro i k
    unfold absH
    have rest : hget (absH n (i + 1) l) k = if i + 1 ≤ k then (l[k - (i + 1)]?).bind (absO n) else none := ih (i + 1) k
    by_cases hik : i ≤ k
    · rw [if_pos hik]
      by_cases he : k = i
      · subst he
        simp only [Nat.sub_self, List.getElem?_cons_zero, Option.bind_some]
        split
        · rename_i o' ho
          rw [hget_cons, if_pos rfl, ho]
        · rename_i ho
          rw [rest, if_neg (by omega), ho]
      · have e1 : k - i = (k - (i + 1)) + 1 := by omega
        rw [e1, List.getElem?_cons_succ]
        split
        · rw [hget_cons, if_neg (by omega), rest, if_pos (by omega)]
        · rw [rest, if_pos (by omega)]
    · rw [if_neg hik]
      split
      · rw [hget_cons, if_neg (by omega), rest, if_neg (by omega)]
      · rw [rest, if_neg (by omega)]

theorem hget_start (W : World) (k : Nat) : hget (startS W).heap k = (W.heap[k]?).bind (absO W.heap.size) := by
  show hget (absH W.heap.size 0 W.heap.toList) k = _
  rw [hget_absH, if_pos (Nat.zero_le _)]
  simp

theorem hget_start_some {W : World} {k : Nat} {o : Obj} (h : hget (startS W).heap k = some o) : ∃ C e f, W.heap[k]? = some (.cells C e f) ∧ o = .cells ⟨C.toList.map (absV W.heap.size)⟩ e f := by
  rw [hget_start] at h
  obtain ⟨o', h1, h2⟩ := Option.bind_eq_some_iff.1 h
  cases o' with
  | cells C e f =>
    simp only [absO, Option.some.injEq] at h2
    exact ⟨C, e, f, h1, h2.symm⟩
  | _ => simp [absO] at h2

theorem start_live (W : World) : Live (startS W) := fun id h => by
  obtain ⟨o, ho⟩ := Option.isSome_iff_exists.1 h
  obtain ⟨C, e, f, h1, _⟩ := hget_start_some ho
  exact heap_lt h1

theorem startE_lt {W : World} {b : Nat} (h : b < W.heap.size) : ∃ S, startE W b = some ⟨b, 0, S⟩ := by
  unfold startE
  rw [Array.getElem?_eq_getElem h]
  split
  · exact ⟨_, rfl⟩
  · exact ⟨_, rfl⟩
  · rename_i h; cases h

theorem startE_spec {W : World} {b : Nat} {p : Pl} (h : startE W b = some p) : p.b = b ∧ p.s = 0 ∧ b < W.heap.size := by
  unfold startE at h
  split at h
  · rename_i hc; injection h with h; subst h; exact ⟨rfl, rfl, heap_lt hc⟩
  · rename_i hc; injection h with h; subst h; exact ⟨rfl, rfl, heap_lt hc⟩
  · cases h

theorem start_fresh (W : World) (hi : Nat) : Fresh (startE W) (startS W).nxt hi := fun id h1 _ => by
  have h1 : W.heap.size ≤ id := h1
  cases h : startE W id with
  | none => rfl
  | some p => have := (startE_spec h).2.2; omega

theorem ptr_start {W : World} {b o : Nat} (h : b < W.heap.size) : VR (startE W) (.pointer (some ⟨b, o, none⟩)) (.pointer (some ⟨b, o, none⟩)) := by
  obtain ⟨S, hS⟩ := startE_lt h
  have := VR.ptr (E := startE W) (off := o) hS
  simpa using this
theorem sl_start {W : World} {b o : Nat} (n c : Nat) (h : b < W.heap.size) : VR (startE W) (.slice (some ⟨b, o, none⟩) n c) (.slice (some ⟨b, o, none⟩) n c) := by
  obtain ⟨S, hS⟩ := startE_lt h
  have := VR.sl (E := startE W) (off := o) n c hS
  simpa using this

theorem HR_abs (W : World) (v : Value) : HR (startE W) (absV W.heap.size v) v := by
  unfold absV
  split
  · exact .inr (.bool _)
  · exact .inr (.int _ _)
  · exact .inr (.string _)
  · exact .inr .pnil
  · rename_i b o
    cases hb : Nat.blt b W.heap.size with
    | true => exact .inr (ptr_start (by simpa [Nat.blt_eq] using hb))
    | false => exact .inl rfl
  · exact .inr (.snil _ _)
  · rename_i b o x c
    cases hb : Nat.blt b W.heap.size with
    | true => exact .inr (sl_start _ _ (by simpa [Nat.blt_eq] using hb))
    | false =>
      cases hz : (Nat.beq x 0 && Nat.beq c 0) with
      | false => exact .inl rfl
      | true =>
        simp only [Bool.and_eq_true] at hz
        have h1 := Nat.eq_of_beq_eq_true hz.1
        have h2 := Nat.eq_of_beq_eq_true hz.2
        subst h1 h2
        exact .inr (.hollow _)
  · rename_i a x c _
    cases hz : (Nat.beq x 0 && Nat.beq c 0) with
    | false => exact .inl rfl
    | true =>
      simp only [Bool.and_eq_true] at hz
      have h1 := Nat.eq_of_beq_eq_true hz.1
      have h2 := Nat.eq_of_beq_eq_true hz.2
      subst h1 h2
      exact .inr (.hollow _)
  · exact .inl rfl

theorem start_sim (W : World) : Sim (startE W) (hget (startS W).heap) W := by
  refine ⟨fun id o h => ?_, fun id id' p p' h h' e e' hb => ?_⟩
  · obtain ⟨C, e, f, h1, rfl⟩ := hget_start_some h
    refine ⟨⟨id, 0, C.size⟩, _, by unfold startE; rw [h1], h1, .row rfl fun i v hv => ?_⟩
    simp only [List.getElem?_map, Option.map_eq_some_iff] at hv
    obtain ⟨x, hx, rfl⟩ := hv
    exact ⟨x, by rw [Nat.zero_add]; exact hx, HR_abs W x⟩
  · rw [(startE_spec e).1, (startE_spec e').1] at hb
    exact hb

theorem abs_det {W : World} {E2 : Env} (hE : Le (startE W) E2) {v v' : Value} (h : HR E2 (absV W.heap.size v) v') : v' = v := by
  have hole : ∀ x, HR E2 (.iface 0 x) v' → v' = x := fun x h => by
    rcases h with h | h
    · injection h with _ h; exact h.symm
    · cases h
  have holl : ∀ a, HR E2 (.iface 1 (.slice (some a) 0 0)) v' → v' = .slice (some a) 0 0 := fun a h => by
    rcases h with h | h
    · injection h with h _; cases h
    · cases h; rfl
  have place : ∀ (b : Nat) (p : Pl), b < W.heap.size → E2 b = some p → p.b = b ∧ p.s = 0 := fun b p hb hp => by
    obtain ⟨S, hS⟩ := startE_lt hb
    have := hE _ _ hS
    rw [hp] at this
    injection this with this
    subst this
    exact ⟨rfl, rfl⟩
  unfold absV at h
  split at h
  · rcases h with h | h
    · cases h
    · cases h; rfl
  · rcases h with h | h
    · cases h
    · cases h; rfl
  · rcases h with h | h
    · cases h
    · cases h; rfl
  · rcases h with h | h
    · cases h
    · cases h; rfl
  · rename_i b o
    cases hb : Nat.blt b W.heap.size with
    | true =>
      rw [hb] at h
      rcases h with h | h
      · cases h
      · cases h with
        | ptr e =>
          obtain ⟨h1, h2⟩ := place _ _ (by simpa [Nat.blt_eq] using hb) e
          rw [h1, h2, Nat.zero_add]
    | false => rw [hb] at h; exact hole _ h
  · rcases h with h | h
    · cases h
    · cases h; rfl
  · rename_i b o x c
    cases hb : Nat.blt b W.heap.size with
    | true =>
      rw [hb] at h
      rcases h with h | h
      · cases h
      · cases h with
        | sl _ _ e =>
          obtain ⟨h1, h2⟩ := place _ _ (by simpa [Nat.blt_eq] using hb) e
          rw [h1, h2, Nat.zero_add]
    | false =>
      rw [hb] at h
      cases hz : (Nat.beq x 0 && Nat.beq c 0) with
      | false => rw [hz] at h; exact hole _ h
      | true =>
        rw [hz] at h
        simp only [Bool.and_eq_true] at hz
        rw [Nat.eq_of_beq_eq_true hz.1, Nat.eq_of_beq_eq_true hz.2]
        exact holl _ h
  · rename_i a x c _
    cases hz : (Nat.beq x 0 && Nat.beq c 0) with
    | false => rw [hz] at h; exact hole _ h
    | true =>
      rw [hz] at h
      simp only [Bool.and_eq_true] at hz
      rw [Nat.eq_of_beq_eq_true hz.1, Nat.eq_of_beq_eq_true hz.2]
      exact holl _ h
  · exact hole _ h

/-- What the evaluator's memory kept, the world has kept. -/
theorem start_back {W w2 : World} {s : St} {E2 : Env} {hi : Nat} (k : Keeps (startS W) s) (o : Out (startE W) (hget (startS W).heap) (startS W).nxt W E2 (hget s.heap) hi w2) : RowKit.Below W.heap.size W w2 := by
  refine ⟨o.os, o.tape, o.output, o.size, fun b hb => ?_⟩
  by_cases hrow : ∃ C e f, W.heap[b]? = some (.cells C e f)
  · obtain ⟨C, e, f, hC⟩ := hrow
    have h1 : hget (startS W).heap b = some (.cells ⟨C.toList.map (absV W.heap.size)⟩ e f) := by rw [hget_start, hC]; rfl
    have h2 := k.sub _ _ h1
    obtain ⟨p, O, h3, h4, h5⟩ := o.sim.obj _ _ h2
    have hp : startE W b = some ⟨b, 0, C.size⟩ := by unfold startE; rw [hC]
    have h6 := o.le _ _ hp
    rw [h3] at h6
    injection h6 with h6
    subst h6
    obtain ⟨C', h7⟩ := o.rows b C e f hC
    obtain ⟨C2, e', rfl, h8, h9⟩ := OR.row_iff.1 h5
    have h4 : w2.heap[b]? = some (.cells C2 e' f) := h4
    rw [h4] at h7
    injection h7 with h7
    injection h7 with _ he _
    subst he
    rw [h4, hC]
    have hsz : C2.size = C.size := h8
    have : C2 = C := by
      apply Array.ext hsz
      intro i hi1 hi2
      obtain ⟨v', g1, g2⟩ := h9 i (absV W.heap.size C[i]) (by simp [hi2])
      have g1 : C2.toList[0 + i]? = some v' := g1
      rw [Nat.zero_add] at g1
      have := abs_det o.le g2
      subst this
      simpa [hi1] using g1
    rw [this]
  · refine o.kept b hb fun id p h1 h2 he => ?_
    obtain ⟨x, hx⟩ := Option.isSome_iff_exists.1 h1
    obtain ⟨C, e, f, h3, _⟩ := hget_start_some hx
    rw [(startE_spec h2).1] at he
    subst he
    exact hrow ⟨C, e, f, h3⟩
end Go.Ev

namespace Go.Ev
open Go.Proofs

/-- What was there is as it was: the evaluator's memory stands for the later world too. -/
theorem Out.below {E : Env} {h : HF} {n : Nat} {w w2 : World} (hs : Sim E h w) (hb : RowKit.Below w.heap.size w w2) : Out E h n w E h n w2 :=
  ⟨Le.refl E, fun _ _ => rfl,
    ⟨fun id o e => let ⟨p, O, h1, h2, h3⟩ := hs.obj id o e; ⟨p, O, h1, by rw [hb.block _ (heap_lt h2)]; exact h2, h3⟩, hs.inj⟩,
    hb.size, fun b hlt _ => hb.block b hlt, fun id p e1 e2 => .inr ⟨id, p, e1, e2, rfl⟩, hb.tape, hb.os, hb.output,
    fun b C e f hC => ⟨C, by rw [hb.block b (heap_lt hC)]; exact hC⟩⟩

theorem quiet8 (s : St) : Quiet 8 [] s (.bool true) := fun _ => by
  refine ⟨s.nxt, Nat.le_refl _, (alive12_returns default).1, Abs.refl s, fun E w args' _ hs hv => ?_⟩
  have h0 : args' = #[] := by
    have := hv.nil_inv
    cases args'
    simp only at this
    rw [this]
  subst h0
  obtain ⟨_, w2, hb, hr⟩ := alive12_returns w
  exact ⟨E, w2, .bool true, .bool _, Out.below hs hb, hr⟩
end Go.Ev

namespace Go.Ev
open Go.Proofs Go.ChangeShapes Go.WideShapes

section
variable {W : World}

theorem cellRow {a : Addr} {v : Value} (h : W.cell? a = some v) : a.spot = none ∧ ∃ C e f, W.heap[a.block]? = some (.cells C e f) ∧ C.toList[a.off]? = some v := by
  unfold World.cell? at h
  split at h
  · rename_i c e f hc
    cases hs : a.spot with
    | some x => simp [hs] at h
    | none => simp [hs] at h; exact ⟨rfl, c, e, f, hc, by simpa using h⟩
  · cases h

theorem cellStart {b o : Nat} {v : Value} (h : W.cell? ⟨b, o, none⟩ = some v) (hn : isHole (absV W.heap.size v) = false) : cellAt (startS W).heap b o = some (absV W.heap.size v) := by
  obtain ⟨_, C, e, f, h1, h2⟩ := cellRow h
  have h1 : W.heap[b]? = some (.cells C e f) := h1
  have h2 : C.toList[o]? = some v := h2
  unfold cellAt
  rw [hget_start, h1]
  exact getC_of (by simp only [List.getElem?_map, h2]; rfl) hn

theorem mapAt {α β : Type} {f : α → Option β} : ∀ (l : List α) (r : List β), l.mapM f = some r → r.length = l.length ∧ ∀ (i : Nat) (a : α), l[i]? = some a → f a = r[i]? := by
  intro l
  induction l with
  | nil => intro r h; simp at h; subst h; exact ⟨rfl, fun i a h => by simp at h⟩
  | cons x l ih =>
    intro r h
    simp only [List.mapM_cons, Option.bind_eq_bind, Option.bind_eq_some_iff, Option.pure_def, Option.some.injEq] at h
    obtain ⟨y, hy, r1, hr1, rfl⟩ := h
    obtain ⟨h1, h2⟩ := ih r1 hr1
    refine ⟨by simp [h1], fun i a ha => ?_⟩
    cases i with
    | zero => simp at ha; subst ha; simpa using hy
    | succ i => simp only [List.getElem?_cons_succ] at ha ⊢; exact h2 i a ha

theorem cellOne {a : Addr} {cs : List Value} {x : Value} (h : W.cells? 0 a 1 = some cs) (hx : cs = [x]) : W.cell? (a.add 0) = some x := by
  subst hx
  unfold World.cells? at h
  rw [if_pos (Nat.zero_le _)] at h
  obtain ⟨h1, h2⟩ := mapAt _ _ h
  have := h2 0 0 (by simp)
  simpa using this

variable {H : Type} {enc : TypeId × Value → H}

/-- A slice that is read, one cell an element. -/
theorem sl_read {α : Type} {C : Heap → Value → α → Prop} {t e : TypeId} (ht : Tryz.prog.underlying t = some (.slice e)) (he : Tryz.prog.cellsOf e = 1)
    (hC : ∀ {fuel : Nat} {cs : List Value} {y : DataW H × List MemPlace}, DataW.trod enc Tryz.prog W 0 (fun _ => true) true fuel e cs = some y → ∃ x a, cs = [x] ∧ C (startS W).heap (absV W.heap.size x) a ∧ isHole (absV W.heap.size x) = false)
    {fuel : Nat} {cs : List Value} {y : DataW H × List MemPlace} (h : DataW.trod enc Tryz.prog W 0 (fun _ => true) true fuel t cs = some y) :
    ∃ x l, cs = [x] ∧ SlOf C (startS W).heap (absV W.heap.size x) l := by
  rcases DataW.trod_slice ht h with ⟨rfl, _⟩ | ⟨a, len, cap, elems, rest, n, rfl, rfl, _, _, hl, hm, helen, hel, hrest, _⟩
  · exact ⟨_, [], rfl, .inr ⟨none, 0, rfl, Nat.le_refl _, by omega, fun h => absurd rfl h⟩⟩
  rw [he] at hel hrest
  have hrest := hrest rfl
  have each : ∀ j, j < len → ∃ (x : Value) (al : α), W.cell? ((a.add (j * 1)).add 0) = some x ∧ C (startS W).heap (absV W.heap.size x) al ∧ isHole (absV W.heap.size x) = false := fun j hj => by
    have h1 := hel j hj
    rw [List.getElem?_eq_getElem (by omega)] at h1
    obtain ⟨cs, h2, h3⟩ := Option.bind_eq_some_iff.1 h1
    obtain ⟨x, al, hx, h4, h5⟩ := hC h3
    exact ⟨x, al, cellOne h2 hx, h4, h5⟩
  refine ⟨.slice (some a) len cap, ?_⟩
  by_cases hc : cap = 0
  · subst hc
    have hl0 : len = 0 := by omega
    subst hl0
    refine ⟨[], rfl, ?_⟩
    obtain ⟨b, o, sp⟩ := a
    have hol : ∀ v, v = Value.iface 1 (.slice (some ⟨b, o, sp⟩) 0 0) → SlOf C (startS W).heap v ([] : List α) := fun v e => .inl ⟨rfl, _, e⟩
    cases sp with
    | some g => exact hol _ rfl
    | none =>
      cases hb : Nat.blt b W.heap.size with
      | false => exact hol _ (by simp [absV, hb])
      | true => exact .inr ⟨some (b, o), 0, by simp [absV, hb], by simp, by omega, fun h => absurd rfl h⟩
  · have hcell : ∃ x, W.cell? ((a.add 0).add 0) = some x := by
      by_cases hl0 : len = 0
      · subst hl0
        have h1 := hrest.2 0 (by omega)
        rw [List.getElem?_eq_getElem (by have := hrest.1; omega)] at h1
        obtain ⟨cs, h2, h3⟩ := Option.bind_eq_some_iff.1 h1
        obtain ⟨x, al, hx, h4, h5⟩ := hC h3
        exact ⟨x, cellOne h2 hx⟩
      · obtain ⟨x, _, h1, _⟩ := each 0 (by omega)
        exact ⟨x, h1⟩
    obtain ⟨x0, hcell⟩ := hcell
    obtain ⟨sp, C0, e0, f0, h1, _⟩ := cellRow hcell
    obtain ⟨b, o, sp'⟩ := a
    have sp : sp' = none := by
      cases sp' with
      | none => rfl
      | some g => cases sp
    subst sp
    rw [add_plain, add_plain] at h1
    have hb : Nat.blt b W.heap.size = true := by simp [Nat.blt_eq, heap_lt h1]
    let al : Nat → Option α := fun j => if h : j < len then some (each j h).choose_spec.choose else none
    by_cases hl0 : len = 0
    · subst hl0
      exact ⟨[], rfl, .inr ⟨some (b, o), cap, by simp [absV, hb], by simp, by unfold Go.maxLen at hm; omega, fun h => absurd rfl h⟩⟩
    have d : α := (each 0 (by omega)).choose_spec.choose
    let al : Nat → α := fun j => if h : j < len then (each j h).choose_spec.choose else d
    have hal : ∀ j, j < len → ∃ x, W.cell? (((⟨b, o, none⟩ : Addr).add (j * 1)).add 0) = some x ∧ C (startS W).heap (absV W.heap.size x) (al j) ∧ isHole (absV W.heap.size x) = false := fun j hj => by
      have : al j = (each j hj).choose_spec.choose := by simp only [al]; rw [dif_pos hj]
      rw [this]
      exact ⟨_, (each j hj).choose_spec.choose_spec⟩
    refine ⟨(List.range len).map al, rfl, .inr ⟨some (b, o), cap, by simp [absV, hb], by simpa using hl, by unfold Go.maxLen at hm; omega, fun _ => ⟨b, o, rfl, fun j hj => ?_⟩⟩⟩
    simp only [List.length_map, List.length_range] at hj
    obtain ⟨x, h2, h3, h4⟩ := hal j hj
    rw [add_plain, add_plain, Nat.mul_one, Nat.add_zero] at h2
    simp only [List.getElem_map, List.getElem_range]
    exact ⟨_, cellStart h2 h4, h3⟩

theorem cells3 : Tryz.prog.cellsOf 3 = 1 := by kernel_rfl
theorem cells25 : Tryz.prog.cellsOf 25 = 1 := by kernel_rfl
theorem cells36 : Tryz.prog.cellsOf 36 = 1 := by kernel_rfl

theorem int_read {fuel : Nat} {cs : List Value} {y : DataW H × List MemPlace} (h : DataW.trod enc Tryz.prog W 0 (fun _ => true) true fuel 3 cs = some y) :
    ∃ x a, cs = [x] ∧ IntC (startS W).heap (absV W.heap.size x) a ∧ isHole (absV W.heap.size x) = false := by
  obtain ⟨q, hq, _⟩ := DataW.trod_int Tryz.underlying3 h
  exact ⟨_, q, hq, rfl, rfl⟩

theorem ints_read {fuel : Nat} {cs : List Value} {y : DataW H × List MemPlace} (h : DataW.trod enc Tryz.prog W 0 (fun _ => true) true fuel 25 cs = some y) :
    ∃ x a, cs = [x] ∧ Ints (startS W).heap (absV W.heap.size x) a ∧ isHole (absV W.heap.size x) = false := by
  obtain ⟨x, l, h1, h2⟩ := sl_read Tryz.underlying25 cells3 int_read h
  exact ⟨x, l, h1, h2, oneC_hole h2.one⟩

theorem tabs_read {fuel : Nat} {cs : List Value} {y : DataW H × List MemPlace} (h : DataW.trod enc Tryz.prog W 0 (fun _ => true) true fuel 36 cs = some y) :
    ∃ x a, cs = [x] ∧ Tabs (startS W).heap (absV W.heap.size x) a ∧ isHole (absV W.heap.size x) = false := by
  obtain ⟨x, l, h1, h2⟩ := sl_read Tryz.underlying36 cells25 ints_read h
  exact ⟨x, l, h1, h2, oneC_hole h2.one⟩

theorem sch_read {fuel : Nat} {cs : List Value} {y : DataW H × List MemPlace} (h : DataW.trod enc Tryz.prog W 0 (fun _ => true) true fuel 67 cs = some y) :
    ∃ x a, cs = [x] ∧ Sch (startS W).heap (absV W.heap.size x) a ∧ isHole (absV W.heap.size x) = false := by
  obtain ⟨x, l, h1, h2⟩ := sl_read Tryz.underlying67 cells36 tabs_read h
  exact ⟨x, l, h1, h2, oneC_hole h2.one⟩

set_option maxRecDepth 100000 in
theorem ints_top {r : Reach} {b0 : Nat} {v : Value} {d : DataW H} {ps : List MemPlace} (hval : Value.okWide Tryz.prog W r b0 25 v) (h : DataW.Trod enc Tryz.prog W 0 (fun _ => true) true 25 v d ps) :
    VR (startE W) (absV W.heap.size v) v ∧ ∃ l, Ints (startS W).heap (absV W.heap.size v) l := by
  obtain ⟨fuel, h⟩ := h
  obtain ⟨a, len, cap, rfl⟩ := okWide_slice Tryz.underlying25 hval
  obtain ⟨x, l, h1, h2, h3⟩ := ints_read h
  simp only [Value.cells, List.cons.injEq, and_true] at h1
  subst h1
  exact ⟨(HR_abs W _).known h3, l, h2⟩

set_option maxRecDepth 100000 in
theorem sch_top {r : Reach} {b0 : Nat} {v : Value} {d : DataW H} {ps : List MemPlace} (hval : Value.okWide Tryz.prog W r b0 67 v) (h : DataW.Trod enc Tryz.prog W 0 (fun _ => true) true 67 v d ps) :
    VR (startE W) (absV W.heap.size v) v ∧ ∃ l, Sch (startS W).heap (absV W.heap.size v) l := by
  obtain ⟨fuel, h⟩ := h
  obtain ⟨a, len, cap, rfl⟩ := okWide_slice Tryz.underlying67 hval
  obtain ⟨x, l, h1, h2, h3⟩ := sch_read h
  simp only [Value.cells, List.cons.injEq, and_true] at h1
  subst h1
  exact ⟨(HR_abs W _).known h3, l, h2⟩
end
end Go.Ev
