/- The evaluator: regions whose order is open, runs of frames, known calls, the check of tables. -/
import Derived.Test.YtpaeganfehemnaaGreatEvb
import Derived.Below

/- The evaluator: regions whose order is open; what the run in the text's order shows. -/
namespace Go.Ev

theorem wantedA_congr {ops : Array Oper} {a b : List Value} {o : Oper} (h : ∀ t, t ∈ looks ops o → getN a t = getN b t) : wantedA ops.toList a o = wantedA ops.toList b o := by
  unfold wantedA
  cases hg : o.guard with
  | none => rfl
  | some g =>
    obtain ⟨j, w⟩ := g
    simp only
    have : yieldedA ops.toList a j = yieldedA ops.toList b j := by
      unfold yieldedA
      simp only [Array.getElem?_toList]
      cases ho : ops[j]? with
      | none => rfl
      | some q =>
        simp only
        cases hd : q.dst with
        | none => rfl
        | some d =>
          simp only
          rw [h d (by simp [looks, hg, ho, hd])]
    rw [this]

theorem looks_names {ops : Array Oper} {o : Oper} {a b : List Value} (h : ∀ t, t ∈ looks ops o → getN a t = getN b t) : ∀ t ∈ namesOf o, getN a t = getN b t :=
  fun t ht => h t (by simp [looks, ht])

/-- Two operations that don't touch each other's temporaries. -/
def ApartT (ops : Array Oper) (p o : Oper) : Prop := (∀ d, p.dst = some d → d ∉ looks ops o ∧ o.dst ≠ some d) ∧ (∀ d, o.dst = some d → d ∉ looks ops p)

theorem guard_not {ops : Array Oper} {o : Oper} {d : Tmp}
    (h : (match o.guard with | some (j, _) => (match ops.toList[j]? with | some q => !(q.dst == some d) | none => true) | none => true) = true) :
    d ∉ (match o.guard with | some (j, _) => (match ops[j]? with | some q => q.dst.toList | none => []) | none => []) := by
  cases hg : o.guard with
  | none => simp
  | some g =>
    obtain ⟨j, w⟩ := g
    rw [hg] at h
    simp only [Array.getElem?_toList] at h ⊢
    cases ho : ops[j]? with
    | none => simp
    | some q =>
      rw [ho] at h
      simp only [Bool.not_eq_true', beq_eq_false_iff_ne, ne_eq] at h
      simp only [Option.mem_toList]
      exact fun e => h e

theorem tmpsOk_spec {ops : Array Oper} {i b : Nat} {o : Oper} : ∀ (l : List (Nat × Oper)), tmpsOk ops.toList l i b o = true → ∀ x ∈ l, b.testBit x.1 = true ∨ ApartT ops x.2 o := by
  intro l
  induction l with
  | nil => intro _ x hx; cases hx
  | cons y l ih =>
    intro h x hx
    obtain ⟨k, p⟩ := y
    simp only [tmpsOk, Bool.and_eq_true, Bool.or_eq_true] at h
    obtain ⟨h1, h2⟩ := h
    rcases List.mem_cons.1 hx with e | e
    · subst e
      rcases h1 with h1 | ⟨h1, h3⟩
      · exact .inl h1
      · refine .inr ⟨fun d hd => ?_, fun d hd => ?_⟩
        · simp only at hd
          rw [hd] at h1
          simp only [Bool.and_eq_true, Bool.not_eq_true'] at h1
          obtain ⟨⟨a1, a2⟩, a3⟩ := h1
          refine ⟨?_, ?_⟩
          · simp only [looks, List.mem_append, not_or]
            refine ⟨fun hm => ?_, guard_not a3⟩
            rw [(hasN_iff _ _).2 hm] at a1
            cases a1
          · simpa using a2
        · rw [hd] at h3
          simp only [Bool.and_eq_true, Bool.not_eq_true'] at h3
          obtain ⟨a1, a3⟩ := h3
          simp only [looks, List.mem_append, not_or]
          refine ⟨fun hm => ?_, guard_not a3⟩
          rw [(hasN_iff _ _).2 hm] at a1
          cases a1
    · exact ih h2 x e

theorem disjoint_spec {a b : List Nat} (h : disjoint a b = true) {i : Nat} (h1 : i ∈ a) (h2 : i ∈ b) : False := by
  unfold disjoint at h
  have := List.all_eq_true.1 h i h1
  rw [(hasN_iff _ _).2 h2] at this
  cases this

section
variable {P : Program} {ops : Array Oper} {n0 : Nat} {h0 : HF} {tm0 : List Value} {R : List Rec}

theorem snoc_get {R : List Rec} {r : Rec} {n : Nat} {a : Rec} (h : (R ++ [r])[n]? = some a) : (n < R.length ∧ R[n]? = some a) ∨ (n = R.length ∧ a = r) := by
  rcases Nat.lt_or_ge n R.length with h1 | h1
  · rw [List.getElem?_append_left h1] at h; exact .inl ⟨h1, h⟩
  · rw [List.getElem?_append_right h1] at h
    have h2 := (List.getElem?_eq_some_iff.1 h).1
    simp only [List.length_cons, List.length_nil] at h2
    have h3 : n = R.length := by omega
    subst h3
    simp at h
    exact .inr ⟨rfl, h.symm⟩

theorem Recs.snoc (hR : Recs P ops n0 h0 tm0 R) {r : Rec} (h1 : RecOk P ops R.length r) (h2 : n0 ≤ r.lo) (h3 : r.tm = tat all R 0 tm0) (h4 : ∀ id o, r.small id = some o → hat all id R 0 (h0 id) = some o)
    (h5 : ∀ m a, R[m]? = some a → PairOk ops m a r) : Recs P ops n0 h0 tm0 (R ++ [r]) := by
  have htk : ∀ n, n ≤ R.length → (R ++ [r]).take n = R.take n := fun n hn => by rw [List.take_append_of_le_length hn]
  refine ⟨fun n a ha => ?_, fun n a ha => ?_, fun n a ha => ?_, fun n a ha id o ho => ?_, fun m n a b hmn ha hb => ?_⟩
  · rcases snoc_get ha with ⟨e1, e2⟩ | ⟨e1, e2⟩
    · exact hR.each n a e2
    · subst e1 e2; exact h1
  · rcases snoc_get ha with ⟨e1, e2⟩ | ⟨e1, e2⟩
    · exact hR.low n a e2
    · subst e1 e2; exact h2
  · rcases snoc_get ha with ⟨e1, e2⟩ | ⟨e1, e2⟩
    · rw [htk n (by omega)]; exact hR.tm n a e2
    · subst e1 e2; rw [htk _ (Nat.le_refl _), List.take_length]; exact h3
  · rcases snoc_get ha with ⟨e1, e2⟩ | ⟨e1, e2⟩
    · rw [htk n (by omega)]; exact hR.small n a e2 id o ho
    · subst e1 e2; rw [htk _ (Nat.le_refl _), List.take_length]; exact h4 id o ho
  · rcases snoc_get hb with ⟨e1, e2⟩ | ⟨e1, e2⟩
    · rcases snoc_get ha with ⟨f1, f2⟩ | ⟨f1, f2⟩
      · exact hR.pair m n a b hmn f2 e2
      · omega
    · rcases snoc_get ha with ⟨f1, f2⟩ | ⟨f1, f2⟩
      · subst e2; exact h5 m a f2
      · omega

theorem hat_snoc (id : Nat) (r : Rec) (x : Option Obj) : hat all id (R ++ [r]) 0 x = if r.aff id = true then r.res id else hat all id R 0 x := by
  rw [hat_append]
  simp [hat, all]
theorem tat_snoc (r : Rec) (t : List Value) : tat all (R ++ [r]) 0 t = putT (tat all R 0 t) r.o.dst r.v := by
  rw [tat_append]
  simp [tat, all]
end

/-- A record of an operation that touches no memory. -/
def Rec.plain (o : Oper) (b : Nat) (v : Value) (tm : List Value) (n : Nat) : Rec := { o, b, v, tm, small := fun _ => none, res := fun _ => none, writes := false, lo := n, hi := n }

theorem plain_aff (o : Oper) (b : Nat) (v : Value) (tm : List Value) (n id : Nat) : (Rec.plain o b v tm n).aff id = false := by
  change ((decide (n ≤ id) && decide (id < n)) || (false && (none : Option Obj).isSome)) = false
  by_cases h : n ≤ id
  · have h2 : ¬ id < n := by omega
    simp [h, h2]
  · simp [h]

structure Pre (P : Program) (ops : Array Oper) (bs : List Nat) (st0 : St) (tm0 : List Value) (R : List Rec) (r : RS) (done : List (Nat × Oper)) : Prop where
  recs : Recs P ops st0.nxt (hget st0.heap) tm0 R
  heap : ∀ id, hget r.st.heap id = hat all id R 0 (hget st0.heap id)
  tmps : r.tmps = tat all R 0 tm0
  abs : Abs st0 r.st
  hi : ∀ (n : Nat) (a : Rec), R[n]? = some a → a.hi ≤ r.st.nxt
  bits : ∀ (n : Nat) (a : Rec), R[n]? = some a → bs[n]? = some a.b ∧ a.b < 2 ^ n
  notes : ∀ (n : Nat) (a : Rec), R[n]? = some a → ((∀ id, a.aff id = false) ∧ ∀ id, a.small id = none) ∨
    ∃ nt ∈ r.notes, nt.i = n ∧ nt.lo = a.lo ∧ nt.hi = a.hi ∧ nt.writes = a.writes ∧ ∀ id, id ∈ nt.foot ↔ (a.small id).isSome = true
  dn : ∀ (n : Nat) (a : Rec), R[n]? = some a → (n, a.o) ∈ done

section
variable {P : Program} {T : Tab} {ops : Array Oper} {bs : List Nat} {st0 : St} {tm0 : List Value} {R : List Rec}

/-- One more record. -/
theorem Pre.snoc {r r' : RS} {done : List (Nat × Oper)} (h : Pre P ops bs st0 tm0 R r done) {a : Rec} (hok : RecOk P ops R.length a) (hlo : a.lo = r.st.nxt) (htm : a.tm = r.tmps)
    (hsm : ∀ id o, a.small id = some o → hget r.st.heap id = some o) (hb : bs[R.length]? = some a.b) (hb2 : a.b < 2 ^ R.length) (ht : tmpsOk ops.toList done R.length a.b a.o = true)
    (hap : ∀ n x, R[n]? = some x → a.b.testBit n = true ∨ ((∀ id, x.aff id = true → (a.small id).isSome = true → False) ∧ (∀ id, a.aff id = true → (x.small id).isSome = true → False)))
    (hheap : ∀ id, hget r'.st.heap id = if a.aff id = true then a.res id else hget r.st.heap id) (htmps : r'.tmps = putT r.tmps a.o.dst a.v) (habs : Abs r.st r'.st) (hhi : a.hi = r'.st.nxt)
    (hnotes : ((∀ id, a.aff id = false) ∧ (∀ id, a.small id = none) ∧ r'.notes = r.notes) ∨ ∃ nt, r'.notes = nt :: r.notes ∧ nt.i = R.length ∧ nt.lo = a.lo ∧ nt.hi = a.hi ∧ nt.writes = a.writes ∧ ∀ id, id ∈ nt.foot ↔ (a.small id).isSome = true) :
    Pre P ops bs st0 tm0 (R ++ [a]) r' ((R.length, a.o) :: done) where
  recs := h.recs.snoc hok (by rw [hlo]; exact h.abs.nxt) (by rw [htm, h.tmps]) (fun id o ho => by rw [← h.heap]; exact hsm id o ho) (fun m x hx => by
    refine ⟨by rw [hlo]; exact h.hi m x hx, ?_⟩
    rcases hap m x hx with e | ⟨e1, e2⟩
    · exact .inl e
    · rcases tmpsOk_spec done ht (m, x.o) (h.dn m x hx) with e | e
      · exact .inl e
      · exact .inr ⟨e1, e2, e.1, e.2⟩)
  heap := fun id => by rw [hheap, hat_snoc, h.heap]
  tmps := by rw [htmps, tat_snoc, h.tmps]
  abs := h.abs.trans habs
  hi := fun n x hx => by
    rcases snoc_get hx with ⟨e1, e2⟩ | ⟨e1, e2⟩
    · exact Nat.le_trans (h.hi n x e2) habs.nxt
    · subst e2; rw [hhi]; exact Nat.le_refl _
  bits := fun n x hx => by
    rcases snoc_get hx with ⟨e1, e2⟩ | ⟨e1, e2⟩
    · exact h.bits n x e2
    · subst e1 e2; exact ⟨hb, hb2⟩
  notes := fun n x hx => by
    rcases snoc_get hx with ⟨e1, e2⟩ | ⟨e1, e2⟩
    · rcases h.notes n x e2 with e | ⟨nt, hnt, e⟩
      · exact .inl e
      · refine .inr ⟨nt, ?_, e⟩
        rcases hnotes with ⟨_, _, f⟩ | ⟨nt', f, _⟩
        · rw [f]; exact hnt
        · rw [f]; exact List.mem_cons_of_mem _ hnt
    · subst e1 e2
      rcases hnotes with ⟨f1, f2, _⟩ | ⟨nt', f, g⟩
      · exact .inl ⟨f1, f2⟩
      · exact .inr ⟨nt', by rw [f]; simp, g⟩
  dn := fun n x hx => by
    rcases snoc_get hx with ⟨e1, e2⟩ | ⟨e1, e2⟩
    · exact List.mem_cons_of_mem _ (h.dn n x e2)
    · subst e1 e2; simp

/-- An operation that touches no memory. -/
theorem Pre.plain {r : RS} {done : List (Nat × Oper)} (h : Pre P ops bs st0 tm0 R r done) {o : Oper} {b : Nat} {v : Value} (hat_ : ops[R.length]? = some o)
    (hb : bs[R.length]? = some b) (hb2 : b < 2 ^ R.length) (ht : tmpsOk ops.toList done R.length b o = true)
    (hlaw : ∀ E w F rest k tmps, Sim E (fun _ => none) w → VL E tmps (Array.toList F.tmps) → (∀ t, t ∈ looks ops o → getN tmps t = getN r.tmps t) → AtOp F ops R.length rest k o → ∃ v2, VR E v v2 ∧ Goes P F w (F.finish v2) w) :
    Pre P ops bs st0 tm0 (R ++ [Rec.plain o b v r.tmps r.st.nxt]) { tmps := putT r.tmps o.dst v, st := r.st, notes := r.notes } ((R.length, o) :: done) := by
  have hno : ∀ id, (Rec.plain o b v r.tmps r.st.nxt).aff id = false := plain_aff o b v r.tmps r.st.nxt
  refine h.snoc (a := Rec.plain o b v r.tmps r.st.nxt) ⟨hat_, Nat.le_refl _, fun id e => (by cases e), fun id _ e => (by cases e), fun _ _ _ => rfl, fun id e => (by cases e), fun E w F rest k tmps h1 h2 h3 h4 h5 => ?_⟩ rfl rfl (fun id o e => (by cases e)) hb hb2 ht
    (fun n x hx => .inr ⟨fun id _ e => by simp [Rec.plain] at e, fun id e => by rw [hno] at e; cases e⟩) (fun id => by rw [hno]; rfl) rfl (Abs.refl _) rfl (.inl ⟨hno, fun _ => rfl, rfl⟩)
  obtain ⟨v2, q1, q2⟩ := hlaw E w F rest k tmps h2 h3 h4 h5
  exact ⟨E, w, v2, q1, Out.refl h2, q2⟩

theorem Pre.step (hT : TabOk P T) (hS : SumOk P T) {run : Run} (hrun : RunOk P run) {r r' : RS} {done : List (Nat × Oper)} (hl0 : Live st0) (h : Pre P ops bs st0 tm0 R r done) {o : Oper} {b : Nat} (hat_ : ops[R.length]? = some o)
    (hb : bs[R.length]? = some b) (hb2 : b < 2 ^ R.length) (ht : tmpsOk ops.toList done R.length b o = true) (hs : regionStep T run ops.toList r R.length b o = some r') :
    ∃ a, Pre P ops bs st0 tm0 (R ++ [a]) r' ((R.length, o) :: done) := by
  have hlive := h.abs.live hl0
  unfold regionStep at hs
  rw [cond_bool] at hs
  split at hs
  case isFalse =>
    rename_i hw
    injection hs with hs
    subst hs
    refine ⟨_, h.plain (v := undef) hat_ hb hb2 ht fun E w F rest k tmps h2 h3 h4 h5 => ⟨undef, VR.undef E, Goes.one fun cs => step_skipOp h5 ?_⟩⟩
    rw [← wanted_ok h3 o, wantedA_congr h4]
    cases hh : wantedA ops.toList r.tmps o with
    | false => rfl
    | true => exact absurd hh hw
  case isTrue =>
  rename_i hw
  have hwant : ∀ {E F tmps}, VL E tmps (Array.toList F.tmps) → (∀ t, t ∈ looks ops o → getN tmps t = getN r.tmps t) → Region.wanted o (yielded ops (Frame.tmps F)) = true := fun h3 h4 => by
    rw [← wanted_ok h3 o, wantedA_congr h4]; exact hw
  rw [cond_bool] at hs
  split at hs
  case isFalse => cases hs
  rename_i hop
  split at hs
  · rename_i v hp
    injection hs with hs
    subst hs
    refine ⟨_, h.plain (v := v) hat_ hb hb2 ht fun E w F rest k tmps h2 h3 h4 h5 => ?_⟩
    have hp' : pureOp (evalT tmps) T o.op = some (some v) := by
      rw [pureOp_congr o.op (evalT_names (looks_names h4))]; exact hp
    obtain ⟨v', q1, q2⟩ := pureStep_ok (P := P) (w := w) hT hop hp' h3
    have hnd : F.roundOf = none ∨ noDefer o.op = true := by
      refine .inr ?_
      cases hoo : o.op <;> first | rfl | (rw [hoo] at hp; simp [pureOp] at hp; done)
    exact ⟨v', q1, Goes.one fun cs => step_valF h5 (hwant h3 h4) hnd q2⟩
  · cases hs
  · simp only at hs
    -- what the operation may touch
    generalize hsm : smallOf r b o = sm at hs
    have hsub : ∀ id x, hget sm id = some x → hget r.st.heap id = some x := by
      intro id x e
      rw [← hsm] at e
      unfold smallOf at e
      split at e
      · exact hget_part _ _ _ e
      · exact hget_within _ _ _ _ e
    split at hs
    · cases hs
    rename_i x hx
    split at hs
    · cases hs
    rename_i v st hdn
    rw [cond_bool] at hs
    split at hs
    case isFalse => cases hs
    rename_i hap
    injection hs with hs
    have hsl : Live { heap := sm, nxt := r.st.nxt, wr := r.st.nxt } := fun id e => by
      obtain ⟨y, hy⟩ := Option.isSome_iff_exists.1 e
      exact hlive id (by rw [hsub id y hy]; rfl)
    have ha := (done_ok hT hS hrun hop hx hdn hsl).1
    have hnd : noDefer o.op = true := by
      cases hoo : o.op <;> first | rfl | skip
      rename_i c
      rw [hoo] at hx
      simp only [evOp] at hx
      split at hx
      case h_2 => cases hx
      split at hx
      case h_2 => cases hx
      injection hx with hx
      subst hx
      simp [doneA] at hdn
    have hnx : r.st.nxt ≤ st.nxt := ha.nxt
    have hstl : Live st := ha.live hsl
    have hold : ∀ id, id < r.st.nxt → (hget st.heap id).isSome = true → (hget sm id).isSome = true := ha.old
    have hwr : (!Nat.ble r.st.nxt st.wr) = false → r.st.nxt ≤ st.wr := fun e => by
      cases hh : Nat.ble r.st.nxt st.wr with
      | true => exact Nat.le_of_ble_eq_true hh
      | false => rw [hh] at e; cases e
    have hkeep : (!Nat.ble r.st.nxt st.wr) = false → ∀ id, id < r.st.nxt → hget st.heap id = hget sm id := fun e id hid => ha.keep id (Nat.lt_of_lt_of_le hid (hwr e)) hid
    let a : Rec := { o, b, v, tm := r.tmps, small := hget sm, res := hget st.heap, writes := !Nat.ble r.st.nxt st.wr, lo := r.st.nxt, hi := st.nxt }
    have haff : ∀ id, a.aff id = true ↔ (r.st.nxt ≤ id ∧ id < st.nxt) ∨ ((!Nat.ble r.st.nxt st.wr) = true ∧ (hget sm id).isSome = true) := fun id => by
      simp only [a, Rec.aff, Bool.or_eq_true, Bool.and_eq_true, decide_eq_true_eq]
    have hheap : ∀ id, hget r'.st.heap id = if a.aff id = true then hget st.heap id else hget r.st.heap id := by
      intro id
      rw [← hs]
      simp only [hget_append, hget_keep, cond_bool]
      have hup := hget_upd st.heap (keysOf sm) r.st.heap id (fun k hk e => by
        obtain ⟨y, hy⟩ := Option.isSome_iff_exists.1 ((mem_keysOf _ _).1 hk)
        rw [hsub k y hy]; rfl)
      rcases Nat.lt_or_ge id r.st.nxt with hid | hid
      · have hble : Nat.ble r.st.nxt id = false := by
          cases hh : Nat.ble r.st.nxt id with
          | false => rfl
          | true => have := Nat.le_of_ble_eq_true hh; omega
        rw [hble]
        simp only [Bool.false_eq_true, if_false, Option.none_or]
        by_cases hww : (!Nat.ble r.st.nxt st.wr) = true
        · rw [if_pos hww, hup]
          by_cases hm : id ∈ keysOf sm
          · rw [if_pos hm, if_pos ((haff id).2 (.inr ⟨hww, (mem_keysOf _ _).1 hm⟩))]
          · rw [if_neg hm, if_neg]
            intro e
            rcases (haff id).1 e with e | e
            · omega
            · exact hm ((mem_keysOf _ _).2 e.2)
        · rw [if_neg hww, if_neg]
          intro e
          rcases (haff id).1 e with e | e
          · omega
          · exact hww e.1
      · have hble : Nat.ble r.st.nxt id = true := Nat.ble_eq_true_of_le hid
        rw [hble]
        simp only [if_true]
        have hnone : hget r.st.heap id = none := by
          cases hh : hget r.st.heap id with
          | none => rfl
          | some y => have := hlive id (by rw [hh]; rfl); omega
        have hsnone : hget sm id = none := by
          cases hh : hget sm id with
          | none => rfl
          | some y => rw [hsub id y hh] at hnone; cases hnone
        have hrest : hget (if (!Nat.ble r.st.nxt st.wr) = true then upd r.st.heap st.heap (keysOf sm) else r.st.heap) id = none := by
          split
          · rw [hup, if_neg (fun hm => by have := (mem_keysOf _ _).1 hm; rw [hsnone] at this; cases this)]
            exact hnone
          · exact hnone
        rw [hrest, Option.or_none]
        by_cases hid2 : id < st.nxt
        · rw [if_pos ((haff id).2 (.inl ⟨hid, hid2⟩))]
        · have h3 : hget st.heap id = none := by
            cases hh : hget st.heap id with
            | none => rfl
            | some y => have := hstl id (by rw [hh]; rfl); omega
          rw [h3, hnone]
          split <;> rfl
    refine ⟨a, h.snoc (a := a) ⟨hat_, hnx, hsl, hold, hkeep, hstl, fun E w F rest k tmps h1 h2 h3 h4 h5 => ?_⟩ rfl rfl hsub hb hb2 ht (fun n y hy => ?_) hheap (by rw [← hs]) ?_ (by rw [← hs]) (.inr ⟨_, by rw [← hs], rfl, rfl, rfl, rfl, fun id => mem_keysOf sm id⟩)⟩
    · have hx' : evOp (evalT tmps) T { heap := sm, nxt := r.st.nxt, wr := r.st.nxt } o.op = some x := by
        rw [evOp_congr o.op (evalT_names (looks_names h4))]; exact hx
      exact (done_ok hT hS hrun hop hx' hdn hsl).2 E w F ops R.length rest k h1 h2 h3 h5 (hwant h3 h4) (.inr hnd)
    · rcases h.notes n y hy with ⟨e1, e2⟩ | ⟨nt, hnt, f1, f2, f3, f4, f5⟩
      · exact .inr ⟨fun id e => (by rw [e1] at e; cases e), fun id _ e => (by rw [e2] at e; cases e)⟩
      · have hp := List.all_eq_true.1 hap nt hnt
        simp only [Bool.or_eq_true] at hp
        rw [f1] at hp
        rcases hp with hp | hp
        · exact .inl hp
        · simp only [Note.apart, Bool.and_eq_true, cond_bool] at hp
          obtain ⟨⟨p1, p2⟩, p3⟩ := hp
          refine .inr ⟨fun id e1 e2 => ?_, fun id e1 e2 => ?_⟩
          · have hid : id ∈ keysOf sm := (mem_keysOf _ _).2 e2
            simp only [Rec.aff, Bool.or_eq_true, Bool.and_eq_true, decide_eq_true_eq] at e1
            rcases e1 with e1 | e1
            · have := List.all_eq_true.1 p3 id hid
              simp only [Bool.or_eq_true, Nat.blt_eq, Nat.ble_eq] at this
              omega
            · rw [f4, if_pos e1.1] at p1
              exact disjoint_spec p1 ((f5 id).2 e1.2) hid
          · have hid : id ∈ nt.foot := (f5 id).2 e2
            rcases (haff id).1 e1 with e1 | e1
            · have h1 := (h.recs.each n y hy).lt id e2
              have h2 := (h.recs.each n y hy).lohi
              have h3 := h.hi n y hy
              omega
            · rw [if_pos e1.1] at p2
              exact disjoint_spec p2 ((mem_keysOf _ _).2 e1.2) hid
    · have e1 : r'.st.nxt = st.nxt := by rw [← hs]
      have e2 : r'.st.wr = Nat.min r.st.wr st.wr := by rw [← hs]
      refine ⟨by rw [e1]; exact hnx, fun _ id e => ?_, by rw [e2]; exact Nat.min_le_left _ _, fun id g1 g2 => ?_, fun id g1 g2 => ?_⟩
      · rw [hheap] at e
        rw [e1]
        split at e
        · exact hstl id e
        · exact Nat.lt_of_lt_of_le (hlive id e) hnx
      · rw [hheap]
        split
        · rename_i hf
          rcases (haff id).1 hf with f | f
          · omega
          · rw [e2] at g1
            have := ha.keep id (Nat.lt_of_lt_of_le g1 (Nat.min_le_right _ _)) g2
            simp only at this
            rw [this]
            obtain ⟨y, hy⟩ := Option.isSome_iff_exists.1 f.2
            rw [hy, hsub id y hy]
        · rfl
      · rw [hheap] at g2
        split at g2
        · obtain ⟨y, hy⟩ := Option.isSome_iff_exists.1 (hold id g1 g2)
          rw [hsub id y hy]; rfl
        · exact g2
end
end Go.Ev

/- The evaluator: regions whose order is open, all in all. -/
namespace Go.Ev

/-! ### the bits -/
def maskStep (full : List Nat) (s : Nat) (e : Edge) : Nat := cond (Region.binds .any e) (s ||| 2 ^ e.on ||| (match full[e.on]? with | some m => m | none => 0)) s

theorem befores_spec : ∀ (l : List Oper) (acc : List Nat) (n m : Nat), (befores acc l)[n]? = some m →
    ∃ o, l[n]? = some o ∧ m = o.after.toList.foldl (maskStep ((acc.reverse ++ befores acc l).take (acc.length + n))) 0 := by
  intro l
  induction l with
  | nil => intro acc n m h; simp [befores] at h
  | cons o l ih =>
    intro acc n m h
    simp only [befores] at h
    cases n with
    | zero =>
      simp only [List.getElem?_cons_zero, Option.some.injEq] at h
      refine ⟨o, by simp, ?_⟩
      rw [← h]
      have : (acc.reverse ++ befores acc (o :: l)).take (acc.length + 0) = acc.reverse := by
        rw [List.take_append_of_le_length (by simp), List.take_of_length_le (by simp)]
      rw [this]
      rfl
    | succ n =>
      simp only [List.getElem?_cons_succ] at h
      obtain ⟨o', h1, h2⟩ := ih _ n m h
      refine ⟨o', by simpa using h1, ?_⟩
      rw [h2]
      congr 2
      simp only [befores, List.reverse_cons, List.append_assoc, List.singleton_append, List.length_cons]
      congr 1
      omega

theorem mask_bits (full : List Nat) (j : Nat) : ∀ (l : List Edge) (s : Nat), (l.foldl (maskStep full) s).testBit j = true ↔
    s.testBit j = true ∨ ∃ e ∈ l, Region.binds .any e = true ∧ (j = e.on ∨ ∃ m, full[e.on]? = some m ∧ m.testBit j = true) := by
  intro l
  induction l with
  | nil => intro s; simp
  | cons e l ih =>
    intro s
    rw [List.foldl_cons, ih]
    have hone : (maskStep full s e).testBit j = true ↔ s.testBit j = true ∨ (Region.binds .any e = true ∧ (j = e.on ∨ ∃ m, full[e.on]? = some m ∧ m.testBit j = true)) := by
      unfold maskStep
      cases hb : Region.binds .any e with
      | false => simp
      | true =>
        simp only [cond_true, Nat.testBit_or, Bool.or_eq_true, Nat.testBit_two_pow, decide_eq_true_eq, true_and]
        have hc : (e.on = j) ↔ (j = e.on) := ⟨fun h => h.symm, fun h => h.symm⟩
        cases hf : full[e.on]? with
        | none => simp [hc]
        | some m => simp [hc, or_assoc]
    rw [hone]
    constructor
    · rintro ((h | h) | ⟨e', h1, h2⟩)
      · exact .inl h
      · exact .inr ⟨e, by simp, h⟩
      · exact .inr ⟨e', by simp [h1], h2⟩
    · rintro (h | ⟨e', h1, h2⟩)
      · exact .inl (.inl h)
      · rcases List.mem_cons.1 h1 with rfl | h1
        · exact .inl (.inr h2)
        · exact .inr ⟨e', h1, h2⟩

section
variable {P : Program} {T : Tab} {ops : Array Oper} {st0 : St} {tm0 : List Value}

theorem bits_of {R : List Rec} (hsz : R.length = ops.size) (hat_ : ∀ (n : Nat) (a : Rec), R[n]? = some a → ops[n]? = some a.o) (hb : ∀ (n : Nat) (a : Rec), R[n]? = some a → (befores [] ops.toList)[n]? = some a.b ∧ a.b < 2 ^ n) : Bits ops R := by
  have hlt : ∀ (n : Nat) (r : Rec), R[n]? = some r → ∀ m, r.b.testBit m = true → m < n := by
    intro n r hr m hm
    rcases Nat.lt_or_ge m n with h | h
    · exact h
    · have h1 := (hb n r hr).2
      have h2 : 2 ^ n ≤ 2 ^ m := Nat.pow_le_pow_right (by omega) h
      rw [Nat.testBit_lt_two_pow (Nat.lt_of_lt_of_le h1 h2)] at hm
      cases hm
  have hsp : ∀ (n : Nat) (r : Rec), R[n]? = some r → r.b = r.o.after.toList.foldl (maskStep ((befores [] ops.toList).take n)) 0 := by
    intro n r hr
    obtain ⟨o, h1, h2⟩ := befores_spec _ _ _ _ (hb n r hr).1
    have h3 := hat_ n r hr
    rw [Array.getElem?_toList, h3] at h1
    injection h1 with h1
    rw [h2, h1]
    simp
  refine ⟨hsz, hlt, fun n r hr m hm => ?_, fun n r hr e he hbd => ?_⟩
  · have hm' := hm
    rw [hsp n r hr, mask_bits] at hm'
    rcases hm' with h | ⟨e, h1, h2, h3⟩
    · simp at h
    · refine ⟨e, by simpa using h1, h2, ?_⟩
      rcases h3 with h3 | ⟨m', h3, h4⟩
      · exact .inl h3
      · refine .inr ?_
        have hn : e.on < n := by
          have := (List.getElem?_eq_some_iff.1 h3).1
          simp only [List.length_take] at this
          omega
        rw [List.getElem?_take_of_lt hn] at h3
        have hlen : n < R.length := (List.getElem?_eq_some_iff.1 hr).1
        obtain ⟨r', hr'⟩ : ∃ r', R[e.on]? = some r' := ⟨_, List.getElem?_eq_getElem (show e.on < R.length by omega)⟩
        have := (hb e.on r' hr').1
        rw [h3] at this
        injection this with this
        exact ⟨r', hr', by rw [← this]; exact h4⟩
  · rw [hsp n r hr, mask_bits]
    exact .inr ⟨e, by simpa using he, hbd, .inl rfl⟩

theorem regionGo_ok (hT : TabOk P T) (hS : SumOk P T) {run : Run} (hrun : RunOk P run) (hl0 : Live st0) : ∀ (l : List Oper) (R : List Rec) (bs : List Nat) (done : List (Nat × Oper)) (r r' : RS),
    Pre P ops (befores [] ops.toList) st0 tm0 R r done → l = ops.toList.drop R.length → bs = (befores [] ops.toList).drop R.length → regionGo T run ops.toList l bs done R.length r = some r' →
    ∃ R' done', Pre P ops (befores [] ops.toList) st0 tm0 R' r' done' ∧ R'.length = R.length + l.length := by
  intro l
  induction l with
  | nil =>
    intro R bs done r r' h hl hb hg
    cases bs with
    | nil =>
      simp only [regionGo, Option.some.injEq] at hg
      subst hg
      exact ⟨R, done, h, by simp⟩
    | cons b bs => simp [regionGo] at hg
  | cons o l ih =>
    intro R bs done r r' h hl hb hg
    cases bs with
    | nil => simp [regionGo] at hg
    | cons b bs =>
      simp only [regionGo, cond_bool] at hg
      split at hg
      case isFalse => cases hg
      rename_i hok
      simp only [Bool.and_eq_true, Nat.blt_eq] at hok
      split at hg
      case h_2 => cases hg
      rename_i r1 hr1
      have hat_ : ops[R.length]? = some o := by
        have : (ops.toList.drop R.length)[0]? = some o := by rw [← hl]; rfl
        simpa using this
      have hb0 : (befores [] ops.toList)[R.length]? = some b := by
        have : ((befores [] ops.toList).drop R.length)[0]? = some b := by rw [← hb]; rfl
        simpa using this
      obtain ⟨a, ha⟩ := h.step hT hS hrun hl0 hat_ hb0 hok.1 hok.2 hr1
      have hlen : (R ++ [a]).length = R.length + 1 := by simp
      obtain ⟨R', done', h1, h2⟩ := ih (R ++ [a]) bs ((R.length, o) :: done) r1 r' (by
          have hao : a.o = o := by
            have := (ha.recs.each R.length a (by simp)).at_
            rw [hat_] at this
            injection this with this
            exact this.symm
          have := ha
          exact this) (by
          rw [hlen]
          have : (o :: l).drop 1 = (ops.toList.drop R.length).drop 1 := by rw [hl]
          simpa [List.drop_drop, Nat.add_comm] using this) (by
          rw [hlen]
          have : (b :: bs).drop 1 = ((befores [] ops.toList).drop R.length).drop 1 := by rw [hb]
          simpa [List.drop_drop, Nat.add_comm] using this) (by rw [hlen]; exact hg)
      exact ⟨R', done', h1, by rw [h2, hlen]; simp; omega⟩

theorem regionA_ok (hT : TabOk P T) (hS : SumOk P T) {run : Run} (hrun : RunOk P run) {st st' : St} {tmps tmps' : List Value} (h : regionA T run ops.toList tmps st = some (tmps', st')) (hl : Live st) :
    Abs st st' ∧ ∀ E w F k i, Fresh E st.nxt st'.nxt → Sim E (hget st.heap) w → VL E tmps (Array.toList F.tmps) → F.mode = .run → F.todo = .code (.region i ops true) :: k →
      ∃ E2 w2 F2, Out E (hget st.heap) st.nxt w E2 (hget st'.heap) st'.nxt w2 ∧ VL E2 tmps' F2.tmps.toList ∧ Goes P F w F2 w2 ∧ F2 = { F with tmps := F2.tmps, todo := k } := by
  unfold regionA at h
  split at h
  case h_2 => cases h
  rename_i r hg
  simp only [Option.some.injEq, Prod.mk.injEq] at h
  obtain ⟨e1, e2⟩ := h
  have h0 : Pre P ops (befores [] ops.toList) st tmps [] { tmps, st, notes := [] } [] := by
    refine ⟨⟨fun n a h => by simp at h, fun n a h => by simp at h, fun n a h => by simp at h, fun n a h => by simp at h, fun m n a b _ h => by simp at h⟩, fun id => rfl, rfl, Abs.refl _, fun n a h => by simp at h, fun n a h => by simp at h, fun n a h => by simp at h, fun n a h => by simp at h⟩
  obtain ⟨R, done, hp, hlen⟩ := regionGo_ok hT hS hrun hl ops.toList [] (befores [] ops.toList) [] _ r h0 (by simp) (by simp) hg
  have hsz : R.length = ops.size := by rw [hlen]; simp
  have hB : Bits ops R := bits_of hsz (fun n a ha => (hp.recs.each n a ha).at_) hp.bits
  refine ⟨by rw [← e2]; exact hp.abs, fun E w F k i hf hs ht hm htodo => ?_⟩
  rw [← e2] at hf
  obtain ⟨E2, w2, F2, q1, q2, q3, q4⟩ := region_all hT.mixed hp.recs hp.hi hB hf hs ht hm htodo
  have hH : (fun id => hat all id R 0 (hget st.heap id)) = hget st'.heap := by
    funext id
    rw [← hp.heap, e2]
  rw [hH] at q1
  rw [e2] at q1
  exact ⟨E2, w2, F2, q1, by rw [← e1, hp.tmps]; exact q2, q3, q4⟩
end
end Go.Ev

/- The evaluator: the machine's steps of loops over functions and of deferred calls. -/
namespace Go.Ev

section
variable {P : Program} {F : Frame} {w : World} {cs : List Frame} {k : List Item}

theorem step_beginRoundF {b : Nat} {l : Loop} (hm : F.mode = .run) (hr : F.roundOf = some b) (ht : F.todo = .beginRound :: k) (hl : w.heap[b]? = some (.loop l)) (hs : l.state = .ready) :
    step P (lone F cs w) = .next (lone { F with todo := k } cs { w with heap := w.heap.setIfInBounds b (.loop { l with state := .busy }) }) := by
  have hg := run_getObj (P := P) hl (by intro c e f h; cases h)
  have hso : (setObj b (.loop { l with state := .busy })).run P w = .ok () { w with heap := w.heap.setIfInBounds b (.loop { l with state := .busy }) } := run_setObj hl (by intro c e f h; cases h)
  have he : (Instr.beginRound b).run P w = .ok () { w with heap := w.heap.setIfInBounds b (.loop { l with state := .busy }) } := by
    simp only [Instr.beginRound, Instr.getLoop, Sem.run_bind, hg, Result.andThen_ok, hso, Sem.run_pure, hs]
  cases F
  simp only at hm hr ht
  subst hm hr ht
  exact stepF (by simp [stepG, stepG.exec, stepG.apply, he, Frame.finish])

theorem step_endRangeFuncF {b : Nat} {l : Loop} (hm : F.mode = .run) (ht : F.todo = .endRangeFunc b :: k) (hl : w.heap[b]? = some (.loop l)) (hs : l.state ≠ .busy) :
    step P (lone F cs w) = .next (lone { F with todo := (match l.pending with | some c => .code c :: k | none => k) } cs { w with heap := w.heap.setIfInBounds b (.loop { l with state := .exhausted }) }) := by
  have hg := run_getObj (P := P) hl (by intro c e f h; cases h)
  have hso : (setObj b (.loop { l with state := .exhausted })).run P w = .ok () { w with heap := w.heap.setIfInBounds b (.loop { l with state := .exhausted }) } := run_setObj hl (by intro c e f h; cases h)
  have he : (Instr.endLoop b).run P w = .ok l.pending { w with heap := w.heap.setIfInBounds b (.loop { l with state := .exhausted }) } := by
    have hs' : (l.state == .busy) = false := by simpa using hs
    simp only [Instr.endLoop, Instr.getLoop, Sem.run_bind, hg, Result.andThen_ok, Sem.run_pure, hs']
    simp [hso]
  cases F
  simp only at hm ht
  subst hm ht
  cases hp : l.pending with
  | none => exact stepF (by simp [stepG, stepG.exec, he, hp])
  | some c => exact stepF (by simp [stepG, stepG.exec, he, hp])

theorem step_collectedF {b : Nat} {a : Array Value} {ds : List Deferred} (hm : F.mode = .returning) (hd : F.defers = ⟨.collected b, a⟩ :: ds) (hl : w.heap[b]? = some (.deferred (some []))) :
    step P (lone F cs w) = .next (lone { F with defers := ds } cs { w with heap := w.heap.setIfInBounds b (.deferred none) }) := by
  have hg := run_getObj (P := P) hl (by intro c e f h; cases h)
  have hso : (setObj b (.deferred none)).run P w = .ok () { w with heap := w.heap.setIfInBounds b (.deferred none) } := run_setObj hl (by intro c e f h; cases h)
  have he : (Instr.takeDeferred b).run P w = .ok [] { w with heap := w.heap.setIfInBounds b (.deferred none) } := by
    simp only [Instr.takeDeferred, Sem.run_bind, hg, Result.andThen_ok, hso, Sem.run_pure]
  cases F
  simp only at hm hd
  subst hm hd
  exact stepF (by simp [stepG, unwind, he])

theorem step_deferredF {f : FuncId} {c a : Array Value} {ds : List Deferred} (hm : F.mode = .returning) (hd : F.defers = ⟨.fn (.func f) c, a⟩ :: ds) (hc : Callable P f) :
    step P (lone F cs w) = .next (lone (Frame.enter P f (a ++ c) .deferred) ({ F with defers := ds } :: cs) w) := by
  have he : (invoke (.fn (.func f) c) a).run P w = .ok (.enter f (a ++ c)) w := by
    have := run_callFunc hc (a ++ c) w
    simpa [invoke] using this
  cases F
  simp only at hm hd
  subst hm hd
  exact stepF (by simp [stepG, unwind, callDeferred, he])

theorem run_enterLoop (fn : FuncId) (tmps : Array Value) (params : Array Tmp) (assign body : Code) :
    (Instr.enterLoop fn tmps params assign body none).run P w = .ok (w.heap.size + 1, [⟨.collected w.heap.size, #[]⟩])
      ((w.alloc (.deferred (some []))).alloc (.loop { state := .ready, pending := none, fn, tmps, params, assign, body, defers := w.heap.size })) := by
  have hn : ∀ (o : Obj) (w : World), (newObj o).run P w = .ok w.heap.size (w.alloc o) := fun o w => rfl
  have : (w.alloc (.deferred (some []))).heap.size = w.heap.size + 1 := by simp
  simp only [Instr.enterLoop, Sem.run_bind, hn, Result.andThen_ok, Sem.run_pure, this]

theorem step_rangeFuncF {f : Operand} {params : Array Tmp} {assign body : Code} {g : FuncId} {first captured : Array Value} (hm : F.mode = .run) (hr : F.roundOf = none) (ht : F.todo = .code (.rangeFunc f params assign body) :: k)
    (hf : F.eval f = .func (.func g) first captured) (hc : Callable P g) :
    step P (lone F cs w) = .next (lone (Frame.enter P g (first ++ #[.func (.yield (w.heap.size + 1)) #[] #[]] ++ captured) .normal)
      ({ F with todo := .inRangeFunc (w.heap.size + 1) :: k, defers := ⟨.collected w.heap.size, #[]⟩ :: F.defers } :: cs)
      ((w.alloc (.deferred (some []))).alloc (.loop { state := .ready, pending := none, fn := F.fn, tmps := F.tmps, params, assign, body, defers := w.heap.size }))) := by
  have he := run_enterLoop (P := P) (w := w) F.fn F.tmps params assign body
  have hap : ∀ (F' : Frame) w2, F'.tmps = F.tmps → (do let d ← resolve F'.eval { callee := .value f, args := #[.const (.func (.yield (w.heap.size + 1)) #[] #[])], argTypes := #[] } 0; invoke d.target d.args : Sem Next).run P w2 =
      .ok (.enter g (first ++ #[.func (.yield (w.heap.size + 1)) #[] #[]] ++ captured)) w2 := by
    intro F' w2 hF'
    have h1 : F'.eval f = .func (.func g) first captured := by rw [← hf]; cases f <;> simp [Frame.eval, hF']
    have h2 : F'.eval (.const (.func (.yield (w.heap.size + 1)) #[] #[])) = .func (.yield (w.heap.size + 1)) #[] #[] := rfl
    have hv := run_callFunc hc (first ++ #[.func (.yield (w.heap.size + 1)) #[] #[]] ++ captured) w2
    have h3 : (#[.const (.func (.yield (w.heap.size + 1)) #[] #[])] : Array Operand).map F'.eval = #[.func (.yield (w.heap.size + 1)) #[] #[]] := by simp [h2]
    simp only [resolve, h1, h3, Deferred.ofValue, Sem.run_bind, Sem.run_pure, Result.andThen_ok, invoke, hv]
  cases F
  rename_i fn tmps todo defers mode kind roundOf
  simp only at hm hr ht he hap hf
  subst hm hr ht
  have hap2 := fun t d w2 => hap { fn, tmps, todo := t, defers := d, mode := .run, kind, roundOf := none } w2 rfl
  simp only [Sem.run_bind] at hap2
  refine stepF ?_
  simp only [stepG, stepG.exec, stepG.apply, Sem.runT_fst, he, GStep.bare_after, if_true, Sem.run_bind, hap2, List.cons_append, List.nil_append, GStep.bare_go]
end
end Go.Ev

/- The evaluator: runs of frames. -/
namespace Go.Ev

section
variable {P : Program} {T : Tab}

theorem TR.code_inv {E : Env} {c : Code} {k : List AItem} {l : List Item} (h : TR E (.code c :: k) l) : ∃ k', l = .code c :: k' ∧ TR E k k' := by
  cases h with
  | cons hi ht => cases hi; exact ⟨_, rfl, ht⟩

theorem FR.run {E : Env} {fr : AF} {F : Frame} (h : FR E fr F) (hr : fr.ret = false) : F.mode = .run := by rw [h.mode, hr]; rfl
theorem FR.returning {E : Env} {fr : AF} {F : Frame} (h : FR E fr F) (hr : fr.ret = true) : F.mode = .returning := by rw [h.mode, hr]; rfl

/-- What a step of the evaluator's frame is. -/
structure Did (P : Program) (fr : AF) (st : St) (fr' : AF) (st' : St) : Prop where
  abs : Abs st st'
  kind : fr'.kind = fr.kind
  round : fr'.round = fr.round
  run : ∀ E w F, Fresh E st.nxt st'.nxt → Sim E (hget st.heap) w → FR E fr F → ∃ E2 w2 F2, Out E (hget st.heap) st.nxt w E2 (hget st'.heap) st'.nxt w2 ∧ FR E2 fr' F2 ∧ Goes P F w F2 w2

theorem Did.of_todo {fr : AF} {st : St} {t : List AItem} (hret : fr.ret = false) (h : ∀ E F, FR E fr F → ∃ k', TR E t k' ∧ ∀ w cs, step P (lone F cs w) = .next (lone { F with todo := k' } cs w)) : Did P fr st { fn := fr.fn, tmps := fr.tmps, todo := t, defers := fr.defers, ret := false, kind := fr.kind, round := fr.round } st :=
  ⟨Abs.refl _, rfl, rfl, fun E w F _ hs hF => by
    obtain ⟨k', h1, h2⟩ := h E F hF
    exact ⟨E, w, { F with todo := k' }, Out.refl hs, ⟨hF.fn, hF.tmps, h1, hF.defers, hF.run hret, hF.kind, hF.round⟩, Goes.one fun cs => h2 w cs⟩⟩

theorem Did.of_mode {fr : AF} {st : St} (h : ∀ E F, FR E fr F → ∀ w cs, step P (lone F cs w) = .next (lone { F with mode := .returning } cs w)) : Did P fr st { fr with ret := true } st :=
  ⟨Abs.refl _, rfl, rfl, fun E w F _ hs hF =>
    ⟨E, w, { F with mode := .returning }, Out.refl hs, ⟨hF.fn, hF.tmps, hF.todo, hF.defers, rfl, hF.kind, hF.round⟩, Goes.one fun cs => h E F hF w cs⟩⟩

theorem FR.none {E : Env} {fr : AF} {F : Frame} (h : FR E fr F) (hr : fr.round = none) : F.roundOf = none := by
  have := h.round
  rw [hr] at this
  cases hx : F.roundOf with
  | none => rfl
  | some b => rw [hx] at this; exact this.elim

theorem FR.some {E : Env} {fr : AF} {F : Frame} {l : Nat} (h : FR E fr F) (hr : fr.round = some l) : ∃ p, E l = some p ∧ p.s = 0 ∧ F.roundOf = some p.b := by
  have := h.round
  rw [hr] at this
  cases hx : F.roundOf with
  | none => rw [hx] at this; exact this.elim
  | some b =>
    rw [hx] at this
    obtain ⟨p, h1, h2, h3⟩ := this
    exact ⟨p, h1, h2, by rw [h3]⟩

theorem FR.isSome {E : Env} {fr : AF} {F : Frame} (h : FR E fr F) : fr.round.isSome = F.roundOf.isSome := by
  have := h.round
  cases hx : fr.round <;> cases hy : F.roundOf <;> rw [hx, hy] at this <;> first | rfl | exact this.elim

/-! ### leaving -/
theorem leaveA_final {fr : AF} {st : St} {j : Option Code} (h : leaveA fr st j = .final) (hr : fr.ret = false) (hj : leaves fr.todo = some j) : Final fr := by
  unfold leaveA at h
  split at h
  · rename_i l hl
    unfold Final
    rw [hl]
    exact ⟨hr, j, hj⟩
  · split at h <;> cases h

theorem leaveA_go {fr fr' : AF} {st st' : St} {j : Option Code} (h : leaveA fr st j = .go fr' st') : fr.round = none ∧ (j = none ∨ j = some .ret) ∧ fr' = { fr with ret := true } ∧ st' = st := by
  unfold leaveA at h
  split at h
  · cases h
  · rename_i hr
    split at h
    · injection h with h1 h2
      exact ⟨hr, .inl rfl, h1.symm, h2.symm⟩
    · injection h with h1 h2
      exact ⟨hr, .inr rfl, h1.symm, h2.symm⟩
    · cases h

theorem leaveA_not {fr fr' : AF} {st : St} {j : Option Code} {r : Option (Value × St)} : (leaveA fr st j = .done r fr' → False) ∧ (leaveA fr st j = .deferred r fr' → False) := by
  unfold leaveA
  constructor <;> intro h <;> split at h <;> (try cases h) <;> split at h <;> cases h

/-! ### the steps of a frame that runs -/
theorem code_go (hT : TabOk P T) (hS : SumOk P T) {run : Run} (hrun : RunOk P run) {fr fr' : AF} {st st' : St} {c : Code} {k : List AItem} (hret : fr.ret = false) (htodo : fr.todo = .code c :: k)
    (h : stepA T run fr st = .go fr' st') (hl : Live st) : Did P fr st fr' st' := by
  unfold stepA at h
  rw [hret] at h
  simp only [htodo] at h
  have hin : ∀ {E F}, FR E fr F → ∃ k', F.todo = .code c :: k' ∧ TR E k k' := fun hF => by
    have := hF.todo
    rw [htodo] at this
    exact this.code_inv
  split at h
  · obtain ⟨h1, h2, h3, h4⟩ := leaveA_go h
    subst h3 h4
    refine Did.of_mode fun E F hF w cs => ?_
    obtain ⟨k', e1, e2⟩ := hin hF
    exact step_retF (hF.run hret) (hF.none h1) e1
  · injection h with h1 h2
    subst h1 h2
    refine Did.of_todo hret fun E F hF => ?_
    obtain ⟨k', e1, e2⟩ := hin hF
    exact ⟨k', e2, fun w cs => step_skipF (hF.run hret) e1⟩
  · injection h with h1 h2
    subst h1 h2
    refine Did.of_todo hret fun E F hF => ?_
    obtain ⟨k', e1, e2⟩ := hin hF
    exact ⟨k', e2, fun w cs => step_labelF (hF.run hret) e1⟩
  · injection h with h1 h2
    subst h1 h2
    refine Did.of_todo hret fun E F hF => ?_
    obtain ⟨k', e1, e2⟩ := hin hF
    exact ⟨_, .cons (.code _) (.cons (.code _) e2), fun w cs => step_seqF (hF.run hret) e1⟩
  · rename_i x thn els
    split at h
    case h_2 => cases h
    rename_i b hx hv
    injection h with h1 h2
    subst h1 h2
    refine Did.of_todo hret fun E F hF => ?_
    obtain ⟨k', e1, e2⟩ := hin hF
    have hev := evalT_ok hF.tmps hx
    rw [hv] at hev
    have hb : F.eval x = .bool b := (hev.bool_iff b).1 rfl
    refine ⟨_, .cons (.code _) e2, fun w cs => ?_⟩
    rw [cond_bool]
    exact step_condF (hF.run hret) e1 hb
  · injection h with h1 h2
    subst h1 h2
    refine Did.of_todo hret fun E F hF => ?_
    obtain ⟨k', e1, e2⟩ := hin hF
    exact ⟨_, .cons (.code _) (.cons (.inBlock _) e2), fun w cs => step_blockF (hF.run hret) e1⟩
  · injection h with h1 h2
    subst h1 h2
    refine Did.of_todo hret fun E F hF => ?_
    obtain ⟨k', e1, e2⟩ := hin hF
    exact ⟨_, .cons (.code _) (.cons (.inLoop _) e2), fun w cs => step_loopF (hF.run hret) e1⟩
  · injection h with h1 h2
    subst h1 h2
    refine Did.of_todo hret fun E F hF => ?_
    obtain ⟨k', e1, e2⟩ := hin hF
    exact ⟨_, .cons (.code _) (.cons (.inScope _) e2), fun w cs => step_scopeF (hF.run hret) e1⟩
  · rename_i i
    split at h
    · rename_i k2 hk
      injection h with h1 h2
      subst h1 h2
      refine Did.of_todo hret fun E F hF => ?_
      obtain ⟨k', e1, e2⟩ := hin hF
      have := exitTo_ok (i := i) e2
      rw [hk] at this
      obtain ⟨k3, e3, e4⟩ := this
      exact ⟨k3, e4, fun w cs => step_exitF (hF.run hret) e1 e3⟩
    · obtain ⟨_, h2, _⟩ := leaveA_go h
      rcases h2 with h2 | h2 <;> cases h2
  · split at h
    · cases h
    · split at h <;> cases h
  · rename_i i ops draw
    rw [cond_bool] at h
    cases draw with
    | true =>
      simp only [if_true] at h
      split at h
      case h_2 => cases h
      rename_i tmps2 st2 hreg
      injection h with h1 h2
      subst h1 h2
      obtain ⟨a1, a2⟩ := regionA_ok (ops := ops) hT hS hrun hreg hl
      refine ⟨a1, rfl, rfl, fun E w F hf hs hF => ?_⟩
      obtain ⟨k', e1, e2⟩ := hin hF
      obtain ⟨E2, w2, F2, q1, q2, q3, q4⟩ := a2 E w F k' i hf hs hF.tmps (hF.run hret) e1
      refine ⟨E2, w2, F2, q1, ?_, q3⟩
      rw [q4]
      exact ⟨hF.fn, q2, e2.mono q1.le, hF.defers.mono q1.le, hF.run hret, hF.kind, hF.round.mono q1.le⟩
    | false =>
      simp only [Bool.false_eq_true, if_false] at h
      split at h
      case h_2 => cases h
      rename_i q hq
      injection h with h1 h2
      subst h1 h2
      obtain ⟨a1, a2⟩ := seqGo_ok (ops := ops) hT hS hrun ops.toList 0 _ _ hq (by simp) (by simp) hl
      refine ⟨a1, rfl, rfl, fun E w F hf hs hF => ?_⟩
      obtain ⟨k', e1, e2⟩ := hin hF
      obtain ⟨E2, w2, F2, q1, q2, q3, q4, q5⟩ := a2 E w { F with todo := .inRegion ops (List.range ops.size) :: k' } k' hf hs hF.tmps hF.defers (hF.run hret) (by simp [List.range_eq_range']) hF.isSome
      refine ⟨E2, w2, F2, q1, ?_, (Goes.one fun cs => step_regionF (hF.run hret) e1).trans q4⟩
      rw [q5]
      exact ⟨hF.fn, q2, e2.mono q1.le, q3, hF.run hret, hF.kind, hF.round.mono q1.le⟩
  · cases h
end
end Go.Ev

/- The evaluator: runs of frames, all in all. -/
namespace Go.Ev

section
variable {P : Program} {T : Tab}

theorem leaves_code {c : Code} {k : List AItem} {fr : AF} (h : fr.todo = .code c :: k) (hc : c = .ret ∨ ∃ i, c = .exit i ∧ exitToA i k = none) : leaves fr.todo = some (some c) := by
  rw [h]
  rcases hc with rfl | ⟨i, rfl, hi⟩
  · rfl
  · simp only [leaves, hi]

theorem stepA_final {run : Run} {fr : AF} {st : St} (h : stepA T run fr st = .final) : Final fr := by
  unfold stepA at h
  split at h
  · rename_i hr
    split at h
    · cases h
    · rename_i hn
      split at h
      · rename_i hd
        unfold Final
        rw [hn]
        exact ⟨hr, hd⟩
      · split at h
        · split at h <;> cases h
        · cases h
        · cases h
  · rename_i hr
    split at h
    · rename_i ht
      exact leaveA_final h hr (by rw [ht]; rfl)
    · rename_i c k ht
      split at h
      · exact leaveA_final h hr (leaves_code ht (.inl rfl))
      · cases h
      · cases h
      · cases h
      · split at h <;> cases h
      · cases h
      · cases h
      · cases h
      · split at h
        · cases h
        · rename_i hx
          exact leaveA_final h hr (leaves_code ht (.inr ⟨_, rfl, hx⟩))
      · split at h
        · cases h
        · split at h <;> cases h
      · rw [cond_bool] at h
        split at h <;> split at h <;> cases h
      · cases h
    · cases h
    · cases h
    · cases h
    · split at h
      · split at h
        · split at h <;> cases h
        · cases h
      · cases h
    · split at h
      · split at h <;> cases h
      · cases h
    · cases h

theorem stepA_go (hT : TabOk P T) (hS : SumOk P T) {run : Run} (hrun : RunOk P run) {fr fr' : AF} {st st' : St} (h : stepA T run fr st = .go fr' st') (hl : Live st) : Did P fr st fr' st' := by
  cases hret : fr.ret with
  | true =>
    unfold stepA at h
    rw [hret] at h
    simp only at h
    split at h
    · cases h
    rename_i hn
    split at h
    · cases h
    rename_i d ds hd
    split at h
    · rename_i r hr
      split at h
      case h_2 => cases h
      rename_i ho
      injection h with h1 h2
      subst h1 h2
      refine ⟨Abs.put _ _ _ ho, rfl, rfl, fun E w F hf hs hF => ?_⟩
      have hdl := hF.defers
      rw [hd] at hdl
      cases hFd : F.defers with
      | nil => rw [hFd] at hdl; cases hdl
      | cons d' ds' =>
        rw [hFd] at hdl
        cases hdl with
        | cons hd1 hds =>
          cases hd1 with
          | fn _ _ => cases hr
          | @collected r' p hp hp0 =>
            injection hr with hr
            subst hr
            obtain ⟨q, O, g1, g2, g3⟩ := hs.obj _ _ ho
            rw [hp] at g1
            injection g1 with g1
            subst g1
            cases g3 with
            | deferred _ _ =>
              have hout : Out E (hget st.heap) st.nxt w E (hget (st.put r' (.deferred none)).heap) st.nxt { w with heap := w.heap.setIfInBounds p.b (.deferred none) } :=
                Out.put (O' := .deferred none) hs ho hp (.deferred hp0 (.inr rfl)) (hget_put st r' _ ho) (setObj_at g2) (fun b hb => setObj_ne hb) (by simp) rfl rfl rfl
              exact ⟨E, _, { F with defers := ds' }, hout, ⟨hF.fn, hF.tmps, hF.todo, hds, hF.returning hret, hF.kind, hF.round⟩, Goes.one fun cs => step_collectedF (hF.returning hret) hFd g2⟩
    · cases h
    · cases h
  | false =>
    cases htodo : fr.todo with
    | nil =>
      unfold stepA at h
      rw [hret] at h
      simp only [htodo] at h
      obtain ⟨h1, h2, h3, h4⟩ := leaveA_go h
      subst h3 h4
      refine Did.of_mode fun E F hF w cs => ?_
      have ht := hF.todo
      rw [htodo] at ht
      refine step_endF (hF.run hret) (hF.none h1) ?_
      cases hx : F.todo with
      | nil => rfl
      | cons a l => rw [hx] at ht; cases ht
    | cons it k =>
      cases it with
      | code c => exact code_go hT hS hrun hret htodo h hl
      | inBlock i =>
        unfold stepA at h
        rw [hret] at h
        simp only [htodo] at h
        injection h with h1 h2
        subst h1 h2
        refine Did.of_todo hret fun E F hF => ?_
        have ht := hF.todo
        rw [htodo] at ht
        cases hx : F.todo with
        | nil => rw [hx] at ht; cases ht
        | cons a l =>
          rw [hx] at ht
          cases ht with
          | cons hi ht => cases hi; exact ⟨l, ht, fun w cs => step_inBlockF (hF.run hret) hx⟩
      | inScope c =>
        unfold stepA at h
        rw [hret] at h
        simp only [htodo] at h
        injection h with h1 h2
        subst h1 h2
        refine Did.of_todo hret fun E F hF => ?_
        have ht := hF.todo
        rw [htodo] at ht
        cases hx : F.todo with
        | nil => rw [hx] at ht; cases ht
        | cons a l =>
          rw [hx] at ht
          cases ht with
          | cons hi ht => cases hi; exact ⟨l, ht, fun w cs => step_inScopeF (hF.run hret) hx⟩
      | inLoop c =>
        unfold stepA at h
        rw [hret] at h
        simp only [htodo] at h
        injection h with h1 h2
        subst h1 h2
        refine Did.of_todo hret fun E F hF => ?_
        have ht := hF.todo
        rw [htodo] at ht
        cases hx : F.todo with
        | nil => rw [hx] at ht; cases ht
        | cons a l =>
          rw [hx] at ht
          cases ht with
          | cons hi ht => cases hi; exact ⟨_, .cons (.code c) (.cons (.inLoop c) ht), fun w cs => step_inLoopF (hF.run hret) hx⟩
      | beginRound =>
        unfold stepA at h
        rw [hret] at h
        simp only [htodo] at h
        split at h
        case h_2 => cases h
        rename_i l hrd
        split at h
        case h_2 => cases h
        rename_i r hr
        split at h
        case h_2 => cases h
        rename_i hst
        injection h with h1 h2
        subst h1 h2
        refine ⟨Abs.put _ _ _ hr, rfl, hrd.symm ▸ rfl, fun E w F hf hs hF => ?_⟩
        obtain ⟨p, hp, hp0, hro⟩ := hF.some hrd
        obtain ⟨l', _, hlr, hw⟩ := hs.loopAt hr hp
        have ht := hF.todo
        rw [htodo] at ht
        cases hx : F.todo with
        | nil => rw [hx] at ht; cases ht
        | cons a lt =>
          rw [hx] at ht
          cases ht with
          | cons hi ht =>
            cases hi
            have hout : Out E (hget st.heap) st.nxt w E (hget (st.put l (.loop { r with state := .busy })).heap) st.nxt { w with heap := w.heap.setIfInBounds p.b (.loop { l' with state := .busy }) } :=
              Out.put (o' := .loop { r with state := .busy }) (O' := .loop { l' with state := .busy }) hs hr hp (.loop hp0 ⟨rfl, hlr.pending, hlr.fn, hlr.tmps, hlr.params, hlr.assign, hlr.body, hlr.defers⟩) (hget_put st l _ hr) (setObj_at hw) (fun b hb => setObj_ne hb) (by simp) rfl rfl rfl
            exact ⟨E, _, { F with todo := lt }, hout, ⟨hF.fn, hF.tmps, ht, hF.defers, hF.run hret, hF.kind, hF.round⟩, Goes.one fun cs => step_beginRoundF (hF.run hret) hro hx hw (by rw [hlr.state]; exact hst)⟩
      | endRangeFunc l =>
        unfold stepA at h
        rw [hret] at h
        simp only [htodo] at h
        split at h
        case h_2 => cases h
        rename_i r hr
        split at h
        · cases h
        rename_i hst
        injection h with h1 h2
        subst h1 h2
        refine ⟨Abs.put _ _ _ hr, rfl, rfl, fun E w F hf hs hF => ?_⟩
        have ht := hF.todo
        rw [htodo] at ht
        cases hx : F.todo with
        | nil => rw [hx] at ht; cases ht
        | cons a lt =>
          rw [hx] at ht
          cases ht with
          | cons hi ht =>
            cases hi with
            | @endRangeFunc _ p hp hp0 =>
              obtain ⟨l', _, hlr, hw⟩ := hs.loopAt hr hp
              have hout : Out E (hget st.heap) st.nxt w E (hget (st.put l (.loop { r with state := .exhausted })).heap) st.nxt { w with heap := w.heap.setIfInBounds p.b (.loop { l' with state := .exhausted }) } :=
                Out.put (o' := .loop { r with state := .exhausted }) (O' := .loop { l' with state := .exhausted }) hs hr hp (.loop hp0 ⟨rfl, hlr.pending, hlr.fn, hlr.tmps, hlr.params, hlr.assign, hlr.body, hlr.defers⟩) (hget_put st l _ hr) (setObj_at hw) (fun b hb => setObj_ne hb) (by simp) rfl rfl rfl
              refine ⟨E, _, _, hout, ?_, Goes.one fun cs => step_endRangeFuncF (hF.run hret) hx hw (by rw [hlr.state]; exact hst)⟩
              refine ⟨hF.fn, hF.tmps, ?_, hF.defers, hF.run hret, hF.kind, hF.round⟩
              simp only [hlr.pending]
              cases r.pending with
              | none => exact ht
              | some c => exact .cons (.code c) ht

      | _ =>
        unfold stepA at h
        rw [hret] at h
        simp only [htodo] at h
        cases h

/-- A loop over a function. -/
theorem stepA_done (hT : TabOk P T) (hS : SumOk P T) {run : Run} (hrun : RunOk P run) {fr fr' : AF} {st st' : St} {r : Option (Value × St)} {v : Value} (h : stepA T run fr st = .done r fr') (hr : r = some (v, st')) (hl : Live st) : Did P fr st fr' st' := by
  subst hr
  unfold stepA at h
  split at h
  · split at h
    · cases h
    · split at h
      · cases h
      · split at h
        · split at h <;> cases h
        · cases h
        · cases h
  rename_i hret
  split at h
  · exact (leaveA_not.1 h).elim
  · rename_i c k htodo
    split at h
    · exact (leaveA_not.1 h).elim
    · cases h
    · cases h
    · cases h
    · split at h <;> cases h
    · cases h
    · cases h
    · cases h
    · split at h
      · cases h
      · exact (leaveA_not.1 h).elim
    · rename_i f params assign body
      split at h
      · cases h
      rename_i hn
      split at h
      case h_2 => cases h
      rename_i g first captured hx hv
      injection h with h1 h2
      subst h2
      let o1 : Obj := .deferred (some [])
      let o2 : Obj := .loop { state := .ready, pending := none, fn := fr.fn, tmps := ⟨fr.tmps⟩, params, assign, body, defers := st.nxt }
      have b1 : Abs st (st.push o1) := Abs.push _ _
      have b2 : Abs (st.push o1) ((st.push o1).push o2) := Abs.push _ _
      obtain ⟨c1, c2, c3⟩ := callFn_ok' hT hS hrun h1 (b2.live (b1.live hl)) (.inl rfl)
      have hnx : ((st.push o1).push o2).nxt = st.nxt + 2 := rfl
      have hle : st.nxt + 2 ≤ st'.nxt := c2.nxt
      refine ⟨(b1.trans b2).trans c2, rfl, hn.symm ▸ rfl, fun E w F hf hs hF => ?_⟩
      have hno : ∀ id, st.nxt ≤ id → hget st.heap id = none := fun id hid => by
        cases hh : hget st.heap id with
        | none => rfl
        | some o => have := hl id (by rw [hh]; rfl); omega
      have ht := hF.todo
      rw [htodo] at ht
      obtain ⟨k', e1, e2⟩ := ht.code_inv
      let E1 := upE E st.nxt ⟨w.heap.size, 0, 0⟩
      let w1 := w.alloc (.deferred (some []))
      have hE1 : Out E (hget st.heap) st.nxt w E1 (hget (st.push o1).heap) (st.nxt + 1) w1 :=
        Out.push (o := o1) hs (hf _ (Nat.le_refl _) (by omega)) (hno _ (Nat.le_refl _)) (.deferred rfl (.inl rfl)) (fun id => by simp [St.push, hget_cons, o1])
      have hw1 : w1.heap.size = w.heap.size + 1 := by simp [w1]
      let E2 := upE E1 (st.nxt + 1) ⟨w1.heap.size, 0, 0⟩
      let w2 := w1.alloc (.loop { state := .ready, pending := none, fn := F.fn, tmps := F.tmps, params, assign, body, defers := w.heap.size })
      have hE1n : E1 (st.nxt + 1) = none := by
        rw [hE1.same _ (.inr (Nat.le_refl _))]
        exact hf _ (by omega) (by omega)
      have hle12 : Le E1 E2 := upE_le _ hE1n
      have hle2 : Le E E2 := hE1.le.trans hle12
      have hE1at : E1 st.nxt = some ⟨w.heap.size, 0, 0⟩ := by simp [E1, upE]
      have hE2 : Out E1 (hget (st.push o1).heap) (st.nxt + 1) w1 E2 (hget ((st.push o1).push o2).heap) (st.nxt + 2) w2 :=
        Out.push (o := o2) hE1.sim hE1n (by simp [St.push, hget_cons, hno (st.nxt + 1) (by omega)])
          (.loop rfl ⟨rfl, rfl, hF.fn, hF.tmps.mono hle2, rfl, rfl, rfl, ⟨_, hle12 _ _ hE1at, rfl, rfl⟩⟩) (fun id => by simp [St.push, hget_cons, o2])
      have hE2at : E2 (st.nxt + 1) = some ⟨w1.heap.size, 0, 0⟩ := by simp [E2, upE]
      have ho := hE1.trans hE2 (by omega) (by omega)
      have hev := evalT_ok hF.tmps hx
      rw [hv] at hev
      generalize hfe : F.eval f = fv at hev
      cases hev with
      | @fn _ _ a' _ c' q1 q2 q3 q4 =>
        have v1 : VL E2 first.toList a'.toList := VL.mono hle2 ⟨q1, q3⟩
        have v2 : VL E2 captured.toList c'.toList := VL.mono hle2 ⟨q2, q4⟩
        have vy : VR E2 (.func (.yield (st.nxt + 1)) #[] #[]) (.func (.yield (w.heap.size + 1)) #[] #[]) := by
          have := VR.yield (E := E2) hE2at rfl
          simp only [hw1] at this
          exact this
        obtain ⟨E3, w3, v3, r1, r2, r3⟩ := c3 E2 w2 (a' ++ #[.func (.yield (w.heap.size + 1)) #[] #[]] ++ c')
          (fun id x1 x2 => by
            rw [ho.same id (.inr (by rw [hnx] at x1; exact x1))]
            exact hf id (by rw [hnx] at x1; omega) x2) hE2.sim (by
            simp only [Array.toList_append]
            exact (v1.append (VL.cons vy (VL.nil E2))).append v2)
        refine ⟨E3, w3, { F with todo := .endRangeFunc (w.heap.size + 1) :: k', defers := ⟨.collected w.heap.size, #[]⟩ :: F.defers }, ho.trans r2 (by omega) c2.nxt, ?_, ?_⟩
        · have hle3 := hle2.trans r2.le
          have hd3 : E3 st.nxt = some ⟨w.heap.size, 0, 0⟩ := r2.le _ _ (hle12 _ _ hE1at)
          have hl3 : E3 (st.nxt + 1) = some ⟨w1.heap.size, 0, 0⟩ := r2.le _ _ hE2at
          refine ⟨hF.fn, hF.tmps.mono hle3, .cons ?_ (e2.mono hle3), .cons ?_ (hF.defers.mono hle3), hF.mode, hF.kind, hF.round.mono hle3⟩
          · have := IR.endRangeFunc (E := E3) hl3 rfl
            simp only [hw1] at this
            exact this
          · have := DR.collected (E := E3) hd3 rfl
            exact this
        · intro cs
          have := step_rangeFuncF (P := P) (w := w) (cs := cs) (hF.run hret) (hF.none hn) e1 hfe c1
          exact Steps.head this ((r3 _ cs).1 rfl)
    · rw [cond_bool] at h
      split at h <;> split at h <;> cases h
    · cases h
  · cases h
  · cases h
  · cases h
  · split at h
    · split at h
      · split at h <;> cases h
      · cases h
    · cases h
  · split at h
    · split at h <;> cases h
    · cases h
  · cases h

/-- A deferred call. -/
theorem stepA_deferred (hT : TabOk P T) (hS : SumOk P T) {run : Run} (hrun : RunOk P run) {fr fr' : AF} {st st' : St} {r : Option (Value × St)} {v : Value} (h : stepA T run fr st = .deferred r fr') (hr : r = some (v, st')) (hl : Live st) : Did P fr st fr' st' := by
  subst hr
  unfold stepA at h
  split at h
  · rename_i hret
    split at h
    · cases h
    rename_i hn
    split at h
    · cases h
    rename_i d ds hd
    split at h
    · split at h <;> cases h
    · rename_i f captured ht
      injection h with h1 h2
      subst h2
      obtain ⟨c1, c2, c3⟩ := callFn_ok' hT hS hrun h1 hl (.inr rfl)
      refine ⟨c2, rfl, hn.symm ▸ rfl, fun E w F hf hs hF => ?_⟩
      have hdl := hF.defers
      rw [hd] at hdl
      cases hFd : F.defers with
      | nil => rw [hFd] at hdl; cases hdl
      | cons d' ds' =>
        rw [hFd] at hdl
        cases hdl with
        | cons hd1 hds =>
          cases hd1 with
          | collected _ _ => cases ht
          | @fn f' c c' a a' hc ha =>
            injection ht with ht1 ht2
            injection ht1 with ht1
            subst ht1 ht2
            obtain ⟨E2, w2, v2, r1, r2, r3⟩ := c3 E w (a' ++ c') hf hs (by
              simp only [Array.toList_append]
              exact ha.append hc)
            refine ⟨E2, w2, { F with defers := ds' }, r2, ?_, fun cs => ?_⟩
            · exact ⟨hF.fn, hF.tmps.mono r2.le, hF.todo.mono r2.le, hds.mono r2.le, hF.mode, hF.kind, hF.round.mono r2.le⟩
            · exact Steps.head (step_deferredF (hF.returning hret) hFd c1) ((r3 _ cs).2 rfl (hF.returning hret))
    · cases h
  · split at h
    · exact (leaveA_not.2 h).elim
    · split at h
      · exact (leaveA_not.2 h).elim
      · cases h
      · cases h
      · cases h
      · split at h <;> cases h
      · cases h
      · cases h
      · cases h
      · split at h
        · cases h
        · exact (leaveA_not.2 h).elim
      · split at h
        · cases h
        · split at h <;> cases h
      · rw [cond_bool] at h
        split at h <;> split at h <;> cases h
      · cases h
    · cases h
    · cases h
    · cases h
    · split at h
      · split at h
        · split at h <;> cases h
        · cases h
      · cases h
    · split at h
      · split at h <;> cases h
      · cases h
    · cases h

theorem Did.andThen {fr fr1 fr2 : AF} {st st1 st2 : St} (a : Did P fr st fr1 st1) (b : Did P fr1 st1 fr2 st2) : Did P fr st fr2 st2 :=
  ⟨a.abs.trans b.abs, by rw [b.kind, a.kind], by rw [b.round, a.round], fun E w F hf hs hF => by
    obtain ⟨E1, w1, F1, o1, f1, g1⟩ := a.run E w F (fun id x1 x2 => hf id x1 (Nat.lt_of_lt_of_le x2 b.abs.nxt)) hs hF
    obtain ⟨E2, w2, F2, o2, f2, g2⟩ := b.run E1 w1 F1 (fun id x1 x2 => by
      rw [o1.same id (.inr x1)]
      exact hf id (Nat.le_trans a.abs.nxt x1) x2) o1.sim f1
    exact ⟨E2, w2, F2, o1.trans o2 a.abs.nxt b.abs.nxt, f2, g1.trans g2⟩⟩

/-- The evaluator's runs are the machine's. -/
theorem fin_ok (hT : TabOk P T) (hS : SumOk P T) : ∀ n, RunOk P (fin T n) := by
  have key : ∀ n, (∀ fr st fr2 st2, fin T n fr st = some (fr2, st2) → Live st → Did P fr st fr2 st2 ∧ Final fr2) := by
    intro n
    induction n with
    | zero => intro fr st fr2 st2 h; simp [fin] at h
    | succ n ih =>
      intro fr st fr2 st2 h hl
      have hrun : RunOk P (fin T n) := fun fr st fr2 st2 h hl => by
        obtain ⟨a, b⟩ := ih fr st fr2 st2 h hl
        exact ⟨a.abs, b, a.kind, a.round, a.run⟩
      simp only [fin] at h
      split at h
      · rename_i hs
        simp only [Option.some.injEq, Prod.mk.injEq] at h
        obtain ⟨e1, e2⟩ := h
        subst e1 e2
        exact ⟨⟨Abs.refl _, rfl, rfl, fun E w F _ hs hF => ⟨E, w, F, Out.refl hs, hF, Goes.refl F w⟩⟩, stepA_final hs⟩
      · cases h
      · rename_i fr1 st1 hs
        have a := stepA_go hT hS hrun hs hl
        obtain ⟨b, c⟩ := ih _ _ _ _ h (a.abs.live hl)
        exact ⟨a.andThen b, c⟩
      · rename_i r fr1 hs
        split at h
        case h_2 => cases h
        rename_i v st1
        have a := stepA_done hT hS hrun hs rfl hl
        obtain ⟨b, c⟩ := ih _ _ _ _ h (a.abs.live hl)
        exact ⟨a.andThen b, c⟩
      · rename_i r fr1 hs
        split at h
        case h_2 => cases h
        rename_i v st1
        have a := stepA_deferred hT hS hrun hs rfl hl
        obtain ⟨b, c⟩ := ih _ _ _ _ h (a.abs.live hl)
        exact ⟨a.andThen b, c⟩
  intro n fr st fr2 st2 h hl
  obtain ⟨a, b⟩ := key n fr st fr2 st2 h hl
  exact ⟨a.abs, b, a.kind, a.round, a.run⟩
end
end Go.Ev

/- The evaluator: what is known beforehand of calls, up to the numbers of objects. -/
namespace Go.Ev

/-! ### pairs of numbers: of the entry, of the state -/
abbrev Ren := List (Nat × Nat)

def lk : Ren → Nat → Option Nat
  | [], _ => none
  | (i, j) :: r, k => cond (Nat.beq i k) (some j) (lk r k)

def rl : Ren → Nat → Option Nat
  | [], _ => none
  | (i, j) :: r, k => cond (Nat.beq j k) (some i) (rl r k)

def bindR (r : Ren) (i j : Nat) : Option Ren :=
  match lk r i with
  | some k => cond (Nat.beq j k) (some r) none
  | none => match rl r j with
    | some _ => none
    | none => some ((i, j) :: r)

theorem lk_cons (i j k : Nat) (r : Ren) : lk ((i, j) :: r) k = if i = k then some j else lk r k := by
  simp only [lk, cond_bool]
  by_cases h : i = k
  · subst h; simp
  · rw [if_neg h, if_neg]
    intro e; exact h (Nat.eq_of_beq_eq_true e)
theorem rl_cons (i j k : Nat) (r : Ren) : rl ((i, j) :: r) k = if j = k then some i else rl r k := by
  simp only [rl, cond_bool]
  by_cases h : j = k
  · subst h; simp
  · rw [if_neg h, if_neg]
    intro e; exact h (Nat.eq_of_beq_eq_true e)

def WF (r : Ren) : Prop := ∀ i j, lk r i = some j ↔ rl r j = some i
def Ext (r r' : Ren) : Prop := ∀ i j, lk r i = some j → lk r' i = some j

theorem Ext.refl (r : Ren) : Ext r r := fun _ _ h => h
theorem Ext.trans {a b c : Ren} (h : Ext a b) (h' : Ext b c) : Ext a c := fun i j e => h' i j (h i j e)

theorem bindR_ok {r r' : Ren} {i j : Nat} (h : bindR r i j = some r') (hw : WF r) : WF r' ∧ Ext r r' ∧ lk r' i = some j := by
  unfold bindR at h
  split at h
  · rename_i k hk
    rw [cond_bool] at h
    split at h
    · rename_i hb
      have := Nat.eq_of_beq_eq_true hb
      subst this
      injection h with h
      subst h
      exact ⟨hw, Ext.refl r, hk⟩
    · cases h
  · rename_i hn
    split at h
    · cases h
    rename_i hm
    injection h with h
    subst h
    refine ⟨fun a b => ?_, fun a b e => ?_, by simp [lk_cons]⟩
    · rw [lk_cons, rl_cons]
      by_cases h1 : i = a <;> by_cases h2 : j = b
      · simp [h1, h2]
      · simp only [h1, if_true, h2, if_false]
        constructor
        · intro e; injection e with e; exact absurd e h2
        · intro e
          have := (hw a b).2 e
          rw [← h1, hn] at this
          cases this
      · simp only [h1, if_false, h2, if_true]
        constructor
        · intro e
          have := (hw a b).1 e
          rw [← h2, hm] at this
          cases this
        · intro e; injection e with e; exact absurd e h1
      · simp only [h1, if_false, h2]
        exact hw a b
    · rw [lk_cons]
      rw [if_neg]
      · exact e
      · intro e2; subst e2; rw [hn] at e; cases e

/-! ### values alike -/
def eqSpot : Option Nat → Option Nat → Bool
  | none, none => true
  | some a, some b => Nat.beq a b
  | _, _ => false

theorem eqSpot_eq {a b : Option Nat} (h : eqSpot a b = true) : a = b := by
  cases a <;> cases b <;> first | rfl | (simp [eqSpot] at h; done) | skip
  exact congrArg some (Nat.eq_of_beq_eq_true h)

/-- Are values alike (the entry's, the state's), and how do their numbers go together? -/
def mL : Nat → List Value → List Value → Ren → Option Ren
  | 0, _, _, _ => none
  | _ + 1, [], [], r => some r
  | n + 1, p :: ps, a :: as, r =>
    match p, a with
    | .bool b, .bool c => cond (b == c) (mL n ps as r) none
    | .int k x, .int k' x' => cond (decide (k = k') && decide (x = x')) (mL n ps as r) none
    | .string s, .string t => cond (bytesEq s.data.toList t.data.toList) (mL n ps as r) none
    | .nilFunc, .nilFunc => mL n ps as r
    | .nilIface, .nilIface => mL n ps as r
    | .pointer none, .pointer none => mL n ps as r
    | .map none, .map none => mL n ps as r
    | .slice none x c, .slice none x' c' => cond (Nat.beq x x' && Nat.beq c c') (mL n ps as r) none
    | .pointer (some ⟨i, o, none⟩), .pointer (some ⟨j, o', none⟩) => cond (Nat.beq o o') (match bindR r i j with | some r => mL n ps as r | none => none) none
    | .slice (some ⟨i, o, s⟩) x c, .slice (some ⟨j, o', s'⟩) x' c' =>
      cond (Nat.beq o o' && Nat.beq x x' && Nat.beq c c' && eqSpot s s') (match bindR r i j with | some r => mL n ps as r | none => none) none
    | .map (some i), .map (some j) => match bindR r i j with | some r => mL n ps as r | none => none
    | .func (.func f) x c, .func (.func f') x' c' =>
      cond (Nat.beq f f') (match mL n x.toList x'.toList r with
        | some r => match mL n c.toList c'.toList r with
          | some r => mL n ps as r
          | none => none
        | none => none) none
    | .agg x, .agg x' => match mL n x.toList x'.toList r with | some r => mL n ps as r | none => none
    | .tuple x, .tuple x' => match mL n x.toList x'.toList r with | some r => mL n ps as r | none => none
    | _, _ => none
  | _, _, _, _ => none

def Agree (r : Ren) (Ec E : Env) : Prop := ∀ i j, lk r i = some j → Ec i = E j

/-- Value by value: what the state's value stands for, the entry's stands for. -/
def Each (r : Ren) (ps as : List Value) : Prop :=
  ps.length = as.length ∧ ∀ (i : Nat) (p a : Value), ps[i]? = some p → as[i]? = some a → ∀ Ec E, Agree r Ec E → ∀ v, VR E a v ↔ VR Ec p v

theorem Agree.sub {r r' : Ren} (h : Ext r r') {Ec E : Env} (ha : Agree r' Ec E) : Agree r Ec E := fun i j e => ha i j (h i j e)

theorem Each.mono {r r' : Ren} (h : Ext r r') {ps as : List Value} (he : Each r ps as) : Each r' ps as :=
  ⟨he.1, fun i p a h1 h2 Ec E ha => he.2 i p a h1 h2 Ec E (ha.sub h)⟩

theorem Each.nil (r : Ren) : Each r [] [] := ⟨rfl, fun i p a h => by simp at h⟩

theorem Each.cons {r : Ren} {p a : Value} {ps as : List Value} (h : ∀ Ec E, Agree r Ec E → ∀ v, VR E a v ↔ VR Ec p v) (ht : Each r ps as) : Each r (p :: ps) (a :: as) :=
  ⟨by simp [ht.1], fun i x y h1 h2 => by
    cases i with
    | zero =>
      simp only [List.getElem?_cons_zero, Option.some.injEq] at h1 h2
      subst h1 h2
      exact h
    | succ i =>
      simp only [List.getElem?_cons_succ] at h1 h2
      exact ht.2 i x y h1 h2⟩

/-- Lists stand for the same lists. -/
theorem Each.list {r : Ren} {ps as : List Value} (h : Each r ps as) {Ec E : Env} (ha : Agree r Ec E) (l : List Value) : VL E as l ↔ VL Ec ps l := by
  constructor
  · rintro ⟨h1, h2⟩
    refine ⟨by rw [h.1]; exact h1, fun i v v' e1 e2 => ?_⟩
    have hi : i < as.length := by have := (List.getElem?_eq_some_iff.1 e1).1; have := h.1; omega
    exact (h.2 i v as[i] e1 (List.getElem?_eq_getElem hi) Ec E ha v').1 (h2 i _ v' (List.getElem?_eq_getElem hi) e2)
  · rintro ⟨h1, h2⟩
    refine ⟨by rw [← h.1]; exact h1, fun i v v' e1 e2 => ?_⟩
    have hi : i < ps.length := by have := (List.getElem?_eq_some_iff.1 e1).1; have := h.1; omega
    exact (h.2 i ps[i] v (List.getElem?_eq_getElem hi) e1 Ec E ha v').2 (h2 i _ v' (List.getElem?_eq_getElem hi) e2)

theorem VR.func_inv {E : Env} {f : FuncId} {a c : Array Value} {v : Value} (h : VR E (.func (.func f) a c) v) : ∃ a' c', v = .func (.func f) a' c' ∧ VL E a.toList a'.toList ∧ VL E c.toList c'.toList := by
  cases h with
  | fn h1 h2 h3 h4 => exact ⟨_, _, rfl, ⟨h1, h3⟩, ⟨h2, h4⟩⟩

theorem mL_ok : ∀ (n : Nat) (ps as : List Value) (r r' : Ren), mL n ps as r = some r' → WF r → WF r' ∧ Ext r r' ∧ Each r' ps as := by
  intro n
  induction n with
  | zero => intro ps as r r' h; simp [mL] at h
  | succ n ih =>
    intro ps as r r' h hw
    match ps, as, h with
    | [], [], h =>
      simp only [mL, Option.some.injEq] at h
      subst h
      exact ⟨hw, Ext.refl r, Each.nil r⟩
    | [], _ :: _, h => simp [mL] at h
    | _ :: _, [], h => simp [mL] at h
    | p :: ps, a :: as, h =>
      unfold mL at h
      -- heads alike: the rest
      have rest : ∀ r1, Ext r r1 → WF r1 → mL n ps as r1 = some r' → (∀ r2, Ext r1 r2 → ∀ Ec E, Agree r2 Ec E → ∀ v, VR E a v ↔ VR Ec p v) → WF r' ∧ Ext r r' ∧ Each r' (p :: ps) (a :: as) := by
        intro r1 h1 h2 h3 h4
        obtain ⟨a1, a2, a3⟩ := ih _ _ _ _ h3 h2
        exact ⟨a1, h1.trans a2, Each.cons (h4 r' a2) a3⟩
      have same : mL n ps as r = some r' → (∀ Ec E : Env, ∀ v, VR E a v ↔ VR Ec p v) → WF r' ∧ Ext r r' ∧ Each r' (p :: ps) (a :: as) :=
        fun h1 h2 => rest r (Ext.refl r) hw h1 fun _ _ Ec E _ v => h2 Ec E v
      split at h
      · rw [cond_bool] at h
        split at h
        · rename_i hb
          have hb := eq_of_beq hb
          subst hb
          refine same h fun Ec E v => ?_
          constructor <;> intro hv <;> cases hv <;> exact .bool _
        · cases h
      · rw [cond_bool] at h
        split at h
        · rename_i hb
          simp only [Bool.and_eq_true, decide_eq_true_eq] at hb
          obtain ⟨rfl, rfl⟩ := hb
          refine same h fun Ec E v => ?_
          constructor <;> intro hv <;> cases hv <;> exact .int _ _
        · cases h
      · rename_i s t
        rw [cond_bool] at h
        split at h
        · rename_i hb
          rw [bytesEq_iff] at hb
          have hb := eq_of_beq hb
          have hst : s = t := by
            obtain ⟨⟨s⟩⟩ := s
            obtain ⟨⟨t⟩⟩ := t
            simp only at hb
            rw [hb]
          subst hst
          refine same h fun Ec E v => ?_
          constructor <;> intro hv <;> cases hv <;> exact .string _
        · cases h
      · refine same h fun Ec E v => ?_
        constructor <;> intro hv <;> cases hv <;> exact .nilFunc
      · refine same h fun Ec E v => ?_
        constructor <;> intro hv <;> cases hv <;> exact .nilIface
      · refine same h fun Ec E v => ?_
        constructor <;> intro hv <;> cases hv <;> exact .pnil
      · refine same h fun Ec E v => ?_
        constructor <;> intro hv <;> cases hv <;> exact .mnil
      · rw [cond_bool] at h
        split at h
        · rename_i hb
          simp only [Bool.and_eq_true] at hb
          have e1 := Nat.eq_of_beq_eq_true hb.1
          have e2 := Nat.eq_of_beq_eq_true hb.2
          subst e1 e2
          refine same h fun Ec E v => ?_
          constructor <;> intro hv <;> cases hv <;> exact .snil _ _
        · cases h
      · rename_i i o j o'
        rw [cond_bool] at h
        split at h
        · rename_i hb
          have e1 := Nat.eq_of_beq_eq_true hb
          subst e1
          split at h
          · rename_i r1 hr1
            obtain ⟨b1, b2, b3⟩ := bindR_ok hr1 hw
            refine rest r1 b2 b1 h fun r2 h2 Ec E ha v => ?_
            have hij := ha i j (h2 i j b3)
            constructor <;> intro hv
            · cases hv with
              | ptr e => exact .ptr (by rw [hij]; exact e)
            · cases hv with
              | ptr e => exact .ptr (by rw [← hij]; exact e)
          · cases h
        · cases h
      · rename_i i o s x c j o' s' x' c'
        rw [cond_bool] at h
        split at h
        · rename_i hb
          simp only [Bool.and_eq_true] at hb
          obtain ⟨⟨⟨g1, g2⟩, g3⟩, g4⟩ := hb
          have e1 := Nat.eq_of_beq_eq_true g1
          have e2 := Nat.eq_of_beq_eq_true g2
          have e3 := Nat.eq_of_beq_eq_true g3
          have e4 := eqSpot_eq g4
          subst e1 e2 e3 e4
          split at h
          · rename_i r1 hr1
            obtain ⟨b1, b2, b3⟩ := bindR_ok hr1 hw
            refine rest r1 b2 b1 h fun r2 h2 Ec E ha v => ?_
            have hij := ha i j (h2 i j b3)
            constructor <;> intro hv
            · cases hv with
              | sl _ _ e => exact .sl _ _ (by rw [hij]; exact e)
              | slIn _ _ _ e q1 q2 => exact .slIn _ _ _ (by rw [hij]; exact e) q1 q2
              | slIn0 _ e => exact .slIn0 _ (by rw [hij]; exact e)
            · cases hv with
              | sl _ _ e => exact .sl _ _ (by rw [← hij]; exact e)
              | slIn _ _ _ e q1 q2 => exact .slIn _ _ _ (by rw [← hij]; exact e) q1 q2
              | slIn0 _ e => exact .slIn0 _ (by rw [← hij]; exact e)
          · cases h
        · cases h
      · rename_i i j
        split at h
        · rename_i r1 hr1
          obtain ⟨b1, b2, b3⟩ := bindR_ok hr1 hw
          refine rest r1 b2 b1 h fun r2 h2 Ec E ha v => ?_
          have hij := ha i j (h2 i j b3)
          constructor <;> intro hv
          · cases hv with
            | map e hs => exact .map (by rw [hij]; exact e) hs
          · cases hv with
            | map e hs => exact .map (by rw [← hij]; exact e) hs
        · cases h
      · rename_i f x c f' x' c'
        rw [cond_bool] at h
        split at h
        · rename_i hb
          have e1 := Nat.eq_of_beq_eq_true hb
          subst e1
          split at h
          · rename_i r1 hr1
            split at h
            · rename_i r2 hr2
              obtain ⟨a1, a2, a3⟩ := ih _ _ _ _ hr1 hw
              obtain ⟨c1, c2, c3⟩ := ih _ _ _ _ hr2 a1
              refine rest r2 (a2.trans c2) c1 h fun r3 h3 Ec E ha v => ?_
              have l1 := fun l => (a3.mono c2).list (ha.sub h3) l
              have l2 := fun l => c3.list (ha.sub h3) l
              constructor <;> intro hv
              · obtain ⟨y, z, rfl, q1, q2⟩ := hv.func_inv
                have q1 := (l1 _).1 q1
                have q2 := (l2 _).1 q2
                exact .fn q1.1 q2.1 q1.2 q2.2
              · obtain ⟨y, z, rfl, q1, q2⟩ := hv.func_inv
                have q1 := (l1 _).2 q1
                have q2 := (l2 _).2 q2
                exact .fn q1.1 q2.1 q1.2 q2.2
            · cases h
          · cases h
        · cases h
      · rename_i x x'
        split at h
        · rename_i r1 hr1
          obtain ⟨a1, a2, a3⟩ := ih _ _ _ _ hr1 hw
          refine rest r1 a2 a1 h fun r3 h3 Ec E ha v => ?_
          have l1 := fun l => a3.list (ha.sub h3) l
          constructor <;> intro hv
          · obtain ⟨y, rfl, q1⟩ := hv.agg_inv
            exact .agg' ((l1 _).1 q1)
          · obtain ⟨y, rfl, q1⟩ := hv.agg_inv
            exact .agg' ((l1 _).2 q1)
        · cases h
      · rename_i x x'
        split at h
        · rename_i r1 hr1
          obtain ⟨a1, a2, a3⟩ := ih _ _ _ _ hr1 hw
          refine rest r1 a2 a1 h fun r3 h3 Ec E ha v => ?_
          have l1 := fun l => a3.list (ha.sub h3) l
          constructor <;> intro hv
          · obtain ⟨y, rfl, q1⟩ := hv.tuple_inv
            exact .tuple' ((l1 _).1 q1)
          · obtain ⟨y, rfl, q1⟩ := hv.tuple_inv
            exact .tuple' ((l1 _).2 q1)
        · cases h
      · cases h

/-! ### objects alike -/
def bornsEq : List MapEntry → List MapEntry → Bool
  | [], [] => true
  | a :: l, b :: m => Nat.beq a.born b.born && bornsEq l m
  | _, _ => false

def mO (n : Nat) (o o' : Obj) (r : Ren) : Option Ren :=
  match o, o' with
  | .cells c _ f, .cells c' _ f' => cond (noHole c.toList && noHole c'.toList && Nat.beq f.1 f'.1 && Nat.beq f.2 f'.2) (mL n c.toList c'.toList r) none
  | .map es k, .map es' k' => cond (Nat.beq k k' && bornsEq es.toList es'.toList)
      (match mL n (es.toList.map (·.key)) (es'.toList.map (·.key)) r with
       | some r => mL n (es.toList.map (·.val)) (es'.toList.map (·.val)) r
       | none => none) none
  | _, _ => none

theorem bornsEq_spec : ∀ (l m : List MapEntry), bornsEq l m = true → l.length = m.length ∧ ∀ (i : Nat) (a b : MapEntry), l[i]? = some a → m[i]? = some b → a.born = b.born := by
  intro l
  induction l with
  | nil =>
    intro m h
    cases m with
    | nil => exact ⟨rfl, fun i a b h => by simp at h⟩
    | cons b m => simp [bornsEq] at h
  | cons a l ih =>
    intro m h
    cases m with
    | nil => simp [bornsEq] at h
    | cons b m =>
      simp only [bornsEq, Bool.and_eq_true] at h
      obtain ⟨h1, h2⟩ := ih m h.2
      refine ⟨by simp [h1], fun i x y e1 e2 => ?_⟩
      cases i with
      | zero =>
        simp only [List.getElem?_cons_zero, Option.some.injEq] at e1 e2
        subst e1 e2
        exact Nat.eq_of_beq_eq_true h.1
      | succ i =>
        simp only [List.getElem?_cons_succ] at e1 e2
        exact h2 i x y e1 e2

theorem OR.row_iff {E : Env} {p : Pl} {c : Array Value} {e : TypeId} {f : Nat × Nat} {O : Obj} : OR E p (.cells c e f) O ↔
    ∃ C e', O = .cells C e' f ∧ C.size = p.S ∧ ∀ (i : Nat) (v : Value), c.toList[i]? = some v → ∃ v', C.toList[p.s + i]? = some v' ∧ HR E v v' := by
  constructor
  · intro h
    cases h with
    | row h1 h2 => exact ⟨_, _, rfl, h1, h2⟩
  · rintro ⟨C, e', rfl, h1, h2⟩
    exact .row h1 h2

theorem OR.map_iff {E : Env} {p : Pl} {es : Array MapEntry} {k : Nat} {O : Obj} : OR E p (.map es k) O ↔ ∃ es', O = .map es' k ∧ p.s = 0 ∧ EL E es.toList es'.toList := by
  constructor
  · intro h
    cases h with
    | map h1 h2 => exact ⟨_, rfl, h1, h2⟩
  · rintro ⟨es', rfl, h1, h2⟩
    exact .map h1 h2

theorem Each.row {r : Ren} {c c' : List Value} (h : Each r c c') (hc0 : noHole c = true) (hc1 : noHole c' = true) {Ec E : Env} (ha : Agree r Ec E) (C : List Value) (s : Nat) :
    (∀ (i : Nat) (v : Value), c'[i]? = some v → ∃ v', C[s + i]? = some v' ∧ HR E v v') ↔ (∀ (i : Nat) (v : Value), c[i]? = some v → ∃ v', C[s + i]? = some v' ∧ HR Ec v v') := by
  constructor
  · intro hc i v hv
    have hi : i < c'.length := by have := (List.getElem?_eq_some_iff.1 hv).1; have := h.1; omega
    obtain ⟨v', h1, h2⟩ := hc i _ (List.getElem?_eq_getElem hi)
    exact ⟨v', h1, .inr ((h.2 i v _ hv (List.getElem?_eq_getElem hi) Ec E ha v').1 (h2.known (noHole_spec hc1 _ (List.getElem_mem hi))))⟩
  · intro hc i v hv
    have hi : i < c.length := by have := (List.getElem?_eq_some_iff.1 hv).1; have := h.1; omega
    obtain ⟨v', h1, h2⟩ := hc i _ (List.getElem?_eq_getElem hi)
    exact ⟨v', h1, .inr ((h.2 i _ v (List.getElem?_eq_getElem hi) hv Ec E ha v').2 (h2.known (noHole_spec hc0 _ (List.getElem_mem hi))))⟩

theorem mO_ok {n : Nat} {o o' : Obj} {r r' : Ren} (h : mO n o o' r = some r') (hw : WF r) : WF r' ∧ Ext r r' ∧ ∀ r2, Ext r' r2 → ∀ Ec E, Agree r2 Ec E → ∀ p O, OR E p o' O ↔ OR Ec p o O := by
  unfold mO at h
  split at h
  · rw [cond_bool] at h
    split at h
    case isFalse => cases h
    rename_i hno
    simp only [Bool.and_eq_true] at hno
    obtain ⟨⟨hno, hf1⟩, hf2⟩ := hno
    have hff := Prod.ext (Nat.eq_of_beq_eq_true hf1) (Nat.eq_of_beq_eq_true hf2)
    obtain ⟨a1, a2, a3⟩ := mL_ok _ _ _ _ _ h hw
    refine ⟨a1, a2, fun r2 h2 Ec E ha p O => ?_⟩
    rw [OR.row_iff, OR.row_iff]
    have := fun C s => (a3.mono h2).row hno.1 hno.2 ha C s
    constructor
    · rintro ⟨C, e', q1, q2, q3⟩
      exact ⟨C, e', by rw [hff]; exact q1, q2, (this _ _).1 q3⟩
    · rintro ⟨C, e', q1, q2, q3⟩
      exact ⟨C, e', by rw [← hff]; exact q1, q2, (this _ _).2 q3⟩
  · rename_i es k es' k'
    rw [cond_bool] at h
    split at h
    case isFalse => cases h
    rename_i hb
    simp only [Bool.and_eq_true] at hb
    have hk := Nat.eq_of_beq_eq_true hb.1
    subst hk
    obtain ⟨b1, b2⟩ := bornsEq_spec _ _ hb.2
    split at h
    case h_2 => cases h
    rename_i r1 hr1
    obtain ⟨a1, a2, a3⟩ := mL_ok _ _ _ _ _ hr1 hw
    obtain ⟨c1, c2, c3⟩ := mL_ok _ _ _ _ _ h a1
    refine ⟨c1, a2.trans c2, fun r2 h2 Ec E ha p O => ?_⟩
    rw [OR.map_iff, OR.map_iff]
    have hk := (a3.mono (c2.trans h2))
    have hv := (c3.mono h2)
    have ent : ∀ (x : List MapEntry) (i : Nat) (e : MapEntry), x[i]? = some e → (x.map (·.key))[i]? = some e.key ∧ (x.map (·.val))[i]? = some e.val := fun x i e he => by simp [he]
    constructor
    · rintro ⟨es2, q1, q2, q3, q4⟩
      refine ⟨es2, q1, q2, by rw [b1]; exact q3, fun i e e2 g1 g2 => ?_⟩
      have hi : i < es'.toList.length := by have := (List.getElem?_eq_some_iff.1 g1).1; omega
      have g3 := List.getElem?_eq_getElem hi
      obtain ⟨z1, z2, z3⟩ := q4 i _ e2 g3 g2
      exact ⟨(hk.2 i _ _ (ent _ i e g1).1 (ent _ i _ g3).1 Ec E ha _).1 z1, (hv.2 i _ _ (ent _ i e g1).2 (ent _ i _ g3).2 Ec E ha _).1 z2, by rw [b2 i e _ g1 g3]; exact z3⟩
    · rintro ⟨es2, q1, q2, q3, q4⟩
      refine ⟨es2, q1, q2, by rw [← b1]; exact q3, fun i e e2 g1 g2 => ?_⟩
      have hi : i < es.toList.length := by have := (List.getElem?_eq_some_iff.1 g1).1; omega
      have g3 := List.getElem?_eq_getElem hi
      obtain ⟨z1, z2, z3⟩ := q4 i _ e2 g3 g2
      exact ⟨(hk.2 i _ _ (ent _ i _ g3).1 (ent _ i e g1).1 Ec E ha _).2 z1, (hv.2 i _ _ (ent _ i _ g3).2 (ent _ i e g1).2 Ec E ha _).2 z2, by rw [← b2 i _ e g3 g1]; exact z3⟩
  · cases h

/-- The entry's objects, in turn. -/
def mH (n : Nat) : Heap → Heap → Ren → Option Ren
  | [], _, r => some r
  | (i, o) :: l, h, r => match lk r i with
    | some j => match hget h j with
      | some o' => match mO n o o' r with
        | some r => mH n l h r
        | none => none
      | none => none
    | none => none

theorem mH_ok {n : Nat} {h : Heap} : ∀ (l : Heap) (r r' : Ren), mH n l h r = some r' → WF r → WF r' ∧ Ext r r' ∧
    ∀ i o, (i, o) ∈ l → ∃ j o', lk r' i = some j ∧ hget h j = some o' ∧ ∀ Ec E, Agree r' Ec E → ∀ p O, OR E p o' O ↔ OR Ec p o O := by
  intro l
  induction l with
  | nil =>
    intro r r' hh hw
    simp only [mH, Option.some.injEq] at hh
    subst hh
    exact ⟨hw, Ext.refl r, fun i o hm => by cases hm⟩
  | cons x l ih =>
    intro r r' hh hw
    obtain ⟨i, o⟩ := x
    simp only [mH] at hh
    split at hh
    case h_2 => cases hh
    rename_i j hj
    split at hh
    case h_2 => cases hh
    rename_i o' ho'
    split at hh
    case h_2 => cases hh
    rename_i r1 hr1
    obtain ⟨a1, a2, a3⟩ := mO_ok hr1 hw
    obtain ⟨b1, b2, b3⟩ := ih _ _ hh a1
    refine ⟨b1, a2.trans b2, fun k o2 hm => ?_⟩
    rcases List.mem_cons.1 hm with e | e
    · injection e with e1 e2
      subst e1 e2
      exact ⟨j, o', (a2.trans b2) _ _ hj, ho', fun Ec E ha p O => a3 r' b2 Ec E ha p O⟩
    · exact b3 k o2 e
end Go.Ev

/- The evaluator: what is known beforehand of calls, put to use. -/
namespace Go.Ev

/-! ### the entry's values, in the state's numbers -/
def renL : Nat → (Nat → Option Nat) → List Value → Option (List Value)
  | 0, _, _ => none
  | _ + 1, _, [] => some []
  | n + 1, f, v :: l =>
    match renL n f l with
    | none => none
    | some l' =>
      match v with
      | .bool b => some (.bool b :: l')
      | .int k x => some (.int k x :: l')
      | .string s => some (.string s :: l')
      | .nilFunc => some (.nilFunc :: l')
      | .nilIface => some (.nilIface :: l')
      | .pointer none => some (.pointer none :: l')
      | .map none => some (.map none :: l')
      | .slice none x c => some (.slice none x c :: l')
      | .pointer (some ⟨i, o, none⟩) => match f i with | some j => some (.pointer (some ⟨j, o, none⟩) :: l') | none => none
      | .slice (some ⟨i, o, s⟩) x c => match f i with | some j => some (.slice (some ⟨j, o, s⟩) x c :: l') | none => none
      | .map (some i) => match f i with | some j => some (.map (some j) :: l') | none => none
      | .func (.func g) x c => match renL n f x.toList, renL n f c.toList with | some x, some c => some (.func (.func g) ⟨x⟩ ⟨c⟩ :: l') | _, _ => none
      | .agg x => match renL n f x.toList with | some x => some (.agg ⟨x⟩ :: l') | none => none
      | .tuple x => match renL n f x.toList with | some x => some (.tuple ⟨x⟩ :: l') | none => none
      | _ => none

def Over (f : Nat → Option Nat) (Ec E : Env) : Prop := ∀ i j p, f i = some j → Ec i = some p → E j = some p

theorem renL_ok {f : Nat → Option Nat} {Ec E : Env} (ho : Over f Ec E) : ∀ (n : Nat) (l l' : List Value), renL n f l = some l' → l'.length = l.length ∧ ∀ m, VL Ec l m → VL E l' m := by
  intro n
  induction n with
  | zero => intro l l' h; simp [renL] at h
  | succ n ih =>
    intro l l' h
    match l, h with
    | [], h =>
      simp only [renL, Option.some.injEq] at h
      subst h
      exact ⟨rfl, fun m hm => by rw [hm.nil_inv]; exact VL.nil E⟩
    | v :: l, h =>
      unfold renL at h
      split at h
      · cases h
      rename_i l1 hl1
      obtain ⟨i1, i2⟩ := ih _ _ hl1
      have fin : ∀ v1, some (v1 :: l1) = some l' → (∀ x, VR Ec v x → VR E v1 x) → l'.length = (v :: l).length ∧ ∀ m, VL Ec (v :: l) m → VL E l' m := by
        intro v1 e hv
        injection e with e
        subst e
        refine ⟨by simp [i1], fun m hm => ?_⟩
        obtain ⟨x, r, rfl, h1, h2⟩ := hm.cons_inv
        exact VL.cons (hv x h1) (i2 r h2)
      split at h
      · exact fin _ h fun x hx => by cases hx; exact .bool _
      · exact fin _ h fun x hx => by cases hx; exact .int _ _
      · exact fin _ h fun x hx => by cases hx; exact .string _
      · exact fin _ h fun x hx => by cases hx; exact .nilFunc
      · exact fin _ h fun x hx => by cases hx; exact .nilIface
      · exact fin _ h fun x hx => by cases hx; exact .pnil
      · exact fin _ h fun x hx => by cases hx; exact .mnil
      · exact fin _ h fun x hx => by cases hx; exact .snil _ _
      · split at h
        · rename_i j hj
          exact fin _ h fun x hx => by cases hx with | ptr e => exact .ptr (ho _ _ _ hj e)
        · cases h
      · split at h
        · rename_i j hj
          exact fin _ h fun x hx => by
            cases hx with
            | sl _ _ e => exact .sl _ _ (ho _ _ _ hj e)
            | slIn _ _ _ e q1 q2 => exact .slIn _ _ _ (ho _ _ _ hj e) q1 q2
            | slIn0 _ e => exact .slIn0 _ (ho _ _ _ hj e)
        · cases h
      · split at h
        · rename_i j hj
          exact fin _ h fun x hx => by cases hx with | map e hs => exact .map (ho _ _ _ hj e) hs
        · cases h
      · split at h
        · rename_i x1 c1 hx1 hc1
          exact fin _ h fun x hx => by
            obtain ⟨y, z, rfl, q1, q2⟩ := hx.func_inv
            have q1 := (ih _ _ hx1).2 _ q1
            have q2 := (ih _ _ hc1).2 _ q2
            exact .fn q1.1 q2.1 q1.2 q2.2
        · cases h
      · split at h
        · rename_i x1 hx1
          exact fin _ h fun x hx => by
            obtain ⟨y, rfl, q1⟩ := hx.agg_inv
            exact .agg' (a := ⟨x1⟩) ((ih _ _ hx1).2 _ q1)
        · cases h
      · split at h
        · rename_i x1 hx1
          exact fin _ h fun x hx => by
            obtain ⟨y, rfl, q1⟩ := hx.tuple_inv
            exact .tuple' (a := ⟨x1⟩) ((ih _ _ hx1).2 _ q1)
        · cases h
      · cases h

def reEnt : List MapEntry → List Value → List Value → Option (List MapEntry)
  | [], [], [] => some []
  | e :: l, k :: ks, v :: vs => match reEnt l ks vs with | some r => some ({ key := k, val := v, born := e.born } :: r) | none => none
  | _, _, _ => none

theorem reEnt_ok : ∀ (l : List MapEntry) (ks vs : List Value) (r : List MapEntry), reEnt l ks vs = some r → r.length = l.length ∧
    ∀ (i : Nat) (e : MapEntry), r[i]? = some e → ∃ e0, l[i]? = some e0 ∧ ks[i]? = some e.key ∧ vs[i]? = some e.val ∧ e.born = e0.born := by
  intro l
  induction l with
  | nil =>
    intro ks vs r h
    cases ks <;> cases vs <;> simp [reEnt] at h
    subst h
    exact ⟨rfl, fun i e h => by simp at h⟩
  | cons x l ih =>
    intro ks vs r h
    cases ks <;> cases vs <;> simp only [reEnt] at h <;> (try cases h)
    split at h
    case h_2 => cases h
    rename_i r1 hr1
    injection h with h
    subst h
    obtain ⟨h1, h2⟩ := ih _ _ _ hr1
    refine ⟨by simp [h1], fun i e he => ?_⟩
    cases i with
    | zero =>
      simp only [List.getElem?_cons_zero, Option.some.injEq] at he ⊢
      subst he
      exact ⟨x, rfl, rfl, rfl, rfl⟩
    | succ i =>
      simp only [List.getElem?_cons_succ] at he ⊢
      exact h2 i e he

def renO (n : Nat) (f : Nat → Option Nat) : Obj → Option Obj
  | .cells c e g => cond (noHole c.toList) (match renL n f c.toList with | some c => some (.cells ⟨c⟩ e g) | none => none) none
  | .map es k => match renL n f (es.toList.map (·.key)), renL n f (es.toList.map (·.val)) with
    | some ks, some vs => match reEnt es.toList ks vs with | some r => some (.map ⟨r⟩ k) | none => none
    | _, _ => none
  | _ => none

theorem renO_ok {n : Nat} {f : Nat → Option Nat} {Ec E : Env} (ho : Over f Ec E) {o o' : Obj} (h : renO n f o = some o') {p : Pl} {O : Obj} (hO : OR Ec p o O) : OR E p o' O := by
  unfold renO at h
  split at h
  · rw [cond_bool] at h
    split at h
    case isFalse => cases h
    rename_i hno
    split at h
    case h_2 => cases h
    rename_i c1 hc1
    injection h with h
    subst h
    obtain ⟨C, e', rfl, q1, q2⟩ := OR.row_iff.1 hO
    obtain ⟨l1, l2⟩ := renL_ok ho _ _ _ hc1
    rename_i c e _ _
    have hvl : VL Ec c.toList ((C.toList.drop p.s).take c.toList.length) := by
      refine ⟨?_, fun i v v' e1 e2 => ?_⟩
      · simp only [List.length_take, List.length_drop]
        by_cases hn : c.toList.length = 0
        · omega
        · obtain ⟨v', e3, _⟩ := q2 (c.toList.length - 1) _ (List.getElem?_eq_getElem (by omega))
          have := (List.getElem?_eq_some_iff.1 e3).1
          omega
      · have hi : i < c.toList.length := (List.getElem?_eq_some_iff.1 e1).1
        obtain ⟨v2, e3, e4⟩ := q2 i v e1
        rw [List.getElem?_take_of_lt hi, List.getElem?_drop, e3] at e2
        injection e2 with e2
        subst e2
        exact e4.known (noHole_at hno e1)
    have hvl2 := l2 _ hvl
    refine .row q1 fun i v hv => ?_
    obtain ⟨v', e1, e2⟩ := hvl2.get hv
    refine ⟨v', ?_, .inr e2⟩
    have hi : i < c.toList.length := by
      have := (List.getElem?_eq_some_iff.1 hv).1
      simp only at this
      omega
    rw [List.getElem?_take_of_lt hi, List.getElem?_drop] at e1
    exact e1
  · split at h
    case h_2 => cases h
    rename_i es k ks vs hks hvs
    split at h
    case h_2 => cases h
    rename_i r hr
    injection h with h
    subst h
    obtain ⟨es', rfl, q1, q2, q3⟩ := OR.map_iff.1 hO
    obtain ⟨r1, r2⟩ := reEnt_ok _ _ _ _ hr
    have k1 := (renL_ok ho _ _ _ hks).2 (es'.toList.map (·.key)) ⟨by simpa using q2, fun i v v' e1 e2 => by
      simp only [List.getElem?_map, Option.map_eq_some_iff] at e1 e2
      obtain ⟨a, a1, rfl⟩ := e1
      obtain ⟨b, b1, rfl⟩ := e2
      exact (q3 i a b a1 b1).1⟩
    have v1 := (renL_ok ho _ _ _ hvs).2 (es'.toList.map (·.val)) ⟨by simpa using q2, fun i v v' e1 e2 => by
      simp only [List.getElem?_map, Option.map_eq_some_iff] at e1 e2
      obtain ⟨a, a1, rfl⟩ := e1
      obtain ⟨b, b1, rfl⟩ := e2
      exact (q3 i a b a1 b1).2.1⟩
    refine .map q1 ⟨by simp only; omega, fun i e e' g1 g2 => ?_⟩
    obtain ⟨e0, z1, z2, z3, z4⟩ := r2 i e g1
    have w1 := k1.2 i _ _ z2 (by simp [g2] : (es'.toList.map (·.key))[i]? = some e'.key)
    have w2 := v1.2 i _ _ z3 (by simp [g2] : (es'.toList.map (·.val))[i]? = some e'.val)
    exact ⟨w1, w2, by rw [z4]; exact (q3 i e0 e' z1 g2).2.2⟩
  · cases h

/-! ### entries -/
/-- A call that is known: what it is given (objects 0, 1, ..), what it gives, what it makes (objects from n on), what it turns. -/
structure Entry where
  f : FuncId
  n : Nat
  args : List Value
  heap : Heap
  v : Value
  new : Heap
  outs : List (Nat × Option Obj)
  nxt : Nat

def hsets : List (Nat × Option Obj) → Heap → Heap
  | [], h => h
  | (i, some o) :: l, h => hsets l (hset h i o)
  | (i, none) :: l, h => hsets l (hdel h i)

def Entry.after (e : Entry) : Heap := e.new ++ hsets e.outs e.heap

def allN (f : Nat → Bool) : List Nat → Bool
  | [] => true
  | i :: l => f i && allN f l

def keysR : List (Nat × Option Obj) → List Nat
  | [] => []
  | (i, _) :: l => i :: keysR l

/-- The entry's numbers are as they should be. -/
def Entry.good (e : Entry) : Bool :=
  Nat.ble e.n e.nxt && allN (fun i => Nat.blt i e.n) (keysOf e.heap) && allN (fun i => Nat.ble e.n i && Nat.blt i e.nxt) (keysOf e.new) && allN (fun i => hasN (keysOf e.heap) i) (keysR e.outs)

structure EntryOk (P : Program) (e : Entry) : Prop where
  good : e.good = true
  callable : Callable P e.f
  ok : ∀ E w args', Fresh E e.n e.nxt → Sim E (hget e.heap) w → VL E e.args (Array.toList args') →
    ∃ E2 w2 v2, VR E2 e.v v2 ∧ Out E (hget e.heap) e.n w E2 (hget e.after) e.nxt w2 ∧ Returns P (Frame.enter P e.f args' .normal) w v2 w2

def toState (e : Entry) (r : Ren) (lo : Nat) (i : Nat) : Option Nat := cond (Nat.blt i e.n) (lk r i) (some (lo + (i - e.n)))

def renNew (n : Nat) (f : Nat → Option Nat) : Heap → Option Heap
  | [] => some []
  | (i, o) :: l => match f i, renO n f o, renNew n f l with | some j, some o, some l => some ((j, o) :: l) | _, _, _ => none

def renOuts (n : Nat) (f : Nat → Option Nat) : List (Nat × Option Obj) → Option (List (Nat × Option Obj))
  | [] => some []
  | (i, none) :: l => match f i, renOuts n f l with | some j, some l => some ((j, none) :: l) | _, _ => none
  | (i, some o) :: l => match f i, renO n f o, renOuts n f l with | some j, some o, some l => some ((j, some o) :: l) | _, _, _ => none

def pairsOk (n lo : Nat) : Ren → Bool
  | [] => true
  | (i, j) :: r => Nat.blt i n && Nat.blt j lo && pairsOk n lo r

def minAll : Nat → List (Nat × Option Obj) → Nat
  | w, [] => w
  | w, (i, _) :: l => minAll (Nat.min w i) l

/-- Does an entry tell what a call gives? -/
def Entry.use (e : Entry) (fuel : Nat) (args : List Value) (st : St) : Option (Value × St) :=
  match mL fuel e.args args [] with
  | none => none
  | some r => match mH fuel e.heap st.heap r with
    | none => none
    | some r => cond (pairsOk e.n st.nxt r)
      (match renL fuel (toState e r st.nxt) [e.v], renNew fuel (toState e r st.nxt) e.new, renOuts fuel (toState e r st.nxt) e.outs with
       | some [v], some new, some outs => some (v, { heap := new ++ hsets outs st.heap, nxt := st.nxt + (e.nxt - e.n), wr := minAll st.wr outs })
       | _, _, _ => none)
      none

def useAll (fuel : Nat) (f : FuncId) (args : List Value) (st : St) : List Entry → Option (Value × St)
  | [] => none
  | e :: l => cond (Nat.beq e.f f) (match e.use fuel args st with | some x => some x | none => useAll fuel f args st l) (useAll fuel f args st l)
end Go.Ev

/- The evaluator: what is known beforehand of calls is so. -/
namespace Go.Ev

theorem allN_spec {f : Nat → Bool} : ∀ (l : List Nat), allN f l = true → ∀ i ∈ l, f i = true := by
  intro l
  induction l with
  | nil => intro _ i hi; cases hi
  | cons a l ih =>
    intro h i hi
    simp only [allN, Bool.and_eq_true] at h
    rcases List.mem_cons.1 hi with e | e
    · subst e; exact h.1
    · exact ih h.2 i e

theorem hget_mem {h : Heap} {i : Nat} {o : Obj} (e : hget h i = some o) : (i, o) ∈ h := by
  induction h with
  | nil => simp [hget] at e
  | cons x h ih =>
    obtain ⟨k, y⟩ := x
    rw [hget_cons] at e
    split at e
    · rename_i hk
      injection e with e
      subst hk e
      simp
    · exact List.mem_cons_of_mem _ (ih e)

theorem pairsOk_spec {n lo : Nat} : ∀ (r : Ren), pairsOk n lo r = true → ∀ i j, lk r i = some j → i < n ∧ j < lo := by
  intro r
  induction r with
  | nil => intro _ i j h; simp [lk] at h
  | cons x r ih =>
    intro h i j e
    obtain ⟨a, b⟩ := x
    simp only [pairsOk, Bool.and_eq_true, Nat.blt_eq] at h
    rw [lk_cons] at e
    split at e
    · rename_i ha
      injection e with e
      subst ha e
      exact h.1
    · exact ih h.2 i j e

theorem hsets_other : ∀ (l : List (Nat × Option Obj)) (h : Heap) (j : Nat), (∀ k ∈ keysR l, k ≠ j) → hget (hsets l h) j = hget h j := by
  intro l
  induction l with
  | nil => intro h j _; rfl
  | cons x l ih =>
    intro h j hk
    obtain ⟨i, o⟩ := x
    have hij : ¬ j = i := fun e => hk i (by simp [keysR]) e.symm
    have hr : ∀ k ∈ keysR l, k ≠ j := fun k hm => hk k (by simp [keysR, hm])
    cases o with
    | none =>
      simp only [hsets]
      rw [ih _ _ hr, hget_hdel, if_neg hij]
    | some o =>
      simp only [hsets]
      rw [ih _ _ hr, hget_hset, if_neg hij]

theorem hsets_old : ∀ (l : List (Nat × Option Obj)) (h : Heap) (j : Nat), (hget (hsets l h) j).isSome = true → (hget h j).isSome = true := by
  intro l
  induction l with
  | nil => intro h j e; exact e
  | cons x l ih =>
    intro h j e
    obtain ⟨i, o⟩ := x
    cases o with
    | none =>
      simp only [hsets] at e
      have := ih _ _ e
      rw [hget_hdel] at this
      split at this
      · cases this
      · exact this
    | some o =>
      simp only [hsets] at e
      have := ih _ _ e
      rw [hget_hset] at this
      split at this
      · rename_i hj
        subst hj
        split at this
        · assumption
        · cases this
      · exact this

theorem minAll_le : ∀ (l : List (Nat × Option Obj)) (w : Nat), minAll w l ≤ w ∧ ∀ k ∈ keysR l, minAll w l ≤ k := by
  intro l
  induction l with
  | nil => intro w; exact ⟨Nat.le_refl _, fun k h => by cases h⟩
  | cons x l ih =>
    intro w
    obtain ⟨i, o⟩ := x
    obtain ⟨h1, h2⟩ := ih (Nat.min w i)
    refine ⟨Nat.le_trans h1 (Nat.min_le_left _ _), fun k hk => ?_⟩
    simp only [keysR, List.mem_cons] at hk
    rcases hk with rfl | hk
    · exact Nat.le_trans h1 (Nat.min_le_right _ _)
    · exact h2 k hk

theorem renNew_get {n : Nat} {f : Nat → Option Nat} : ∀ (l l' : Heap), renNew n f l = some l' → ∀ j o', hget l' j = some o' → ∃ i o, f i = some j ∧ hget l i = some o ∧ renO n f o = some o' := by
  intro l
  induction l with
  | nil =>
    intro l' h j o' e
    simp only [renNew, Option.some.injEq] at h
    subst h
    simp [hget] at e
  | cons x l ih =>
    intro l' h j o' e
    obtain ⟨i, o⟩ := x
    simp only [renNew] at h
    split at h
    case h_2 => cases h
    rename_i j0 o0 l0 hj0 ho0 hl0
    injection h with h
    subst h
    rw [hget_cons] at e
    split at e
    · rename_i hj
      injection e with e
      subst hj e
      exact ⟨i, o, hj0, by rw [hget_cons, if_pos rfl], ho0⟩
    · rename_i hj
      obtain ⟨i2, o2, h1, h2, h3⟩ := ih l0 hl0 j o' e
      refine ⟨i2, o2, h1, ?_, h3⟩
      rw [hget_cons, if_neg]
      · exact h2
      · intro e2
        subst e2
        rw [hj0] at h1
        injection h1 with h1
        exact hj h1.symm

theorem renOuts_keys {n : Nat} {f : Nat → Option Nat} : ∀ (l l' : List (Nat × Option Obj)), renOuts n f l = some l' → ∀ j ∈ keysR l', ∃ i ∈ keysR l, f i = some j := by
  intro l
  induction l with
  | nil =>
    intro l' h j hj
    simp only [renOuts, Option.some.injEq] at h
    subst h
    cases hj
  | cons x l ih =>
    intro l' h j hj
    obtain ⟨i, o⟩ := x
    cases o with
    | none =>
      simp only [renOuts] at h
      split at h
      case h_2 => cases h
      rename_i j0 l0 hj0 hl0
      injection h with h
      subst h
      simp only [keysR, List.mem_cons] at hj
      rcases hj with rfl | hj
      · exact ⟨i, by simp [keysR], hj0⟩
      · obtain ⟨k, h1, h2⟩ := ih l0 hl0 j hj
        exact ⟨k, by simp [keysR, h1], h2⟩
    | some o =>
      simp only [renOuts] at h
      split at h
      case h_2 => cases h
      rename_i j0 o0 l0 hj0 ho0 hl0
      injection h with h
      subst h
      simp only [keysR, List.mem_cons] at hj
      rcases hj with rfl | hj
      · exact ⟨i, by simp [keysR], hj0⟩
      · obtain ⟨k, h1, h2⟩ := ih l0 hl0 j hj
        exact ⟨k, by simp [keysR, h1], h2⟩

/-- Objects of two memories that stand for the same. -/
def CorrAt (Ec E : Env) (hc h : Heap) (i j : Nat) : Prop :=
  (hget hc i = none ∧ hget h j = none) ∨ ∃ o o', hget hc i = some o ∧ hget h j = some o' ∧ ∀ p O, OR Ec p o O → OR E p o' O

theorem corr_sets {n : Nat} {f : Nat → Option Nat} {r : Ren} (hw : WF r) {Ec E : Env} (ho : Over f Ec E) : ∀ (l l' : List (Nat × Option Obj)) (hc h : Heap), renOuts n f l = some l' → (∀ k ∈ keysR l, f k = lk r k) →
    ∀ i j, lk r i = some j → CorrAt Ec E hc h i j → CorrAt Ec E (hsets l hc) (hsets l' h) i j := by
  intro l
  induction l with
  | nil =>
    intro l' hc h hr _ i j _ hcor
    simp only [renOuts, Option.some.injEq] at hr
    subst hr
    exact hcor
  | cons x l ih =>
    intro l' hc h hr hf i j hij hcor
    obtain ⟨k, o⟩ := x
    have hf' : ∀ k ∈ keysR l, f k = lk r k := fun k hk => hf k (by simp [keysR, hk])
    have hfk : f k = lk r k := hf k (by simp [keysR])
    have hne : ∀ k', lk r k = some k' → (i = k ↔ j = k') := fun k' hk => by
      constructor
      · intro e
        subst e
        rw [hij] at hk
        injection hk
      · intro e
        subst e
        have h1 := (hw i j).1 hij
        have h2 := (hw k j).1 hk
        rw [h1] at h2
        injection h2
    cases o with
    | none =>
      simp only [renOuts] at hr
      split at hr
      case h_2 => cases hr
      rename_i j0 l0 hj0 hl0
      injection hr with hr
      subst hr
      simp only [hsets]
      rw [hfk] at hj0
      have hn := hne j0 hj0
      refine ih l0 _ _ hl0 hf' i j hij ?_
      by_cases hik : i = k
      · have hjk := hn.1 hik
        exact .inl ⟨by rw [hget_hdel, if_pos hik], by rw [hget_hdel, if_pos hjk]⟩
      · have hjk : ¬ j = j0 := fun e => hik (hn.2 e)
        unfold CorrAt
        rw [hget_hdel, if_neg hik, hget_hdel, if_neg hjk]
        exact hcor
    | some o =>
      simp only [renOuts] at hr
      split at hr
      case h_2 => cases hr
      rename_i j0 o0 l0 hj0 ho0 hl0
      injection hr with hr
      subst hr
      simp only [hsets]
      rw [hfk] at hj0
      have hn := hne j0 hj0
      refine ih l0 _ _ hl0 hf' i j hij ?_
      by_cases hik : i = k
      · have hjk := hn.1 hik
        unfold CorrAt
        rw [hget_hset, if_pos hik, hget_hset, if_pos hjk]
        subst hik hjk
        rcases hcor with ⟨h1, h2⟩ | ⟨x, y, h1, h2, _⟩
        · rw [h1, h2]
          exact .inl ⟨rfl, rfl⟩
        · rw [h1, h2]
          exact .inr ⟨o, o0, rfl, rfl, fun p O hO => renO_ok ho ho0 hO⟩
      · have hjk : ¬ j = j0 := fun e => hik (hn.2 e)
        unfold CorrAt
        rw [hget_hset, if_neg hik, hget_hset, if_neg hjk]
        exact hcor

theorem use_ok {P : Program} {e : Entry} (he : EntryOk P e) {fuel : Nat} {args : List Value} {st st' : St} {v : Value} (h : e.use fuel args st = some (v, st')) (hl : Live st) :
    Callable P e.f ∧ Abs st st' ∧ ∀ E w args', Fresh E st.nxt st'.nxt → Sim E (hget st.heap) w → VL E args (Array.toList args') →
      ∃ E2 w2 v2, VR E2 v v2 ∧ Out E (hget st.heap) st.nxt w E2 (hget st'.heap) st'.nxt w2 ∧ Returns P (Frame.enter P e.f args' .normal) w v2 w2 := by
  refine ⟨he.callable, ?_⟩
  unfold Entry.use at h
  split at h
  · cases h
  rename_i r1 hr1
  split at h
  · cases h
  rename_i r hr
  rw [cond_bool] at h
  split at h
  case isFalse => cases h
  rename_i hpairs
  split at h
  case h_2 => cases h
  rename_i v0 new outs hv0 hnew houts
  simp only [Option.some.injEq, Prod.mk.injEq] at h
  obtain ⟨e1, e2⟩ := h
  subst e1
  obtain ⟨a1, a2, a3⟩ := mL_ok _ _ _ _ _ hr1 (fun i j => by simp [lk, rl])
  obtain ⟨b1, b2, b3⟩ := mH_ok _ _ _ hr a1
  have hp := pairsOk_spec r hpairs
  have hgood := he.good
  simp only [Entry.good, Bool.and_eq_true, Nat.ble_eq] at hgood
  obtain ⟨⟨⟨g1, g2⟩, g3⟩, g4⟩ := hgood
  have g2 : ∀ i, (hget e.heap i).isSome = true → i < e.n := fun i hi => by
    have := allN_spec _ g2 i ((mem_keysOf _ _).2 hi)
    simpa [Nat.blt_eq] using this
  have g3 : ∀ i, (hget e.new i).isSome = true → e.n ≤ i ∧ i < e.nxt := fun i hi => by
    have := allN_spec _ g3 i ((mem_keysOf _ _).2 hi)
    simpa [Nat.blt_eq, Nat.ble_eq] using this
  have g4 : ∀ i ∈ keysR e.outs, (hget e.heap i).isSome = true := fun i hi => by
    have := allN_spec _ g4 i hi
    exact (mem_keysOf _ _).1 ((hasN_iff _ _).1 this)
  have hn' : st'.nxt = st.nxt + (e.nxt - e.n) := by rw [← e2]
  have hheap : st'.heap = new ++ hsets outs st.heap := by rw [← e2]
  have hwr : st'.wr = minAll st.wr outs := by rw [← e2]
  have fN : ∀ i, e.n ≤ i → toState e r st.nxt i = some (st.nxt + (i - e.n)) := fun i hi => by
    unfold toState
    have : Nat.blt i e.n = false := by
      cases hb : Nat.blt i e.n with
      | false => rfl
      | true => rw [Nat.blt_eq] at hb; omega
    rw [this]; rfl
  have fO : ∀ i, i < e.n → toState e r st.nxt i = lk r i := fun i hi => by
    unfold toState
    have : Nat.blt i e.n = true := by rw [Nat.blt_eq]; exact hi
    rw [this]; rfl
  have houtk : ∀ j ∈ keysR outs, ∃ i, (hget e.heap i).isSome = true ∧ lk r i = some j := fun j hj => by
    obtain ⟨i, h1, h2⟩ := renOuts_keys _ _ houts j hj
    have h3 := g4 i h1
    exact ⟨i, h3, by rw [← fO i (g2 i h3)]; exact h2⟩
  have hnewk : ∀ j o, hget new j = some o → ∃ i oc, toState e r st.nxt i = some j ∧ hget e.new i = some oc ∧ renO fuel (toState e r st.nxt) oc = some o ∧ e.n ≤ i ∧ i < e.nxt ∧ j = st.nxt + (i - e.n) := fun j o hj => by
    obtain ⟨i, oc, h1, h2, h3⟩ := renNew_get _ _ hnew j o hj
    have h4 := g3 i (by rw [h2]; rfl)
    have h5 := fN i h4.1
    rw [h1] at h5
    injection h5 with h5
    exact ⟨i, oc, h1, h2, h3, h4.1, h4.2, h5⟩
  have hlow : ∀ j, j < st.nxt → hget st'.heap j = hget (hsets outs st.heap) j := fun j hj => by
    rw [hheap, hget_append]
    cases hx : hget new j with
    | none => rfl
    | some o => obtain ⟨i, oc, _, _, _, _, _, h⟩ := hnewk j o hx; omega
  have hhigh : ∀ j, st.nxt ≤ j → hget st'.heap j = hget new j := fun j hj => by
    rw [hheap, hget_append, hsets_other _ _ _ (fun k hk => by
      obtain ⟨i, h1, h2⟩ := houtk k hk
      have := (hp i k h2).2
      omega)]
    have : hget st.heap j = none := by
      cases hx : hget st.heap j with
      | none => rfl
      | some o => have := hl j (by rw [hx]; rfl); omega
    rw [this, Option.or_none]
  have hhi : ∀ j, st.nxt ≤ j → (hget st'.heap j).isSome = true → j < st'.nxt := fun j hj hs => by
    rw [hhigh j hj] at hs
    obtain ⟨o, ho⟩ := Option.isSome_iff_exists.1 hs
    obtain ⟨i, oc, _, _, _, h1, h2, h3⟩ := hnewk j o ho
    omega
  have hnle : st.nxt ≤ st'.nxt := by omega
  refine ⟨⟨hnle, fun _ id hs => ?_, by rw [hwr]; exact (minAll_le _ _).1, fun id h1 h2 => ?_, fun id h1 h2 => ?_⟩, fun E w args' hf hs hv => ?_⟩
  · rcases Nat.lt_or_ge id st.nxt with h | h
    · omega
    · exact hhi id h hs
  · rw [hlow id h2]
    apply hsets_other
    intro k hk e
    subst e
    have := (minAll_le outs st.wr).2 k hk
    omega
  · rw [hlow id h1] at h2
    exact hsets_old _ _ _ h2
  -- the entry's run
  let Ec : Env := fun i => match lk r i with | some j => E j | none => none
  have hag : Agree r Ec E := fun i j hij => by simp only [Ec, hij]
  have hEcn : ∀ i, e.n ≤ i → Ec i = none := fun i hi => by
    simp only [Ec]
    cases hx : lk r i with
    | none => rfl
    | some j => have := (hp i j hx).1; omega
  have hobj : ∀ i o, hget e.heap i = some o → ∃ j o', lk r i = some j ∧ hget st.heap j = some o' ∧ ∀ Ec E, Agree r Ec E → ∀ p O, OR E p o' O ↔ OR Ec p o O := fun i o hi => b3 i o (hget_mem hi)
  have hsc : Sim Ec (hget e.heap) w := by
    refine ⟨fun i o hi => ?_, fun i i' p p' hi hi' hE hE' hb => ?_⟩
    · obtain ⟨j, o', h1, h2, h3⟩ := hobj i o hi
      obtain ⟨p, O, q1, q2, q3⟩ := hs.obj j o' h2
      exact ⟨p, O, by rw [hag i j h1]; exact q1, q2, (h3 Ec E hag p O).1 q3⟩
    · obtain ⟨o, ho⟩ := Option.isSome_iff_exists.1 hi
      obtain ⟨o', ho'⟩ := Option.isSome_iff_exists.1 hi'
      obtain ⟨j, x, h1, h2, _⟩ := hobj i o ho
      obtain ⟨j', x', h1', h2', _⟩ := hobj i' o' ho'
      rw [hag i j h1] at hE
      rw [hag i' j' h1'] at hE'
      have := hs.inj j j' p p' (by rw [h2]; rfl) (by rw [h2']; rfl) hE hE' hb
      subst this
      have c1 := (b1 i j).1 h1
      have c2 := (b1 i' j).1 h1'
      rw [c1] at c2
      injection c2
  have hvc : VL Ec e.args args'.toList := (((a3.mono b2).list hag _)).1 hv
  obtain ⟨E2c, w2, v2, q1, q2, q3⟩ := he.ok Ec w args' (fun i h1 _ => hEcn i h1) hsc hvc
  let E2 : Env := fun id => if st.nxt ≤ id ∧ id < st'.nxt then E2c (e.n + (id - st.nxt)) else E id
  have hE2old : ∀ id, ¬ (st.nxt ≤ id ∧ id < st'.nxt) → E2 id = E id := fun id h => by simp only [E2]; rw [if_neg h]
  have hag2 : Agree r E2c E2 := fun i j hij => by
    have h1 := hp i j hij
    rw [hE2old j (by omega), q2.same i (.inl h1.1), hag i j hij]
  have hover : Over (toState e r st.nxt) E2c E2 := fun i j p h1 h2 => by
    rcases Nat.lt_or_ge i e.n with hi | hi
    · rw [fO i hi] at h1
      rw [← hag2 i j h1]; exact h2
    · rw [fN i hi] at h1
      injection h1 with h1
      have hin : i < e.nxt := by
        rcases Nat.lt_or_ge i e.nxt with h | h
        · exact h
        · rw [q2.same i (.inr h), hEcn i hi] at h2; cases h2
      simp only [E2]
      rw [if_pos (by omega)]
      rw [← h1, show e.n + (st.nxt + (i - e.n) - st.nxt) = i by omega]
      exact h2
  have hvv : VR E2 v0 v2 := by
    have := (renL_ok hover _ _ _ hv0).2 [v2] (VL.cons q1 (VL.nil E2c))
    exact (this.uncons).1
  let small : HF := fun j => match rl r j with | some i => if (hget e.heap i).isSome = true then hget st.heap j else none | none => none
  let res : HF := fun j => if st.nxt ≤ j then hget st'.heap j else match rl r j with | some i => if (hget e.heap i).isSome = true then hget st'.heap j else none | none => none
  have hsmall : ∀ j o, small j = some o → ∃ i, lk r i = some j ∧ (hget e.heap i).isSome = true ∧ hget st.heap j = some o := fun j o hj => by
    simp only [small] at hj
    split at hj
    · rename_i i hi
      split at hj
      · rename_i hs
        exact ⟨i, (b1 i j).2 hi, hs, hj⟩
      · cases hj
    · cases hj
  have hsmallI : ∀ i j, lk r i = some j → (hget e.heap i).isSome = true → small j = hget st.heap j := fun i j h1 h2 => by
    simp only [small, (b1 i j).1 h1]
    rw [if_pos h2]
  have key : ∀ j o', res j = some o' → ∃ i o, toState e r st.nxt i = some j ∧ hget e.after i = some o ∧ E2 j = E2c i ∧ ∀ p O, OR E2c p o O → OR E2 p o' O := by
    intro j o' hj
    simp only [res] at hj
    split at hj
    · rename_i hlo
      rw [hhigh j hlo] at hj
      obtain ⟨i, oc, h1, h2, h3, h4, h5, h6⟩ := hnewk j o' hj
      refine ⟨i, oc, h1, by rw [Entry.after, hget_append, h2]; rfl, ?_, fun p O hO => renO_ok hover h3 hO⟩
      simp only [E2]
      rw [if_pos (by omega), h6, show e.n + (st.nxt + (i - e.n) - st.nxt) = i by omega]
    · rename_i hlo
      split at hj
      · rename_i i hi
        split at hj
        · rename_i hsm
          have hij := (b1 i j).2 hi
          obtain ⟨o0, ho0⟩ := Option.isSome_iff_exists.1 hsm
          obtain ⟨j', o0', c1, c2, c3⟩ := hobj i o0 ho0
          rw [hij] at c1
          injection c1 with c1
          subst c1
          have hcor : CorrAt E2c E2 e.heap st.heap i j := .inr ⟨o0, o0', ho0, c2, fun p O hO => (c3 E2c E2 hag2 p O).2 hO⟩
          have hcor2 := corr_sets b1 hover e.outs outs e.heap st.heap houts (fun k hk => fO k (g2 k (g4 k hk))) i j hij hcor
          rw [hlow j (by omega)] at hj
          rcases hcor2 with ⟨_, d2⟩ | ⟨x, y, d1, d2, d3⟩
          · rw [hj] at d2; cases d2
          · rw [hj] at d2
            injection d2 with d2
            subst d2
            have hin := g2 i hsm
            refine ⟨i, x, by rw [fO i hin]; exact hij, ?_, (hag2 i j hij).symm, d3⟩
            rw [Entry.after, hget_append, d1]
            cases hx : hget e.new i with
            | none => rfl
            | some z => have := (g3 i (by rw [hx]; rfl)).1; omega
        · cases hj
      · cases hj
  have hjdet : ∀ i j j', toState e r st.nxt i = some j → toState e r st.nxt i = some j' → j = j' := fun i j j' h1 h2 => by
    rw [h1] at h2; injection h2
  have hout : Out E small st.nxt w E2 res st'.nxt w2 := by
    refine ⟨fun id p hE => ?_, fun id hid => hE2old id (by omega), ⟨fun j o' hj => ?_, fun j j' p p' hj hj' hE hE' hb => ?_⟩, q2.size, fun b hb hn => ?_, fun j p hj hE => ?_, q2.tape, q2.os, q2.output, q2.rows⟩
    · simp only [E2]
      split
      · rename_i hr
        rw [hf id hr.1 hr.2] at hE
        cases hE
      · exact hE
    · obtain ⟨i, o, k1, k2, k3, k4⟩ := key j o' hj
      obtain ⟨p, O, s1, s2, s3⟩ := q2.sim.obj i o k2
      exact ⟨p, O, by rw [k3]; exact s1, s2, k4 p O s3⟩
    · obtain ⟨o, ho⟩ := Option.isSome_iff_exists.1 hj
      obtain ⟨o', ho'⟩ := Option.isSome_iff_exists.1 hj'
      obtain ⟨i, x, k1, k2, k3, _⟩ := key j o ho
      obtain ⟨i', x', k1', k2', k3', _⟩ := key j' o' ho'
      rw [k3] at hE
      rw [k3'] at hE'
      have := q2.sim.inj i i' p p' (by rw [k2]; rfl) (by rw [k2']; rfl) hE hE' hb
      subst this
      exact hjdet i j j' k1 k1'
    · refine q2.kept b hb fun i p hi hE => ?_
      obtain ⟨o, ho⟩ := Option.isSome_iff_exists.1 hi
      obtain ⟨j, o', c1, c2, _⟩ := hobj i o ho
      exact hn j p (by rw [hsmallI i j c1 hi, c2]; rfl) (by rw [← hag i j c1]; exact hE)
    · obtain ⟨o, ho⟩ := Option.isSome_iff_exists.1 hj
      obtain ⟨i, x, k1, k2, k3, _⟩ := key j o ho
      rw [k3] at hE
      rcases q2.new i p (by rw [k2]; rfl) hE with h | ⟨i0, p0, h1, h2, h3⟩
      · exact .inl h
      · obtain ⟨o0, ho0⟩ := Option.isSome_iff_exists.1 h1
        obtain ⟨j0, o0', c1, c2, _⟩ := hobj i0 o0 ho0
        exact .inr ⟨j0, p0, by rw [hsmallI i0 j0 c1 h1, c2]; rfl, by rw [← hag i0 j0 c1]; exact h2, h3⟩
  refine ⟨E2, w2, v2, hvv, hout.frame (H := hget st.heap) (H' := hget st'.heap) hs (fun id o ho => ?_) true (fun id hid => ?_) (fun h => by cases h) (fun id => ?_), q3⟩
  · obtain ⟨i, _, _, h3⟩ := hsmall id o ho
    exact h3
  · obtain ⟨o, ho⟩ := Option.isSome_iff_exists.1 hid
    obtain ⟨i, h1, _, _⟩ := hsmall id o ho
    exact (hp i id h1).2
  · split
    · rename_i hc
      simp only [Bool.true_and, Bool.or_eq_true, Bool.and_eq_true, decide_eq_true_eq] at hc
      rcases hc with hc | hc
      · simp only [res]; rw [if_pos hc.1]
      · obtain ⟨o, ho⟩ := Option.isSome_iff_exists.1 hc
        obtain ⟨i, h1, h2, _⟩ := hsmall id o ho
        have hlt := (hp i id h1).2
        simp only [res]
        rw [if_neg (by omega), (b1 i id).1 h1]
        simp only [h2, if_true]
    · rename_i hc
      simp only [Bool.true_and, Bool.or_eq_true, Bool.and_eq_true, decide_eq_true_eq, not_or] at hc
      rcases Nat.lt_or_ge id st.nxt with hid | hid
      · rw [hlow id hid]
        apply hsets_other
        intro k hk hkid
        subst hkid
        obtain ⟨i, h1, h2⟩ := houtk k hk
        obtain ⟨o0, ho0⟩ := Option.isSome_iff_exists.1 h1
        obtain ⟨j', o0', c1, c2, _⟩ := hobj i o0 ho0
        rw [h2] at c1
        injection c1 with c1
        subst c1
        exact hc.2 (by rw [hsmallI i k h2 h1, c2]; rfl)
      · have h1 : hget st.heap id = none := by
          cases hx : hget st.heap id with
          | none => rfl
          | some o => have := hl id (by rw [hx]; rfl); omega
        have h2 : hget st'.heap id = none := by
          cases hx : hget st'.heap id with
          | none => rfl
          | some o => have := hhi id hid (by rw [hx]; rfl); omega
        rw [h1, h2]

theorem useAll_ok {P : Program} {fuel : Nat} : ∀ (l : List Entry), (∀ e ∈ l, EntryOk P e) → ∀ f args st v st', useAll fuel f args st l = some (v, st') → Live st → Callable P f ∧ Abs st st' ∧
    ∀ E w args', Fresh E st.nxt st'.nxt → Sim E (hget st.heap) w → VL E args (Array.toList args') →
      ∃ E2 w2 v2, VR E2 v v2 ∧ Out E (hget st.heap) st.nxt w E2 (hget st'.heap) st'.nxt w2 ∧ Returns P (Frame.enter P f args' .normal) w v2 w2 := by
  intro l
  induction l with
  | nil => intro _ f args st v st' h; simp [useAll] at h
  | cons e l ih =>
    intro hl f args st v st' h hlive
    have ih' := ih (fun e he => hl e (by simp [he]))
    simp only [useAll, cond_bool] at h
    split at h
    · rename_i hb
      have hf := Nat.eq_of_beq_eq_true hb
      subst hf
      split at h
      · rename_i x hx
        injection h with h
        subst h
        exact use_ok (hl e (by simp)) hx hlive
      · exact ih' _ args st v st' h hlive
    · exact ih' f args st v st' h hlive
end Go.Ev

/- The evaluator: entries by running it; calls of the machine. -/
namespace Go.Ev

def idR : List Nat → Ren
  | [] => []
  | i :: l => (i, i) :: idR l

def isId : Ren → Bool
  | [] => true
  | (i, j) :: r => Nat.beq i j && isId r

theorem lk_idR : ∀ (l : List Nat) (i j : Nat), lk (idR l) i = some j ↔ i = j ∧ i ∈ l := by
  intro l
  induction l with
  | nil => intro i j; simp [idR, lk]
  | cons a l ih =>
    intro i j
    simp only [idR, lk_cons, List.mem_cons]
    split
    · rename_i h
      subst h
      simp
    · rename_i h
      rw [ih]
      constructor
      · rintro ⟨h1, h2⟩; exact ⟨h1, .inr h2⟩
      · rintro ⟨h1, h2 | h2⟩
        · exact absurd h2.symm h
        · exact ⟨h1, h2⟩

theorem rl_idR : ∀ (l : List Nat) (i j : Nat), rl (idR l) j = some i ↔ i = j ∧ i ∈ l := by
  intro l
  induction l with
  | nil => intro i j; simp [idR, rl]
  | cons a l ih =>
    intro i j
    simp only [idR, rl_cons, List.mem_cons]
    split
    · rename_i h
      subst h
      simp only [Option.some.injEq]
      constructor
      · intro e; subst e; exact ⟨rfl, .inl rfl⟩
      · rintro ⟨h1, _⟩; exact h1.symm
    · rename_i h
      rw [ih]
      constructor
      · rintro ⟨h1, h2⟩; exact ⟨h1, .inr h2⟩
      · rintro ⟨h1, h2 | h2⟩
        · subst h1 h2; exact absurd rfl h
        · exact ⟨h1, h2⟩

theorem WF_idR (l : List Nat) : WF (idR l) := fun i j => by rw [lk_idR, rl_idR]

theorem isId_spec : ∀ (r : Ren), isId r = true → ∀ i j, lk r i = some j → i = j := by
  intro r
  induction r with
  | nil => intro _ i j h; simp [lk] at h
  | cons x r ih =>
    intro h i j e
    obtain ⟨a, b⟩ := x
    simp only [isId, Bool.and_eq_true] at h
    rw [lk_cons] at e
    split at e
    · rename_i ha
      injection e with e
      subst ha e
      exact Nat.eq_of_beq_eq_true h.1
    · exact ih h.2 i j e

/-- The evaluator gives what the entry says. -/
def checkE (T : Tab) (N fuel : Nat) (e : Entry) : Bool :=
  e.good && match callFn T (fin T N) e.f e.args .normal { heap := e.heap, nxt := e.n, wr := e.n } with
    | some (v, st) => Nat.beq st.nxt e.nxt && match mL fuel [e.v] [v] (idR (keysOf e.after)) with
      | some r => match mH fuel e.after st.heap r with
        | some r => isId r
        | none => false
      | none => false
    | none => false

theorem checkE_ok {P : Program} {T : Tab} (hT : TabOk P T) (hS : SumOk P T) {N fuel : Nat} {e : Entry} (h : checkE T N fuel e = true) : EntryOk P e := by
  unfold checkE at h
  simp only [Bool.and_eq_true] at h
  obtain ⟨hg, h⟩ := h
  split at h
  case h_2 => cases h
  rename_i v st hc
  simp only [Bool.and_eq_true] at h
  obtain ⟨hn, h⟩ := h
  have hn := Nat.eq_of_beq_eq_true hn
  split at h
  case h_2 => cases h
  rename_i r1 hr1
  split at h
  case h_2 => cases h
  rename_i r hr
  have hid := isId_spec r h
  obtain ⟨a1, a2, a3⟩ := mL_ok _ _ _ _ _ hr1 (WF_idR _)
  obtain ⟨b1, b2, b3⟩ := mH_ok _ _ _ hr a1
  have hag : ∀ E : Env, Agree r E E := fun E i j hij => by rw [hid i j hij]
  have hl : Live { heap := e.heap, nxt := e.n, wr := e.n } := fun i hi => by
    have hgood := hg
    simp only [Entry.good, Bool.and_eq_true] at hgood
    have := allN_spec _ hgood.1.1.2 i ((mem_keysOf _ _).2 hi)
    simpa [Nat.blt_eq] using this
  obtain ⟨c1, c2, c3⟩ := callFn_ok' hT hS (fin_ok hT hS N) hc hl (.inl rfl)
  refine ⟨hg, c1, fun E w args' hf hs hv => ?_⟩
  obtain ⟨E2, w2, v2, q1, q2, q3⟩ := c3 E w args' (by rw [hn]; exact hf) hs hv
  rw [hn] at q2
  have hobj : ∀ i o, hget e.after i = some o → ∃ o', hget st.heap i = some o' ∧ ∀ p O, OR E2 p o' O ↔ OR E2 p o O := fun i o hi => by
    obtain ⟨j, o', h1, h2, h3⟩ := b3 i o (hget_mem hi)
    have := hid i j h1
    subst this
    exact ⟨o', h2, h3 E2 E2 (hag E2)⟩
  have hsome : ∀ i, (hget e.after i).isSome = true → (hget st.heap i).isSome = true := fun i hi => by
    obtain ⟨o, ho⟩ := Option.isSome_iff_exists.1 hi
    obtain ⟨o', h1, _⟩ := hobj i o ho
    rw [h1]; rfl
  refine ⟨E2, w2, v2, ?_, ⟨q2.le, q2.same, ⟨fun i o hi => ?_, fun i i' p p' hi hi' => q2.sim.inj i i' p p' (hsome i hi) (hsome i' hi')⟩, q2.size, q2.kept, fun i p hi => q2.new i p (hsome i hi), q2.tape, q2.os, q2.output, q2.rows⟩, q3⟩
  · have := ((a3.mono b2).list (hag E2) [v2]).1 (VL.cons q1 (VL.nil E2))
    exact this.uncons.1
  · obtain ⟨o', h1, h2⟩ := hobj i o hi
    obtain ⟨p, O, s1, s2, s3⟩ := q2.sim.obj i o' h1
    exact ⟨p, O, s1, s2, (h2 p O).1 s3⟩

/-- Tables with entries. -/
def Tab.with (T : Tab) (fuel : Nat) (l : List Entry) : Tab := { T with sum := fun f args st => useAll fuel f args st l }

theorem TabOk.with {P : Program} {T : Tab} (h : TabOk P T) (fuel : Nat) (l : List Entry) : TabOk P (T.with fuel l) := ⟨h.ty, h.fn, h.mixed⟩

theorem sum_with {P : Program} {T : Tab} {fuel : Nat} {l : List Entry} (h : ∀ e ∈ l, EntryOk P e) : SumOk P (T.with fuel l) :=
  fun f args st v st' hs hl => useAll_ok l h f args st v st' hs hl

/-- A function without parameters gives true. -/
def checkTop (T : Tab) (N : Nat) (f : FuncId) : Bool :=
  match T.fn f with
  | none => false
  | some r => match fin T N (enterA r f [] .normal) { heap := [], nxt := 0, wr := 0 } with
    | none => false
    | some (fe, se) => Nat.beq fe.fn f && match evResults T se fe.tmps r.results with
      | some [.bool b] => b
      | _ => false

theorem top_calls {P : Program} {T : Tab} (hT : TabOk P T) (hS : SumOk P T) {N : Nat} {f : FuncId} (h : checkTop T N f = true) (w : World) :
    Calls P f #[] w fun e w' => e = .returned (.bool true) ∧ RowKit.Below w.heap.size w w' := by
  unfold checkTop at h
  split at h
  · cases h
  rename_i r hr
  split at h
  · cases h
  rename_i fe se hfin
  simp only [Bool.and_eq_true] at h
  obtain ⟨hfe, h⟩ := h
  have hfe := Nat.eq_of_beq_eq_true hfe
  split at h
  case h_2 => cases h
  rename_i b hres
  subst h
  have hrow := hT.fn _ _ hr
  obtain ⟨a1, a2, a3, a4, a5⟩ := fin_ok hT hS N _ _ _ _ hfin (fun id hid => by simp [hget] at hid)
  have hround : fe.round = none := a4
  have hkind : fe.kind = .normal := a3
  have hfinal : fe.ret = true ∧ fe.defers = [] := by
    unfold Final at a2
    rw [hround] at a2
    exact a2
  obtain ⟨E2, w2, F2, q1, q2, q3⟩ := a5 (fun _ => none) w (Frame.enter P f #[] .normal) (fun _ _ _ => rfl) ⟨fun id o e => by simp [hget] at e, fun id id' p p' e => by simp [hget] at e⟩
    (enter_FR hrow (VL.nil _) .normal)
  obtain ⟨fn, f1, f2, f3, f4, f5⟩ := hrow.ok
  have hfn : F2.fn = f := by rw [q2.fn, hfe]
  have hdef : F2.defers = [] := by
    have := q2.defers
    rw [hfinal.2] at this
    exact this.nil_inv
  have hresult : (results fn F2.tmps).run P w2 = .ok (.bool true) w2 := by
    rw [← f4] at hres
    obtain ⟨l', r1, r2⟩ := results_ok (P := P) hT q2.tmps q1.sim _ _ hres
    obtain ⟨x', t', e1, r3, r4⟩ := r1.cons_inv
    have e2 := r4.nil_inv
    subst e2 e1
    have hx : x' = .bool true := (r3.bool_iff true).1 rfl
    subst hx
    rw [results_eq, Array.mapM_eq_mapM_toList]
    simp only [Sem.run_bind, Sem.run_map, r2, Result.andThen_ok, Sem.run_pure]
    simp
  intro cs
  refine ⟨.returned (.bool true), w2, F2, ⟨rfl, q1.os, q1.tape, q1.output, q1.size, fun k hk => q1.kept k hk fun id p e => by simp [hget] at e⟩, q3 cs, hfn, ?_, hdef, ?_, fn, ?_, hresult⟩
  · rw [q2.mode, hfinal.1]; rfl
  · rw [q2.kind, hkind]
  · rw [hfn]; exact f1

/-- The same, with one world for all callers. -/
theorem top_returns {P : Program} {T : Tab} (hT : TabOk P T) (hS : SumOk P T) {N : Nat} {f : FuncId} (h : checkTop T N f = true) (w : World) :
    Callable P f ∧ ∃ w2, RowKit.Below w.heap.size w w2 ∧ Returns P (Frame.enter P f #[] .normal) w (.bool true) w2 := by
  unfold checkTop at h
  split at h
  · cases h
  rename_i r hr
  split at h
  · cases h
  rename_i fe se hfin
  simp only [Bool.and_eq_true] at h
  obtain ⟨hfe, h⟩ := h
  have hfe := Nat.eq_of_beq_eq_true hfe
  split at h
  case h_2 => cases h
  rename_i b hres
  subst h
  have hrow := hT.fn _ _ hr
  obtain ⟨a1, a2, a3, a4, a5⟩ := fin_ok hT hS N _ _ _ _ hfin (fun id hid => by simp [hget] at hid)
  have hround : fe.round = none := a4
  have hkind : fe.kind = .normal := a3
  have hfinal : fe.ret = true ∧ fe.defers = [] := by
    unfold Final at a2
    rw [hround] at a2
    exact a2
  obtain ⟨E2, w2, F2, q1, q2, q3⟩ := a5 (fun _ => none) w (Frame.enter P f #[] .normal) (fun _ _ _ => rfl) ⟨fun id o e => by simp [hget] at e, fun id id' p p' e => by simp [hget] at e⟩
    (enter_FR hrow (VL.nil _) .normal)
  obtain ⟨fn, f1, f2, f3, f4, f5⟩ := hrow.ok
  have hfn : F2.fn = f := by rw [q2.fn, hfe]
  have hdef : F2.defers = [] := by
    have := q2.defers
    rw [hfinal.2] at this
    exact this.nil_inv
  have hresult : (results fn F2.tmps).run P w2 = .ok (.bool true) w2 := by
    rw [← f4] at hres
    obtain ⟨l', r1, r2⟩ := results_ok (P := P) hT q2.tmps q1.sim _ _ hres
    obtain ⟨x', t', e1, r3, r4⟩ := r1.cons_inv
    have e2 := r4.nil_inv
    subst e2 e1
    have hx : x' = .bool true := (r3.bool_iff true).1 rfl
    subst hx
    rw [results_eq, Array.mapM_eq_mapM_toList]
    simp only [Sem.run_bind, Sem.run_map, r2, Result.andThen_ok, Sem.run_pure]
    simp
  have hm : F2.mode = .returning := by rw [q2.mode, hfinal.1]; rfl
  have hk : F2.kind = .normal := by rw [q2.kind, hkind]
  refine ⟨hrow.callable, w2, ⟨q1.os, q1.tape, q1.output, q1.size, fun k hk => q1.kept k hk fun id p e => by simp [hget] at e⟩, Returns.of_goes q3 hk fun c cs => ?_⟩
  have := step_leaveN (c := c) (cs := cs) hm hdef (by rw [hfn]; exact f1) hresult
  exact ⟨fun hk => Steps.one (this.1 hk), fun hk hc => Steps.one (this.2 hk hc)⟩
end Go.Ev

/- The evaluator: how a program's tables are checked. -/
namespace Go.Ev

/-- Equal values without numbers of objects. -/
def eqPl : Nat → List Value → List Value → Bool
  | 0, _, _ => false
  | _ + 1, [], [] => true
  | n + 1, p :: ps, a :: as =>
    match p, a with
    | .bool b, .bool c => (b == c) && eqPl n ps as
    | .int k x, .int k' x' => (decide (k = k') && decide (x = x')) && eqPl n ps as
    | .string s, .string t => bytesEq s.data.toList t.data.toList && eqPl n ps as
    | .nilFunc, .nilFunc => eqPl n ps as
    | .nilIface, .nilIface => eqPl n ps as
    | .pointer none, .pointer none => eqPl n ps as
    | .map none, .map none => eqPl n ps as
    | .slice none x c, .slice none x' c' => (Nat.beq x x' && Nat.beq c c') && eqPl n ps as
    | .agg x, .agg x' => eqPl n x.toList x'.toList && eqPl n ps as
    | .tuple x, .tuple x' => eqPl n x.toList x'.toList && eqPl n ps as
    | _, _ => false
  | _, _, _ => false

theorem eqPl_ok : ∀ (n : Nat) (l m : List Value), eqPl n l m = true → l = m := by
  intro n
  induction n with
  | zero => intro l m h; simp [eqPl] at h
  | succ n ih =>
    intro l m h
    match l, m, h with
    | [], [], _ => rfl
    | [], _ :: _, h => simp [eqPl] at h
    | _ :: _, [], h => simp [eqPl] at h
    | p :: ps, a :: as, h =>
      unfold eqPl at h
      split at h
      · simp only [Bool.and_eq_true] at h
        rw [eq_of_beq h.1, ih _ _ h.2]
      · simp only [Bool.and_eq_true, decide_eq_true_eq] at h
        obtain ⟨⟨rfl, rfl⟩, h2⟩ := h
        rw [ih _ _ h2]
      · rename_i s t
        simp only [Bool.and_eq_true] at h
        obtain ⟨h1, h2⟩ := h
        rw [bytesEq_iff] at h1
        have h1 := eq_of_beq h1
        have hst : s = t := by
          obtain ⟨⟨s⟩⟩ := s
          obtain ⟨⟨t⟩⟩ := t
          simp only at h1
          rw [h1]
        rw [hst, ih _ _ h2]
      · rw [ih _ _ h]
      · rw [ih _ _ h]
      · rw [ih _ _ h]
      · rw [ih _ _ h]
      · simp only [Bool.and_eq_true] at h
        obtain ⟨⟨h1, h2⟩, h3⟩ := h
        rw [Nat.eq_of_beq_eq_true h1, Nat.eq_of_beq_eq_true h2, ih _ _ h3]
      · rename_i x x'
        simp only [Bool.and_eq_true] at h
        have : x = x' := Array.ext' (ih _ _ h.1)
        rw [this, ih _ _ h.2]
      · rename_i x x'
        simp only [Bool.and_eq_true] at h
        have : x = x' := Array.ext' (ih _ _ h.1)
        rw [this, ih _ _ h.2]
      · cases h

def fldsB (P : Program) : List Fld → List Field → Bool
  | [], [] => true
  | fl :: l, f :: m => Nat.beq fl.off f.offset && (match P.info? f.type with | some info => Nat.beq info.size fl.size | none => false) &&
      (match P.underlying f.type with | some d => isAggD d == fl.agg | none => false) && fldsB P l m
  | _, _ => false

def tdB (P : Program) (zv : Value) (td : TD) (d : TypeDesc) : Bool :=
  match td, d with
  | .int, .int k => match zv with | .int k' _ => decide (k = k') | _ => false
  | .str, .string => true
  | .bool, .bool => true
  | .ptr, .pointer _ => true
  | .sl e, .slice e' => Nat.beq e e'
  | .map k e, .map k' e' => Nat.beq k k' && Nat.beq e e'
  | .struct fs, .struct fields => fldsB P fs fields.toList
  | .arr n e, .array n' e' => Nat.beq n n' && Nat.beq e e' && (P.info? e).isSome
  | .other, _ => true
  | _, _ => false

def tyB (P : Program) (t : TypeId) (r : TyRow) : Bool :=
  match P.info? t with
  | none => false
  | some i => Nat.beq i.size r.size && Nat.beq i.bytes r.bytes && (match i.zero with | some z => eqPl 60 [z] [r.zv] | none => false) &&
    match P.underlying t with
    | none => false
    | some d => (isAggD d == r.agg) && tdB P r.zv r.td d && plainV 9 r.zv && Nat.beq (cellsL r.zv).length r.size && (cellsL r.zv).all oneC

theorem fldsB_ok {P : Program} : ∀ (l : List Fld) (m : List Field), fldsB P l m = true → l.length = m.length ∧ ∀ (i : Nat) (fl : Fld) (f : Field), l[i]? = some fl → m[i]? = some f →
    fl.off = f.offset ∧ (∃ info, P.info? f.type = some info ∧ info.size = fl.size) ∧ ∃ d, P.underlying f.type = some d ∧ isAggD d = fl.agg := by
  intro l
  induction l with
  | nil =>
    intro m h
    cases m with
    | nil => exact ⟨rfl, fun i fl f h => by simp at h⟩
    | cons f m => simp [fldsB] at h
  | cons fl l ih =>
    intro m h
    cases m with
    | nil => simp [fldsB] at h
    | cons f m =>
      simp only [fldsB, Bool.and_eq_true] at h
      obtain ⟨⟨⟨h1, h2⟩, h3⟩, h4⟩ := h
      obtain ⟨k1, k2⟩ := ih m h4
      refine ⟨by simp [k1], fun i x y e1 e2 => ?_⟩
      cases i with
      | zero =>
        simp only [List.getElem?_cons_zero, Option.some.injEq] at e1 e2
        subst e1 e2
        refine ⟨Nat.eq_of_beq_eq_true h1, ?_, ?_⟩
        · split at h2
          · rename_i info hi
            exact ⟨info, hi, Nat.eq_of_beq_eq_true h2⟩
          · cases h2
        · split at h3
          · rename_i d hd
            exact ⟨d, hd, eq_of_beq h3⟩
          · cases h3
      | succ i =>
        simp only [List.getElem?_cons_succ] at e1 e2
        exact k2 i x y e1 e2

theorem tdB_ok {P : Program} {zv : Value} {td : TD} {d : TypeDesc} (h : tdB P zv td d = true) : TDOk P zv td d := by
  unfold tdB at h
  split at h
  · split at h
    · simp only [decide_eq_true_eq] at h
      subst h
      exact ⟨_, _, rfl, rfl⟩
    · cases h
  · exact rfl
  · exact rfl
  · exact ⟨_, rfl⟩
  · have := Nat.eq_of_beq_eq_true h
    subst this
    exact rfl
  · simp only [Bool.and_eq_true] at h
    have h1 := Nat.eq_of_beq_eq_true h.1
    have h2 := Nat.eq_of_beq_eq_true h.2
    subst h1 h2
    exact rfl
  · obtain ⟨h1, h2⟩ := fldsB_ok _ _ h
    exact ⟨_, rfl, by simpa using h1, fun i fl f e1 e2 => h2 i fl f e1 (by simpa using e2)⟩
  · simp only [Bool.and_eq_true] at h
    obtain ⟨⟨h1, h2⟩, h3⟩ := h
    have h1 := Nat.eq_of_beq_eq_true h1
    have h2 := Nat.eq_of_beq_eq_true h2
    subst h1 h2
    exact ⟨rfl, Option.isSome_iff_exists.1 h3⟩
  · exact trivial
  · cases h

theorem tyB_ok {P : Program} {t : TypeId} {r : TyRow} (h : tyB P t r = true) : TyOk P t r := by
  unfold tyB at h
  split at h
  · cases h
  rename_i i hi
  simp only [Bool.and_eq_true] at h
  obtain ⟨⟨⟨h1, h2⟩, h3⟩, h⟩ := h
  split at h
  · cases h
  rename_i d hd
  simp only [Bool.and_eq_true] at h
  obtain ⟨⟨⟨⟨h4, h5⟩, h6⟩, h7⟩, h8⟩ := h
  refine ⟨⟨i, hi, Nat.eq_of_beq_eq_true h1, Nat.eq_of_beq_eq_true h2, ?_⟩, ⟨d, hd, eq_of_beq h4, tdB_ok h5⟩, ⟨9, h6⟩, Nat.eq_of_beq_eq_true h7, h8⟩
  split at h3
  · rename_i z hz
    have := eqPl_ok _ _ _ h3
    injection this with this
    rw [hz, this]
  · cases h3

/-! ### tables as tries -/
def TrAll {α : Type} (p : Nat → α → Prop) : Tr α → Nat → Nat → Prop
  | .leaf, _, _ => True
  | .node l v r, k, s => TrAll p l (k + s) (2 * s) ∧ (match v with | some a => p k a | none => True) ∧ TrAll p r (k + 2 * s) (2 * s)

theorem TrAll.get {α : Type} {p : Nat → α → Prop} : ∀ (t : Tr α) (k s d n : Nat) (a : α), TrAll p t k s → t.get d n = some a → p (k + s * n) a := by
  intro t
  induction t with
  | leaf => intro k s d n a _ h; cases d <;> simp [Tr.get] at h
  | node l v r ihl ihr =>
    intro k s d n a ha h
    cases d with
    | zero => simp [Tr.get] at h
    | succ d =>
      obtain ⟨h1, h2, h3⟩ := ha
      simp only [Tr.get, cond_bool] at h
      split at h
      · rename_i hn
        have := Nat.eq_of_beq_eq_true hn
        subst this
        rw [h] at h2
        simpa using h2
      · rename_i hn
        have hn0 : n ≠ 0 := fun e => hn (by rw [e]; rfl)
        split at h
        · rename_i hm
          have hm := Nat.eq_of_beq_eq_true hm
          have := ihr _ _ _ _ _ h3 h
          rw [show k + 2 * s + 2 * s * (n / 2 - 1) = k + s * n by
            obtain ⟨q, hq⟩ : ∃ q, n = 2 * q + 2 := ⟨n / 2 - 1, by omega⟩
            subst hq
            rw [show (2 * q + 2) / 2 - 1 = q by omega, Nat.mul_add, ← Nat.mul_assoc, Nat.mul_comm s 2]
            omega] at this
          exact this
        · rename_i hm
          have hm : ¬ n % 2 = 0 := fun e => hm (by rw [e]; rfl)
          have := ihl _ _ _ _ _ h1 h
          rw [show k + s + 2 * s * (n / 2) = k + s * n by
            obtain ⟨q, hq⟩ : ∃ q, n = 2 * q + 1 := ⟨n / 2, by omega⟩
            subst hq
            rw [show (2 * q + 1) / 2 = q by omega, Nat.mul_add, ← Nat.mul_assoc, Nat.mul_comm s 2]
            omega] at this
          exact this

def trB {α : Type} (p : Nat → α → Bool) : Tr α → Nat → Nat → Bool
  | .leaf, _, _ => true
  | .node l v r, k, s => trB p l (k + s) (2 * s) && (match v with | some a => p k a | none => true) && trB p r (k + 2 * s) (2 * s)

theorem trB_ok {α : Type} {p : Nat → α → Bool} : ∀ (t : Tr α) (k s : Nat), trB p t k s = true → TrAll (fun n a => p n a = true) t k s := by
  intro t
  induction t with
  | leaf => intro k s _; trivial
  | node l v r ihl ihr =>
    intro k s h
    simp only [trB, Bool.and_eq_true] at h
    refine ⟨ihl _ _ h.1.1, ?_, ihr _ _ h.2⟩
    cases v with
    | none => trivial
    | some a => exact h.1.2

def rowF (f : Func) : FnRow := { ntmps := f.ntmps, body := match f.body with | some c => c | none => .skip, results := f.results.toList }

def fnB (f : Func) : Bool := f.body.isSome && !(f.name == "runtime.NumGoroutine")

theorem fnOk {P : Program} {f : FuncId} {fn : Func} (h : P.funcs[f]? = some fn) (hb : fnB fn = true) : FnOk P f (rowF fn) := by
  unfold fnB at hb
  simp only [Bool.and_eq_true, Bool.not_eq_true'] at hb
  obtain ⟨c, hc⟩ := Option.isSome_iff_exists.1 hb.1
  exact ⟨fn, h, rfl, by simp [rowF, hc], rfl, hb.2⟩

def tabT (ty : Tr TyRow) (fn : Tr FnRow) : Tab := { ty := fun t => ty.get 12 t, fn := fun f => fn.get 12 f, sum := fun _ _ _ => none }

theorem tabT_ok {P : Program} {ty : Tr TyRow} {fn : Tr FnRow} (h1 : trB (tyB P) ty 0 1 = true) (h2 : TrAll (FnOk P) fn 0 1) (h3 : P.follows .mixedOrders = true) : TabOk P (tabT ty fn) :=
  ⟨fun t r h => by
    have := (trB_ok _ _ _ h1).get _ _ _ _ _ _ h
    rw [Nat.zero_add, Nat.one_mul] at this
    exact tyB_ok this, fun f r h => by
    have := h2.get _ _ _ _ _ _ h
    rw [Nat.zero_add, Nat.one_mul] at this
    exact this, h3⟩
end Go.Ev
