/- The law of bounds: what its functions compute, first part, and plain counting. -/
import Derived.Test.YtpaeganfehemnaaGreatBor
import Derived.Test.YtpaeganfehemnaaGreatSyb

namespace Go.Ev
open Go.Proofs

def plainB : Option (Nat × Nat) → Option Addr
  | none => none
  | some p => some ⟨p.1, p.2, none⟩
@[simp] theorem plainB_none : plainB none = none := rfl
@[simp] theorem plainB_some (b o : Nat) : plainB (some (b, o)) = some ⟨b, o, none⟩ := rfl

/-- A slice value that stands for a list, one cell an element. -/
def SlOf {α : Type} (C : Heap → Value → α → Prop) (h : Heap) (v : Value) (l : List α) : Prop :=
  (l = [] ∧ ∃ a, v = .iface 1 (.slice (some a) 0 0)) ∨ ∃ a cap, v = .slice (plainB a) l.length cap ∧ l.length ≤ cap ∧ cap ≤ 9223372036854775807 ∧
    (l ≠ [] → ∃ b off, a = some (b, off) ∧ ∀ j (hj : j < l.length), ∃ u, cellAt h b (off + j) = some u ∧ C h u l[j])

def IntC (_ : Heap) (u : Value) (x : Int) : Prop := u = .int .i64 x
abbrev Ints := SlOf IntC
abbrev Tabs := SlOf Ints
abbrev Sch := SlOf Tabs

def KeepsC {α : Type} (C : Heap → Value → α → Prop) : Prop := ∀ {a s : St}, Keeps a s → ∀ {v : Value} {x : α}, C a.heap v x → C s.heap v x

theorem SlOf.keeps {α : Type} {C : Heap → Value → α → Prop} (hC : KeepsC C) : KeepsC (SlOf C) := by
  intro a s h v l hs
  rcases hs with hs | ⟨x, cap, h1, h2, h3, h4⟩
  · exact .inl hs
  · exact .inr ⟨x, cap, h1, h2, h3, fun hn => let ⟨b, off, h5, h6⟩ := h4 hn; ⟨b, off, h5, fun j hj => let ⟨u, g1, g2⟩ := h6 j hj; ⟨u, h.cell g1, hC h g2⟩⟩⟩

theorem IntC.keeps : KeepsC IntC := fun _ _ _ h => h
theorem Ints.keeps {a s : St} (h : Keeps a s) {v : Value} {l : List Int} (hs : Ints a.heap v l) : Ints s.heap v l := SlOf.keeps IntC.keeps h hs
theorem Tabs.keeps {a s : St} (h : Keeps a s) {v : Value} {l : List (List Int)} (hs : Tabs a.heap v l) : Tabs s.heap v l := SlOf.keeps (SlOf.keeps IntC.keeps) h hs
theorem Sch.keeps {a s : St} (h : Keeps a s) {v : Value} {l : List (List (List Int))} (hs : Sch a.heap v l) : Sch s.heap v l := SlOf.keeps (SlOf.keeps (SlOf.keeps IntC.keeps)) h hs

section
variable {α : Type} {C : Heap → Value → α → Prop} {h : Heap} {v : Value} {l : List α}

theorem SlOf.one (hs : SlOf C h v l) : oneC v = true := by rcases hs with ⟨_, a, rfl⟩ | ⟨a, cap, rfl, _⟩ <;> rfl
theorem SlOf.max (hs : SlOf C h v l) : l.length ≤ 9223372036854775807 := by
  rcases hs with ⟨rfl, _⟩ | ⟨a, cap, rfl, h1, h2, _⟩
  · simp
  · omega
theorem SlOf.len (hs : SlOf C h v l) {t e : TypeId} {a b : Nat} {c : Bool} {z : Value} (ht : oT.ty t = some ⟨.sl e, a, b, c, z⟩) (s : St) : evLenM oT s t v = some (.int .i64 l.length) := by
  rcases hs with ⟨rfl, a, rfl⟩ | ⟨a, cap, rfl, _⟩
  · simp [evLenM, ht, goInt]
  · exact len_sl ht _ _ _ _
theorem SlOf.at_ (hs : SlOf C h v l) {t e : TypeId} {a b by_ : Nat} {c : Bool} {td : TD} {z z' : Value} (ht : oT.ty t = some ⟨.sl e, a, b, c, z⟩) (hr : oT.ty e = some ⟨td, 1, by_, false, z'⟩) {k : Nat} (hk : k < l.length) :
    ∃ p o u, evIndexAddr oT t v (.int .i64 k) = some (.pointer (some ⟨p, o, none⟩)) ∧ cellAt h p o = some u ∧ C h u l[k] := by
  rcases hs with ⟨rfl, _⟩ | ⟨a, cap, rfl, h1, h2, h3⟩
  · simp at hk
  obtain ⟨b, off, rfl, hc⟩ := h3 (by rintro rfl; simp at hk)
  obtain ⟨u, g1, g2⟩ := hc k hk
  exact ⟨b, off + k, u, by rw [plainB_some, ia_sl ht hr _ _ _ _ _ _ (by omega) (by omega)]; simp, g1, g2⟩
end

section
variable {h : Heap} {v : Value}
theorem Ints.len {l : List Int} (hs : Ints h v l) (s : St) : evLenM oT s 25 v = some (.int .i64 l.length) := SlOf.len hs ty25 s
theorem Tabs.len {l : List (List Int)} (hs : Tabs h v l) (s : St) : evLenM oT s 36 v = some (.int .i64 l.length) := SlOf.len hs ty36 s
theorem Sch.len {l : List (List (List Int))} (hs : Sch h v l) (s : St) : evLenM oT s 67 v = some (.int .i64 l.length) := SlOf.len hs ty67 s
theorem Ints.at_ {l : List Int} (hs : Ints h v l) {k : Nat} (hk : k < l.length) : ∃ p o, evIndexAddr oT 25 v (.int .i64 k) = some (.pointer (some ⟨p, o, none⟩)) ∧ cellAt h p o = some (.int .i64 l[k]) := by
  obtain ⟨p, o, u, h1, h2, h3⟩ := SlOf.at_ hs ty25 ty3 hk
  have h3 : u = .int .i64 l[k] := h3
  subst h3
  exact ⟨p, o, h1, h2⟩
theorem Tabs.at_ {l : List (List Int)} (hs : Tabs h v l) {k : Nat} (hk : k < l.length) : ∃ p o u, evIndexAddr oT 36 v (.int .i64 k) = some (.pointer (some ⟨p, o, none⟩)) ∧ cellAt h p o = some u ∧ Ints h u l[k] := SlOf.at_ hs ty36 ty25 hk
theorem Sch.at_ {l : List (List (List Int))} (hs : Sch h v l) {k : Nat} (hk : k < l.length) : ∃ p o u, evIndexAddr oT 67 v (.int .i64 k) = some (.pointer (some ⟨p, o, none⟩)) ∧ cellAt h p o = some u ∧ Tabs h u l[k] := SlOf.at_ hs ty67 ty36 hk
end

/-! ### small functions -/
theorem pick_q (n : Int) (st : St) : ∃ r : Int, 0 ≤ r ∧ r ≤ 40 ∧ Quiet 30 [.int .i64 n, .int .i64 41] st (.int .i64 r) := by
  have h1 := Int.tmod_lt_of_pos n (show (0 : Int) < 41 by decide)
  have h2 := Int.lt_tmod_of_pos n (show (0 : Int) < 41 by decide)
  refine ⟨if n.tmod 41 < 0 then n.tmod 41 + 41 else n.tmod 41, by split <;> omega, by split <;> omega, Quiet.of fun hl => ?_⟩
  apply r30
  unfold R30
  have hrem : evBin oT .rem 3 (.int .i64 n) (.int .i64 41) = some (.int .i64 (n.tmod 41)) := rfl
  rw [hrem]
  by_cases hneg : n.tmod 41 < 0
  · simp [hneg, Keeps.refl, i64_wrap _ (show -9223372036854775808 ≤ n.tmod 41 + 41 ∧ n.tmod 41 + 41 ≤ 9223372036854775807 by omega)]
  · simp [hneg, Keeps.refl]

def guestsB (n : Int) : Bool := decide (1 ≤ n) && decide (n ≤ 64)
theorem guests_q (n : Int) (st : St) : Quiet 89 [.int .i64 n] st (.bool (guestsB n)) := Quiet.of fun hl => by
  apply r89
  unfold R89 guestsB
  by_cases h : 1 ≤ n <;> simp [h, Keeps.refl]

/-- Do sizes fit? -/
def fitGo : Int → List Int → Bool
  | left, [] => decide (left = 0)
  | left, k :: l => cond (decide (k < 1) || decide (left < k)) false (fitGo (left - k) l)
def fitB (n : Int) (l : List Int) : Bool := guestsB n && fitGo n l
end Go.Ev

namespace Go.Ev
open Go.Proofs

theorem drop_at {α : Type} {l : List α} {k : Nat} (h : k < l.length) : l.drop k = l[k] :: l.drop (k + 1) := List.drop_eq_getElem_cons h

theorem fit_q {st : St} {v : Value} {l : List Int} (h : Ints st.heap v l) {n : Int} (h0 : 0 ≤ n) (h1 : n ≤ 64) : Quiet 90 [.int .i64 n, v] st (.bool (fitB n l)) := Quiet.of fun hl => by
  have hm := SlOf.max h
  apply r90
  unfold R90
  rw [h.len, B_some]
  refine Lp.ind (fun m xs t => ∃ (k : Nat) (left : Int), k + m = l.length ∧ fitGo n l = fitGo left (l.drop k) ∧ 0 ≤ left ∧ left ≤ 64 ∧ xs = [.int .i64 left, .int .i64 k] ∧ st = t) ?_ l.length ⟨0, n, by omega, rfl, h0, h1, rfl, rfl⟩
  rintro m _ _ ⟨k, left, hk, hf, hl0, hl1, rfl, rfl⟩
  simp only [L90_0, nth]
  by_cases hlt : k < l.length
  · obtain ⟨p, o, q1, q2⟩ := h.at_ hlt
    rw [drop_at hlt] at hf
    have hkl : (k : Int) < (l.length : Int) := by omega
    simp [hkl, q1, q2]
    by_cases ha : l[k] < 1
    · have : fitB n l = false := by simp [fitB, hf, fitGo, ha]
      simp [ha, this, Keeps.refl]
    · by_cases hb : left < l[k]
      · have : fitB n l = false := by simp [fitB, hf, fitGo, hb]
        simp [ha, hb, this, Keeps.refl]
      · simp [ha, hb]
        refine ⟨m - 1, by omega, k + 1, by omega, left - l[k], ?_, by omega, by omega, by rw [i64_wrap _ (by omega)], by rw [i64_wrap _ (by omega)]; simp⟩
        rw [hf]
        simp [fitGo, ha, hb]
  · have hkk : k = l.length := by omega
    subst hkk
    simp
    refine (guests_q n st).P fun m2 hm2 => ?_
    have hf2 : fitGo n l = decide (left = 0) := by rw [hf]; simp [fitGo]
    have hk2 : Keeps st (st.upto m2) := (Keeps.refl st).upto hm2
    cases hg : guestsB n
    · simp [fitB, hg, hk2]
    · simp [fitB, hg, hf2, hk2]

/-- How many pairs meet on an evening with sizes. -/
def metN : List Int → Int
  | [] => 0
  | k :: l => (k * (k - 1)).tdiv 2 + metN l

theorem metN_append (a b : List Int) : metN (a ++ b) = metN a + metN b := by
  induction a with
  | nil => simp [metN]
  | cons x a ih => simp only [List.cons_append, metN, ih]; omega

theorem met_one {k : Int} (h1 : 1 ≤ k) (h2 : k ≤ 24) : 0 ≤ k * (k - 1) ∧ k * (k - 1) ≤ 552 := by
  have a : 0 ≤ k * (k - 1) := Int.mul_nonneg (by omega) (by omega)
  have b : k * (k - 1) ≤ 24 * (k - 1) := Int.mul_le_mul_of_nonneg_right h2 (by omega)
  omega

theorem metN_le {l : List Int} (h : ∀ k ∈ l, 1 ≤ k ∧ k ≤ 24) : 0 ≤ metN l ∧ metN l ≤ 276 * l.length := by
  induction l with
  | nil => simp [metN]
  | cons k l ih =>
    obtain ⟨a, b⟩ := h k (by simp)
    obtain ⟨c, d⟩ := met_one a b
    obtain ⟨e, f⟩ := ih fun x hx => h x (by simp [hx])
    have g : (k * (k - 1)).tdiv 2 = (k * (k - 1)) / 2 := Int.tdiv_eq_ediv_of_nonneg c
    simp only [metN, g, List.length_cons]
    omega

theorem met_q {st : St} {v : Value} {l : List Int} (h : Ints st.heap v l) (hs : ∀ k ∈ l, 1 ≤ k ∧ k ≤ 24) (hlen : l.length ≤ 20) : Quiet 96 [v] st (.int .i64 (metN l)) := Quiet.of fun hl => by
  apply r96
  unfold R96
  rw [h.len, B_some]
  refine Lp.ind (fun m xs t => ∃ k : Nat, k + m = l.length ∧ xs = [.int .i64 (metN (l.take k)), .int .i64 k] ∧ st = t) ?_ l.length ⟨0, by omega, by simp [metN], rfl⟩
  rintro m _ _ ⟨k, hk, rfl, rfl⟩
  simp only [L96_0, nth]
  by_cases hlt : k < l.length
  · obtain ⟨p, o, q1, q2⟩ := h.at_ hlt
    have hkl : (k : Int) < (l.length : Int) := by omega
    obtain ⟨a, b⟩ := hs _ (List.getElem_mem hlt)
    obtain ⟨c, d⟩ := met_one a b
    have g : (l[k] * (l[k] - 1)).tdiv 2 = (l[k] * (l[k] - 1)) / 2 := Int.tdiv_eq_ediv_of_nonneg c
    obtain ⟨e, f⟩ := metN_le (l := l.take k) fun x hx => hs x (List.mem_of_mem_take hx)
    have hlk : (l.take k).length = k := by rw [List.length_take]; omega
    rw [hlk] at f
    have hq : evBin oT .quo 3 (.int .i64 (l[k] * (l[k] - 1))) (.int .i64 2) = some (.int .i64 ((l[k] * (l[k] - 1)) / 2)) := by
      show some (Value.int .i64 (IntKind.i64.wrap ((l[k] * (l[k] - 1)).tdiv 2))) = _
      rw [g, i64_wrap _ (by omega)]
    simp [hkl, q1, q2, i64_wrap _ (show -9223372036854775808 ≤ l[k] - 1 ∧ l[k] - 1 ≤ 9223372036854775807 by omega), i64_wrap _ (show -9223372036854775808 ≤ l[k] * (l[k] - 1) ∧ l[k] * (l[k] - 1) ≤ 9223372036854775807 by omega), hq]
    refine ⟨m - 1, by omega, k + 1, by omega, ?_, ?_⟩
    · rw [List.take_add_one, List.getElem?_eq_getElem hlt, metN_append]
      simp only [Option.toList_some, metN, g, Int.add_zero]
      rw [i64_wrap _ (by omega)]
    · rw [i64_wrap _ (by omega)]; simp
  · have hkk : k = l.length := by omega
    subst hkk
    simp [Keeps.refl]
end Go.Ev

namespace Go.Ev
open Go.Proofs

theorem Keeps.putB {a s : St} (h : Keeps a s) (hl : Live a) {N : Nat} (hN : a.nxt ≤ N) (o : Obj) : Keeps a (s.put N o) :=
  ⟨h.nxt, fun id x e => by
    have h1 := hl id (by rw [e]; rfl)
    have h2 := h.sub id x e
    simp only [St.put, hget_hset]
    rw [if_neg (by omega)]
    exact h2⟩
theorem Live.putB {s : St} (h : Live s) {N : Nat} {o0 : Obj} (hg : hget s.heap N = some o0) (o : Obj) : Live (s.put N o) := (Abs.put s N o hg).live h

theorem setN_at : ∀ (c : List Value) (k : Nat) (v : Value), k < c.length → oneC v = true → setN c k [v] = some (c.set k v) := by
  intro c
  induction c with
  | nil => intro k v h; simp at h
  | cons a c ih =>
    intro k v h hv
    cases k with
    | zero => simp [setN, overN, hv]
    | succ k => simp only [setN, ih k v (by simpa using h) hv, List.set_cons_succ]

/-- A row of the call's own. -/
def RowOf {α : Type} (f : α → Value) (s : St) (N : Nat) (l : List α) : Prop := ∃ e, hget s.heap N = some (.cells ⟨l.map f⟩ e)

section
variable {α : Type} {f : α → Value} {s : St} {N : Nat} {l : List α}

theorem RowOf.at_ (hf : ∀ a, oneC (f a) = true) (h : RowOf f s N l) {k : Nat} (hk : k < l.length) : cellAt s.heap N k = some (f l[k]) := by
  obtain ⟨e, h⟩ := h
  simp only [cellAt, h]
  refine getC_of ?_ (oneC_hole (hf _))
  rw [List.getElem?_map, List.getElem?_eq_getElem hk]
  rfl

theorem RowOf.store (hf : ∀ a, oneC (f a) = true) (h : RowOf f s N l) {k : Nat} (hk : k < l.length) (x : α) {t : TypeId} {td : TD} {by_ : Nat} {z : Value} (ht : oT.ty t = some ⟨td, 1, by_, false, z⟩) :
    ∃ o, evStoreU oT s t (.pointer (some ⟨N, k, none⟩)) (f x) = some (undef, s.put N o) ∧ RowOf f (s.put N o) N (l.set k x) := by
  obtain ⟨e, h⟩ := h
  have hc : cellsL (f x) = [f x] := by
    have := hf x
    cases hx : f x <;> first | rfl | (rw [hx] at this; simp [oneC] at this; done)
  have h1 : setN (l.map f) k (cellsL (f x)) = some ((l.set k x).map f) := by
    rw [hc, setN_at _ _ _ (by simpa using hk) (hf x), List.map_set]
  have h2 : Nat.beq (cellsL (f x)).length 1 = true := by rw [hc]; rfl
  refine ⟨.cells ⟨(l.set k x).map f⟩ e, ?_, e, ?_⟩
  · simp only [evStoreU, evStore, hopen_of h, ht, h1, h2, cond_true]
  · rw [hget_put _ _ _ h]; simp

theorem RowOf.upto (h : RowOf f s N l) (m : Nat) : RowOf f (s.upto m) N l := h
theorem RowOf.live (h : RowOf f s N l) (hl : Live s) : N < s.nxt := by obtain ⟨e, h⟩ := h; exact hl N (by rw [h]; rfl)
theorem RowOf.keeps {a : St} (h : RowOf f a N l) (k : Keeps a s) : RowOf f s N l := by obtain ⟨e, h⟩ := h; exact ⟨e, k.sub _ _ h⟩
end

abbrev Bools := RowOf Value.bool
abbrev Nums := RowOf (Value.int .i64)
theorem oneB (b : Bool) : oneC (.bool b) = true := rfl
theorem oneI (n : Int) : oneC (.int .i64 n) = true := rfl

theorem reps_one (v : Value) : ∀ n, reps [v] n = List.replicate n v := by
  intro n
  induction n with
  | zero => rfl
  | succ n ih => simp only [reps, ih, List.replicate_succ]; rfl

theorem make_rule {α : Type} {f : α → Value} {z : α} {t e : TypeId} {a b by_ : Nat} {c : Bool} {td : TD} {y : Value} (ht : oT.ty t = some ⟨.sl e, a, b, c, y⟩) (he : oT.ty e = some ⟨td, 1, by_, false, f z⟩) (hz : cellsL (f z) = [f z]) (hby : by_ ≤ 65536)
    {s : St} (hl : Live s) {n : Nat} (hn : n ≤ 65536) {g : Value → St → Prop}
    (k : ∀ N s', Live s' → Keeps s s' → s.nxt ≤ N → RowOf f s' N (List.replicate n z) → g (.slice (some ⟨N, 0, none⟩) n n) s') : B2 (evMakeSlice oT s t (.int .i64 (n : Int)) (.int .i64 (n : Int))) g := by
  have h : evMakeSlice oT s t (.int .i64 (n : Int)) (.int .i64 (n : Int)) = some (.slice (some ⟨s.nxt, 0, none⟩) n n, s.push (.cells ⟨reps (cellsL (f z)) n⟩ e)) := by
    show evMakeSlice oT s t (.int .i64 (.ofNat n)) (.int .i64 (.ofNat n)) = _
    have hc : (Nat.ble n n && Nat.ble n 65536 && Nat.ble by_ 65536) = true := by simp [hn, hby]
    simp only [evMakeSlice, ht, he, hc, cond_true]
  rw [h, B2_some]
  refine k s.nxt _ (hl.push _) ((Keeps.refl s).push hl _) (Nat.le_refl _) ⟨e, ?_⟩
  rw [hz, reps_one]
  simp [St.push, hget_cons]

/-! ### an evening is checked -/
structure CK where
  many : Int
  twice : Bool
  unknown : Bool
  seen : List Bool

def CK.step (n : Nat) (c : CK) (x : Int) : CK :=
  if x < 0 ∨ (n : Int) ≤ x then { c with unknown := true }
  else { many := if c.seen.getD x.toNat false then c.many else c.many + 1, twice := c.twice || c.seen.getD x.toNat false, unknown := c.unknown, seen := c.seen.set x.toNat true }

structure CK.Ok (n : Nat) (c : CK) : Prop where
  len : c.seen.length = n
  many : c.many = (c.seen.count true : Nat)

theorem CK.Ok.step {n : Nat} {c : CK} (h : c.Ok n) (x : Int) : (c.step n x).Ok n := by
  unfold CK.step
  split
  · exact ⟨h.len, h.many⟩
  · rename_i hx
    have hlt : x.toNat < c.seen.length := by have := h.len; omega
    refine ⟨by simp [h.len], ?_⟩
    simp only [List.getD_eq_getElem?_getD, List.getElem?_eq_getElem hlt, Option.getD_some]
    rw [List.count_set (h := hlt), h.many]
    have hpos : c.seen[x.toNat] = true → 1 ≤ c.seen.count true := fun hs => by
      have : true ∈ c.seen := hs ▸ List.getElem_mem hlt
      exact List.one_le_count_iff.2 this
    cases hs : c.seen[x.toNat] with
    | true => have := hpos hs; simp; omega
    | false => simp

theorem CK.Ok.foldl {n : Nat} : ∀ (T : List Int) {c : CK}, c.Ok n → (T.foldl (CK.step n) c).Ok n := by
  intro T
  induction T with
  | nil => intro c h; exact h
  | cons x T ih => intro c h; exact ih (h.step x)

def CK.new (n : Nat) : CK := ⟨0, false, false, List.replicate n false⟩
theorem CK.new_ok (n : Nat) : (CK.new n).Ok n := ⟨by simp [CK.new], by simp [CK.new, List.count_replicate]⟩

def ckBad (l : List Int) (t : Nat) (T : List Int) : Bool := decide (T.length = 0) || (decide (0 < l.length) && !decide ((T.length : Int) = l.getD t 0))
def ckEnd (n : Nat) (c : CK) : Int := if c.unknown then 6 else if c.twice then 5 else if c.many < n then 2 else 0
def ckGo (n : Nat) (l : List Int) : Nat → List (List Int) → CK → Int
  | _, [], c => ckEnd n c
  | t, T :: r, c => if ckBad l t T then 2 else ckGo n l (t + 1) r (T.foldl (CK.step n) c)
def checkI (n : Nat) (l : List Int) (E : List (List Int)) : Int := if 0 < l.length ∧ l.length ≠ E.length then 2 else ckGo n l 0 E (CK.new n)
end Go.Ev

namespace Go.Ev
open Go.Proofs

theorem take_foldl {α β : Type} (f : β → α → β) (b : β) {T : List α} {k : Nat} (h : k < T.length) : (T.take (k + 1)).foldl f b = f ((T.take k).foldl f b) T[k] := by
  rw [List.take_add_one, List.getElem?_eq_getElem h, List.foldl_append]
  rfl

section
variable {st : St} {v1 v2 : Value} {l : List Int} {E : List (List Int)} {n : Nat}

theorem check_table {u : Value} {T : List Int} (h : Ints st.heap u T) (hl : Live st) (hn : n ≤ 64) {N : Nat} (hN : st.nxt ≤ N) {c : CK} (hc : c.Ok n) {s : St} (ls : Live s) (ks : Keeps st s) (hs : Bools s N c.seen) {x2 : List Value} {t : Nat}
    (hx : nth x2 3 = .int .i64 t) (ht : (t : Int) < 9223372036854775807) {n2 : List Value → St → Prop}
    (k : ∀ s', Live s' → Keeps st s' → Bools s' N (T.foldl (CK.step n) c).seen → n2 [.int .i64 (T.foldl (CK.step n) c).many, .bool (T.foldl (CK.step n) c).twice, .bool (T.foldl (CK.step n) c).unknown, .int .i64 (t + 1 : Nat)] s') :
    Lp (L91_2 (.int .i64 n) (.slice (some ⟨N, 0, none⟩) n n) u (.int .i64 T.length) x2 n2) [.int .i64 c.many, .bool c.twice, .bool c.unknown, .int .i64 0] s := by
  have hm := SlOf.max h
  refine Lp.ind (fun m xs s' => ∃ k : Nat, k + m = T.length ∧ xs = [.int .i64 ((T.take k).foldl (CK.step n) c).many, .bool ((T.take k).foldl (CK.step n) c).twice, .bool ((T.take k).foldl (CK.step n) c).unknown, .int .i64 k] ∧ Live s' ∧ Keeps st s' ∧ Bools s' N ((T.take k).foldl (CK.step n) c).seen)
    ?_ T.length ⟨0, by omega, rfl, ls, ks, hs⟩
  rintro m _ s1 ⟨k1, hk, rfl, l1, ks1, hb⟩
  simp only [L91_2, nth]
  by_cases hlt : k1 < T.length
  · obtain ⟨p, o, q1, q2⟩ := h.at_ hlt
    have q2 := ks1.cell q2
    have hkl : (k1 : Int) < (T.length : Int) := by omega
    have hok := hc.foldl (T.take k1)
    have hnext := take_foldl (CK.step n) c hlt
    generalize hcc : (T.take k1).foldl (CK.step n) c = cc at *
    have hcount : cc.seen.count true ≤ n := by have := List.count_le_length (a := true) (l := cc.seen); have := hok.len; omega
    have hmany := hok.many
    have fin : ∀ s', Live s' → Keeps st s' → Bools s' N (cc.step n T[k1]).seen → ∃ n', n' < m ∧ ∃ k : Nat, k + n' = T.length ∧
        [Value.int .i64 (cc.step n T[k1]).many, .bool (cc.step n T[k1]).twice, .bool (cc.step n T[k1]).unknown, .int .i64 (IntKind.i64.wrap ((k1 : Int) + 1))] =
          [.int .i64 ((T.take k).foldl (CK.step n) c).many, .bool ((T.take k).foldl (CK.step n) c).twice, .bool ((T.take k).foldl (CK.step n) c).unknown, .int .i64 k] ∧ Live s' ∧ Keeps st s' ∧ Bools s' N ((T.take k).foldl (CK.step n) c).seen := fun s' a b d =>
      ⟨m - 1, by omega, k1 + 1, by omega, by rw [hnext, i64_wrap _ (by omega)]; simp, a, b, by rw [hnext]; exact d⟩
    simp [hkl, q1, q2]
    by_cases hx1 : T[k1] < 0 ∨ (n : Int) ≤ T[k1]
    · have hstep : cc.step n T[k1] = { cc with unknown := true } := by unfold CK.step; rw [if_pos hx1]
      rw [hstep] at fin
      have := fin s1 l1 ks1 hb
      by_cases hneg : T[k1] < 0
      · simp [hneg]; simpa using this
      · have hge : (n : Int) ≤ T[k1] := hx1.resolve_left hneg
        simp [hneg, hge]; simpa using this
    · have hneg : ¬ T[k1] < 0 := fun h => hx1 (.inl h)
      have hge : ¬ (n : Int) ≤ T[k1] := fun h => hx1 (.inr h)
      have hlen : T[k1].toNat < cc.seen.length := by have := hok.len; omega
      have hstep : cc.step n T[k1] = { many := if cc.seen[T[k1].toNat] then cc.many else cc.many + 1, twice := cc.twice || cc.seen[T[k1].toNat], unknown := cc.unknown, seen := cc.seen.set T[k1].toNat true } := by
        unfold CK.step
        rw [if_neg hx1]
        simp only [List.getD_eq_getElem?_getD, List.getElem?_eq_getElem hlen, Option.getD_some]
      have hia : evIndexAddr oT 46 (.slice (some ⟨N, 0, none⟩) n n) (.int .i64 T[k1]) = some (.pointer (some ⟨N, T[k1].toNat, none⟩)) := by
        rw [ia46 _ _ _ _ _ _ (by omega) (by omega)]; simp
      have hcell := hb.at_ oneB hlen
      obtain ⟨ob, hst, hb2⟩ := hb.store oneB hlen true ty4
      have hN2 : hget s1.heap N = some _ := hb.choose_spec
      have fin2 := fin _ (l1.putB hN2 ob) (ks1.putB hl hN ob) (by rw [hstep]; exact hb2)
      simp [hneg, hge, hia, hcell]
      cases hsx : cc.seen[T[k1].toNat] with
      | true =>
        rw [hsx] at hstep
        rw [hstep] at fin2
        cases htw : cc.twice with
        | true => rw [htw] at fin2; simp [hia, hst]; simpa using fin2
        | false => rw [htw] at fin2; simp [hia, hcell, hsx, hst]; simpa using fin2
      | false =>
        rw [hsx] at hstep
        rw [hstep] at fin2
        have hw : IntKind.i64.wrap (cc.many + 1) = cc.many + 1 := i64_wrap _ (by omega)
        cases htw : cc.twice with
        | true => rw [htw] at fin2; simp [hia, hst, hw]; simpa using fin2
        | false => rw [htw] at fin2; simp [hia, hcell, hsx, hst, hw]; simpa using fin2
  · have hkk : k1 = T.length := by omega
    subst hkk
    rw [List.take_length] at hb ⊢
    simp [hx]
    have := k s1 l1 ks1 hb
    rw [i64_wrap _ (by omega)]
    simpa using this

theorem check_q (h1 : Ints st.heap v1 l) (h2 : Tabs st.heap v2 E) (hn : n ≤ 64) : Quiet 91 [.int .i64 n, v1, v2] st (.int .i64 (checkI n l E)) := Quiet.of fun hl => by
  have hm1 := SlOf.max h1
  have hm2 := SlOf.max h2
  apply r91
  unfold R91
  have go : (0 < l.length → l.length = E.length) → checkI n l E = ckGo n l 0 E (CK.new n) → B2 (evMakeSlice oT st 46 (.int .i64 n) (.int .i64 n)) fun v7 s1 => B (evLenM oT s1 36 v2) fun v8 =>
      Lp (L91_0 (.int .i64 n) v1 v2 v7 v8 fun u s => u = .int .i64 (checkI n l E) ∧ Keeps st s) [(.int .i64 0), (.bool false), (.bool false), (.int .i64 0)] s1 := by
    intro hlen hR
    refine make_rule (f := Value.bool) (z := false) ty46 ty4 rfl (by decide) hl (n := n) (by omega) fun N s1 l1 k1 hN hb => ?_
    rw [(h2.keeps k1).len, B_some]
    refine Lp.ind (fun m xs s => ∃ (t : Nat) (c : CK), t + m = E.length ∧ checkI n l E = ckGo n l t (E.drop t) c ∧ c.Ok n ∧ xs = [.int .i64 c.many, .bool c.twice, .bool c.unknown, .int .i64 t] ∧ Live s ∧ Keeps st s ∧ Bools s N c.seen)
      ?_ E.length ⟨0, CK.new n, by omega, hR, CK.new_ok n, rfl, l1, k1, hb⟩
    rintro m _ s ⟨t, c, hk, hg, hc, rfl, ls, ks, hs⟩
    simp only [L91_0, nth]
    by_cases hlt : t < E.length
    · obtain ⟨p, o, u, q1, q2, q3⟩ := h2.at_ hlt
      have q2 := ks.cell q2
      have hkl : (t : Int) < (E.length : Int) := by omega
      rw [drop_at hlt] at hg
      simp only [ckGo] at hg
      simp [hkl, q1, q2, q3.len]
      have tab : checkI n l E = ckGo n l (t + 1) (E.drop (t + 1)) (E[t].foldl (CK.step n) c) → Lp (L91_2 (.int .i64 n) (.slice (some ⟨N, 0, none⟩) n n) u (.int .i64 E[t].length) [.int .i64 c.many, .bool c.twice, .bool c.unknown, .int .i64 t] fun xs' s' => ∃ n', n' < m ∧ ∃ (t : Nat) (c : CK), t + n' = E.length ∧ checkI n l E = ckGo n l t (E.drop t) c ∧ c.Ok n ∧ xs' = [.int .i64 c.many, .bool c.twice, .bool c.unknown, .int .i64 t] ∧ Live s' ∧ Keeps st s' ∧ Bools s' N c.seen) [.int .i64 c.many, .bool c.twice, .bool c.unknown, .int .i64 0] s := fun hg2 =>
        check_table q3 hl hn hN hc ls ks hs rfl (by omega) fun s' a b d => ⟨m - 1, by omega, t + 1, _, by omega, hg2, hc.foldl _, rfl, a, b, d⟩
      by_cases hz : E[t].length = 0
      · have hbad : ckBad l t E[t] = true := by simp [ckBad, hz]
        rw [if_pos hbad] at hg
        have hz3 : E[t] = [] := List.eq_nil_of_length_eq_zero hz
        simp [hz3, hg, ks]
      · have hz2 : ¬ E[t] = [] := fun h => hz (by rw [h]; rfl)
        by_cases hp : 0 < l.length
        · have htl : t < l.length := by rw [hlen hp]; exact hlt
          obtain ⟨p1, o1, w1, w2⟩ := h1.at_ htl
          have w2 := ks.cell w2
          have hget : l.getD t 0 = l[t] := by simp [List.getD_eq_getElem?_getD, List.getElem?_eq_getElem htl]
          have hp2 : (0 : Int) < (l.length : Int) := by omega
          by_cases he : (E[t].length : Int) = l[t]
          · have hbad : ckBad l t E[t] = false := by simp [ckBad, hz2, he, htl]
            rw [if_neg (by rw [hbad]; simp)] at hg
            have := tab hg
            simp [hz2, h1.len, hp, hp2, q3.len, w1, w2, he]
            rw [← he]
            simpa using this
          · have hbad : ckBad l t E[t] = true := by simp [ckBad, hz2, he, htl, hp]
            rw [if_pos hbad] at hg
            simp [hz2, h1.len, hp, hp2, q3.len, w1, w2, he, hg, ks]
        · have hl0 : l = [] := List.eq_nil_of_length_eq_zero (by omega)
          have hbad : ckBad l t E[t] = false := by simp [ckBad, hz2, hl0]
          rw [if_neg (by rw [hbad]; simp)] at hg
          have := tab hg
          have hl1 := h1.len s
          rw [hl0] at hl1
          simp [hz2, hl1]
          simpa using this
    · have hkk : t = E.length := by omega
      subst hkk
      rw [List.drop_length] at hg
      simp only [ckGo] at hg
      unfold ckEnd at hg
      simp
      cases hu : c.unknown with
      | true => rw [hu] at hg; simp at hg; simp [hg, ks]
      | false =>
        cases ht : c.twice with
        | true => rw [hu, ht] at hg; simp at hg; simp [hg, ks]
        | false =>
          rw [hu, ht] at hg
          simp at hg
          by_cases hmn : c.many < n
          · rw [if_pos hmn] at hg; simp [hmn, hg, ks]
          · rw [if_neg hmn] at hg; simp [hmn, hg, ks]
  rw [h1.len, B_some]
  by_cases hp : 0 < l.length
  · have hp2 : (0 : Int) < (l.length : Int) := by omega
    by_cases he : l.length = E.length
    · have := go (fun _ => he) (by unfold checkI; rw [if_neg (by omega)])
      have hpE : 0 < E.length := by omega
      simp [hpE, h1.len, h2.len, he]
      simpa [h2.len] using this
    · have hR : checkI n l E = 2 := by unfold checkI; rw [if_pos ⟨hp, he⟩]
      have he2 : ¬ (l.length : Int) = (E.length : Int) := by omega
      simp [hp, h1.len, h2.len, he, he2, hR, Keeps.refl]
  · have := go (fun h => absurd h hp) (by unfold checkI; rw [if_neg (by omega)])
    have hl0 : l = [] := List.eq_nil_of_length_eq_zero (by omega)
    simp [hl0, h2.len]
    simpa [hl0, h2.len] using this
end
end Go.Ev

namespace Go.Ev
open Go.Proofs

abbrev Sched := List (List (List Int))

def chkS (n : Nat) (l : List Int) : Nat → Sched → Int × Int
  | _, [] => (0, 0)
  | i, E :: S => if checkI n l E = 0 then chkS n l (i + 1) S else (i, checkI n l E)
def checkR (n : Nat) (l : List Int) (S : Sched) : Int × Int :=
  if guestsB n = false ∨ (0 < l.length ∧ fitB n l = false) then (0, 90) else if 64 < S.length then (0, 7) else chkS n l 0 S
def pairV (p : Int × Int) : Value := .tuple ⟨[.int .i64 p.1, .int .i64 p.2]⟩

section
variable {st : St} {v1 v3 : Value} {l : List Int} {S : Sched} {n : Nat}

theorem Check_q (h1 : Ints st.heap v1 l) (h3 : Sch st.heap v3 S) (hn : n ≤ 64) : Quiet 31 [.int .i64 n, v1, v3] st (pairV (checkR n l S)) := Quiet.of fun hl => by
  have hm1 := SlOf.max h1
  have hm3 := SlOf.max h3
  apply r31
  unfold R31
  refine (guests_q n st).P fun m1 hm1 => ?_
  have k1 : Keeps st (st.upto m1) := (Keeps.refl st).upto hm1
  have go : ∀ m2, st.nxt ≤ m2 → checkR n l S = chkS n l 0 S → Lp (L31_1 (.int .i64 n) v1 v3 (.int .i64 S.length) fun u s => u = pairV (checkR n l S) ∧ Keeps st s) [(.int .i64 0)] (st.upto m2) := by
    intro m2 hm2 hR
    refine Lp.ind (fun m xs s => ∃ i m' : Nat, i + m = S.length ∧ checkR n l S = chkS n l i (S.drop i) ∧ xs = [.int .i64 i] ∧ st.nxt ≤ m' ∧ s = st.upto m') ?_ S.length ⟨0, m2, by omega, hR, rfl, hm2, rfl⟩
    rintro m _ _ ⟨i, m', hk, hg, rfl, hm', rfl⟩
    have kk : Keeps st (st.upto m') := (Keeps.refl st).upto hm'
    simp only [L31_1, nth]
    by_cases hlt : i < S.length
    · obtain ⟨p, o, u, q1, q2, q3⟩ := h3.at_ hlt
      have hkl : (i : Int) < (S.length : Int) := by omega
      rw [drop_at hlt] at hg
      simp only [chkS] at hg
      simp [hkl, q1, q2]
      refine (check_q (st := st.upto m') (h1.keeps kk) (q3.keeps kk) hn).P fun m3 hm3 => ?_
      have hm3 : m' ≤ m3 := hm3
      by_cases he : checkI n l S[i] = 0
      · rw [if_pos he] at hg
        simp [he]
        exact ⟨m - 1, by omega, i + 1, by omega, hg, by rw [i64_wrap _ (by omega)]; simp, m3, by omega, rfl⟩
      · rw [if_neg he] at hg
        simp [he, hg, pairV, (Keeps.refl st).upto (show st.nxt ≤ m3 by omega)]
    · have hkk : i = S.length := by omega
      subst hkk
      rw [List.drop_length] at hg
      simp only [chkS] at hg
      simp [hg, pairV, kk]
  have many : ∀ m2, st.nxt ≤ m2 → ¬ (guestsB n = false ∨ (0 < l.length ∧ fitB n l = false)) → B (evLenM oT (st.upto m2) 67 v3) fun v9 =>
      B (evBin oT .gtr 3 v9 (.int .i64 64)) fun v10 =>
      If v10 ((.tuple ⟨[(.int .i64 0), (.int .i64 7)]⟩ : Value) = pairV (checkR n l S) ∧ Keeps st (st.upto m2))
      (B (evLenM oT (st.upto m2) 67 v3) fun v11 =>
       Lp (L31_1 (.int .i64 n) v1 v3 v11 fun u s => u = pairV (checkR n l S) ∧ Keeps st s) [(.int .i64 0)] (st.upto m2)) := by
    intro m2 hm2 hno
    have kk : Keeps st (st.upto m2) := (Keeps.refl st).upto hm2
    have hlen := h3.len (st.upto m2)
    by_cases h64 : 64 < S.length
    · have hR : checkR n l S = (0, 7) := by unfold checkR; rw [if_neg hno, if_pos h64]
      have h64' : (64 : Int) < (S.length : Int) := by omega
      simp [hlen, h64, h64', hR, pairV, kk]
    · have hR : checkR n l S = chkS n l 0 S := by unfold checkR; rw [if_neg hno, if_neg h64]
      have h64' : ¬ (64 : Int) < (S.length : Int) := by omega
      have := go m2 hm2 hR
      simp [hlen, h64, h64']
      simpa using this
  cases hg : guestsB n with
  | false =>
    have hR : checkR n l S = (0, 90) := by unfold checkR; rw [if_pos (.inl hg)]
    simp [hR, pairV, k1]
  | true =>
    have hlen := h1.len (st.upto m1)
    by_cases hp : 0 < l.length
    · have hp2 : (0 : Int) < (l.length : Int) := by omega
      simp [hlen, hp, hp2]
      refine (fit_q (st := st.upto m1) (h1.keeps k1) (by omega) (by omega)).P fun m2 hm2 => ?_
      have hm2 : m1 ≤ m2 := hm2
      cases hf : fitB n l with
      | false =>
        have hR : checkR n l S = (0, 90) := by unfold checkR; rw [if_pos (.inr ⟨hp, hf⟩)]
        simp [hR, pairV, (Keeps.refl st).upto (show st.nxt ≤ m2 by omega)]
      | true =>
        have := many m2 (by omega) (by simp [hg, hf])
        simp
        simpa using this
    · have hl0 : l = [] := List.eq_nil_of_length_eq_zero (by omega)
      have := many m1 hm1 (by simp [hg, hl0])
      simp [hlen, hl0]
      simpa [hl0] using this
end
end Go.Ev

namespace Go.Ev

def inN (n : Nat) (x : Int) : Bool := decide (0 ≤ x) && decide (x < n)

structure CK.Inv (n : Nat) (c : CK) (P : List Int) : Prop where
  ok : c.Ok n
  unknown : c.unknown = P.any fun x => !inN n x
  seen : ∀ g, g < n → c.seen.getD g false = decide ((g : Int) ∈ P)
  twice : c.twice = false ↔ (P.filter (inN n)).Nodup

theorem CK.Inv.new (n : Nat) : (CK.new n).Inv n [] :=
  ⟨CK.new_ok n, rfl, fun g hg => by simp [CK.new, List.getD_eq_getElem?_getD, hg], by simp [CK.new]⟩

theorem nodup_snoc {α : Type} {l : List α} {x : α} : (l ++ [x]).Nodup ↔ l.Nodup ∧ x ∉ l := by
  rw [List.nodup_append]
  constructor
  · rintro ⟨h1, _, h3⟩
    exact ⟨h1, fun h => h3 x h x (by simp) rfl⟩
  · rintro ⟨h1, h2⟩
    refine ⟨h1, by simp, fun a ha b hb => ?_⟩
    simp only [List.mem_singleton] at hb
    rintro rfl
    subst hb
    exact h2 ha

theorem CK.Inv.step {n : Nat} {c : CK} {P : List Int} (h : c.Inv n P) (x : Int) : (c.step n x).Inv n (P ++ [x]) := by
  have hok := h.ok.step x
  unfold CK.step at hok ⊢
  by_cases hx : x < 0 ∨ (n : Int) ≤ x
  · rw [if_pos hx] at hok ⊢
    have hin : inN n x = false := by unfold inN; rcases hx with h | h <;> simp <;> omega
    refine ⟨hok, by simp [hin], fun g hg => ?_, ?_⟩
    · rw [h.seen g hg]
      have hne : ¬ (g : Int) = x := by omega
      simp [hne]
    · rw [h.twice, List.filter_append]; simp [hin]
  · rw [if_neg hx] at hok ⊢
    have hin : inN n x = true := by unfold inN; simp; omega
    have hlt : x.toNat < n := by omega
    have hxg : ((x.toNat : Nat) : Int) = x := by omega
    have hsx := h.seen _ hlt
    rw [hxg] at hsx
    refine ⟨hok, by simp [hin, h.unknown], fun g hg => ?_, ?_⟩
    · have hl := h.ok.len
      by_cases he : g = x.toNat
      · subst he
        simp [List.getD_eq_getElem?_getD, hl, hlt, hxg]
      · have hne : ¬ (g : Int) = x := by omega
        rw [List.getD_eq_getElem?_getD, List.getElem?_set_ne (by omega), ← List.getD_eq_getElem?_getD, h.seen g hg]
        simp [hne]
    · rw [List.filter_append]
      simp only [hin, List.filter_cons_of_pos, List.filter_nil, nodup_snoc]
      rw [hsx, Bool.or_eq_false_iff, h.twice, decide_eq_false_iff_not, List.mem_filter]
      simp [hin]

theorem CK.Inv.foldl {n : Nat} : ∀ (L : List Int) {c : CK} {P : List Int}, c.Inv n P → (L.foldl (CK.step n) c).Inv n (P ++ L) := by
  intro L
  induction L with
  | nil => intro c P h; simpa using h
  | cons x L ih => intro c P h; have := ih (h.step x); simpa using this

/-- All guests, each once. -/
structure Full (n : Nat) (L : List Int) : Prop where
  range : ∀ x ∈ L, 0 ≤ x ∧ x < n
  nodup : L.Nodup
  all : ∀ g, g < n → (g : Int) ∈ L

theorem count_full : ∀ (l : List Bool), l.length ≤ l.count true → ∀ i, i < l.length → l.getD i false = true := by
  intro l
  induction l with
  | nil => intro _ i h; simp at h
  | cons b l ih =>
    intro h i hi
    have hc := List.count_le_length (a := true) (l := l)
    cases b with
    | false => simp at h; omega
    | true =>
      simp at h
      cases i with
      | zero => rfl
      | succ i => simp only [List.getD_cons_succ]; exact ih (by omega) i (by simpa using hi)

theorem full_count : ∀ (l : List Bool), (∀ i, i < l.length → l.getD i false = true) → l.count true = l.length := by
  intro l
  induction l with
  | nil => intro _; rfl
  | cons b l ih =>
    intro h
    have h0 := h 0 (by simp)
    simp at h0
    subst h0
    simp [ih fun i hi => by have := h (i + 1) (by simpa using hi); simpa using this]

theorem filter_in {n : Nat} {L : List Int} (h : ∀ x ∈ L, 0 ≤ x ∧ x < n) : L.filter (inN n) = L := by
  rw [List.filter_eq_self]
  intro x hx
  obtain ⟨a, b⟩ := h x hx
  simp [inN, a, b]

theorem ckEnd_iff {n : Nat} {c : CK} {L : List Int} (h : c.Inv n L) : ckEnd n c = 0 ↔ Full n L := by
  have hun : c.unknown = false ↔ ∀ x ∈ L, 0 ≤ x ∧ x < n := by
    rw [h.unknown, List.any_eq_false]
    constructor
    · intro hh x hx
      have := hh x hx
      simp [inN] at this
      omega
    · intro hh x hx
      have := hh x hx
      simp [inN]
      omega
  constructor
  · intro he
    unfold ckEnd at he
    split at he
    · cases he
    split at he
    · cases he
    split at he
    · cases he
    rename_i h1 h2 h3
    have hr := hun.1 (by simpa using h1)
    have hnd := h.twice.1 (by simpa using h2)
    rw [filter_in hr] at hnd
    refine ⟨hr, hnd, fun g hg => ?_⟩
    have hm := h.ok.many
    have hl := h.ok.len
    have := count_full c.seen (by omega) g (by omega)
    rw [h.seen g hg] at this
    simpa using this
  · intro hf
    have h1 := hun.2 hf.range
    have h2 := h.twice.2 (by rw [filter_in hf.range]; exact hf.nodup)
    have hl := h.ok.len
    have h3 := full_count c.seen fun i hi => by rw [h.seen i (by omega)]; simpa using hf.all i (by omega)
    unfold ckEnd
    rw [h1, h2, h.ok.many, h3, hl]
    simp

theorem ckGo_iff {n : Nat} {l : List Int} : ∀ (E : List (List Int)) (t : Nat) (c : CK), ckGo n l t E c = 0 ↔ (∀ i (h : i < E.length), ckBad l (t + i) E[i] = false) ∧ ckEnd n (E.flatten.foldl (CK.step n) c) = 0 := by
  intro E
  induction E with
  | nil => intro t c; simp [ckGo]
  | cons T E ih =>
    intro t c
    simp only [ckGo, List.flatten_cons, List.foldl_append]
    cases hb : ckBad l t T with
    | true =>
      simp only [if_true]
      constructor
      · intro h; cases h
      · rintro ⟨h, _⟩
        have := h 0 (by simp)
        simp [hb] at this
    | false =>
      rw [if_neg (by simp), ih]
      constructor
      · rintro ⟨h1, h2⟩
        refine ⟨fun i hi => ?_, h2⟩
        cases i with
        | zero => simpa using hb
        | succ i => have := h1 i (by simpa using hi); rw [show t + (i + 1) = t + 1 + i by omega]; simpa using this
      · rintro ⟨h1, h2⟩
        exact ⟨fun i hi => by have := h1 (i + 1) (by simpa using hi); rw [show t + 1 + i = t + (i + 1) by omega]; simpa using this, h2⟩

/-- An evening that seats each guest once, nobody at an empty table. -/
structure EvOk (n : Nat) (E : List (List Int)) : Prop where
  full : Full n E.flatten
  some_ : ∀ T ∈ E, T ≠ []

def lens (E : List (List Int)) : List Int := E.map fun T => (T.length : Int)

theorem checkI_sizes {n : Nat} {l : List Int} (hl : l ≠ []) {E : List (List Int)} (h : checkI n l E = 0) : EvOk n E ∧ l = lens E := by
  have hp : 0 < l.length := List.length_pos_iff.2 hl
  unfold checkI at h
  split at h
  · cases h
  rename_i hne
  have hlen : l.length = E.length := by
    by_cases he : l.length = E.length
    · exact he
    · exact absurd ⟨hp, he⟩ hne
  obtain ⟨h1, h2⟩ := (ckGo_iff E 0 (CK.new n)).1 h
  have hinv := (CK.Inv.new n).foldl E.flatten
  rw [List.nil_append] at hinv
  refine ⟨⟨(ckEnd_iff hinv).1 h2, fun T hT hnil => ?_⟩, ?_⟩
  · obtain ⟨i, hi, rfl⟩ := List.getElem_of_mem hT
    have := h1 i hi
    simp [ckBad, hnil] at this
  · apply List.ext_getElem (by simp [lens, hlen])
    intro i hi1 hi2
    have := h1 i (by omega)
    simp only [ckBad, Bool.or_eq_false_iff, Nat.zero_add] at this
    have h3 := this.2
    simp [hp, List.getD_eq_getElem?_getD, List.getElem?_eq_getElem hi1] at h3
    simp [lens, h3]

theorem checkI_nil {n : Nat} {E : List (List Int)} (h : EvOk n E) : checkI n [] E = 0 := by
  unfold checkI
  rw [if_neg (by simp)]
  have hinv := (CK.Inv.new n).foldl E.flatten
  rw [List.nil_append] at hinv
  refine (ckGo_iff E 0 (CK.new n)).2 ⟨fun i hi => ?_, (ckEnd_iff hinv).2 h.full⟩
  have := h.some_ _ (List.getElem_mem hi)
  simp [ckBad, this]

theorem chkS_iff {n : Nat} {l : List Int} : ∀ (S : Sched) (i : Nat), (chkS n l i S).2 = 0 ↔ ∀ E ∈ S, checkI n l E = 0 := by
  intro S
  induction S with
  | nil => intro i; simp [chkS]
  | cons E S ih =>
    intro i
    unfold chkS
    by_cases he : checkI n l E = 0
    · rw [if_pos he, ih]; simp [he]
    · rw [if_neg he]; simp [he]

theorem chkS_zero {n : Nat} {l : List Int} : ∀ (S : Sched) (i : Nat), (chkS n l i S).2 = 0 → (chkS n l i S).1 = 0 := by
  intro S
  induction S with
  | nil => intro i _; rfl
  | cons E S ih =>
    intro i h
    unfold chkS at h ⊢
    by_cases he : checkI n l E = 0
    · rw [if_pos he] at h ⊢; exact ih _ h
    · rw [if_neg he] at h; exact absurd h he

/-- A schedule that the check lets through. -/
theorem checkR_sizes {n : Nat} {l : List Int} (hl : l ≠ []) {S : Sched} (h : (checkR n l S).2 = 0) : 1 ≤ n ∧ fitB n l = true ∧ ∀ E ∈ S, EvOk n E ∧ l = lens E := by
  have hp : 0 < l.length := List.length_pos_iff.2 hl
  unfold checkR at h
  split at h
  · cases h
  rename_i hno
  split at h
  · cases h
  have hg : guestsB n = true := by
    cases hg : guestsB n with
    | true => rfl
    | false => exact absurd (.inl hg) hno
  have hf : fitB n l = true := by
    cases hf : fitB n l with
    | true => rfl
    | false => exact absurd (.inr ⟨hp, hf⟩) hno
  refine ⟨by simp [guestsB] at hg; omega, hf, fun E hE => checkI_sizes hl ((chkS_iff S 0).1 h E hE)⟩

theorem checkR_nil {n : Nat} {S : Sched} (h1 : 1 ≤ n) (h2 : n ≤ 64) (h3 : S.length ≤ 64) (h : ∀ E ∈ S, EvOk n E) : (checkR n [] S).2 = 0 := by
  have hg : guestsB n = true := by simp [guestsB]; omega
  unfold checkR
  rw [if_neg (by simp [hg]), if_neg (by omega)]
  exact (chkS_iff S 0).2 fun E hE => checkI_nil (h E hE)
end Go.Ev

namespace Go.Ev
open Go.Proofs

theorem ints_nil (h : Heap) : Ints h (.slice none 0 0) [] := .inr ⟨none, 0, rfl, Nat.le_refl _, by omega, fun h => absurd rfl h⟩

theorem valid_q {st : St} {v3 : Value} {S : Sched} {n : Nat} (h3 : Sch st.heap v3 S) (hn : n ≤ 64) : Quiet 92 [.int .i64 n, v3] st (.bool (decide ((checkR n [] S).2 = 0))) := Quiet.of fun hl => by
  apply r92
  unfold R92
  refine (Check_q (ints_nil _) h3 hn).P fun m hm => ?_
  have hk : Keeps st (st.upto m) := (Keeps.refl st).upto hm
  have e0 : evExtract (pairV (checkR n [] S)) 0 = some (.int .i64 (checkR n [] S).1) := rfl
  have e1 : evExtract (pairV (checkR n [] S)) 1 = some (.int .i64 (checkR n [] S).2) := rfl
  simp [e0, e1, hk]

/-! ### how often each guest is there -/
def tally (n : Nat) (P : List Int) : List Int := (List.range n).map fun (g : Nat) => ((P.count (g : Int) : Nat) : Int)
theorem tally_len (n : Nat) (P : List Int) : (tally n P).length = n := by simp [tally]
theorem tally_at {n : Nat} (P : List Int) {g : Nat} (h : g < n) : (tally n P)[g]'(by rw [tally_len]; exact h) = ((P.count (g : Int) : Nat) : Int) := by simp [tally]
theorem tally_nil (n : Nat) : tally n [] = List.replicate n 0 := by
  apply List.ext_getElem (by simp [tally_len])
  intro i h1 h2
  rw [tally_at _ (by rw [tally_len] at h1; exact h1)]
  simp
theorem tally_snoc {n : Nat} (P : List Int) {x : Int} (h0 : 0 ≤ x) (h1 : x < n) : tally n (P ++ [x]) = (tally n P).set x.toNat ((P.count x : Nat) + 1) := by
  apply List.ext_getElem (by simp [tally_len])
  intro i hi1 hi2
  rw [tally_len] at hi1
  rw [tally_at _ hi1, List.getElem_set, List.count_append]
  by_cases he : x.toNat = i
  · subst he
    have : ((x.toNat : Nat) : Int) = x := by omega
    rw [if_pos rfl, this]
    simp
  · rw [if_neg he, tally_at _ hi1]
    have : ¬ x = (i : Int) := by omega
    simp [List.count_singleton, this]

theorem count_le_one {L : List Int} (h : L.Nodup) (x : Int) : L.count x ≤ 1 := List.nodup_iff_count.1 h x

section
variable {st : St} {v1 v3 : Value} {l : List Int} {S : Sched} {n : Nat}

theorem seated_table {u : Value} {T P : List Int} (h : Ints st.heap u T) (hl : Live st) (hn : n ≤ 64) {N : Nat} (hN : st.nxt ≤ N) (hnd : (P ++ T).Nodup) (hr : ∀ x ∈ T, 0 ≤ x ∧ x < n) {s : St} (ls : Live s) (ks : Keeps st s) (hs : Nums s N (tally n P))
    {x3 : List Value} {t : Nat} (hx : nth x3 0 = .int .i64 t) (ht : (t : Int) < 9223372036854775807) {n3 : List Value → St → Prop} {Q : Value → St → Prop}
    (k : ∀ s', Live s' → Keeps st s' → Nums s' N (tally n (P ++ T)) → n3 [.int .i64 (t + 1 : Nat)] s') :
    Lp (L32_4 (.int .i64 n) (.slice (some ⟨N, 0, none⟩) n n) u (.int .i64 T.length) x3 n3 Q) [.int .i64 0] s := by
  have hm := SlOf.max h
  refine Lp.ind (fun m xs s' => ∃ k : Nat, k + m = T.length ∧ xs = [.int .i64 k] ∧ Live s' ∧ Keeps st s' ∧ Nums s' N (tally n (P ++ T.take k))) ?_ T.length ⟨0, by omega, rfl, ls, ks, by simpa using hs⟩
  rintro m _ s1 ⟨k1, hk, rfl, l1, ks1, hb⟩
  simp only [L32_4, nth]
  by_cases hlt : k1 < T.length
  · obtain ⟨p, o, q1, q2⟩ := h.at_ hlt
    have q2 := ks1.cell q2
    have hkl : (k1 : Int) < (T.length : Int) := by omega
    obtain ⟨r0, r1⟩ := hr _ (List.getElem_mem hlt)
    have hneg : ¬ T[k1] < 0 := by omega
    have hge : ¬ (n : Int) ≤ T[k1] := by omega
    have hlen : T[k1].toNat < (tally n (P ++ T.take k1)).length := by rw [tally_len]; omega
    have hia : evIndexAddr oT 25 (.slice (some ⟨N, 0, none⟩) n n) (.int .i64 T[k1]) = some (.pointer (some ⟨N, T[k1].toNat, none⟩)) := by
      rw [ia25 _ _ _ _ _ _ (by omega) (by omega)]; simp
    have hcell := hb.at_ oneI hlen
    have hcount : (P ++ T.take k1).count T[k1] ≤ 1 := count_le_one (hnd.sublist (List.Sublist.append (List.Sublist.refl P) (List.take_sublist k1 T))) _
    have hval : (tally n (P ++ T.take k1))[T[k1].toNat] = (((P ++ T.take k1).count T[k1] : Nat) : Int) := by
      rw [tally_at _ (by omega), show ((T[k1].toNat : Nat) : Int) = T[k1] by omega]
    rw [hval] at hcell
    obtain ⟨ob, hst, hb2⟩ := hb.store oneI hlen ((((P ++ T.take k1).count T[k1] : Nat) : Int) + 1) ty3
    have hN2 : hget s1.heap N = some _ := hb.choose_spec
    rw [← tally_snoc _ r0 r1] at hb2
    have happ : P ++ T.take k1 ++ [T[k1]] = P ++ T.take (k1 + 1) := by rw [List.take_add_one, List.getElem?_eq_getElem hlt]; simp
    rw [happ] at hb2
    have hw : IntKind.i64.wrap ((((P ++ T.take k1).count T[k1] : Nat) : Int) + 1) = (((P ++ T.take k1).count T[k1] : Nat) : Int) + 1 := i64_wrap _ (by omega)
    generalize (P ++ T.take k1).count T[k1] = q at hcell hst hw hcount
    simp [hkl, q1, q2, hneg, hge, hia, hcell, hw, hst]
    exact ⟨m - 1, by omega, k1 + 1, by omega, by rw [i64_wrap _ (by omega)]; simp, l1.putB hN2 ob, ks1.putB hl hN ob, hb2⟩
  · have hkk : k1 = T.length := by omega
    subst hkk
    rw [List.take_length] at hb
    have := k s1 l1 ks1 hb
    simp [hx]
    rw [i64_wrap _ (by omega)]
    simpa using this

theorem flatten_take_succ {E : List (List Int)} {t : Nat} (h : t < E.length) : (E.take (t + 1)).flatten = (E.take t).flatten ++ E[t] := by
  rw [List.take_add_one, List.getElem?_eq_getElem h, List.flatten_append, Option.toList_some, List.flatten_singleton]

theorem flatten_take_sub (E : List (List Int)) (t : Nat) : (E.take t).flatten.Sublist E.flatten := by
  have : E.flatten = (E.take t).flatten ++ (E.drop t).flatten := by rw [← List.flatten_append, List.take_append_drop]
  rw [this]
  exact List.sublist_append_left _ _

theorem seated_q (h1 : Ints st.heap v1 l) (h3 : Sch st.heap v3 S) (hn : n ≤ 64) (hv : ∀ E ∈ S, EvOk n E ∧ l = lens E) : Quiet 32 [.int .i64 n, v1, v3] st (.bool true) := Quiet.of fun hl => by
  have hm3 := SlOf.max h3
  apply r32
  refine Lp.ind (fun m xs s => ∃ i : Nat, i + m = S.length ∧ xs = [.int .i64 i] ∧ Live s ∧ Keeps st s) ?_ S.length ⟨0, by omega, rfl, hl, Keeps.refl st⟩
  rintro m _ s ⟨i, hk, rfl, ls, ks⟩
  simp only [L32_0, nth]
  by_cases hlt : i < S.length
  · obtain ⟨p, o, u, q1, q2, q3⟩ := h3.at_ hlt
    obtain ⟨hev, hlens⟩ := hv _ (List.getElem_mem hlt)
    have hkl : (i : Int) < (S.length : Int) := by omega
    have hlen : S[i].length = l.length := by rw [hlens]; simp [lens]
    have hmE := SlOf.max q3
    have hmS := h3.len
    generalize S[i] = E at *
    simp only [h3.len, B_some, bin_lss, hkl, decide_true, If_bool]
    refine ⟨fun _ => ?_, fun h => by cases h⟩
    refine make_rule (f := Value.int .i64) (z := 0) ty25 ty3 rfl (by decide) ls (n := n) (by omega) fun N s1 l1 k1 hN hb => ?_
    have ks1 := ks.trans k1
    have hN : st.nxt ≤ N := by have := ks.nxt; omega
    rw [← tally_nil] at hb
    have q2' := fun {s' : St} (k : Keeps st s') => k.cell q2
    simp [q1, q2' ks1, q3.len, h1.len, hlen]
    -- tables
    refine Lp.ind (fun m2 xs s' => ∃ t : Nat, t + m2 = E.length ∧ xs = [.int .i64 t] ∧ Live s' ∧ Keeps st s' ∧ Nums s' N (tally n (E.take t).flatten)) ?_ E.length ⟨0, by omega, rfl, l1, ks1, hb⟩
    rintro m2 _ s2 ⟨t, hk2, rfl, l2, ks2, hb2⟩
    simp only [L32_2, nth]
    by_cases hlt2 : t < E.length
    · obtain ⟨p2, o2, u2, w1, w2, w3⟩ := q3.at_ hlt2
      have w2 := ks2.cell w2
      have htl : t < l.length := by omega
      obtain ⟨p3, o3, y1, y2⟩ := h1.at_ htl
      have y2 := ks2.cell y2
      have hsz : l[t] = (E[t].length : Int) := by simp [hlens, lens]
      have hkl2 : (t : Int) < (E.length : Int) := by omega
      rw [hsz] at y2
      simp [q1, q2' ks2, q3.len, hlt2, w1, w2, w3.len, y1, y2]
      refine seated_table (n := n) (P := (E.take t).flatten) w3 hl hn hN ?_ ?_ l2 ks2 hb2 rfl (by omega) fun s3 a b d => ?_
      · rw [← flatten_take_succ hlt2]
        exact hev.full.nodup.sublist (flatten_take_sub E _)
      · intro x hx
        exact hev.full.range x (List.mem_flatten.2 ⟨_, List.getElem_mem hlt2, hx⟩)
      · rw [← flatten_take_succ hlt2] at d
        exact ⟨m2 - 1, by omega, t + 1, by omega, rfl, a, b, d⟩
    · have htE : t = E.length := by omega
      subst htE
      rw [List.take_length] at hb2
      simp [q1, q2' ks2, q3.len]
      -- everybody once
      refine Lp.ind (fun m3 xs s' => ∃ g : Nat, g + m3 = n ∧ xs = [.int .i64 g] ∧ s2 = s') ?_ n ⟨0, by omega, rfl, rfl⟩
      rintro m3 _ _ ⟨g, hk3, rfl, rfl⟩
      simp only [L32_6, nth]
      by_cases hlt3 : g < n
      · have hglen : g < (tally n E.flatten).length := by rw [tally_len]; exact hlt3
        have hcell := hb2.at_ oneI hglen
        rw [tally_at _ hlt3] at hcell
        have hone : E.flatten.count (g : Int) = 1 := by
          have h1 := count_le_one hev.full.nodup (g : Int)
          have h2 := List.one_le_count_iff.2 (hev.full.all g hlt3)
          omega
        rw [hone] at hcell
        have hia : evIndexAddr oT 25 (.slice (some ⟨N, 0, none⟩) n n) (.int .i64 g) = some (.pointer (some ⟨N, g, none⟩)) := by
          rw [ia25 _ _ _ _ _ _ (by omega) (by omega)]; simp
        simp [hlt3, hia, hcell]
        exact ⟨m3 - 1, by omega, g + 1, by omega, by rw [i64_wrap _ (by omega)]; simp⟩
      · have hgn : g = n := by omega
        subst hgn
        simp
        exact ⟨m - 1, by omega, i + 1, by omega, by rw [i64_wrap _ (by omega)]; simp, l2, ks2⟩
  · have hkk : i = S.length := by omega
    subst hkk
    simp [h3.len, ks]
end
end Go.Ev

namespace Go.Ev

def rowP (T : List Int) (a : Int) : List (Int × Int) := (T.filter fun b => decide (b ≠ a)).map fun b => (a, b)
def pairsT (T : List Int) : List (Int × Int) := T.flatMap (rowP T)
def pairsE (E : List (List Int)) : List (Int × Int) := E.flatMap pairsT
def incs (S : Sched) : List (Int × Int) := S.flatMap pairsE

theorem count_row (T : List Int) (x a b : Int) : (rowP T x).count (a, b) = if x = a ∧ a ≠ b then T.count b else 0 := by
  unfold rowP
  induction T with
  | nil => simp
  | cons y T ih =>
    by_cases hy : y = x
    · subst hy
      rw [List.filter_cons_of_neg (by simp), ih]
      by_cases h : y = a ∧ a ≠ b
      · obtain ⟨rfl, h2⟩ := h
        rw [if_pos ⟨rfl, h2⟩, if_pos ⟨rfl, h2⟩, List.count_cons_of_ne h2]
      · rw [if_neg h, if_neg h]
    · rw [List.filter_cons_of_pos (by simpa using hy), List.map_cons, List.count_cons, ih]
      by_cases hx : x = a
      · subst hx
        by_cases hb : x = b
        · subst hb
          have : ¬ ((x, y) == (x, x)) = true := by simp [hy]
          simp [this]
        · by_cases hyb : y = b
          · subst hyb; simp [hb]
          · have : ¬ ((x, y) == (x, b)) = true := by simp [hyb]
            simp [this, hb, List.count_cons_of_ne hyb]
      · have : ¬ ((x, y) == (a, b)) = true := by simp [hx]
        simp [this, hx]

theorem count_flat (T : List Int) (a b : Int) : ∀ L : List Int, (L.flatMap (rowP T)).count (a, b) = if a = b then 0 else L.count a * T.count b := by
  intro L
  induction L with
  | nil => simp
  | cons x L ih =>
    rw [List.flatMap_cons, List.count_append, ih, count_row]
    by_cases hab : a = b
    · simp [hab]
    · by_cases hx : x = a
      · subst hx; simp [hab, Nat.add_mul]; omega
      · simp [hab, hx, List.count_cons_of_ne hx]

theorem count_pairsT (T : List Int) (a b : Int) : (pairsT T).count (a, b) = if a = b then 0 else T.count a * T.count b := count_flat T a b T

theorem count_pairsE_le {E : List (List Int)} (h : E.flatten.Nodup) (a b : Int) : (pairsE E).count (a, b) ≤ E.flatten.count a := by
  unfold pairsE
  induction E with
  | nil => simp
  | cons T E ih =>
    rw [List.flatten_cons] at h ⊢
    obtain ⟨h1, h2, _⟩ := List.nodup_append.1 h
    rw [List.flatMap_cons, List.count_append, List.count_append, count_pairsT]
    have := ih h2
    have hb := count_le_one h1 b
    split
    · omega
    · have : T.count a * T.count b ≤ T.count a * 1 := Nat.mul_le_mul_left _ hb
      omega

theorem count_pairsE_one {E : List (List Int)} (h : E.flatten.Nodup) (a b : Int) : (pairsE E).count (a, b) ≤ 1 := Nat.le_trans (count_pairsE_le h a b) (count_le_one h a)

theorem count_incs {S : Sched} (h : ∀ E ∈ S, E.flatten.Nodup) (a b : Int) : (incs S).count (a, b) ≤ S.length := by
  unfold incs
  induction S with
  | nil => simp
  | cons E S ih =>
    rw [List.flatMap_cons, List.count_append, List.length_cons]
    have := ih fun E hE => h E (by simp [hE])
    have := count_pairsE_one (h E (by simp)) a b
    omega

theorem count_symT (T : List Int) (a b : Int) : (pairsT T).count (a, b) = (pairsT T).count (b, a) := by
  rw [count_pairsT, count_pairsT]
  by_cases h : a = b
  · simp [h]
  · rw [if_neg h, if_neg (fun e => h e.symm), Nat.mul_comm]

theorem count_flatMap_congr {α : Type} {f : α → List (Int × Int)} {x y : Int × Int} (h : ∀ a, (f a).count x = (f a).count y) : ∀ l : List α, (l.flatMap f).count x = (l.flatMap f).count y := by
  intro l
  induction l with
  | nil => simp
  | cons a l ih => rw [List.flatMap_cons, List.count_append, List.count_append, ih, h]

theorem count_sym (S : Sched) (a b : Int) : (incs S).count (a, b) = (incs S).count (b, a) :=
  count_flatMap_congr (fun E => count_flatMap_congr (fun T => count_symT T a b) E) S

theorem count_diag (S : Sched) (a : Int) : (incs S).count (a, a) = 0 := by
  unfold incs pairsE
  induction S with
  | nil => simp
  | cons E S ih =>
    rw [List.flatMap_cons, List.count_append, ih, Nat.add_zero]
    induction E with
    | nil => simp
    | cons T E ihE => rw [List.flatMap_cons, List.count_append, ihE, count_pairsT]; simp

theorem mem_pairsT {T : List Int} {p : Int × Int} (h : p ∈ pairsT T) : p.1 ∈ T ∧ p.2 ∈ T := by
  unfold pairsT rowP at h
  obtain ⟨a, ha, h2⟩ := List.mem_flatMap.1 h
  obtain ⟨b, hb, rfl⟩ := List.mem_map.1 h2
  exact ⟨ha, (List.mem_filter.1 hb).1⟩

theorem mem_incs {S : Sched} {n : Nat} (h : ∀ E ∈ S, EvOk n E) {p : Int × Int} (hp : p ∈ incs S) : (0 ≤ p.1 ∧ p.1 < n) ∧ (0 ≤ p.2 ∧ p.2 < n) := by
  unfold incs pairsE at hp
  obtain ⟨E, hE, h2⟩ := List.mem_flatMap.1 hp
  obtain ⟨T, hT, h3⟩ := List.mem_flatMap.1 h2
  obtain ⟨h4, h5⟩ := mem_pairsT h3
  have hr := (h E hE).full.range
  exact ⟨hr _ (List.mem_flatten.2 ⟨T, hT, h4⟩), hr _ (List.mem_flatten.2 ⟨T, hT, h5⟩)⟩

/-! ### how many pairs -/
theorem row_len {T : List Int} (h : T.Nodup) {a : Int} (ha : a ∈ T) : (rowP T a).length = T.length - 1 := by
  unfold rowP
  rw [List.length_map]
  induction T with
  | nil => simp at ha
  | cons x T ih =>
    obtain ⟨h1, h2⟩ := List.nodup_cons.1 h
    by_cases hx : x = a
    · subst hx
      rw [List.filter_cons_of_neg (by simp)]
      have : T.filter (fun b => decide (b ≠ x)) = T := by
        rw [List.filter_eq_self]
        intro b hb
        have : b ≠ x := fun e => h1 (e ▸ hb)
        simpa using this
      rw [this]; simp
    · have hm : a ∈ T := by
        rcases List.mem_cons.1 ha with e | e
        · exact absurd e.symm hx
        · exact e
      rw [List.filter_cons_of_pos (by simpa using hx), List.length_cons, ih h2 hm, List.length_cons]
      have := List.length_pos_of_mem hm
      omega

theorem flat_len {T : List Int} (h : T.Nodup) : ∀ L : List Int, (∀ x ∈ L, x ∈ T) → (L.flatMap (rowP T)).length = L.length * (T.length - 1) := by
  intro L
  induction L with
  | nil => intro _; simp
  | cons x L ih =>
    intro hL
    rw [List.flatMap_cons, List.length_append, row_len h (hL x (by simp)), ih fun y hy => hL y (by simp [hy]), List.length_cons, Nat.add_mul]
    omega

theorem pairsT_len {T : List Int} (h : T.Nodup) : (pairsT T).length = T.length * (T.length - 1) := flat_len h T fun _ h => h

theorem even_mul (k : Nat) : ∃ j, k * (k - 1) = 2 * j := by
  induction k with
  | zero => exact ⟨0, rfl⟩
  | succ k ih =>
    obtain ⟨j, hj⟩ := ih
    refine ⟨j + k, ?_⟩
    cases k with
    | zero => simp at hj ⊢; omega
    | succ k =>
      simp only [Nat.add_sub_cancel] at hj ⊢
      have e1 : (k + 1 + 1) * (k + 1) = (k + 1) * k + 2 * (k + 1) := by
        rw [Nat.add_mul (k + 1) 1 (k + 1), Nat.mul_add (k + 1) k 1]
        omega
      rw [e1, hj]
      omega

theorem met_half (k : Nat) : 2 * (((k : Int) * ((k : Int) - 1)).tdiv 2) = ((k * (k - 1) : Nat) : Int) := by
  obtain ⟨j, hj⟩ := even_mul k
  have h : (k : Int) * ((k : Int) - 1) = ((k * (k - 1) : Nat) : Int) := by
    cases k with
    | zero => simp
    | succ k => simp
  rw [h, hj]
  have : ((2 * j : Nat) : Int) = 2 * (j : Int) := by omega
  rw [this, Int.tdiv_eq_ediv_of_nonneg (by omega)]
  omega

theorem pairsE_len {E : List (List Int)} (h : E.flatten.Nodup) : ((pairsE E).length : Int) = 2 * metN (lens E) := by
  unfold pairsE
  induction E with
  | nil => simp [lens, metN]
  | cons T E ih =>
    rw [List.flatten_cons] at h
    obtain ⟨h1, h2, _⟩ := List.nodup_append.1 h
    rw [List.flatMap_cons, List.length_append, pairsT_len h1]
    have hl : lens (T :: E) = (T.length : Int) :: lens E := rfl
    rw [hl, metN, Int.mul_add, met_half, ← ih h2]
    simp

theorem incs_len {S : Sched} {l : List Int} (h : ∀ E ∈ S, E.flatten.Nodup ∧ l = lens E) : ((incs S).length : Int) = 2 * (S.length * metN l) := by
  unfold incs
  induction S with
  | nil => simp
  | cons E S ih =>
    obtain ⟨h1, h2⟩ := h E (by simp)
    rw [List.flatMap_cons, List.length_append, List.length_cons]
    have a := pairsE_len h1
    rw [← h2] at a
    have b := ih fun E hE => h E (by simp [hE])
    have : (((S.length + 1 : Nat)) : Int) * metN l = S.length * metN l + metN l := by
      rw [Int.natCast_add, Int.add_mul]; simp
    rw [this]
    omega
end Go.Ev

namespace Go.Ev

def sumN : Nat → (Nat → Nat) → Nat
  | 0, _ => 0
  | n + 1, f => sumN n f + f n

theorem sumN_congr {f g : Nat → Nat} : ∀ n, (∀ i, i < n → f i = g i) → sumN n f = sumN n g := by
  intro n
  induction n with
  | zero => intro _; rfl
  | succ n ih => intro h; simp only [sumN, ih fun i hi => h i (by omega), h n (by omega)]

theorem sumN_add (f g : Nat → Nat) : ∀ n, sumN n (fun i => f i + g i) = sumN n f + sumN n g := by
  intro n
  induction n with
  | zero => rfl
  | succ n ih => simp only [sumN, ih]; omega

theorem sumN_zero : ∀ n, sumN n (fun _ => 0) = 0 := by
  intro n
  induction n with
  | zero => rfl
  | succ n ih => simp only [sumN, ih]

theorem sumN_one (a c : Nat) : ∀ n, sumN n (fun i => if a = i then c else 0) = if a < n then c else 0 := by
  intro n
  induction n with
  | zero => rfl
  | succ n ih =>
    simp only [sumN, ih]
    by_cases h : a < n
    · rw [if_pos h, if_neg (by omega), if_pos (by omega)]; rfl
    · by_cases he : a = n
      · rw [if_neg h, if_pos he, if_pos (by omega)]; omega
      · rw [if_neg h, if_neg he, if_neg (by omega)]

theorem sumN_le {f : Nat → Nat} {M : Nat} : ∀ n, (∀ i, i < n → f i ≤ M) → sumN n f ≤ n * M := by
  intro n
  induction n with
  | zero => intro _; simp [sumN]
  | succ n ih =>
    intro h
    have := ih fun i hi => h i (by omega)
    have := h n (by omega)
    simp only [sumN, Nat.add_mul, Nat.one_mul]
    omega

theorem sumN_skip {f : Nat → Nat} {M a : Nat} (ha : f a = 0) : ∀ n, a < n → (∀ i, i < n → f i ≤ M) → sumN n f ≤ (n - 1) * M := by
  intro n
  induction n with
  | zero => intro h; omega
  | succ n ih =>
    intro hlt h
    simp only [sumN, Nat.add_sub_cancel]
    by_cases he : a = n
    · subst he
      rw [ha, Nat.add_zero]
      exact sumN_le a fun i hi => h i (by omega)
    · have h1 := ih (by omega) fun i hi => h i (by omega)
      have h2 := h n (by omega)
      have h3 : n * M = (n - 1) * M + M := by
        cases n with
        | zero => omega
        | succ n => simp [Nat.add_mul]
      omega

theorem total {n : Nat} : ∀ P : List (Int × Int), (∀ p ∈ P, (0 ≤ p.1 ∧ p.1 < n) ∧ (0 ≤ p.2 ∧ p.2 < n)) → P.length = sumN n fun i => sumN n fun k => P.count ((i : Int), (k : Int)) := by
  intro P
  induction P with
  | nil => intro _; simp [sumN_zero]
  | cons p P ih =>
    intro h
    have hr := ih fun q hq => h q (by simp [hq])
    obtain ⟨⟨a0, a1⟩, b0, b1⟩ := h p (by simp)
    have hc : ∀ i k : Nat, (p :: P).count ((i : Int), (k : Int)) = P.count ((i : Int), (k : Int)) + if p.1.toNat = i then (if p.2.toNat = k then 1 else 0) else 0 := fun i k => by
      rw [List.count_cons]
      congr 1
      by_cases h1 : p.1.toNat = i
      · by_cases h2 : p.2.toNat = k
        · have : p = ((i : Int), (k : Int)) := Prod.ext (by simp; omega) (by simp; omega)
          simp [h1, h2, this]
        · have : ¬ p = ((i : Int), (k : Int)) := fun e => h2 (by rw [e]; simp)
          simp [h1, h2, this]
      · have : ¬ p = ((i : Int), (k : Int)) := fun e => h1 (by rw [e]; simp)
        simp [h1, this]
    have hin : ∀ i : Nat, sumN n (fun k => (p :: P).count ((i : Int), (k : Int))) = sumN n (fun k => P.count ((i : Int), (k : Int))) + if p.1.toNat = i then 1 else 0 := fun i => by
      rw [sumN_congr n fun k _ => hc i k, sumN_add]
      congr 1
      by_cases h1 : p.1.toNat = i
      · simp only [h1, if_true]
        rw [sumN_one, if_pos (by omega)]
      · simp only [h1, if_false]
        exact sumN_zero n
    rw [sumN_congr n fun i _ => hin i, sumN_add, sumN_one, if_pos (by omega), ← hr, List.length_cons]

/-- So many pairs at most. -/
theorem total_le {n M : Nat} {P : List (Int × Int)} (h : ∀ p ∈ P, (0 ≤ p.1 ∧ p.1 < n) ∧ (0 ≤ p.2 ∧ p.2 < n)) (hd : ∀ a, P.count (a, a) = 0) (hM : ∀ i k : Nat, i < n → k < n → P.count ((i : Int), (k : Int)) ≤ M) : P.length ≤ n * ((n - 1) * M) := by
  rw [total P h]
  exact sumN_le n fun i hi => sumN_skip (a := i) (hd _) n hi fun k hk => hM i k hi hk

/-- The bound. -/
theorem bound {n M : Nat} {S : Sched} {l : List Int} (hv : ∀ E ∈ S, EvOk n E ∧ l = lens E) (hM : ∀ i k : Nat, i < n → k < n → (incs S).count ((i : Int), (k : Int)) ≤ M) :
    (S.length : Int) * metN l ≤ ((n : Int) * ((n : Int) - 1)).tdiv 2 * M := by
  have h1 := total_le (n := n) (fun p hp => mem_incs (fun E hE => (hv E hE).1) hp) (count_diag S) hM
  have h2 := incs_len (S := S) (l := l) fun E hE => ⟨(hv E hE).1.full.nodup, (hv E hE).2⟩
  have h3 := met_half n
  have h4 : ((n * ((n - 1) * M) : Nat) : Int) = 2 * (((n : Int) * ((n : Int) - 1)).tdiv 2 * M) := by
    rw [← Nat.mul_assoc, Int.natCast_mul, ← h3, Int.mul_assoc]
  have h5 : ((incs S).length : Int) ≤ ((n * ((n - 1) * M) : Nat) : Int) := by omega
  rw [h2, h4] at h5
  omega
end Go.Ev

namespace Go.Ev
open Go.Proofs

theorem RowOf.other {α : Type} {f : α → Value} {s : St} {N M : Nat} {l : List α} (h : RowOf f s N l) (hne : N ≠ M) (o : Obj) : RowOf f (s.put M o) N l := by
  obtain ⟨e, h⟩ := h
  refine ⟨e, ?_⟩
  simp only [St.put, hget_hset]
  rw [if_neg (by omega)]
  exact h

def rowf (n : Nat) : Option Nat → Value
  | none => .slice none 0 0
  | some r => .slice (some ⟨r, 0, none⟩) n n
theorem oneR (n : Nat) (x : Option Nat) : oneC (rowf n x) = true := by cases x <;> rfl

def rowL (n : Nat) (P : List (Int × Int)) (i : Nat) : List Int := (List.range n).map fun (k : Nat) => ((P.count ((i : Int), (k : Int)) : Nat) : Int)
theorem rowL_len (n : Nat) (P : List (Int × Int)) (i : Nat) : (rowL n P i).length = n := by simp [rowL]
theorem rowL_at {n : Nat} (P : List (Int × Int)) (i : Nat) {k : Nat} (h : k < n) : (rowL n P i)[k]'(by rw [rowL_len]; exact h) = ((P.count ((i : Int), (k : Int)) : Nat) : Int) := by simp [rowL]
theorem rowL_nil (n i : Nat) : rowL n [] i = List.replicate n 0 := by
  apply List.ext_getElem (by simp [rowL_len])
  intro k h1 h2
  rw [rowL_at _ _ (by rw [rowL_len] at h1; exact h1)]
  simp
theorem rowL_snoc {n : Nat} (P : List (Int × Int)) {i k : Nat} (hk : k < n) : rowL n (P ++ [((i : Int), (k : Int))]) i = (rowL n P i).set k ((P.count ((i : Int), (k : Int)) : Nat) + 1) := by
  apply List.ext_getElem (by simp [rowL_len])
  intro j h1 h2
  rw [rowL_len] at h1
  rw [rowL_at _ _ h1, List.getElem_set, List.count_append]
  by_cases he : k = j
  · subst he; simp
  · rw [if_neg he, rowL_at _ _ h1]
    have : ¬ ((i : Int), (k : Int)) = ((i : Int), (j : Int)) := fun e => he (by simp at e; omega)
    simp [this]
theorem rowL_other {n : Nat} (P : List (Int × Int)) {i j : Nat} (k : Nat) (h : i ≠ j) : rowL n (P ++ [((i : Int), (k : Int))]) j = rowL n P j := by
  unfold rowL
  apply List.map_congr_left
  intro q _
  rw [List.count_append]
  have : ¬ ((i : Int), (k : Int)) = ((j : Int), (q : Int)) := fun e => h (by simp at e; omega)
  simp [this]

theorem nodup_ne {l : List Nat} (h : l.Nodup) {i j : Nat} (hi : i < l.length) (hj : j < l.length) (hne : i ≠ j) : l[i] ≠ l[j] := by
  have hp := List.pairwise_iff_getElem.1 h
  rcases Nat.lt_or_gt_of_ne hne with hlt | hlt
  · exact hp i j hi hj hlt
  · exact fun e => hp j i hj hi hlt e.symm

/-- A table of numbers of the call's own. -/
structure Mat (n base : Nat) (s : St) (B : Nat) (rs : List Nat) (P : List (Int × Int)) : Prop where
  len : rs.length = n
  rows : RowOf (rowf n) s B (rs.map some)
  cells : ∀ (i : Nat) (h : i < rs.length), Nums s rs[i] (rowL n P i)
  nodup : rs.Nodup
  ne : B ∉ rs
  new : base ≤ B ∧ ∀ r ∈ rs, base ≤ r

section
variable {n base : Nat} {s : St} {B : Nat} {rs : List Nat} {P : List (Int × Int)}

theorem Mat.row (h : Mat n base s B rs P) {i : Nat} (hi : i < n) : evIndexAddr oT 36 (.slice (some ⟨B, 0, none⟩) n n) (.int .i64 i) = some (.pointer (some ⟨B, i, none⟩)) ∧
    cellAt s.heap B i = some (.slice (some ⟨rs[i]'(by rw [h.len]; exact hi), 0, none⟩) n n) := by
  have hl := h.len
  refine ⟨by rw [ia36 _ _ _ _ _ _ (by omega) (by omega)]; simp, ?_⟩
  have := h.rows.at_ (oneR n) (k := i) (by simp; omega)
  rw [this]
  simp [rowf]

theorem Mat.cell (h : Mat n base s B rs P) {i k : Nat} (hi : i < n) (hk : k < n) : evIndexAddr oT 25 (.slice (some ⟨rs[i]'(by rw [h.len]; exact hi), 0, none⟩) n n) (.int .i64 k) = some (.pointer (some ⟨rs[i]'(by rw [h.len]; exact hi), k, none⟩)) ∧
    cellAt s.heap (rs[i]'(by rw [h.len]; exact hi)) k = some (.int .i64 (P.count ((i : Int), (k : Int)) : Nat)) := by
  have hl := h.len
  refine ⟨by rw [ia25 _ _ _ _ _ _ (by omega) (by omega)]; simp, ?_⟩
  have := (h.cells i (by omega)).at_ oneI (k := k) (by rw [rowL_len]; exact hk)
  rw [this, rowL_at _ _ hk]

theorem Mat.bump (h : Mat n base s B rs P) {i k : Nat} (hi : i < n) (hk : k < n) (hl : Live s) {st : St} (hst : Live st) (hb : st.nxt ≤ base) (ks : Keeps st s) :
    ∃ o, evStoreU oT s 3 (.pointer (some ⟨rs[i]'(by rw [h.len]; exact hi), k, none⟩)) (.int .i64 ((P.count ((i : Int), (k : Int)) : Nat) + 1)) = some (undef, s.put (rs[i]'(by rw [h.len]; exact hi)) o) ∧
      Live (s.put (rs[i]'(by rw [h.len]; exact hi)) o) ∧ Keeps st (s.put (rs[i]'(by rw [h.len]; exact hi)) o) ∧ Mat n base (s.put (rs[i]'(by rw [h.len]; exact hi)) o) B rs (P ++ [((i : Int), (k : Int))]) := by
  have hlen := h.len
  have hir : i < rs.length := by omega
  have hrow := h.cells i hir
  obtain ⟨o, h1, h2⟩ := hrow.store oneI (k := k) (by rw [rowL_len]; exact hk) ((P.count ((i : Int), (k : Int)) : Nat) + 1) ty3
  rw [← rowL_snoc P hk] at h2
  have hmem := List.getElem_mem hir
  refine ⟨o, h1, hl.putB hrow.choose_spec o, ks.putB hst (by have := h.new.2 _ hmem; omega) o, h.len, h.rows.other (fun e => h.ne (e ▸ hmem)) o, fun j hj => ?_, h.nodup, h.ne, h.new⟩
  by_cases he : i = j
  · subst he; exact h2
  · rw [rowL_other P k he]
    exact (h.cells j hj).other (nodup_ne h.nodup hj hir (fun e => he e.symm)) o

theorem Mat.upto (h : Mat n base s B rs P) (m : Nat) : Mat n base (s.upto m) B rs P := ⟨h.len, h.rows, h.cells, h.nodup, h.ne, h.new⟩
theorem Mat.keeps {s' : St} (h : Mat n base s B rs P) (k : Keeps s s') : Mat n base s' B rs P := ⟨h.len, h.rows.keeps k, fun i hi => (h.cells i hi).keeps k, h.nodup, h.ne, h.new⟩
end
end Go.Ev

namespace Go.Ev
open Go.Proofs

def rowTo (T : List Int) (a : Int) (k : Nat) : List (Int × Int) := rowP' T a k
where rowP' (T : List Int) (a : Int) (k : Nat) : List (Int × Int) := ((T.take k).filter fun b => decide (b ≠ a)).map fun b => (a, b)

theorem rowTo_all (T : List Int) (a : Int) : rowTo T a T.length = rowP T a := by simp [rowTo, rowTo.rowP', rowP]
theorem rowTo_succ {T : List Int} {k : Nat} (h : k < T.length) (a : Int) : rowTo T a (k + 1) = rowTo T a k ++ if T[k] = a then [] else [(a, T[k])] := by
  unfold rowTo rowTo.rowP'
  rw [List.take_add_one, List.getElem?_eq_getElem h, List.filter_append, List.map_append]
  congr 1
  by_cases he : T[k] = a
  · simp [he]
  · simp [he]
theorem rowTo_sub (T : List Int) (a : Int) (k : Nat) : (rowTo T a k).Sublist (rowP T a) :=
  ((List.take_sublist k T).filter _).map _

theorem count_sub {P Q : List (Int × Int)} (h : P.Sublist Q) (x : Int × Int) : P.count x ≤ Q.count x := h.count_le x

section
variable {st : St} {n : Nat}

theorem meets_row {u : Value} {T : List Int} (h : Ints st.heap u T) (hl : Live st) (hr : ∀ x ∈ T, 0 ≤ x ∧ x < n) {a : Int} (ha : 0 ≤ a ∧ a < n) {P : List (Int × Int)} (hb : ∀ x, (P ++ rowP T a).count x ≤ 64) {s : St} (ls : Live s) (ks : Keeps st s) {B : Nat} {rs : List Nat} (hm : Mat n st.nxt s B rs P)
    {x7 : List Value} {t : Nat} (hx : nth x7 0 = .int .i64 t) (ht : (t : Int) < 9223372036854775807) {n7 : List Value → St → Prop}
    (k : ∀ s', Live s' → Keeps st s' → Mat n st.nxt s' B rs (P ++ rowP T a) → n7 [.int .i64 (t + 1 : Nat)] s') :
    Lp (L33_8 (.slice (some ⟨B, 0, none⟩) n n) (.int .i64 a) u (.int .i64 T.length) x7 n7) [.int .i64 0] s := by
  have hmx := SlOf.max h
  refine Lp.ind (fun m xs s' => ∃ k : Nat, k + m = T.length ∧ xs = [.int .i64 k] ∧ Live s' ∧ Keeps st s' ∧ Mat n st.nxt s' B rs (P ++ rowTo T a k)) ?_ T.length ⟨0, by omega, rfl, ls, ks, by simpa [rowTo, rowTo.rowP'] using hm⟩
  rintro m _ s1 ⟨k1, hk, rfl, l1, ks1, hM⟩
  simp only [L33_8, nth]
  by_cases hlt : k1 < T.length
  · obtain ⟨p, o, q1, q2⟩ := h.at_ hlt
    have q2 := ks1.cell q2
    have hkl : (k1 : Int) < (T.length : Int) := by omega
    obtain ⟨r0, r1⟩ := hr _ (List.getElem_mem hlt)
    have hsucc := rowTo_succ hlt a
    by_cases he : a = T[k1]
    · rw [if_pos he.symm, List.append_nil] at hsucc
      simp [hkl, q1, q2, he]
      rw [← he]
      exact ⟨m - 1, by omega, k1 + 1, by omega, by rw [i64_wrap _ (by omega)]; simp, l1, ks1, by rw [hsucc]; exact hM⟩
    · rw [if_neg (fun e => he e.symm)] at hsucc
      have hai : a.toNat < n := by omega
      have hbi : T[k1].toNat < n := by omega
      have ea : ((a.toNat : Nat) : Int) = a := by omega
      have eb : ((T[k1].toNat : Nat) : Int) = T[k1] := by omega
      obtain ⟨w1, w2⟩ := hM.row hai
      obtain ⟨y1, y2⟩ := hM.cell hai hbi
      obtain ⟨ob, z1, z2, z3, z4⟩ := hM.bump hai hbi l1 hl (Nat.le_refl _) ks1
      rw [ea] at w1
      rw [eb] at y1
      rw [ea, eb] at y2 z1 z4
      have hcount : (P ++ rowTo T a k1).count (a, T[k1]) ≤ 64 := Nat.le_trans (count_sub (List.Sublist.append (List.Sublist.refl P) (rowTo_sub T a k1)) _) (hb _)
      rw [List.append_assoc, ← hsucc] at z4
      generalize (P ++ rowTo T a k1).count (a, T[k1]) = q at y2 z1 hcount
      have hw : IntKind.i64.wrap ((q : Int) + 1) = (q : Int) + 1 := i64_wrap _ (by omega)
      simp [hkl, q1, q2, he, w1, w2, y1, y2, hw, z1]
      exact ⟨m - 1, by omega, k1 + 1, by omega, by rw [i64_wrap _ (by omega)]; simp, z2, z3, z4⟩
  · have hkk : k1 = T.length := by omega
    subst hkk
    rw [rowTo_all] at hM
    have := k s1 l1 ks1 hM
    simp [hx]
    rw [i64_wrap _ (by omega)]
    simpa using this

theorem take_flat_succ {α β : Type} (f : α → List β) {L : List α} {k : Nat} (h : k < L.length) : (L.take (k + 1)).flatMap f = (L.take k).flatMap f ++ f L[k] := by
  rw [List.take_add_one, List.getElem?_eq_getElem h, List.flatMap_append]
  simp

theorem take_flat_sub {α β : Type} (f : α → List β) (L : List α) (k : Nat) : ((L.take k).flatMap f).Sublist (L.flatMap f) := by
  have : L.flatMap f = (L.take k).flatMap f ++ (L.drop k).flatMap f := by rw [← List.flatMap_append, List.take_append_drop]
  rw [this]
  exact List.sublist_append_left _ _

theorem meets_table {v3 w u : Value} {T : List Int} (hu : Ints st.heap u T) {i t : Nat} {p1 o1 p2 o2 : Nat} (hl : Live st)
    (q1 : evIndexAddr oT 67 v3 (.int .i64 i) = some (.pointer (some ⟨p1, o1, none⟩))) (q2 : cellAt st.heap p1 o1 = some w) (q3 : evIndexAddr oT 36 w (.int .i64 t) = some (.pointer (some ⟨p2, o2, none⟩))) (q4 : cellAt st.heap p2 o2 = some u)
    (hr : ∀ x ∈ T, 0 ≤ x ∧ x < n) {P : List (Int × Int)} (hb : ∀ x, (P ++ pairsT T).count x ≤ 64) {s : St} (ls : Live s) (ks : Keeps st s) {B : Nat} {rs : List Nat} (hm : Mat n st.nxt s B rs P)
    {x5 x6 : List Value} (hx5 : nth x5 0 = .int .i64 i) (hx : nth x6 0 = .int .i64 t) (ht : (t : Int) < 9223372036854775807) {n6 : List Value → St → Prop}
    (k : ∀ s', Live s' → Keeps st s' → Mat n st.nxt s' B rs (P ++ pairsT T) → n6 [.int .i64 (t + 1 : Nat)] s') :
    Lp (L33_6 v3 (.slice (some ⟨B, 0, none⟩) n n) u (.int .i64 T.length) x5 x6 n6) [.int .i64 0] s := by
  have hmx := SlOf.max hu
  refine Lp.ind (fun m xs s' => ∃ k : Nat, k + m = T.length ∧ xs = [.int .i64 k] ∧ Live s' ∧ Keeps st s' ∧ Mat n st.nxt s' B rs (P ++ (T.take k).flatMap (rowP T))) ?_ T.length ⟨0, by omega, rfl, ls, ks, by simpa using hm⟩
  rintro m _ s1 ⟨k1, hk, rfl, l1, ks1, hM⟩
  simp only [L33_6, nth, hx5, hx]
  by_cases hlt : k1 < T.length
  · obtain ⟨p, o, w1, w2⟩ := hu.at_ hlt
    have w2 := ks1.cell w2
    have hkl : (k1 : Int) < (T.length : Int) := by omega
    have hsub := take_flat_sub (rowP T) T (k1 + 1)
    have hsucc := take_flat_succ (rowP T) hlt
    simp [hkl, w1, w2, q1, ks1.cell q2, q3, ks1.cell q4, hu.len]
    refine meets_row hu hl hr (hr _ (List.getElem_mem hlt)) (fun x => ?_) l1 ks1 hM rfl (by omega) fun s' a b d => ?_
    · rw [List.append_assoc, ← hsucc]
      exact Nat.le_trans (count_sub (List.Sublist.append (List.Sublist.refl P) hsub) x) (hb x)
    · rw [List.append_assoc, ← hsucc] at d
      exact ⟨m - 1, by omega, k1 + 1, by omega, rfl, a, b, d⟩
  · have hkk : k1 = T.length := by omega
    subst hkk
    rw [List.take_length] at hM
    have := k s1 l1 ks1 hM
    simp
    rw [i64_wrap _ (by omega)]
    simpa using this
end
end Go.Ev

namespace Go.Ev
open Go.Proofs

theorem set_build (n : Nat) (rs : List Nat) (N : Nat) (h : rs.length < n) : (rs.map some ++ List.replicate (n - rs.length) none).set rs.length (some N) = (rs ++ [N]).map some ++ List.replicate (n - (rs ++ [N]).length) none := by
  have e : n - rs.length = (n - (rs ++ [N]).length) + 1 := by simp; omega
  rw [e, List.replicate_succ, List.set_append_right _ _ (by simp)]
  simp

section
variable {st : St} {v3 : Value} {S : Sched} {n : Nat}

theorem meets_c (h3 : Sch st.heap v3 S) (hn : n ≤ 64) (hv : ∀ E ∈ S, EvOk n E) (hS : S.length ≤ 64) :
    CallP Tryz.prog 33 [.int .i64 n, v3] st fun u s => ∃ B rs, u = .slice (some ⟨B, 0, none⟩) n n ∧ Live s ∧ Keeps st s ∧ Mat n st.nxt s B rs (incs S) := CallP.live fun hl => by
  have hbound : ∀ x, (incs S).count x ≤ 64 := fun x => Nat.le_trans (count_incs (fun E hE => (hv E hE).full.nodup) x.1 x.2) hS
  have hm3 := SlOf.max h3
  apply r33
  unfold R33
  refine make_rule (f := rowf n) (z := none) ty36 ty25 rfl (by decide) hl (n := n) (by omega) fun B s1 l1 k1 hB hb => ?_
  -- the rows
  refine Lp.ind (fun m xs s => ∃ rs : List Nat, rs.length + m = n ∧ xs = [.int .i64 rs.length] ∧ Live s ∧ Keeps st s ∧ RowOf (rowf n) s B (rs.map some ++ List.replicate (n - rs.length) none) ∧
      (∀ r ∈ rs, Nums s r (List.replicate n 0)) ∧ rs.Nodup ∧ B ∉ rs ∧ (∀ r ∈ rs, st.nxt ≤ r)) ?_ n ⟨[], by simp, rfl, l1, k1, by simpa using hb, by simp, by simp, by simp, by simp⟩
  rintro m _ s2 ⟨rs, hk, rfl, l2, k2, hrow, hcells, hnd, hne, hnew⟩
  simp only [L33_0, nth]
  by_cases hlt : rs.length < n
  · have hkl : (rs.length : Int) < (n : Int) := by omega
    simp only [bin_lss, hkl, decide_true, B_some, If_bool]
    refine ⟨fun _ => ?_, fun h => by cases h⟩
    refine make_rule (f := Value.int .i64) (z := 0) ty25 ty3 rfl (by decide) l2 (n := n) (by omega) fun N s3 l3 k3 hN hb3 => ?_
    have hrow3 := hrow.keeps k3
    obtain ⟨ob, z1, z2⟩ := hrow3.store (oneR n) (k := rs.length) (by simp; omega) (some N) ty25
    have hB2 : hget s3.heap B = some _ := hrow3.choose_spec
    have hBs2 : B < s2.nxt := hrow.live l2
    rw [set_build n rs N hlt] at z2
    have hia : evIndexAddr oT 36 (.slice (some ⟨B, 0, none⟩) n n) (.int .i64 rs.length) = some (.pointer (some ⟨B, rs.length, none⟩)) := by
      rw [ia36 _ _ _ _ _ _ (by omega) (by omega)]; simp
    have hlt_r : ∀ r ∈ rs, r < s2.nxt := fun r hr => (hcells r hr).live l2
    rw [hia, B_some]
    have z1' : evStoreU oT s3 25 (.pointer (some ⟨B, rs.length, none⟩)) (.slice (some ⟨N, 0, none⟩) n n) = some (undef, s3.put B ob) := z1
    rw [z1', B2_some]
    rw [bin_add, B_some]
    refine ⟨m - 1, by omega, rs ++ [N], by simp; omega, by rw [i64_wrap _ (by omega)]; simp, l3.putB hB2 ob, (k2.trans k3).putB hl hB ob, z2, fun r hr => ?_, ?_, ?_, ?_⟩
    · rcases List.mem_append.1 hr with hr | hr
      · exact ((hcells r hr).keeps k3).other (show r ≠ B from fun e => hne (by rw [← e]; exact hr)) ob
      · simp only [List.mem_singleton] at hr
        subst hr
        exact hb3.other (by omega) ob
    · rw [nodup_snoc]
      exact ⟨hnd, fun h => by have := hlt_r N h; omega⟩
    · simp only [List.mem_append, List.mem_singleton, not_or]
      exact ⟨hne, by omega⟩
    · intro r hr
      rcases List.mem_append.1 hr with hr | hr
      · exact hnew r hr
      · simp only [List.mem_singleton] at hr
        subst hr
        have := k2.nxt
        omega
  · have hrn : rs.length = n := by omega
    have hM : Mat n st.nxt s2 B rs [] := ⟨hrn, by simpa [hrn] using hrow, fun i hi => by rw [rowL_nil]; exact hcells _ (List.getElem_mem hi), hnd, hne, hB, hnew⟩
    have hnl : ¬ (rs.length : Int) < (n : Int) := by omega
    simp only [bin_lss, hnl, decide_false, B_some, If_bool]
    refine ⟨fun h => (by cases h), fun _ => ?_⟩
    -- the evenings
    refine Lp.ind (fun m xs s => ∃ i : Nat, i + m = S.length ∧ xs = [.int .i64 i] ∧ Live s ∧ Keeps st s ∧ Mat n st.nxt s B rs (incs (S.take i))) ?_ S.length ⟨0, by omega, rfl, l2, k2, by simpa [incs] using hM⟩
    rintro m2 _ s4 ⟨i, hk4, rfl, l4, k4, hM4⟩
    simp only [L33_2, nth]
    by_cases hlt4 : i < S.length
    · obtain ⟨p, o, w, q1, q2, q3⟩ := h3.at_ hlt4
      have hev := hv _ (List.getElem_mem hlt4)
      have hkl : (i : Int) < (S.length : Int) := by omega
      have hsucc : incs (S.take (i + 1)) = incs (S.take i) ++ pairsE S[i] := take_flat_succ pairsE hlt4
      have hsubS : (incs (S.take (i + 1))).Sublist (incs S) := take_flat_sub pairsE S (i + 1)
      have hmE := SlOf.max q3
      simp only [h3.len, B_some, bin_lss, hkl, decide_true, If_bool]
      refine ⟨fun _ => ?_, fun h => by cases h⟩
      generalize S[i] = E at *
      refine Lp.ind (fun m xs s => ∃ t : Nat, t + m = E.length ∧ xs = [.int .i64 t] ∧ Live s ∧ Keeps st s ∧ Mat n st.nxt s B rs (incs (S.take i) ++ (E.take t).flatMap pairsT)) ?_ E.length ⟨0, by omega, rfl, l4, k4, by simpa using hM4⟩
      rintro m5 _ s5 ⟨t, hk5, rfl, l5, k5, hM5⟩
      simp only [L33_4, nth]
      by_cases hlt5 : t < E.length
      · obtain ⟨p2, o2, u, y1, y2, y3⟩ := q3.at_ hlt5
        have hkl5 : (t : Int) < (E.length : Int) := by omega
        have hsuccE := take_flat_succ pairsT hlt5
        have hsubE := take_flat_sub pairsT E (t + 1)
        simp [q1, k5.cell q2, q3.len, hlt5, y1, k5.cell y2, y3.len]
        refine meets_table y3 hl q1 q2 y1 y2 (fun x hx => hev.full.range x (List.mem_flatten.2 ⟨_, List.getElem_mem hlt5, hx⟩)) (fun x => ?_) l5 k5 hM5 rfl rfl (by omega) fun s' a b d => ?_
        · rw [List.append_assoc, ← hsuccE]
          refine Nat.le_trans (count_sub (List.Sublist.append (List.Sublist.refl _) hsubE) x) (Nat.le_trans (count_sub ?_ x) (hbound x))
          have : incs (S.take i) ++ E.flatMap pairsT = incs (S.take (i + 1)) := hsucc.symm
          rw [this]
          exact hsubS
        · rw [List.append_assoc, ← hsuccE] at d
          exact ⟨m5 - 1, by omega, t + 1, by omega, rfl, a, b, d⟩
      · have htE : t = E.length := by omega
        subst htE
        rw [List.take_length] at hM5
        have : incs (S.take i) ++ E.flatMap pairsT = incs (S.take (i + 1)) := hsucc.symm
        rw [this] at hM5
        simp [q1, k5.cell q2, q3.len]
        exact ⟨m2 - 1, by omega, i + 1, by omega, by rw [i64_wrap _ (by omega)]; simp, l5, k5, hM5⟩
    · have hkk : i = S.length := by omega
      subst hkk
      rw [List.take_length] at hM4
      simp [h3.len]
      exact ⟨l4, k4, rs, hM4⟩
end
end Go.Ev
