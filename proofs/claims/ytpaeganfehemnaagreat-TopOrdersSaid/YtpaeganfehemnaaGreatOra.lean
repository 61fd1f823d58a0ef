/- The law of orders: what its functions compute, first part. -/
import Derived.Test.YtpaeganfehemnaaGreatOro

namespace Go.Ev
open Go.Proofs

def plainA : Option (Nat × Nat) → Option Addr
  | none => none
  | some p => some ⟨p.1, p.2, none⟩
@[simp] theorem plainA_none : plainA none = none := rfl
@[simp] theorem plainA_some (b o : Nat) : plainA (some (b, o)) = some ⟨b, o, none⟩ := rfl

/-- A slice value that stands for a list of strings. -/
def Strs (h : Heap) (v : Value) (l : List ByteArray) : Prop :=
  (l = [] ∧ ∃ a, v = .iface 1 (.slice (some a) 0 0)) ∨ ∃ a cap, v = .slice (plainA a) l.length cap ∧ l.length ≤ cap ∧ cap ≤ 9223372036854775807 ∧ (l ≠ [] → ∃ b off, a = some (b, off) ∧ ∀ j (hj : j < l.length), cellAt h b (off + j) = some (.string l[j]))

theorem Strs.keeps {a s : St} (h : Keeps a s) {v : Value} {l : List ByteArray} (hs : Strs a.heap v l) : Strs s.heap v l := by
  rcases hs with hs | ⟨x, cap, h1, h2, h3, h4⟩
  · exact .inl hs
  · exact .inr ⟨x, cap, h1, h2, h3, fun hn => let ⟨b, off, h5, h6⟩ := h4 hn; ⟨b, off, h5, fun j hj => h.cell (h6 j hj)⟩⟩

theorem Strs.one {h : Heap} {v : Value} {l : List ByteArray} (hs : Strs h v l) : oneC v = true := by rcases hs with ⟨_, a, rfl⟩ | ⟨a, cap, rfl, _⟩ <;> rfl
theorem Strs.len {h : Heap} {v : Value} {l : List ByteArray} (hs : Strs h v l) (s : St) : evLenM oT s 75 v = some (.int .i64 l.length) := by
  rcases hs with ⟨rfl, a, rfl⟩ | ⟨a, cap, rfl, _⟩
  · simp [evLenM, ty75, goInt]
  · simp
theorem Strs.max {h : Heap} {v : Value} {l : List ByteArray} (hs : Strs h v l) : l.length ≤ 9223372036854775807 := by
  rcases hs with ⟨rfl, _⟩ | ⟨a, cap, rfl, h1, h2, _⟩
  · simp
  · omega
theorem Strs.at_ {h : Heap} {v : Value} {l : List ByteArray} (hs : Strs h v l) {k : Nat} (hk : k < l.length) : ∃ b o, evIndexAddr oT 75 v (.int .i64 k) = some (.pointer (some ⟨b, o, none⟩)) ∧ cellAt h b o = some (.string l[k]) := by
  rcases hs with ⟨rfl, _⟩ | ⟨a, cap, rfl, h1, h2, h3⟩
  · simp at hk
  obtain ⟨b, off, rfl, hc⟩ := h3 (by rintro rfl; simp at hk)
  exact ⟨b, off + k, by simp [ia75, hk], hc k hk⟩

def hasS (l : List ByteArray) (s : ByteArray) : Bool := l.any fun x => eqS x s
/-- The number of the first that is the string; the length if none is. -/
def rankS : List ByteArray → ByteArray → Nat
  | [], _ => 0
  | x :: l, s => if eqS x s then 0 else rankS l s + 1

theorem hasS_take_succ {l : List ByteArray} {s : ByteArray} {k : Nat} (h : k < l.length) : hasS (l.take (k + 1)) s = (hasS (l.take k) s || eqS l[k] s) := by
  unfold hasS
  rw [List.take_add_one, List.getElem?_eq_getElem h, List.any_append]
  simp only [Option.toList_some, List.any_cons, List.any_nil, Bool.or_false]

theorem hasS_at {l : List ByteArray} {s : ByteArray} {k : Nat} (h : k < l.length) (he : eqS l[k] s = true) : hasS l s = true := by
  unfold hasS
  rw [List.any_eq_true]
  exact ⟨l[k], List.getElem_mem h, he⟩

theorem rankS_at : ∀ {l : List ByteArray} {s : ByteArray} {k : Nat} (h : k < l.length), hasS (l.take k) s = false → eqS l[k] s = true → rankS l s = k := by
  intro l
  induction l with
  | nil => intro s k h; simp at h
  | cons x l ih =>
    intro s k h h1 h2
    cases k with
    | zero => simp only [List.getElem_cons_zero] at h2; simp [rankS, h2]
    | succ k =>
      simp only [List.getElem_cons_succ] at h2
      simp only [List.take_succ_cons, hasS, List.any_cons, Bool.or_eq_false_iff] at h1
      simp only [rankS, h1.1, Bool.false_eq_true, if_false]
      rw [ih (by simpa using h) h1.2 h2]

theorem rankS_none : ∀ {l : List ByteArray} {s : ByteArray}, hasS l s = false → rankS l s = l.length := by
  intro l
  induction l with
  | nil => intro s _; rfl
  | cons x l ih =>
    intro s h
    simp only [hasS, List.any_cons, Bool.or_eq_false_iff] at h
    simp only [rankS, h.1, Bool.false_eq_true, if_false, List.length_cons]
    rw [ih h.2]

theorem has_q {st : St} {v : Value} {l : List ByteArray} (h : Strs st.heap v l) (s : ByteArray) : Quiet 257 [v, .string s] st (.bool (hasS l s)) := Quiet.of fun hl => by
  apply r257
  have hm := h.max
  refine Lp.ind (fun n xs t => ∃ k : Nat, k + n = l.length ∧ hasS (l.take k) s = false ∧ xs = [.int .i64 k] ∧ t = st) ?_ l.length ⟨0, by omega, rfl, rfl, rfl⟩
  rintro n _ _ ⟨k, hk, hn, rfl, rfl⟩
  simp [L257_0, h.len]
  refine ⟨fun hlt => ?_, fun hge => ?_⟩
  · obtain ⟨b, off, q1, q2⟩ := h.at_ hlt
    simp [q1, q2]
    refine ⟨fun he => ⟨hasS_at hlt he, Keeps.refl _⟩, fun he => ⟨n - 1, by omega, k + 1, by omega, by rw [hasS_take_succ hlt, hn]; exact he, by rw [i64_wrap _ (by omega)]; simp⟩⟩
  · have : k = l.length := by omega
    subst this
    rw [List.take_length] at hn
    exact ⟨hn, Keeps.refl _⟩

theorem rank_q {st : St} {v : Value} {l : List ByteArray} (h : Strs st.heap v l) (s : ByteArray) : Quiet 179 [v, .string s] st (.int .i64 (rankS l s)) := Quiet.of fun hl => by
  apply r179
  have hm := h.max
  refine Lp.ind (fun n xs t => ∃ k : Nat, k + n = l.length ∧ hasS (l.take k) s = false ∧ xs = [.int .i64 k] ∧ t = st) ?_ l.length ⟨0, by omega, rfl, rfl, rfl⟩
  rintro n _ _ ⟨k, hk, hn, rfl, rfl⟩
  simp [L179_0, h.len]
  refine ⟨fun hlt => ?_, fun hge => ?_⟩
  · obtain ⟨b, off, q1, q2⟩ := h.at_ hlt
    simp [q1, q2]
    refine ⟨fun he => ⟨by rw [rankS_at hlt hn he], Keeps.refl _⟩, fun he => ⟨n - 1, by omega, k + 1, by omega, by rw [hasS_take_succ hlt, hn]; exact he, by rw [i64_wrap _ (by omega)]; simp⟩⟩
  · have : k = l.length := by omega
    subst this
    rw [List.take_length] at hn
    exact ⟨by rw [rankS_none hn], Keeps.refl _⟩

theorem between_q (a b c : Int) (st : St) : Quiet 180 [.int .i64 a, .int .i64 b, .int .i64 c] st (.bool (decide (b ≤ a ∧ a ≤ c))) := Quiet.of fun hl => by
  apply r180
  unfold R180
  by_cases h : b ≤ a <;> simp [h, Keeps.refl]

def keyI (i n : Int) : Int := (IntKind.i64.wrap (IntKind.i64.wrap (i * IntKind.i64.wrap (IntKind.i64.wrap (n + n) + 1)) + n)).tmod 64
theorem key_q (i n : Int) (st : St) : Quiet 181 [.int .i64 i, .int .i64 n] st (.int .i64 (keyI i n)) := Quiet.of fun hl => by
  apply r181
  unfold R181
  rw [bin_add, B_some]
  rw [bin_add, B_some]
  rw [bin_mul, B_some]
  rw [bin_add, B_some]
  rw [bin_rem _ _ _ _ _ (by decide), B_some]
  exact ⟨rfl, Keeps.refl _⟩

/-! ### names -/
def byteN (s : ByteArray) (k : Nat) : Nat := match byteAt s.data.toList k with | some b => b.toNat | none => 0
theorem ix9 (s : ByteArray) (i : Int) (h0 : 0 ≤ i) (h1 : i < s.size) : evIndex oT 9 (.string s) (.int .i64 i) = some (.int .u8 (byteN s i.toNat)) := by
  obtain ⟨k, rfl⟩ := Int.eq_ofNat_of_zero_le h0
  have hk : k < s.data.toList.length := by
    have : s.data.toList.length = s.size := by rw [Array.length_toList]; rfl
    omega
  have hb : byteAt s.data.toList k = some s.data.toList[k] := by rw [byteAt_eq, List.getElem?_eq_getElem hk]
  simp only [evIndex, ty9, Int.toNat_natCast, byteN, hb]

def smallTo (s : ByteArray) : Nat → Bool
  | 0 => true
  | k + 1 => smallTo s k && decide (97 ≤ byteN s k ∧ byteN s k ≤ 122)
def nameB (s : ByteArray) : Bool := decide (1 ≤ s.size ∧ s.size ≤ 12) && smallTo s s.size

theorem smallTo_le {s : ByteArray} {m : Nat} (h : smallTo s m = true) : ∀ k, k ≤ m → smallTo s k = true := by
  induction m with
  | zero => intro k hk; obtain rfl : k = 0 := by omega
            exact h
  | succ m ih =>
    intro k hk
    simp only [smallTo, Bool.and_eq_true] at h
    by_cases e : k = m + 1
    · subst e; simp only [smallTo, Bool.and_eq_true]; exact h
    · exact ih h.1 k (by omega)

theorem small_bad {s : ByteArray} {k : Nat} (h : k < s.size) (hb : byteN s k < 97 ∨ 122 < byteN s k) : smallTo s s.size = false := by
  cases hs : smallTo s s.size with
  | false => rfl
  | true =>
    have := smallTo_le hs (k + 1) h
    simp only [smallTo, Bool.and_eq_true, decide_eq_true_eq] at this
    omega

theorem name_q (s : ByteArray) (st : St) : Quiet 138 [.string s] st (.bool (nameB s)) := Quiet.of fun hl => by
  apply r138
  unfold R138
  by_cases h1 : (s.size : Int) < 1
  · have : ¬ (1 ≤ s.size) := by omega
    simp [h1, nameB, this, Keeps.refl]
  · by_cases h2 : (12 : Int) < s.size
    · have : ¬ (s.size ≤ 12) := by omega
      simp [h1, h2, nameB, this, Keeps.refl]
    · simp [h1, h2]
      refine Lp.ind (fun n xs t => ∃ k : Nat, k + n = s.size ∧ smallTo s k = true ∧ xs = [.int .i64 k] ∧ t = st) ?_ s.size ⟨0, by omega, rfl, rfl, rfl⟩
      rintro n _ _ ⟨k, hk, hn, rfl, rfl⟩
      simp [L138_0]
      refine ⟨fun hlt => ?_, fun hge => ?_⟩
      · simp [ix9, hlt]
        by_cases h3 : (byteN s k : Int) < 97
        · simp [h3, Keeps.refl, nameB, small_bad hlt (.inl (by omega))]
        · by_cases h4 : (122 : Int) < byteN s k
          · simp [h3, h4, ix9, hlt, Keeps.refl, nameB, small_bad hlt (.inr (by omega))]
          · simp [h3, h4, ix9, hlt]
            exact ⟨n - 1, by omega, k + 1, by omega, by simp [smallTo, hn]; omega, by rw [i64_wrap _ (by omega)]; simp⟩
      · have : k = s.size := by omega
        subst this
        simp [nameB, hn, Keeps.refl]
        omega

theorem cname_q (s : ByteArray) (hs : s.size ≤ 9223372036854775807) (st : St) : Quiet 330 [.string s] st (.bool (nameB s)) := Quiet.of fun hl => by
  apply r330
  refine Lp.ind (fun n xs t => ∃ k : Nat, k + n = s.size ∧ smallTo s k = true ∧ xs = [.int .i64 k] ∧ t = st) ?_ s.size ⟨0, by omega, rfl, rfl, rfl⟩
  rintro n _ _ ⟨k, hk, hn, rfl, rfl⟩
  simp [L330_0]
  refine ⟨fun hlt => ?_, fun hge => ?_⟩
  · simp [ix9, hlt]
    by_cases h3 : (byteN s k : Int) < 97
    · simp [h3, Keeps.refl, nameB, small_bad hlt (.inl (by omega))]
    · by_cases h4 : (122 : Int) < byteN s k
      · simp [h3, h4, ix9, hlt, Keeps.refl, nameB, small_bad hlt (.inr (by omega))]
      · simp [h3, h4, ix9, hlt]
        exact ⟨n - 1, by omega, k + 1, by omega, by simp [smallTo, hn]; omega, by rw [i64_wrap _ (by omega)]; simp⟩
  · have : k = s.size := by omega
    subst this
    by_cases h1 : (1 : Int) ≤ s.size <;> by_cases h2 : (s.size : Int) ≤ 12 <;> simp [h1, h2, nameB, hn, Keeps.refl] <;> omega
end Go.Ev

namespace Go.Ev
open Go.Proofs

structure Cl where
  kind : Int
  among : ByteArray
  last : Bool
  names : List ByteArray
  n : Int

structure Gu where
  name : ByteArray
  rank : ByteArray
  court : ByteArray
  since : Int
  side : Int
  diet : ByteArray
  host : Bool
  access : Bool
  tongues : List ByteArray

def clL (c : Cl) (nv : Value) : List Value := [.int .u8 c.kind, .string c.among, .bool c.last, nv, .int .i64 c.n]
def clV (c : Cl) (nv : Value) : Value := .agg ⟨clL c nv⟩
def guL (g : Gu) (tv : Value) : List Value := [.string g.name, .string g.rank, .string g.court, .int .i64 g.since, .int .i64 g.side, .string g.diet, .bool g.host, .bool g.access, tv]
def guV (g : Gu) (tv : Value) : Value := .agg ⟨guL g tv⟩

theorem cellAt_cellsN {h : Heap} {b o n : Nat} {l : List Value} (e : cellsN h b o n = some (.agg ⟨l⟩)) (i : Nat) (hi : i < n) : cellAt h b (o + i) = l[i]? := by
  unfold cellsN at e
  unfold cellAt
  split at e
  · rename_i c t f hc
    split at e
    · rename_i l' hl
      simp only [Option.some.injEq, Value.agg.injEq, Array.mk.injEq] at e
      subst e
      have h1 := loadN_get hl i hi
      have h2 : i < l'.length := by have := loadN_len hl; omega
      rw [List.getElem?_eq_getElem h2] at h1
      rw [List.getElem?_eq_getElem h2]
      exact getC_of h1.symm (loadN_nohole hl _ (List.getElem_mem h2))
    · cases e
  · cases e

/-- A value that stands for a clause. -/
def ClV (h : Heap) (v : Value) (c : Cl) : Prop := ∃ nv, v = clV c nv ∧ Strs h nv c.names
def GuV (h : Heap) (v : Value) (g : Gu) : Prop := ∃ tv, v = guV g tv ∧ Strs h tv g.tongues
theorem ClV.keeps {a s : St} (h : Keeps a s) {v : Value} {c : Cl} (hs : ClV a.heap v c) : ClV s.heap v c := let ⟨nv, h1, h2⟩ := hs; ⟨nv, h1, h2.keeps h⟩
theorem GuV.keeps {a s : St} (h : Keeps a s) {v : Value} {c : Gu} (hs : GuV a.heap v c) : GuV s.heap v c := let ⟨nv, h1, h2⟩ := hs; ⟨nv, h1, h2.keeps h⟩

/-- Strings of lengths that can be counted. -/
def Cl.ok (c : Cl) : Prop := c.among.size ≤ 9223372036854775807 ∧ ∀ s ∈ c.names, s.size ≤ 9223372036854775807

def formedB (c : Cl) : Bool :=
  if c.kind = 1 then decide (1 ≤ c.names.length ∧ c.names.length ≤ 16) && (c.n == 0) && !c.last && eqS c.among ⟨⟨[]⟩⟩
  else if c.kind = 2 ∨ c.kind = 3 ∨ c.kind = 8 ∨ c.kind = 9 then decide (c.names.length = 0) && (c.n == 0) && !c.last
  else if c.kind = 4 then decide (c.names.length = 0) && (decide (1 ≤ c.n) && decide (c.n ≤ 2))
  else if c.kind = 5 then decide (c.names.length = 0) && (c.n == 0)
  else if c.kind = 6 ∨ c.kind = 7 then decide (1 ≤ c.names.length ∧ c.names.length ≤ 16) && (c.n == 0)
  else if c.kind = 10 then decide (c.names.length = 0) && (decide (0 ≤ c.n) && decide (c.n ≤ 63)) && !c.last
  else false

theorem clL_one {c : Cl} {nv : Value} (h : oneC nv = true) : (clL c nv).all oneC = true := by simp only [clL, List.all_cons, h]; rfl
theorem guL_one {g : Gu} {tv : Value} (h : oneC tv = true) : (guL g tv).all oneC = true := by simp only [guL, List.all_cons, h]; rfl

/-- The five cells of a clause. -/
structure ClC (h : Heap) (b o : Nat) (c : Cl) (nv : Value) : Prop where
  all : cellsN h b o 5 = some (clV c nv)
  c0 : cellAt h b o = some (.int .u8 c.kind)
  c1 : cellAt h b (o + 1) = some (.string c.among)
  c2 : cellAt h b (o + 2) = some (.bool c.last)
  c3 : cellAt h b (o + 3) = some nv
  c4 : cellAt h b (o + 4) = some (.int .i64 c.n)
theorem ClC.of {h : Heap} {b o : Nat} {c : Cl} {nv : Value} (e : cellsN h b o 5 = some (clV c nv)) : ClC h b o c nv :=
  ⟨e, cellAt_cellsN e 0 (by decide), cellAt_cellsN e 1 (by decide), cellAt_cellsN e 2 (by decide), cellAt_cellsN e 3 (by decide), cellAt_cellsN e 4 (by decide)⟩
theorem ClC.keeps {a s : St} (h : Keeps a s) {b o : Nat} {c : Cl} {nv : Value} (e : ClC a.heap b o c nv) : ClC s.heap b o c nv := ClC.of (h.cells e.all)
/-- The nine cells of a guest. -/
structure GuC (h : Heap) (b o : Nat) (g : Gu) (tv : Value) : Prop where
  all : cellsN h b o 9 = some (guV g tv)
  c0 : cellAt h b o = some (.string g.name)
  c1 : cellAt h b (o + 1) = some (.string g.rank)
  c2 : cellAt h b (o + 2) = some (.string g.court)
  c3 : cellAt h b (o + 3) = some (.int .i64 g.since)
  c4 : cellAt h b (o + 4) = some (.int .i64 g.side)
  c6 : cellAt h b (o + 6) = some (.bool g.host)
  c8 : cellAt h b (o + 8) = some tv
theorem GuC.of {h : Heap} {b o : Nat} {g : Gu} {tv : Value} (e : cellsN h b o 9 = some (guV g tv)) : GuC h b o g tv :=
  ⟨e, cellAt_cellsN e 0 (by decide), cellAt_cellsN e 1 (by decide), cellAt_cellsN e 2 (by decide), cellAt_cellsN e 3 (by decide), cellAt_cellsN e 4 (by decide), cellAt_cellsN e 6 (by decide), cellAt_cellsN e 8 (by decide)⟩
theorem GuC.keeps {a s : St} (h : Keeps a s) {b o : Nat} {c : Gu} {nv : Value} (e : GuC a.heap b o c nv) : GuC s.heap b o c nv := GuC.of (h.cells e.all)

theorem box_cl {s : St} (hl : Live s) {c : Cl} {nv : Value} (ho : oneC nv = true) {f : Value → St → Prop}
    (k : ∀ s' b, Live s' → Keeps s s' → ClC s'.heap b 0 c nv → f (.pointer (some ⟨b, 0, none⟩)) s') : B2 (evBox s 171 (clV c nv)) f :=
  box_rule hl (clL_one ho) fun s' b h1 h2 h3 => k s' b h1 h2 (ClC.of h3)
theorem box_gu {s : St} (hl : Live s) {g : Gu} {tv : Value} (ho : oneC tv = true) {f : Value → St → Prop}
    (k : ∀ s' b, Live s' → Keeps s s' → GuC s'.heap b 0 g tv → f (.pointer (some ⟨b, 0, none⟩)) s') : B2 (evBox s 77 (guV g tv)) f :=
  box_rule hl (guL_one ho) fun s' b h1 h2 h3 => k s' b h1 h2 (GuC.of h3)

theorem formed_q {st : St} {v : Value} {c : Cl} (h : ClV st.heap v c) : Quiet 256 [v] st (.bool (formedB c)) := Quiet.of fun hl => by
  obtain ⟨nv, rfl, hs⟩ := h
  apply r256
  refine box_cl hl hs.one fun s1 b _ hk hc => ?_
  have hk2 : ∀ m, s1.nxt ≤ m → Keeps st (s1.upto m) := fun m hm => hk.upto hm
  have h2 := hs.len
  obtain ⟨e, e0, e1, e2, e3, e4⟩ := hc
  simp at e1 e2 e3 e4
  have f1 : decide (1 ≤ c.names.length ∧ c.names.length ≤ 16) = decide (1 ≤ (c.names.length : Int) ∧ (c.names.length : Int) ≤ 16) := by
    rw [decide_eq_decide]; omega
  have f3 : (c.n == 0) = decide (c.n = 0) := by rw [Bool.eq_iff_iff]; simp
  by_cases k1 : c.kind = 1
  · have hf : formedB c = (decide (1 ≤ (c.names.length : Int) ∧ (c.names.length : Int) ≤ 16) && decide (c.n = 0) && !c.last && eqS c.among ⟨⟨[]⟩⟩) := by simp [formedB, k1, f1, f3]
    rw [hf]
    simp [h2, e0, e3, k1]
    refine (between_q _ _ _ _).P fun m hm => ?_
    by_cases c1 : 1 ≤ (c.names.length : Int) ∧ (c.names.length : Int) ≤ 16 <;> by_cases c2 : c.n = 0 <;> cases c3 : c.last <;> simp [e1, e2, e4, c1, c2, c3, hk2 m hm]
  by_cases k2 : c.kind = 2 ∨ c.kind = 3 ∨ c.kind = 8 ∨ c.kind = 9
  · have hf : formedB c = (decide (c.names.length = 0) && decide (c.n = 0) && !c.last) := by simp [formedB, k1, k2, f3]
    rw [hf]
    by_cases c1 : c.names = [] <;> by_cases c2 : c.n = 0 <;> cases c3 : c.last <;> rcases k2 with k | k | k | k <;> simp [h2, e0, e2, e3, e4, k, c1, c2, c3, hk]
  by_cases k4 : c.kind = 4
  · have hf : formedB c = (decide (c.names.length = 0) && decide (1 ≤ c.n ∧ c.n ≤ 2)) := by simp [formedB, k4]
    rw [hf]
    by_cases c1 : c.names = []
    · simp [h2, e0, e3, e4, k4, c1]
      refine (between_q _ _ _ _).P fun m hm => ?_
      simp [hk2 m hm]
    · simp [h2, e0, e3, k4, c1, hk]
  by_cases k5 : c.kind = 5
  · have hf : formedB c = (decide (c.names.length = 0) && decide (c.n = 0)) := by simp [formedB, k5, f3]
    rw [hf]
    by_cases c1 : c.names = [] <;> by_cases c2 : c.n = 0 <;> simp [h2, e0, e3, e4, k5, c1, c2, hk]
  by_cases k6 : c.kind = 6 ∨ c.kind = 7
  · have hf : formedB c = (decide (1 ≤ (c.names.length : Int) ∧ (c.names.length : Int) ≤ 16) && decide (c.n = 0)) := by simp [formedB, k1, k2, k4, k5, k6, f1, f3]
    rw [hf]
    rcases k6 with k | k
    all_goals
      simp [h2, e0, e3, k]
      refine (between_q _ _ _ _).P fun m hm => ?_
      by_cases c1 : 1 ≤ (c.names.length : Int) ∧ (c.names.length : Int) ≤ 16 <;> by_cases c2 : c.n = 0 <;> simp [e4, c1, c2, hk2 m hm] <;> (intros; omega)
  by_cases k10 : c.kind = 10
  · have hf : formedB c = (decide (c.names.length = 0) && decide (0 ≤ c.n ∧ c.n ≤ 63) && !c.last) := by simp [formedB, k10]
    rw [hf]
    by_cases c1 : c.names = []
    · simp [h2, e0, e3, e4, k10, c1]
      refine (between_q _ _ _ _).P fun m hm => ?_
      by_cases c2 : 0 ≤ c.n ∧ c.n ≤ 63 <;> cases c3 : c.last <;> simp [e2, c2, c3, hk2 m hm] <;> (intros; omega)
    · simp [h2, e0, e3, k10, c1, hk]
  · have hf : formedB c = false := by simp [formedB, k1, k2, k4, k5, k6, k10]
    simp only [not_or] at k2 k6
    rw [hf]
    simp [h2, e0, e3, k1, k2, k4, k5, k6, k10, hk]

def namedB (c : Cl) (g : Gu) : Bool :=
  if c.kind = 4 then decide (g.side = c.n)
  else if c.kind = 5 then g.host
  else if c.kind = 7 then hasS c.names g.court
  else g.tongues.any fun s => hasS c.names s

theorem getN_gu (g : Gu) (tv : Value) : getN (guL g tv) 0 = some (.string g.name) ∧ getN (guL g tv) 1 = some (.string g.rank) ∧ getN (guL g tv) 2 = some (.string g.court) ∧ getN (guL g tv) 3 = some (.int .i64 g.since) ∧
    getN (guL g tv) 4 = some (.int .i64 g.side) ∧ getN (guL g tv) 5 = some (.string g.diet) ∧ getN (guL g tv) 6 = some (.bool g.host) ∧ getN (guL g tv) 7 = some (.bool g.access) ∧ getN (guL g tv) 8 = some tv := ⟨rfl, rfl, rfl, rfl, rfl, rfl, rfl, rfl, rfl⟩

theorem any_take_succ {α : Type} {l : List α} {p : α → Bool} {k : Nat} (h : k < l.length) : (l.take (k + 1)).any p = ((l.take k).any p || p l[k]) := by
  rw [List.take_add_one, List.getElem?_eq_getElem h, List.any_append]
  simp only [Option.toList_some, List.any_cons, List.any_nil, Bool.or_false]
theorem any_at {α : Type} {l : List α} {p : α → Bool} {k : Nat} (h : k < l.length) (hp : p l[k] = true) : l.any p = true := List.any_eq_true.2 ⟨l[k], List.getElem_mem h, hp⟩

theorem named_q {st : St} {v u : Value} {c : Cl} {g : Gu} (h : ClV st.heap v c) (h' : GuV st.heap u g) : Quiet 182 [v, u] st (.bool (namedB c g)) := Quiet.of fun hl => by
  obtain ⟨nv, rfl, hs⟩ := h
  obtain ⟨tv, rfl, ht⟩ := h'
  apply r182
  refine box_cl hl hs.one fun s1 b1 l1 k1 hc => ?_
  refine box_gu l1 ht.one fun s2 b2 l2 k2 hg => ?_
  have hk := k1.trans k2
  obtain ⟨e, e0, e1, e2, e3, e4⟩ := hc.keeps k2
  obtain ⟨f, f0, f1, f2, f3, f4, f6, f8⟩ := hg
  simp at e1 e2 e3 e4 f1 f2 f3 f4 f6 f8
  have hs2 := hs.keeps hk
  have ht2 := ht.keeps hk
  simp [e0, e3, e4, f2, f4, f6]
  refine ⟨fun h4 => by simp [namedB, h4, hk], fun h4 => ⟨fun h5 => by simp [namedB, h5, hk], fun h5 => ⟨fun h7 => ?_, fun h7 => ?_⟩⟩⟩
  · refine (has_q hs2 _).P fun m hm => ?_
    simp [namedB, h7, hk.upto hm]
  · have hn : namedB c g = g.tongues.any fun s => hasS c.names s := by simp [namedB, h4, h5, h7]
    refine Lp.ind (fun n xs t => ∃ k m : Nat, k + n = g.tongues.length ∧ (g.tongues.take k).any (fun s => hasS c.names s) = false ∧ xs = [.int .i64 k] ∧ s2.nxt ≤ m ∧ t = s2.upto m) ?_ g.tongues.length ⟨0, s2.nxt, by omega, rfl, rfl, Nat.le_refl _, rfl⟩
    rintro n _ _ ⟨k, m, hk1, hk2, rfl, hm, rfl⟩
    simp [L182_1, e3, f8, ht2.len]
    refine ⟨fun hlt => ?_, fun hge => ?_⟩
    · obtain ⟨b, o, q1, q2⟩ := ht2.at_ hlt
      simp [q1, q2]
      refine (has_q (st := s2.upto m) hs2 _).Q fun m' hm' => ?_
      simp
      refine ⟨fun hb => ⟨by rw [hn]; exact any_at hlt hb, hk.upto (Nat.le_trans hm hm')⟩, fun hb => ?_⟩
      have h3 : (g.tongues.take (k + 1)).any (fun s => hasS c.names s) = false := by rw [any_take_succ hlt, hk2]; exact hb
      refine ⟨n - 1, by omega, k + 1, by omega, by simpa using h3, ?_⟩
      have := ht2.max
      exact ⟨by rw [i64_wrap _ (by omega)]; simp, m', Nat.le_trans hm hm', rfl⟩
    · have : k = g.tongues.length := by omega
      subst this
      rw [List.take_length] at hk2
      exact ⟨by rw [hn]; exact hk2, hk.upto hm⟩
end Go.Ev

namespace Go.Ev
open Go.Proofs

def inB (i : Int) : Bool := decide (0 ≤ i ∧ i ≤ 63)
def beforeB (c : Cl) (a b : Gu) (i j : Int) : Bool :=
  if c.kind = 1 then decide ((rankS c.names a.rank : Int) < rankS c.names b.rank)
  else if c.kind = 2 then decide (a.since ≠ 0) && (decide (b.since = 0) || decide (a.since < b.since))
  else if c.kind = 3 then decide (a.since ≠ 0) && (decide (b.since = 0) || decide (b.since < a.since))
  else if c.kind = 8 then ltS a.name b.name
  else if c.kind = 9 then inB i && inB j && decide (i < j)
  else if c.kind = 10 then inB i && inB j && decide (keyI i c.n < keyI j c.n)
  else if c.last = true then !namedB c a && namedB c b
  else namedB c a && !namedB c b

theorem before_q {st : St} {v u1 u2 : Value} {c : Cl} {a b : Gu} (h : ClV st.heap v c) (h1 : GuV st.heap u1 a) (h2 : GuV st.heap u2 b) (i j : Int) :
    Quiet 107 [v, u1, u2, .int .i64 i, .int .i64 j] st (.bool (beforeB c a b i j)) := Quiet.of fun hl => by
  obtain ⟨nv, rfl, hs⟩ := h
  obtain ⟨tv, rfl, ht⟩ := h1
  obtain ⟨uv, rfl, hu⟩ := h2
  apply r107
  refine box_cl hl hs.one fun s1 p1 l1 k1 hc => ?_
  refine box_gu l1 ht.one fun s2 p2 l2 k2 hg => ?_
  refine box_gu l2 hu.one fun s3 p3 l3 k3 hh => ?_
  have hk := k1.trans (k2.trans k3)
  obtain ⟨e, e0, e1, e2, e3, e4⟩ := hc.keeps (k2.trans k3)
  obtain ⟨f, f0, f1, f2, f3, f4, f6, f8⟩ := hg.keeps k3
  obtain ⟨g, g0, g1, g2, g3, g4, g6, g8⟩ := hh
  simp at e1 e2 e3 e4 f1 f2 f3 f4 f6 f8 g1 g2 g3 g4 g6 g8
  have hs3 := hs.keeps hk
  have vc : ClV s3.heap (clV c nv) c := ⟨nv, rfl, hs3⟩
  have va : GuV s3.heap (guV a tv) a := ⟨tv, rfl, ht.keeps hk⟩
  have vb : GuV s3.heap (guV b uv) b := ⟨uv, rfl, hu.keeps hk⟩
  clear hc hg k1 k2 k3 l1 l2
  by_cases n1 : c.kind = 1
  · simp [e0, n1, e3, f1]
    refine (rank_q hs3 _).Q fun m hm => ?_
    simp [e3, g1]
    refine (rank_q (st := s3.upto m) hs3 _).Q fun m2 hm2 => ?_
    simp [beforeB, n1, hk.upto (Nat.le_trans hm hm2)]
  by_cases n2 : c.kind = 2
  · by_cases c1 : a.since = 0 <;> by_cases c2 : b.since = 0 <;> simp [e0, n2, f3, g3, c1, c2, beforeB, hk]
  by_cases n3 : c.kind = 3
  · by_cases c1 : a.since = 0 <;> by_cases c2 : b.since = 0 <;> simp [e0, n3, f3, g3, c1, c2, beforeB, hk]
  by_cases n8 : c.kind = 8
  · simp [e0, n8, f0, g0, beforeB, hk]
  by_cases n9 : c.kind = 9
  · simp [e0, n9]
    refine (between_q _ _ _ _).P fun m hm => ?_
    by_cases c1 : 0 ≤ i ∧ i ≤ 63
    · simp [c1]
      refine (between_q _ _ _ _).P fun m2 hm2 => ?_
      by_cases c2 : 0 ≤ j ∧ j ≤ 63 <;> simp [c1, c2, beforeB, n9, inB, hk.upto (Nat.le_trans hm hm2)] <;> (intros; omega)
    · simp [c1, beforeB, n9, inB, hk.upto hm]
  by_cases n10 : c.kind = 10
  · simp [e0, n10]
    refine (between_q _ _ _ _).Q fun m hm => ?_
    by_cases c1 : 0 ≤ i ∧ i ≤ 63
    · simp [c1]
      refine (between_q _ _ _ _).Q fun m2 hm2 => ?_
      by_cases c2 : 0 ≤ j ∧ j ≤ 63
      · simp [c2, e4]
        refine (key_q _ _ _).Q fun m3 hm3 => ?_
        simp [e4]
        refine (key_q _ _ _).Q fun m4 hm4 => ?_
        simp [beforeB, n10, inB, c1, c2, hk.upto (Nat.le_trans hm (Nat.le_trans hm2 (Nat.le_trans hm3 hm4)))]
      · simp [c1, c2, beforeB, n10, inB, hk.upto (Nat.le_trans hm hm2)]
    · simp [c1, beforeB, n10, inB, hk.upto hm]
  cases hla : c.last
  · simp [e0, n1, n2, n3, n8, n9, n10, e2, hla, e, f]
    refine (named_q vc va).P fun m hm => ?_
    cases hx : namedB c a
    · simp [beforeB, n1, n2, n3, n8, n9, n10, hla, hx, hk.upto hm]
    · simp [e, g]
      refine (named_q (st := s3.upto m) vc vb).P fun m2 hm2 => ?_
      simp [beforeB, n1, n2, n3, n8, n9, n10, hla, hx, hk.upto (Nat.le_trans hm hm2)]
  · simp [e0, n1, n2, n3, n8, n9, n10, e2, hla, e, f]
    refine (named_q vc va).P fun m hm => ?_
    cases hx : namedB c a
    · simp [e, g]
      refine (named_q (st := s3.upto m) vc vb).P fun m2 hm2 => ?_
      simp [beforeB, n1, n2, n3, n8, n9, n10, hla, hx, hk.upto (Nat.le_trans hm hm2)]
    · simp [beforeB, n1, n2, n3, n8, n9, n10, hla, hx, hk.upto hm]

/-! ### texts -/
/-- A slice value that stands for a list of clauses. -/
def Cls (h : Heap) (v : Value) (l : List Cl) : Prop :=
  ∃ a cap, v = .slice (plainA a) l.length cap ∧ l.length ≤ cap ∧ cap ≤ 9223372036854775807 ∧ (l ≠ [] → ∃ b off, a = some (b, off) ∧ ∀ j (hj : j < l.length), ∃ nv, ClC h b (off + j * 5) l[j] nv ∧ Strs h nv l[j].names)
theorem Cls.keeps {a s : St} (h : Keeps a s) {v : Value} {l : List Cl} (hs : Cls a.heap v l) : Cls s.heap v l := by
  obtain ⟨x, cap, h1, h2, h3, h4⟩ := hs
  refine ⟨x, cap, h1, h2, h3, fun hn => ?_⟩
  obtain ⟨b, off, h5, h6⟩ := h4 hn
  exact ⟨b, off, h5, fun j hj => let ⟨nv, q1, q2⟩ := h6 j hj; ⟨nv, q1.keeps h, q2.keeps h⟩⟩
theorem Cls.len {h : Heap} {v : Value} {l : List Cl} (hs : Cls h v l) (s : St) : evLenM oT s 74 v = some (.int .i64 l.length) := by obtain ⟨a, cap, rfl, _⟩ := hs; simp
theorem Cls.max {h : Heap} {v : Value} {l : List Cl} (hs : Cls h v l) : l.length ≤ 9223372036854775807 := by obtain ⟨a, cap, rfl, h1, h2, _⟩ := hs; omega
theorem Cls.at_ {h : Heap} {v : Value} {l : List Cl} (hs : Cls h v l) {k : Nat} (hk : k < l.length) : ∃ b o nv, evIndexAddr oT 74 v (.int .i64 k) = some (.pointer (some ⟨b, o, none⟩)) ∧ ClC h b o l[k] nv ∧ Strs h nv l[k].names := by
  obtain ⟨a, cap, rfl, h1, h2, h3⟩ := hs
  obtain ⟨b, off, rfl, hc⟩ := h3 (by rintro rfl; simp at hk)
  obtain ⟨nv, q1, q2⟩ := hc k hk
  exact ⟨b, off + k * 5, nv, by simp [ia74, hk], q1, q2⟩

def noS : ByteArray := ⟨⟨[]⟩⟩
/-- What a clause tells of two guests. -/
def tellB (c : Cl) (a b : Gu) (i j : Int) : Int :=
  if !eqS c.among noS && (!eqS a.rank c.among || !eqS b.rank c.among) then 0
  else if beforeB c a b i j then -1 else if beforeB c b a j i then 1 else 0
def reasonGo : List Cl → Gu → Gu → Int → Int → Nat → Int × Int
  | [], _, _, _, _, _ => (-1, 0)
  | c :: l, a, b, i, j, k => if tellB c a b i j = 0 then reasonGo l a b i j (k + 1) else (k, tellB c a b i j)
def two (p : Int × Int) : Value := .tuple ⟨[.int .i64 p.1, .int .i64 p.2]⟩

theorem reasonGo_drop {l : List Cl} {k : Nat} (h : k < l.length) (a b : Gu) (i j : Int) :
    reasonGo (l.drop k) a b i j k = if tellB l[k] a b i j = 0 then reasonGo (l.drop (k + 1)) a b i j (k + 1) else (k, tellB l[k] a b i j) := by
  rw [List.drop_eq_getElem_cons h]; rfl

theorem reason_q {st : St} {v u1 u2 : Value} {l : List Cl} {a b : Gu} (h : Cls st.heap v l) (h1 : GuV st.heap u1 a) (h2 : GuV st.heap u2 b) (i j : Int) :
    Quiet 42 [v, u1, u2, .int .i64 i, .int .i64 j] st (two (reasonGo l a b i j 0)) := Quiet.of fun hl => by
  obtain ⟨tv, rfl, ht⟩ := h1
  obtain ⟨uv, rfl, hu⟩ := h2
  apply r42
  refine box_gu hl ht.one fun s1 p1 l1 k1 hg => ?_
  refine box_gu l1 hu.one fun s2 p2 l2 k2 hh => ?_
  have hk := k1.trans k2
  obtain ⟨f, f0, f1, f2, f3, f4, f6, f8⟩ := hg.keeps k2
  obtain ⟨g, g0, g1, g2, g3, g4, g6, g8⟩ := hh
  simp at f1 g1
  have hs := h.keeps hk
  have va : GuV s2.heap (guV a tv) a := ⟨tv, rfl, ht.keeps hk⟩
  have vb : GuV s2.heap (guV b uv) b := ⟨uv, rfl, hu.keeps hk⟩
  refine Lp.ind (fun n xs t => ∃ k m : Nat, k + n = l.length ∧ reasonGo (l.drop k) a b i j k = reasonGo l a b i j 0 ∧ xs = [.int .i64 k] ∧ s2.nxt ≤ m ∧ t = s2.upto m) ?_ l.length ⟨0, s2.nxt, by omega, rfl, rfl, Nat.le_refl _, rfl⟩
  rintro n _ _ ⟨k, m, hk1, hk2, rfl, hm, rfl⟩
  have hmx := hs.max
  simp [L42_0, hs.len]
  refine ⟨fun hlt => ?_, fun hge => ?_⟩
  · obtain ⟨p, o, nv, q1, q2, q3⟩ := hs.at_ hlt
    obtain ⟨c, c0, c1, c2, c3, c4⟩ := q2
    rw [reasonGo_drop hlt] at hk2
    have vc : ClV s2.heap (clV l[k] nv) l[k] := ⟨nv, rfl, q3⟩
    have next : tellB l[k] a b i j = 0 → ∀ m', m ≤ m' → ∃ n', n' < n ∧ ∃ k_1, k_1 + n' = l.length ∧ reasonGo (List.drop k_1 l) a b i j k_1 = reasonGo l a b i j 0 ∧ IntKind.i64.wrap (↑k + 1) = ↑k_1 ∧ ∃ m, s2.nxt ≤ m ∧ s2.upto m' = s2.upto m := fun h0 m' hm' => by
      rw [if_pos h0] at hk2
      exact ⟨n - 1, by omega, k + 1, by omega, hk2, by rw [i64_wrap _ (by omega)]; simp, m', by omega, rfl⟩
    have ret : tellB l[k] a b i j ≠ 0 → reasonGo l a b i j 0 = (↑k, tellB l[k] a b i j) := fun h0 => by
      rw [if_neg h0] at hk2; exact hk2.symm
    have tail : (!eqS l[k].among noS && (!eqS a.rank l[k].among || !eqS b.rank l[k].among)) = false →
        CallQ Tryz.prog 107 [clV l[k] nv, guV a tv, guV b uv, .int .i64 i, .int .i64 j] (s2.upto m) fun v28 s4 => If v28 (Value.tuple ⟨[Value.int .i64 k, Value.int .i64 (-1)]⟩ = two (reasonGo l a b i j 0) ∧ Keeps st s4)
          (B (cellsN s4.heap p o 5) fun v30 => B (cellsN s4.heap p2 0 9) fun v31 => B (cellsN s4.heap p1 0 9) fun v32 => CallQ Tryz.prog 107 [v30, v31, v32, .int .i64 j, .int .i64 i] s4 fun v33 s5 =>
            If v33 (Value.tuple ⟨[Value.int .i64 k, Value.int .i64 1]⟩ = two (reasonGo l a b i j 0) ∧ Keeps st s5)
              (∃ n', n' < n ∧ ∃ k_1, k_1 + n' = l.length ∧ reasonGo (List.drop k_1 l) a b i j k_1 = reasonGo l a b i j 0 ∧ IntKind.i64.wrap (↑k + 1) = ↑k_1 ∧ ∃ m, s2.nxt ≤ m ∧ s5 = s2.upto m)) := fun hap => by
      refine (before_q (st := s2.upto m) vc va vb i j).Q fun m2 hm2 => ?_
      simp only [upto_nxt] at hm2
      cases hb1 : beforeB l[k] a b i j
      · simp [c, f, g]
        refine (before_q (st := s2.upto m2) vc vb va j i).Q fun m3 hm3 => ?_
        simp only [upto_nxt] at hm3
        cases hb2 : beforeB l[k] b a j i
        · have h0 : tellB l[k] a b i j = 0 := by simp only [tellB, hap, hb1, hb2]; rfl
          have := next h0 m3 (by omega)
          simpa using this
        · have h0 : tellB l[k] a b i j = 1 := by simp only [tellB, hap, hb1, hb2]; rfl
          have h3 := ret (by rw [h0]; decide)
          rw [h0] at h3
          simp [h3, two, hk.upto (show s2.nxt ≤ m3 by omega)]
      · have h0 : tellB l[k] a b i j = -1 := by simp only [tellB, hap, hb1]; rfl
        have h3 := ret (by rw [h0]; decide)
        rw [h0] at h3
        simp [h3, two, hk.upto (show s2.nxt ≤ m2 by omega)]
    have skip : (!eqS l[k].among noS && (!eqS a.rank l[k].among || !eqS b.rank l[k].among)) = true → tellB l[k] a b i j = 0 := fun h => by simp only [tellB, h, if_true]
    cases h8 : eqS l[k].among noS
    · cases h9 : eqS a.rank l[k].among
      · have := next (skip (by simp [h8, h9])) m (Nat.le_refl _)
        have h8' : eqS l[k].among ⟨⟨[]⟩⟩ = false := h8
        simp [q1, c1, h8', f1, h9]
        simpa using this
      · cases h10 : eqS b.rank l[k].among
        · have := next (skip (by simp [h8, h9, h10])) m (Nat.le_refl _)
          have h8' : eqS l[k].among ⟨⟨[]⟩⟩ = false := h8
          simp [q1, c1, h8', f1, h9, g1, h10]
          simpa using this
        · have := tail (by simp [h8, h9, h10])
          have h8' : eqS l[k].among ⟨⟨[]⟩⟩ = false := h8
          simp [q1, c1, h8', f1, h9, g1, h10, c, f, g]
          simpa using this
    · have := tail (by simp [h8])
      have h8' : eqS l[k].among ⟨⟨[]⟩⟩ = true := h8
      simp [q1, c1, h8', c, f, g]
      simpa using this
  · have : k = l.length := by omega
    subst this
    rw [List.drop_length] at hk2
    simp [← hk2, reasonGo, two, hk.upto hm]
end Go.Ev

namespace Go.Ev
open Go.Proofs

def twiceB (l : List ByteArray) : Nat → Bool
  | 0 => false
  | k + 1 => twiceB l k || (match l[k]? with | some s => hasS (l.take k) s | none => false)
def amongB (before : List Cl) (c : Cl) : Bool := before.any fun d => decide (d.kind = 1) && hasS d.names c.among
def oneR (before : List Cl) (c : Cl) : Int :=
  if !formedB c then 30
  else if !eqS c.among noS && !nameB c.among then 4
  else if c.names.any (fun s => !nameB s) then 4
  else if twiceB c.names c.names.length then 5
  else if eqS c.among noS || amongB before c then 0 else 31

theorem twice_succ {l : List ByteArray} {k : Nat} (h : k < l.length) : twiceB l (k + 1) = (twiceB l k || hasS (l.take k) l[k]) := by
  simp only [twiceB, List.getElem?_eq_getElem h]
theorem twice_mono {l : List ByteArray} {k m : Nat} (hk : k ≤ m) (h : twiceB l k = true) : twiceB l m = true := by
  induction m with
  | zero => obtain rfl : k = 0 := by omega
            exact h
  | succ m ih =>
    by_cases e : k = m + 1
    · subst e; exact h
    · simp only [twiceB, ih (by omega), Bool.true_or]

/-- xs[:k]. -/
theorem slice_to {t e : TypeId} {r : TyRow} {x y w : _} {z : Value} (ht : oT.ty t = some ⟨.sl e, x, y, w, z⟩) (hr : oT.ty e = some r) (a : Option (Nat × Nat)) (len cap k : Nat) (hk : k ≤ cap) :
    evSlice oT t (.slice (plainA a) len cap) none (some (.int .i64 k)) none = some (.slice (plainA a) k cap) := by
  have hb : boundOf cap cap none = some cap := rfl
  have hle : Nat.ble k cap = true := by rw [Nat.ble_eq]; omega
  have hh : hiOf len cap (some (.int .i64 (k : Int))) none = some k := by
    simp only [hiOf, boundOf]
    show cond (Nat.ble k cap) (some k) none = some k
    rw [hle]; rfl
  cases a with
  | none => simp [evSlice, ht, hh, boundOf, hr]
  | some p => obtain ⟨b, o⟩ := p; simp [evSlice, ht, hh, boundOf, hr]

theorem Strs.take {h : Heap} {v : Value} {l : List ByteArray} (hs : Strs h v l) {k : Nat} (hk : k < l.length) : ∃ u, evSlice oT 75 v none (some (.int .i64 k)) none = some u ∧ Strs h u (l.take k) := by
  rcases hs with ⟨rfl, _⟩ | ⟨a, cap, rfl, h1, h2, h3⟩
  · simp at hk
  have hl : (l.take k).length = k := by rw [List.length_take]; omega
  refine ⟨_, slice_to ty75 ty9 a l.length cap k (by omega), .inr ⟨a, cap, by rw [hl], by omega, h2, fun hn => ?_⟩⟩
  obtain ⟨b, off, rfl, hc⟩ := h3 (fun e => hn (by rw [e]; simp))
  refine ⟨b, off, rfl, fun j hj => ?_⟩
  rw [hl] at hj
  rw [hc j (by omega)]
  simp

theorem Cls.take {h : Heap} {v : Value} {l : List Cl} (hs : Cls h v l) {k : Nat} (hk : k ≤ l.length) : ∃ u, evSlice oT 74 v none (some (.int .i64 k)) none = some u ∧ Cls h u (l.take k) := by
  obtain ⟨a, cap, rfl, h1, h2, h3⟩ := hs
  have hl : (l.take k).length = k := by rw [List.length_take]; omega
  refine ⟨_, slice_to ty74 ty171 a l.length cap k (by omega), a, cap, by rw [hl], by omega, h2, fun hn => ?_⟩
  obtain ⟨b, off, rfl, hc⟩ := h3 (fun e => hn (by rw [e]; simp))
  refine ⟨b, off, rfl, fun j hj => ?_⟩
  rw [hl] at hj
  obtain ⟨nv, q1, q2⟩ := hc j (by omega)
  have e : (l.take k)[j]'(by rw [hl]; exact hj) = l[j]'(by omega) := by simp
  exact ⟨nv, by rw [e]; exact q1, by rw [e]; exact q2⟩

section
variable {st : St} {v : Value} {l : List Cl}

theorem one_tail (h : Cls st.heap v l) {i : Nat} (hi : i < l.length) (R : Int) (hR : R = if amongB (l.take i) l[i] then 0 else 31) {M : Nat} (hM : st.nxt ≤ M) :
    Lp (L176_4 v (.int .i64 i) (fun u s => u = .int .i64 R ∧ Keeps st s)) [.int .i64 0] (st.upto M) := by
  obtain ⟨p, o, nv, q1, ⟨c, c0, c1, c2, c3, c4⟩, q3⟩ := h.at_ hi
  have hmx := h.max
  refine Lp.ind (fun n xs t => ∃ k m : Nat, k + n = i ∧ amongB (l.take k) l[i] = false ∧ xs = [.int .i64 k] ∧ st.nxt ≤ m ∧ t = st.upto m) ?_ i ⟨0, M, by omega, rfl, rfl, hM, rfl⟩
  rintro n _ _ ⟨k, m, hk1, hk2, rfl, hm, rfl⟩
  have hkeep : ∀ m', m ≤ m' → Keeps st (st.upto m') := fun m' h => (Keeps.refl st).upto (by omega)
  have step : ∀ hk : k < i, (decide ((l[k]'(by omega)).kind = 1) && hasS (l[k]'(by omega)).names l[i].among) = false → amongB (l.take (k + 1)) l[i] = false := fun hk hx => by
    unfold amongB at hk2 ⊢
    rw [any_take_succ (by omega), hk2]; exact hx
  have stop : ∀ hk : k < i, (decide ((l[k]'(by omega)).kind = 1) && hasS (l[k]'(by omega)).names l[i].among) = true → R = 0 := fun hk hx => by
    have : amongB (l.take i) l[i] = true := by
      unfold amongB
      have e : (l.take i)[k]'(by rw [List.length_take]; omega) = l[k]'(by omega) := by simp
      exact any_at (l := l.take i) (k := k) (by rw [List.length_take]; omega) (by rw [e]; exact hx)
    rw [hR, this]; rfl
  simp [L176_4]
  refine ⟨fun hlt => ?_, fun hge => ?_⟩
  · have hkl : k < l.length := by omega
    obtain ⟨p2, o2, nv2, r1, ⟨d, d0, d1, d2, d3, d4⟩, r3⟩ := h.at_ hkl
    have next : amongB (l.take (k + 1)) l[i] = false → ∀ m', m ≤ m' → ∃ n', n' < n ∧ ∃ k_1, k_1 + n' = i ∧ amongB (l.take k_1) l[i] = false ∧ IntKind.i64.wrap (↑k + 1) = ↑k_1 ∧ ∃ m, st.nxt ≤ m ∧ st.upto m' = st.upto m := fun h0 m' hm' =>
      ⟨n - 1, by omega, k + 1, by omega, h0, by rw [i64_wrap _ (by omega)]; simp, m', by omega, rfl⟩
    by_cases hk : l[k].kind = 1
    · simp [r1, d0, hk, d3, q1, c1]
      refine (has_q (st := st.upto m) r3 _).Q fun m2 hm2 => ?_
      simp only [upto_nxt] at hm2
      cases hb : hasS l[k].names l[i].among
      · have := next (step hlt (by simp [hb])) m2 hm2
        simpa using this
      · have := stop hlt (by simp [hb, hk])
        simp [this, hkeep m2 hm2]
    · have := next (step hlt (by simp [hk])) m (Nat.le_refl _)
      simp [r1, d0, hk]
      simpa using this
  · have : k = i := by omega
    subst this
    rw [hk2] at hR
    simp [hR, hkeep m (Nat.le_refl _)]

theorem one_mid (h : Cls st.heap v l) {i : Nat} (hi : i < l.length) (R : Int) (hR : R = if twiceB l[i].names l[i].names.length then 5 else if eqS l[i].among noS || amongB (l.take i) l[i] then 0 else 31) {M : Nat} (hM : st.nxt ≤ M) :
    Lp (L176_2 v (.int .i64 i) (fun u s => u = .int .i64 R ∧ Keeps st s)) [.int .i64 0] (st.upto M) := by
  obtain ⟨p, o, nv, q1, ⟨c, c0, c1, c2, c3, c4⟩, q3⟩ := h.at_ hi
  have hmx := q3.max
  refine Lp.ind (fun n xs t => ∃ k m : Nat, k + n = l[i].names.length ∧ twiceB l[i].names k = false ∧ xs = [.int .i64 k] ∧ st.nxt ≤ m ∧ t = st.upto m) ?_ l[i].names.length ⟨0, M, by omega, rfl, rfl, hM, rfl⟩
  rintro n _ _ ⟨k, m, hk1, hk2, rfl, hm, rfl⟩
  have hkeep : ∀ m', m ≤ m' → Keeps st (st.upto m') := fun m' h => (Keeps.refl st).upto (by omega)
  simp [L176_2, q1, c3, q3.len]
  refine ⟨fun hlt => ?_, fun hge => ?_⟩
  · obtain ⟨b, o2, r1, r2⟩ := q3.at_ hlt
    obtain ⟨u, w1, w2⟩ := q3.take (k := k) (by omega)
    simp [w1, r1, r2]
    refine (has_q (st := st.upto m) w2 _).Q fun m2 hm2 => ?_
    simp only [upto_nxt] at hm2
    have ht := twice_succ hlt
    rw [hk2] at ht
    cases hb : hasS (l[i].names.take k) l[i].names[k]
    · rw [hb] at ht
      simp
      exact ⟨n - 1, by omega, k + 1, by omega, by simpa using ht, by rw [i64_wrap _ (by omega)]; simp, m2, by omega, rfl⟩
    · rw [hb] at ht
      have := twice_mono (show k + 1 ≤ l[i].names.length by omega) (by simpa using ht)
      rw [this] at hR
      simp [hR, hkeep m2 hm2]
  · have : k = l[i].names.length := by omega
    subst this
    rw [hk2] at hR
    simp only [Bool.false_eq_true, if_false] at hR
    simp [c1]
    cases ha : eqS l[i].among noS
    · have ha' : eqS l[i].among ⟨⟨[]⟩⟩ = false := ha
      rw [ha] at hR
      simp [ha']
      exact one_tail h hi R (by simpa using hR) hm
    · have ha' : eqS l[i].among ⟨⟨[]⟩⟩ = true := ha
      rw [ha] at hR
      simp [ha', hkeep m (Nat.le_refl _)]
      simpa using hR.symm

theorem one_names (h : Cls st.heap v l) {i : Nat} (hi : i < l.length) (R : Int) (hR : R = if l[i].names.any (fun s => !nameB s) then 4 else if twiceB l[i].names l[i].names.length then 5 else if eqS l[i].among noS || amongB (l.take i) l[i] then 0 else 31) {M : Nat} (hM : st.nxt ≤ M) :
    Lp (L176_0 v (.int .i64 i) (fun u s => u = .int .i64 R ∧ Keeps st s)) [.int .i64 0] (st.upto M) := by
  obtain ⟨p, o, nv, q1, ⟨c, c0, c1, c2, c3, c4⟩, q3⟩ := h.at_ hi
  have hmx := q3.max
  refine Lp.ind (fun n xs t => ∃ k m : Nat, k + n = l[i].names.length ∧ (l[i].names.take k).any (fun s => !nameB s) = false ∧ xs = [.int .i64 k] ∧ st.nxt ≤ m ∧ t = st.upto m) ?_ l[i].names.length ⟨0, M, by omega, rfl, rfl, hM, rfl⟩
  rintro n _ _ ⟨k, m, hk1, hk2, rfl, hm, rfl⟩
  have hkeep : ∀ m', m ≤ m' → Keeps st (st.upto m') := fun m' h => (Keeps.refl st).upto (by omega)
  simp [L176_0, q1, c3, q3.len]
  refine ⟨fun hlt => ?_, fun hge => ?_⟩
  · obtain ⟨b, o2, r1, r2⟩ := q3.at_ hlt
    simp [r1, r2]
    refine (name_q _ (st.upto m)).P fun m2 hm2 => ?_
    simp only [upto_nxt] at hm2
    have ht := any_take_succ (p := fun s => !nameB s) hlt
    rw [hk2] at ht
    cases hb : nameB l[i].names[k]
    · have := any_at (p := fun s => !nameB s) hlt (by simp [hb])
      rw [this] at hR
      simp [hR, hkeep m2 hm2]
    · rw [hb] at ht
      have := ht
      simp
      exact ⟨n - 1, by omega, k + 1, by omega, by simpa using this, by rw [i64_wrap _ (by omega)]; simp, m2, by omega, rfl⟩
  · have : k = l[i].names.length := by omega
    subst this
    rw [List.take_length] at hk2
    rw [hk2] at hR
    exact one_mid h hi R (by simpa using hR) hm

theorem one_q (h : Cls st.heap v l) {i : Nat} (hi : i < l.length) : Quiet 176 [v, .int .i64 i] st (.int .i64 (oneR (l.take i) l[i])) := Quiet.of fun hl => by
  apply r176
  obtain ⟨p, o, nv, q1, ⟨c, c0, c1, c2, c3, c4⟩, q3⟩ := h.at_ hi
  unfold R176
  simp [q1, c]
  refine (formed_q (c := l[i]) ⟨nv, rfl, q3⟩).P fun m0 hm0 => ?_
  cases hf : formedB l[i]
  · simp [oneR, hf, (Keeps.refl st).upto hm0]
  by_cases h4 : eqS l[i].among noS = false ∧ nameB l[i].among = false
  · have h41 : eqS l[i].among ⟨⟨[]⟩⟩ = false := h4.1
    simp [q1, c1, h41]
    refine (name_q _ _).P fun m1 hm1 => ?_
    simp only [upto_nxt] at hm1
    simp [h4.2, oneR, hf, h4.1, (Keeps.refl st).upto (Nat.le_trans hm0 hm1)]
  have h4' : (!eqS l[i].among noS && !nameB l[i].among) = false := by
    cases x : eqS l[i].among noS <;> cases y : nameB l[i].among <;> simp_all
  have hR : oneR (l.take i) l[i] = if l[i].names.any (fun s => !nameB s) then 4 else if twiceB l[i].names l[i].names.length then 5 else if eqS l[i].among noS || amongB (l.take i) l[i] then 0 else 31 := by
    simp only [oneR, hf, h4', Bool.not_true, Bool.false_eq_true, if_false]
  cases ha : eqS l[i].among noS
  · have ha' : eqS l[i].among ⟨⟨[]⟩⟩ = false := ha
    have hnm : nameB l[i].among = true := by cases hx : nameB l[i].among <;> simp_all
    simp [q1, c1, ha']
    refine (name_q _ _).P fun m1 hm1 => ?_
    simp only [upto_nxt] at hm1
    simp [hnm]
    exact one_names h hi _ hR (by omega)
  · have ha' : eqS l[i].among ⟨⟨[]⟩⟩ = true := ha
    simp [c1, ha']
    exact one_names h hi _ hR hm0
end
end Go.Ev

namespace Go.Ev
open Go.Proofs

/-! ### the document's check of a text -/
def textGo : List Cl → List Cl → Nat → Int × Int
  | _, [], _ => (0, 0)
  | pre, c :: r, k => if oneR pre c = 0 then textGo (pre ++ [c]) r (k + 1) else (k, oneR pre c)
def textR (l : List Cl) : Int × Int := if (32 : Int) < l.length then (0, 7) else textGo [] l 0
def validB (l : List Cl) : Bool := decide ((textR l).2 = 0)

theorem textGo_drop {l : List Cl} {k : Nat} (h : k < l.length) : textGo (l.take k) (l.drop k) k = if oneR (l.take k) l[k] = 0 then textGo (l.take (k + 1)) (l.drop (k + 1)) (k + 1) else (k, oneR (l.take k) l[k]) := by
  have e : l.take k ++ [l[k]] = l.take (k + 1) := by rw [List.take_add_one, List.getElem?_eq_getElem h]; rfl
  rw [List.drop_eq_getElem_cons h, textGo, e]

@[simp] theorem ext_0 (v : Value) (l : List Value) : evExtract (.tuple ⟨v :: l⟩) 0 = some v := rfl
@[simp] theorem ext_1 (v w : Value) (l : List Value) : evExtract (.tuple ⟨v :: w :: l⟩) 1 = some w := rfl

theorem text_q {st : St} {v : Value} {l : List Cl} (h : Cls st.heap v l) : Quiet 104 [v] st (two (textR l)) := Quiet.of fun hl => by
  apply r104
  have hmx := h.max
  unfold R104
  by_cases h32 : (32 : Int) < l.length
  · simp [h.len, h32, textR, two, Keeps.refl]
  · have ht : textR l = textGo [] l 0 := by simp [textR, h32]
    simp [h.len, h32]
    rw [ht]
    refine Lp.ind (fun n xs t => ∃ k m : Nat, k + n = l.length ∧ textGo (l.take k) (l.drop k) k = textGo [] l 0 ∧ xs = [.int .i64 k] ∧ st.nxt ≤ m ∧ t = st.upto m) ?_ l.length ⟨0, st.nxt, by omega, rfl, rfl, Nat.le_refl _, rfl⟩
    rintro n _ _ ⟨k, m, hk1, hk2, rfl, hm, rfl⟩
    have hkeep : ∀ m', m ≤ m' → Keeps st (st.upto m') := fun m' h => (Keeps.refl st).upto (by omega)
    simp [L104_0, h.len]
    refine ⟨fun hlt => ?_, fun hge => ?_⟩
    · refine (one_q (st := st.upto m) h hlt).P fun m2 hm2 => ?_
      simp only [upto_nxt] at hm2
      rw [textGo_drop hlt] at hk2
      by_cases h0 : oneR (l.take k) l[k] = 0
      · rw [if_pos h0] at hk2
        simp [h0]
        exact ⟨n - 1, by omega, k + 1, by omega, hk2, by rw [i64_wrap _ (by omega)]; simp, m2, by omega, rfl⟩
      · rw [if_neg h0] at hk2
        simp [h0, ← hk2, two, hkeep m2 hm2]
    · have : k = l.length := by omega
      subst this
      rw [List.drop_length, textGo] at hk2
      simp [← hk2, two, hkeep m (Nat.le_refl _)]

theorem valid_q {st : St} {v : Value} {l : List Cl} (h : Cls st.heap v l) : Quiet 40 [v] st (.bool (validB l)) := Quiet.of fun hl => by
  apply r40
  refine (text_q h).P fun m hm => ?_
  simp [two, validB, (Keeps.refl st).upto hm]

/-! ### function values; searches -/
def Quiets (fv : Value) (args : List Value) (st : St) (v : Value) : Prop := ∃ f a c, fv = .func (.func f) a c ∧ Quiet f (a.toList ++ args ++ c.toList) st v
theorem Quiets.V {fv : Value} {args : List Value} {st : St} {v : Value} {Q : Value → St → Prop} (h : Quiets fv args st v) (hq : ∀ m, st.nxt ≤ m → Q v (st.upto m)) : CallV Tryz.prog fv args st Q :=
  let ⟨f, a, c, h1, h2⟩ := h; .fn f a c h1 (h2.P hq)
theorem Quiets.QV {fv : Value} {args : List Value} {st : St} {v : Value} {Q : Value → St → Prop} (h : Quiets fv args st v) (hq : ∀ m, st.nxt ≤ m → Q v (st.upto m)) : CallQV Tryz.prog fv args st Q :=
  let ⟨f, a, c, h1, h2⟩ := h; .fn f a c h1 (h2.Q hq)
theorem Quiets.of {f : FuncId} {args : List Value} {st : St} {v : Value} (h : Quiet f args st v) : Quiets (.func (.func f) #[] #[]) args st v := ⟨f, #[], #[], rfl, by simpa using h⟩
theorem Quiets.of1 {f : FuncId} {args : List Value} {st : St} {v c : Value} (h : Quiet f (args ++ [c]) st v) : Quiets (.func (.func f) ⟨[]⟩ ⟨[c]⟩) args st v := ⟨f, ⟨[]⟩, ⟨[c]⟩, rfl, by simpa using h⟩

def idxGo {α : Type} (p : α → Bool) : List α → Nat → Int
  | [], _ => -1
  | x :: l, k => if p x then (k : Int) else idxGo p l (k + 1)
theorem idxGo_drop {α : Type} {p : α → Bool} {l : List α} {k : Nat} (h : k < l.length) : idxGo p (l.drop k) k = if p l[k] then (k : Int) else idxGo p (l.drop (k + 1)) (k + 1) := by
  rw [List.drop_eq_getElem_cons h]; rfl
theorem idxGo_any {α : Type} (p : α → Bool) : ∀ (l : List α) (k : Nat), decide (0 ≤ idxGo p l k) = l.any p := by
  intro l
  induction l with
  | nil => intro k; simp [idxGo]
  | cons x l ih =>
    intro k
    cases hp : p x
    · simp [idxGo, hp, ih]
    · simp [idxGo, hp]

theorem idxS_q {st : St} {v fv : Value} {l : List ByteArray} (h : Strs st.heap v l) (p : ByteArray → Bool) (hp : ∀ x ∈ l, ∀ m, st.nxt ≤ m → Quiets fv [.string x] (st.upto m) (.bool (p x))) :
    Quiet 174 [v, fv] st (.int .i64 (idxGo p l 0)) := Quiet.of fun hl => by
  apply r174
  have hmx := h.max
  unfold R174
  simp [h.len]
  refine Lp.ind (fun n xs t => ∃ k m : Nat, k + n = l.length ∧ idxGo p (l.drop k) k = idxGo p l 0 ∧ xs = [.int .i64 k] ∧ st.nxt ≤ m ∧ t = st.upto m) ?_ l.length ⟨0, st.nxt, by omega, rfl, rfl, Nat.le_refl _, rfl⟩
  rintro n _ _ ⟨k, m, hk1, hk2, rfl, hm, rfl⟩
  have hkeep : ∀ m', m ≤ m' → Keeps st (st.upto m') := fun m' h => (Keeps.refl st).upto (by omega)
  simp [L174_0]
  refine ⟨fun hlt => ?_, fun hge => ?_⟩
  · obtain ⟨b, o, q1, q2⟩ := h.at_ hlt
    simp [q1, q2]
    refine (hp l[k] (List.getElem_mem hlt) m hm).V fun m2 hm2 => ?_
    simp only [upto_nxt] at hm2
    rw [idxGo_drop hlt] at hk2
    cases hb : p l[k]
    · rw [hb] at hk2
      simp
      exact ⟨n - 1, by omega, k + 1, by omega, by simpa using hk2, by rw [i64_wrap _ (by omega)]; simp, m2, by omega, rfl⟩
    · rw [hb] at hk2
      simp [← hk2, hkeep m2 hm2]
  · have : k = l.length := by omega
    subst this
    rw [List.drop_length, idxGo] at hk2
    simp [← hk2, hkeep m (Nat.le_refl _)]

theorem anyS_q {st : St} {v fv : Value} {l : List ByteArray} (h : Strs st.heap v l) (p : ByteArray → Bool) (hp : ∀ x ∈ l, ∀ m, st.nxt ≤ m → Quiets fv [.string x] (st.upto m) (.bool (p x))) :
    Quiet 99 [v, fv] st (.bool (l.any p)) := Quiet.of fun hl => by
  apply r99
  refine (idxS_q h p hp).P fun m hm => ?_
  simp [(Keeps.refl st).upto hm]
  exact idxGo_any p l 0

theorem idxC_q {st : St} {v fv : Value} {l : List Cl} (h : Cls st.heap v l) (p : Cl → Bool) (hp : ∀ x ∈ l, ∀ u, ClV st.heap u x → ∀ m, st.nxt ≤ m → Quiets fv [u] (st.upto m) (.bool (p x))) :
    Quiet 173 [v, fv] st (.int .i64 (idxGo p l 0)) := Quiet.of fun hl => by
  apply r173
  have hmx := h.max
  unfold R173
  simp [h.len]
  refine Lp.ind (fun n xs t => ∃ k m : Nat, k + n = l.length ∧ idxGo p (l.drop k) k = idxGo p l 0 ∧ xs = [.int .i64 k] ∧ st.nxt ≤ m ∧ t = st.upto m) ?_ l.length ⟨0, st.nxt, by omega, rfl, rfl, Nat.le_refl _, rfl⟩
  rintro n _ _ ⟨k, m, hk1, hk2, rfl, hm, rfl⟩
  have hkeep : ∀ m', m ≤ m' → Keeps st (st.upto m') := fun m' h => (Keeps.refl st).upto (by omega)
  simp [L173_0]
  refine ⟨fun hlt => ?_, fun hge => ?_⟩
  · obtain ⟨b, o, nv, q1, q2, q3⟩ := h.at_ hlt
    simp [q1, q2.all]
    refine (hp l[k] (List.getElem_mem hlt) _ ⟨nv, rfl, q3⟩ m hm).V fun m2 hm2 => ?_
    simp only [upto_nxt] at hm2
    rw [idxGo_drop hlt] at hk2
    cases hb : p l[k]
    · rw [hb] at hk2
      simp
      exact ⟨n - 1, by omega, k + 1, by omega, by simpa using hk2, by rw [i64_wrap _ (by omega)]; simp, m2, by omega, rfl⟩
    · rw [hb] at hk2
      simp [← hk2, hkeep m2 hm2]
  · have : k = l.length := by omega
    subst this
    rw [List.drop_length, idxGo] at hk2
    simp [← hk2, hkeep m (Nat.le_refl _)]

theorem anyC_q {st : St} {v fv : Value} {l : List Cl} (h : Cls st.heap v l) (p : Cl → Bool) (hp : ∀ x ∈ l, ∀ u, ClV st.heap u x → ∀ m, st.nxt ≤ m → Quiets fv [u] (st.upto m) (.bool (p x))) :
    Quiet 97 [v, fv] st (.bool (l.any p)) := Quiet.of fun hl => by
  apply r97
  refine (idxC_q h p hp).P fun m hm => ?_
  simp [(Keeps.refl st).upto hm]
  exact idxGo_any p l 0

theorem eqS_comm (a b : ByteArray) : eqS a b = eqS b a := by
  rw [Bool.eq_iff_iff, eqS_iff, eqS_iff]; exact eq_comm

/-- slices.Index of strings. -/
theorem index_q {st : St} {v : Value} {l : List ByteArray} (h : Strs st.heap v l) (s : ByteArray) : Quiet 335 [v, .string s] st (.int .i64 (idxGo (fun x => eqS x s) l 0)) := Quiet.of fun hl => by
  apply r335
  have hmx := h.max
  unfold R335
  simp [h.len]
  refine Lp.ind (fun n xs t => ∃ k : Nat, k + n = l.length ∧ idxGo (fun x => eqS x s) (l.drop k) k = idxGo (fun x => eqS x s) l 0 ∧ xs = [.int .i64 k] ∧ t = st) ?_ l.length ⟨0, by omega, rfl, rfl, rfl⟩
  rintro n _ _ ⟨k, hk1, hk2, rfl, rfl⟩
  simp [L335_0]
  refine ⟨fun hlt => ?_, fun hge => ?_⟩
  · obtain ⟨b, o, q1, q2⟩ := h.at_ hlt
    rw [idxGo_drop hlt] at hk2
    simp [q1, q2, eqS_comm s]
    cases hb : eqS l[k] s
    · rw [hb] at hk2
      simp
      exact ⟨n - 1, by omega, k + 1, by omega, by simpa using hk2, by rw [i64_wrap _ (by omega)]; simp⟩
    · rw [hb] at hk2
      simp [← hk2, Keeps.refl]
  · have : k = l.length := by omega
    subst this
    rw [List.drop_length, idxGo] at hk2
    simp [← hk2, Keeps.refl]

theorem contains_q {st : St} {v : Value} {l : List ByteArray} (h : Strs st.heap v l) (s : ByteArray) : Quiet 323 [v, .string s] st (.bool (hasS l s)) := Quiet.of fun hl => by
  apply r323
  refine (index_q h s).P fun m hm => ?_
  simp [(Keeps.refl st).upto hm]
  exact idxGo_any _ l 0
end Go.Ev

namespace Go.Ev
open Go.Proofs

set_option maxHeartbeats 4000000 in
theorem cformed_q {st : St} {v : Value} {c : Cl} (h : ClV st.heap v c) : Quiet 329 [v] st (.bool (formedB c)) := Quiet.of fun hl => by
  obtain ⟨nv, rfl, hs⟩ := h
  apply r329
  refine box_cl hl hs.one fun s1 b _ hk hc => ?_
  have h2 := hs.len
  obtain ⟨e, e0, e1, e2, e3, e4⟩ := hc
  simp at e1 e2 e3 e4
  obtain ⟨N, hN⟩ : ∃ N : Int, N = c.names.length := ⟨_, rfl⟩
  rw [← hN] at h2
  have hN0 : 0 ≤ N := by omega
  have f1 : decide (1 ≤ c.names.length ∧ c.names.length ≤ 16) = (decide (N ≤ 16) && decide (0 < N)) := by
    rw [Bool.eq_iff_iff]; simp only [Bool.and_eq_true, decide_eq_true_eq]; omega
  have f2 : decide (c.names.length = 0) = decide (N ≤ 0) := by
    rw [Bool.eq_iff_iff]; simp only [decide_eq_true_eq]; omega
  have f3 : (c.n == 0) = (decide (0 ≤ c.n) && decide (c.n ≤ 0)) := by
    rw [Bool.eq_iff_iff]; simp only [beq_iff_eq, Bool.and_eq_true, decide_eq_true_eq]; omega
  by_cases k1 : c.kind = 1
  · have hf : formedB c = (decide (N ≤ 16) && decide (0 < N) && (decide (0 ≤ c.n) && decide (c.n ≤ 0)) && !c.last && eqS c.among ⟨⟨[]⟩⟩) := by simp only [formedB, k1, f1, f3, if_true]
    rw [hf]
    cases ha : eqS c.among ⟨⟨[]⟩⟩
    · simp [h2, e0, e1, e3, k1, ha, hk]
    · simp [h2, e0, e1, e3, k1, ha, hk]
      by_cases c1 : N ≤ 16 <;> by_cases c2 : 0 < N <;> by_cases c3 : 0 ≤ c.n <;> by_cases c4 : c.n ≤ 0 <;> cases c5 : c.last <;>
        simp [h2, e2, e3, e4, c1, c2, c3, c4, c5]
  by_cases k2 : c.kind = 2 ∨ c.kind = 3 ∨ c.kind = 8 ∨ c.kind = 9
  · have hf : formedB c = (decide (N ≤ 0) && (decide (0 ≤ c.n) && decide (c.n ≤ 0)) && !c.last) := by simp only [formedB, k1, k2, f2, f3, if_true, if_false]
    rw [hf]
    rcases k2 with k | k | k | k <;> simp [h2, e0, e1, e3, k, hk] <;> by_cases c1 : N ≤ 0 <;> by_cases c3 : 0 ≤ c.n <;> by_cases c4 : c.n ≤ 0 <;> cases c5 : c.last <;>
        simp [e2, e4, c1, c3, c4, c5]
  by_cases k4 : c.kind = 4
  · have hf : formedB c = (decide (N ≤ 0) && (decide (1 ≤ c.n) && decide (c.n ≤ 2))) := by simp [formedB, k4, ← f2]
    rw [hf]
    simp [h2, e0, e1, e3, k4, hk]
    by_cases c1 : N ≤ 0 <;> by_cases c3 : 1 ≤ c.n <;> by_cases c4 : c.n ≤ 2 <;> cases c5 : c.last <;>
        simp [e4, c1, c3, c4]
  by_cases k5 : c.kind = 5
  · have hf : formedB c = (decide (N ≤ 0) && (decide (0 ≤ c.n) && decide (c.n ≤ 0))) := by simp [formedB, k5, ← f2, ← f3]
    rw [hf]
    simp [h2, e0, e1, e3, k5, hk]
    by_cases c1 : N ≤ 0 <;> by_cases c3 : 0 ≤ c.n <;> by_cases c4 : c.n ≤ 0 <;> cases c5 : c.last <;>
        simp [e4, c1, c3, c4]
  by_cases k6 : c.kind = 6 ∨ c.kind = 7
  · have hf : formedB c = (decide (N ≤ 16) && decide (0 < N) && (decide (0 ≤ c.n) && decide (c.n ≤ 0))) := by simp only [formedB, k1, k2, k4, k5, k6, f1, f3, if_true, if_false]
    rw [hf]
    rcases k6 with k | k <;> simp [h2, e0, e1, e3, k, hk] <;> by_cases c1 : N ≤ 16 <;> by_cases c2 : 0 < N <;> by_cases c3 : 0 ≤ c.n <;> by_cases c4 : c.n ≤ 0 <;> cases c5 : c.last <;>
        simp [h2, e3, e4, c1, c2, c3, c4]
  by_cases k10 : c.kind = 10
  · have hf : formedB c = (decide (N ≤ 0) && (decide (0 ≤ c.n) && decide (c.n ≤ 63)) && !c.last) := by simp [formedB, k10, ← f2]
    rw [hf]
    simp [h2, e0, e1, e3, k10, hk]
    by_cases c1 : N ≤ 0 <;> by_cases c3 : 0 ≤ c.n <;> by_cases c4 : c.n ≤ 63 <;> cases c5 : c.last <;>
        simp [e2, e4, c1, c3, c4, c5]
  · have hf : formedB c = false := by simp [formedB, k1, k2, k4, k5, k6, k10]
    simp only [not_or] at k2 k6
    rw [hf]
    simp [h2, e0, e1, e3, k1, k2, k4, k5, k6, k10, hk]

/-! ### one clause, by the program -/

theorem notname_q (s : ByteArray) (hs : s.size ≤ 9223372036854775807) (st : St) : Quiet 331 [.string s] st (.bool (!nameB s)) := Quiet.of fun hl => by
  apply r331
  refine (cname_q s hs st).P fun m hm => ?_
  simp [(Keeps.refl st).upto hm]

theorem amongC_q {st : St} {v : Value} {d : Cl} (h : ClV st.heap v d) {b : Nat} {s : ByteArray} (hb : cellAt st.heap b 1 = some (.string s)) :
    Quiet 332 [v, .pointer (some ⟨b, 0, none⟩)] st (.bool (decide (d.kind = 1) && hasS d.names s)) := Quiet.of fun hl => by
  obtain ⟨nv, rfl, hs⟩ := h
  apply r332
  refine box_cl hl hs.one fun s1 p l1 k1 hc => ?_
  obtain ⟨c, c0, c1, c2, c3, c4⟩ := hc
  simp at c1 c2 c3 c4
  have hb1 := k1.cell hb
  by_cases hk : d.kind = 1
  · simp [c0, hk, c3, hb1]
    refine (contains_q (hs.keeps k1) _).P fun m hm => ?_
    simp [k1.upto hm]
  · simp [c0, hk, k1]

section
variable {st : St} {v : Value} {l : List Cl} {d : Cl} {nv : Value} {b : Nat}

theorem ccheck_tail (h : Cls st.heap v l) {s1 : St} (k1 : Keeps st s1) (hc : ClC s1.heap b 0 d nv) (hs : Strs s1.heap nv d.names) (R : Int)
    (hR : R = if twiceB d.names d.names.length then 5 else if eqS d.among noS || amongB l d then 0 else 31) {M : Nat} (hM : s1.nxt ≤ M) :
    Lp (L258_0 v (.pointer (some ⟨b, 0, none⟩)) nv (.int .i64 d.names.length) (fun u s => u = .int .i64 R ∧ Keeps st s)) [.int .i64 0] (s1.upto M) := by
  obtain ⟨c, c0, c1, c2, c3, c4⟩ := hc
  simp at c1 c2 c3 c4
  have hmx := hs.max
  refine Lp.ind (fun n xs t => ∃ k m : Nat, k + n = d.names.length ∧ twiceB d.names k = false ∧ xs = [.int .i64 k] ∧ s1.nxt ≤ m ∧ t = s1.upto m) ?_ d.names.length ⟨0, M, by omega, rfl, rfl, hM, rfl⟩
  rintro n _ _ ⟨k, m, hk1, hk2, rfl, hm, rfl⟩
  have hkeep : ∀ m', m ≤ m' → Keeps st (s1.upto m') := fun m' h => k1.upto (by omega)
  simp [L258_0, c3, c1]
  refine ⟨fun hlt => ?_, fun hge => ?_⟩
  · obtain ⟨p, o2, r1, r2⟩ := hs.at_ hlt
    obtain ⟨u, w1, w2⟩ := hs.take (k := k) (by omega)
    simp [w1, r1, r2]
    refine (contains_q (st := s1.upto m) w2 _).P fun m2 hm2 => ?_
    simp only [upto_nxt] at hm2
    have ht := twice_succ hlt
    rw [hk2] at ht
    cases hb : hasS (d.names.take k) d.names[k]
    · rw [hb] at ht
      simp
      exact ⟨n - 1, by omega, k + 1, by omega, by simpa using ht, by rw [i64_wrap _ (by omega)]; simp, m2, by omega, rfl⟩
    · rw [hb] at ht
      have := twice_mono (show k + 1 ≤ d.names.length by omega) (by simpa using ht)
      rw [this] at hR
      simp [hR, hkeep m2 hm2]
  · have : k = d.names.length := by omega
    subst this
    rw [hk2] at hR
    simp only [Bool.false_eq_true, if_false] at hR
    cases ha : eqS d.among noS
    · have ha' : eqS d.among ⟨⟨[]⟩⟩ = false := ha
      rw [ha] at hR
      simp [ha']
      refine (anyC_q (st := s1.upto m) (h.keeps k1) (fun x => decide (x.kind = 1) && hasS x.names d.among) (fun x hx u hu m2 hm2 => ?_)).P fun m2 hm2 => ?_
      · refine Quiets.of1 ?_
        exact amongC_q (st := (s1.upto m).upto m2) hu c1
      · simp only [upto_nxt] at hm2
        have e : (l.any fun x => decide (x.kind = 1) && hasS x.names d.among) = amongB l d := rfl
        rw [e]
        cases hx : amongB l d <;> rw [hx] at hR <;> simp [hR, hkeep m2 hm2]
    · have ha' : eqS d.among ⟨⟨[]⟩⟩ = true := ha
      rw [ha] at hR
      simp [ha', hkeep m (Nat.le_refl _)]
      simpa using hR.symm

theorem ccheck_q (h : Cls st.heap v l) (hd : ClV st.heap nv d) (ho : d.ok) : Quiet 258 [v, nv] st (.int .i64 (oneR l d)) := Quiet.of fun hl => by
  obtain ⟨nv, rfl, hs⟩ := hd
  apply r258
  refine box_cl hl hs.one fun s1 p l1 k1 hc => ?_
  have hs1 := hs.keeps k1
  have hc' := hc
  obtain ⟨c, c0, c1, c2, c3, c4⟩ := hc'
  simp at c1 c2 c3 c4
  simp [c]
  refine (cformed_q (c := d) ⟨nv, rfl, hs1⟩).P fun m0 hm0 => ?_
  cases hf : formedB d
  · simp [oneR, hf, k1.upto hm0]
  have hkeep : ∀ m', s1.nxt ≤ m' → Keeps st (s1.upto m') := fun m' h => k1.upto h
  have rest : (!eqS d.among noS && !nameB d.among) = false → ∀ M, s1.nxt ≤ M → CallP Tryz.prog 99 [nv, .func (.func 331) #[] #[]] (s1.upto M) fun v15 s4 => If v15 (Value.int .i64 4 = Value.int .i64 (oneR l d) ∧ Keeps st s4)
      (B (cellAt s4.heap p 3) fun v18 => B (evLenM oT s4 75 v18) fun v19 => Lp (L258_0 v (.pointer (some ⟨p, 0, none⟩)) v18 v19 (fun u s => u = .int .i64 (oneR l d) ∧ Keeps st s)) [.int .i64 0] s4) := fun h4 M hM => by
    refine (anyS_q (st := s1.upto M) hs1 (fun s => !nameB s) (fun x hx m2 hm2 => Quiets.of (notname_q x (ho.2 x hx) _))).P fun m2 hm2 => ?_
    simp only [upto_nxt] at hm2
    have hR : oneR l d = if d.names.any (fun s => !nameB s) then 4 else if twiceB d.names d.names.length then 5 else if eqS d.among noS || amongB l d then 0 else 31 := by
      simp only [oneR, hf, h4, Bool.not_true, Bool.false_eq_true, if_false]
    cases hx : d.names.any (fun s => !nameB s)
    · rw [hx] at hR
      simp [c3, hs1.len]
      exact ccheck_tail h k1 hc hs1 _ (by simpa using hR) (by omega)
    · rw [hx] at hR
      simp [hR, hkeep m2 (by omega)]
  cases ha : eqS d.among noS
  · have ha' : eqS d.among ⟨⟨[]⟩⟩ = false := ha
    simp [c1, ha']
    refine (cname_q _ ho.1 _).P fun m1 hm1 => ?_
    simp only [upto_nxt] at hm1
    cases hn : nameB d.among
    · simp [oneR, hf, ha, hn, hkeep m1 (by omega)]
    · have := rest (by simp [hn]) m1 (by omega)
      simp [c3]
      simpa using this
  · have ha' : eqS d.among ⟨⟨[]⟩⟩ = true := ha
    have := rest (by simp [ha]) m0 hm0
    simp [c1, ha', c3]
    simpa using this
end
end Go.Ev

namespace Go.Ev
open Go.Proofs

theorem overN_full : ∀ (c vs : List Value), c.length = vs.length → vs.all oneC = true → overN c vs = some vs := by
  intro c
  induction c with
  | nil => intro vs h _; obtain rfl : vs = [] := List.eq_nil_of_length_eq_zero h.symm; rfl
  | cons a c ih =>
    intro vs h hv
    cases vs with
    | nil => simp at h
    | cons v vs =>
      simp only [List.all_cons, Bool.and_eq_true] at hv
      simp only [overN, ih vs (by simpa using h) hv.2, hv.1, cond_true]

theorem Keeps.put {a s : St} (h : Keeps a s) (hl : Live a) {b : Nat} (hb : a.nxt ≤ b) (o : Obj) : Keeps a (s.put b o) :=
  ⟨h.nxt, fun id x e => by
    have h1 := hl id (by rw [e]; rfl)
    simp only [St.put, hget_hset]
    rw [if_neg (by omega)]
    exact h.sub id x e⟩

theorem Live.put {s : St} (h : Live s) {b : Nat} {o0 : Obj} (hb : hget s.heap b = some o0) (o : Obj) : Live (s.put b o) := (Abs.put s b o hb).live h

/-- A new variable that is given a value at once. -/
theorem var_rule {s : St} (hl : Live s) {t : TypeId} {sz by_ : Nat} {td : TD} {zl l : List Value} (ht : oT.ty t = some ⟨td, sz, by_, true, .agg ⟨zl⟩⟩) (hz : zl.all oneC = true) (hzl : zl.length = l.length) (hsz : sz = l.length) (ho : l.all oneC = true)
    {f : Value → St → Prop} (k : ∀ s' b, Live s' → Keeps s s' → cellsN s'.heap b 0 l.length = some (.agg ⟨l⟩) → f (.pointer (some ⟨b, 0, none⟩)) s') :
    B2 (evNew oT s t) fun v s1 => B2 (evStoreU oT s1 t v (.agg ⟨l⟩)) fun _ s2 => f v s2 := by
  simp only [evNew, ht]
  rw [box_agg s t zl hz, B2_some]
  have hg : hget (s.push (.cells ⟨zl⟩ t)).heap s.nxt = some (.cells ⟨zl⟩ t) := by simp [St.push, hget_cons]
  have hst : evStore oT (s.push (.cells ⟨zl⟩ t)) t (.pointer (some ⟨s.nxt, 0, none⟩)) (.agg ⟨l⟩) = some ((s.push (.cells ⟨zl⟩ t)).put s.nxt (.cells ⟨l⟩ t)) := by
    have h1 : Nat.beq (cellsL (.agg ⟨l⟩)).length sz = true := by rw [hsz]; exact Nat.beq_refl _
    have h2 : setN zl 0 (cellsL (.agg ⟨l⟩)) = some l := by
      show setN zl 0 l = some l
      unfold setN
      exact overN_full zl l hzl ho
    simp only [evStore, hopen_of hg, ht, h1, cond_true, h2]
  simp only [evStoreU, hst, B2_some]
  refine k _ _ ((hl.push _).put hg _) (((Keeps.refl s).push hl _).put hl (Nat.le_refl _) _) ?_
  have hg2 : hget ((s.push (.cells ⟨zl⟩ t)).put s.nxt (.cells ⟨l⟩ t)).heap s.nxt = some (.cells ⟨l⟩ t) := by
    rw [hget_put _ _ _ hg]; simp
  simp only [cellsN, hg2, loadN_all l (noHole_one ho)]

/-- A new clause variable. -/
theorem var_cl {s : St} (hl : Live s) {c : Cl} {nv : Value} (ho : oneC nv = true) {f : Value → St → Prop}
    (k : ∀ s' b, Live s' → Keeps s s' → ClC s'.heap b 0 c nv → f (.pointer (some ⟨b, 0, none⟩)) s') :
    B2 (evNew oT s 171) fun v s1 => B2 (evStoreU oT s1 171 v (clV c nv)) fun _ s2 => f v s2 :=
  var_rule hl ty171 (by rfl) (by rfl) (by rfl) (clL_one ho) fun s' b h1 h2 h3 => k s' b h1 h2 (ClC.of h3)

theorem ctext_q {st : St} {v : Value} {l : List Cl} (h : Cls st.heap v l) (ho : ∀ c ∈ l, c.ok) : Quiet 177 [v] st (two (textR l)) := Quiet.of fun hl => by
  apply r177
  have hmx := h.max
  unfold R177
  by_cases h32 : (32 : Int) < l.length
  · simp [h.len, h32, textR, two, Keeps.refl]
  · have ht : textR l = textGo [] l 0 := by simp [textR, h32]
    simp [h.len, h32]
    rw [ht]
    refine Lp.ind (fun n xs t => ∃ k : Nat, k + n = l.length ∧ textGo (l.take k) (l.drop k) k = textGo [] l 0 ∧ xs = [.int .i64 k] ∧ Live t ∧ Keeps st t) ?_ l.length ⟨0, by omega, rfl, rfl, hl, Keeps.refl st⟩
    rintro n _ t ⟨k, hk1, hk2, rfl, lt, kt⟩
    have h1 := h.keeps kt
    simp only [L177_0, bin_lss, nth_0, B_some, If_bool, decide_eq_true_eq, decide_eq_false_iff_not]
    refine ⟨fun hlt => ?_, fun hge => ?_⟩
    · have hlt : k < l.length := by omega
      obtain ⟨b, o, nv, q1, q2, q3⟩ := h1.at_ hlt
      simp only [q1, B_some, ld171, q2.all]
      refine var_cl lt q3.one fun s2 p l2 k2 hc => ?_
      obtain ⟨u, w1, w2⟩ := h1.take (k := k) (by omega)
      simp only [w1, B_some, ld171, hc.all]
      refine (ccheck_q (w2.keeps k2) (d := l[k]) ⟨nv, rfl, q3.keeps k2⟩ (ho _ (List.getElem_mem hlt))).Q fun m hm => ?_
      rw [textGo_drop hlt] at hk2
      have hkp : Keeps st (s2.upto m) := (kt.trans k2).upto hm
      by_cases h0 : oneR (l.take k) l[k] = 0
      · rw [if_pos h0] at hk2
        simp [h0]
        exact ⟨n - 1, by omega, k + 1, by omega, hk2, by rw [i64_wrap _ (by omega)]; simp, l2.upto hm, hkp⟩
      · rw [if_neg h0] at hk2
        simp [h0, ← hk2, two, hkp]
    · have : k = l.length := by omega
      subst this
      rw [List.drop_length, textGo] at hk2
      simp [← hk2, two, kt]

/-! ### examined texts and guests -/
def bigC (c : Cl) : Bool := decide ((40 : Int) < c.among.size) || decide ((20 : Int) < c.names.length) || c.names.any fun s => decide ((40 : Int) < s.size)
def fewB (l : List Cl) : Bool := decide ((l.length : Int) ≤ 40) && !l.any bigC
def mx (a b : Int) : Int := if a < b then b else a
def bigG (g : Gu) : Bool := decide ((40 : Int) < mx (mx g.name.size g.rank.size) g.court.size) || decide ((10 : Int) < g.tongues.length) || g.tongues.any fun s => decide ((40 : Int) < s.size)

theorem long_q (s : ByteArray) (st : St) : Quiet 100 [.string s] st (.bool (decide ((40 : Int) < s.size))) := Quiet.of fun hl => by
  apply r100
  unfold R100
  simp [Keeps.refl]
theorem longG_q (s : ByteArray) (st : St) : Quiet 103 [.string s] st (.bool (decide ((40 : Int) < s.size))) := Quiet.of fun hl => by
  apply r103
  unfold R103
  simp [Keeps.refl]

theorem big_q {st : St} {v : Value} {c : Cl} (h : ClV st.heap v c) : Quiet 98 [v] st (.bool (bigC c)) := Quiet.of fun hl => by
  obtain ⟨nv, rfl, hs⟩ := h
  apply r98
  refine box_cl hl hs.one fun s1 p l1 k1 hc => ?_
  obtain ⟨e, c0, c1, c2, c3, c4⟩ := hc
  simp at c1 c2 c3 c4
  have hs1 := hs.keeps k1
  by_cases h1 : (40 : Int) < c.among.size
  · simp [c1, h1, bigC, k1]
  · by_cases h2 : (20 : Int) < c.names.length
    · simp [c1, c3, h1, h2, hs1.len, bigC, k1]
    · simp [c1, c3, h1, h2, hs1.len]
      refine (anyS_q hs1 (fun s => decide ((40 : Int) < s.size)) (fun x hx m hm => Quiets.of (long_q x _))).P fun m hm => ?_
      exact ⟨by simp [bigC, h1, h2], k1.upto hm⟩

theorem few_q {st : St} {v : Value} {l : List Cl} (h : Cls st.heap v l) : Quiet 38 [v] st (.bool (fewB l)) := Quiet.of fun hl => by
  apply r38
  unfold R38
  by_cases h1 : (l.length : Int) ≤ 40
  · simp [h.len, h1]
    refine (anyC_q h bigC (fun x hx u hu m hm => Quiets.of (big_q (st := st.upto m) hu))).P fun m hm => ?_
    simp only [B_some, un_not]
    exact ⟨by simp [fewB, h1], (Keeps.refl st).upto hm⟩
  · simp [h.len, h1, fewB, Keeps.refl]

def Gus (h : Heap) (v : Value) (l : List Gu) : Prop :=
  l.length ≤ 1000 ∧ ∃ b off cap, v = .slice (some ⟨b, off, none⟩) l.length cap ∧ ∀ j (hj : j < l.length), ∃ tv, GuC h b (off + j * 9) l[j] tv ∧ Strs h tv l[j].tongues
theorem Gus.keeps {a s : St} (h : Keeps a s) {v : Value} {l : List Gu} (hs : Gus a.heap v l) : Gus s.heap v l :=
  let ⟨h0, b, off, cap, h1, h2⟩ := hs; ⟨h0, b, off, cap, h1, fun j hj => let ⟨tv, q1, q2⟩ := h2 j hj; ⟨tv, q1.keeps h, q2.keeps h⟩⟩
theorem Gus.len {h : Heap} {v : Value} {l : List Gu} (hs : Gus h v l) (s : St) : evLenM oT s 23 v = some (.int .i64 l.length) := by obtain ⟨_, b, off, cap, rfl, _⟩ := hs; simp
theorem Gus.at_ {h : Heap} {v : Value} {l : List Gu} (hs : Gus h v l) {k : Nat} (hk : k < l.length) : ∃ b o tv, evIndexAddr oT 23 v (.int .i64 k) = some (.pointer (some ⟨b, o, none⟩)) ∧ GuC h b o l[k] tv ∧ Strs h tv l[k].tongues := by
  obtain ⟨_, b, off, cap, rfl, hc⟩ := hs
  obtain ⟨tv, q1, q2⟩ := hc k hk
  exact ⟨b, off + k * 9, tv, by simp [ia23, hk], q1, q2⟩

theorem idxG_q {st : St} {v fv : Value} {l : List Gu} (h : Gus st.heap v l) (p : Gu → Bool) (hp : ∀ x ∈ l, ∀ u, GuV st.heap u x → ∀ m, st.nxt ≤ m → Quiets fv [u] (st.upto m) (.bool (p x))) :
    Quiet 175 [v, fv] st (.int .i64 (idxGo p l 0)) := Quiet.of fun hl => by
  apply r175
  have hmx := h.1
  unfold R175
  simp [h.len]
  refine Lp.ind (fun n xs t => ∃ k m : Nat, k + n = l.length ∧ idxGo p (l.drop k) k = idxGo p l 0 ∧ xs = [.int .i64 k] ∧ st.nxt ≤ m ∧ t = st.upto m) ?_ l.length ⟨0, st.nxt, by omega, rfl, rfl, Nat.le_refl _, rfl⟩
  rintro n _ _ ⟨k, m, hk1, hk2, rfl, hm, rfl⟩
  have hkeep : ∀ m', m ≤ m' → Keeps st (st.upto m') := fun m' h => (Keeps.refl st).upto (by omega)
  simp [L175_0]
  refine ⟨fun hlt => ?_, fun hge => ?_⟩
  · obtain ⟨b, o, nv, q1, q2, q3⟩ := h.at_ hlt
    simp [q1, q2.all]
    refine (hp l[k] (List.getElem_mem hlt) _ ⟨nv, rfl, q3⟩ m hm).V fun m2 hm2 => ?_
    simp only [upto_nxt] at hm2
    rw [idxGo_drop hlt] at hk2
    cases hb : p l[k]
    · rw [hb] at hk2
      simp
      exact ⟨n - 1, by omega, k + 1, by omega, by simpa using hk2, by rw [i64_wrap _ (by omega)]; simp, m2, by omega, rfl⟩
    · rw [hb] at hk2
      simp [← hk2, hkeep m2 hm2]
  · have : k = l.length := by omega
    subst this
    rw [List.drop_length, idxGo] at hk2
    simp [← hk2, hkeep m (Nat.le_refl _)]

theorem anyG_q {st : St} {v fv : Value} {l : List Gu} (h : Gus st.heap v l) (p : Gu → Bool) (hp : ∀ x ∈ l, ∀ u, GuV st.heap u x → ∀ m, st.nxt ≤ m → Quiets fv [u] (st.upto m) (.bool (p x))) :
    Quiet 101 [v, fv] st (.bool (l.any p)) := Quiet.of fun hl => by
  apply r101
  refine (idxG_q h p hp).P fun m hm => ?_
  simp [(Keeps.refl st).upto hm]
  exact idxGo_any p l 0

theorem max3 (a b c : Int) : evMaxL [.int .i64 a, .int .i64 b, .int .i64 c] = some (.int .i64 (mx (mx a b) c)) := by
  simp only [evMaxL, evMax, mx]
  congr 2
  by_cases h1 : a < b <;> by_cases h2 : b < c <;> by_cases h3 : a < c <;> simp [h1, h2, h3]

theorem bigG_q {st : St} {v : Value} {g : Gu} (h : GuV st.heap v g) : Quiet 102 [v] st (.bool (bigG g)) := Quiet.of fun hl => by
  obtain ⟨tv, rfl, hs⟩ := h
  apply r102
  refine box_gu hl hs.one fun s1 p l1 k1 hc => ?_
  obtain ⟨f, f0, f1, f2, f3, f4, f6, f8⟩ := hc
  simp at f1 f2 f3 f4 f6 f8
  have hs1 := hs.keeps k1
  by_cases h1 : (40 : Int) < mx (mx g.name.size g.rank.size) g.court.size
  · simp [f0, f1, f2, max3, h1, bigG, k1]
  · by_cases h2 : (10 : Int) < g.tongues.length
    · simp [f0, f1, f2, f8, max3, h1, h2, hs1.len, bigG, k1]
    · simp [f0, f1, f2, f8, max3, h1, h2, hs1.len]
      refine (anyS_q hs1 (fun s => decide ((40 : Int) < s.size)) (fun x hx m hm => Quiets.of (longG_q x _))).P fun m hm => ?_
      exact ⟨by simp [bigG, h1, h2], k1.upto hm⟩

def fewGB (l : List Gu) (n : Int) : Bool := decide ((l.length : Int) ≤ n) && !l.any bigG
theorem fewG_q {st : St} {v : Value} {l : List Gu} (h : Gus st.heap v l) (n : Int) : Quiet 39 [v, .int .i64 n] st (.bool (fewGB l n)) := Quiet.of fun hl => by
  apply r39
  unfold R39
  by_cases h1 : (l.length : Int) ≤ n
  · simp [h.len, h1]
    refine (anyG_q h bigG (fun x hx u hu m hm => Quiets.of (bigG_q (st := st.upto m) hu))).P fun m hm => ?_
    simp only [B_some, un_not]
    exact ⟨by simp [fewGB, h1], (Keeps.refl st).upto hm⟩
  · simp [h.len, h1, fewGB, Keeps.refl]
end Go.Ev

namespace Go.Ev
open Go.Proofs

theorem var_rule1 {s : St} (hl : Live s) {t : TypeId} {by_ : Nat} {td : TD} {z x : Value} (ht : oT.ty t = some ⟨td, 1, by_, false, z⟩) (hz : oneC z = true) (ho : oneC x = true)
    {f : Value → St → Prop} (k : ∀ s' b, Live s' → Keeps s s' → cellAt s'.heap b 0 = some x → f (.pointer (some ⟨b, 0, none⟩)) s') :
    B2 (evNew oT s t) fun v s1 => B2 (evStoreU oT s1 t v x) fun _ s2 => f v s2 := by
  simp only [evNew, ht]
  rw [box_one s t z hz, B2_some]
  have hg : hget (s.push (.cells ⟨[z]⟩ t)).heap s.nxt = some (.cells ⟨[z]⟩ t) := by simp [St.push, hget_cons]
  have hcx : cellsL x = [x] := by cases x <;> first | rfl | (simp [oneC] at ho; done)
  have hst : evStore oT (s.push (.cells ⟨[z]⟩ t)) t (.pointer (some ⟨s.nxt, 0, none⟩)) x = some ((s.push (.cells ⟨[z]⟩ t)).put s.nxt (.cells ⟨[x]⟩ t)) := by
    have h1 : Nat.beq (cellsL x).length 1 = true := by rw [hcx]; rfl
    have h2 : setN [z] 0 (cellsL x) = some [x] := by
      rw [hcx]
      unfold setN
      exact overN_full [z] [x] rfl (by simp [ho])
    simp only [evStore, hopen_of hg, ht, h1, cond_true, h2]
  simp only [evStoreU, hst, B2_some]
  refine k _ _ ((hl.push _).put hg _) (((Keeps.refl s).push hl _).put hl (Nat.le_refl _) _) ?_
  have hg2 : hget ((s.push (.cells ⟨[z]⟩ t)).put s.nxt (.cells ⟨[x]⟩ t)).heap s.nxt = some (.cells ⟨[x]⟩ t) := by
    rw [hget_put _ _ _ hg]; simp
  simp only [cellAt, hg2]
  exact getC_of rfl (oneC_hole ho)

/-! ### seated guests -/
def seL (g : Gu) (tv : Value) (i : Int) : List Value := [.string g.name, .string g.rank, .string g.court, .int .i64 g.since, .int .i64 g.side, .string g.diet, .bool g.host, .bool g.access, tv, .int .i64 i]
def SeV (h : Heap) (u : Value) (g : Gu) (i : Int) : Prop := ∃ tv, u = .agg ⟨seL g tv i⟩ ∧ Strs h tv g.tongues
theorem SeV.keeps {a s : St} (h : Keeps a s) {u : Value} {g : Gu} {i : Int} (e : SeV a.heap u g i) : SeV s.heap u g i := let ⟨tv, h1, h2⟩ := e; ⟨tv, h1, h2.keeps h⟩
structure SeC (h : Heap) (b : Nat) (g : Gu) (tv : Value) (i : Int) : Prop where
  all : cellsN h b 0 10 = some (.agg ⟨seL g tv i⟩)
  c0 : cellAt h b 0 = some (.string g.name)
  c1 : cellAt h b 1 = some (.string g.rank)
  c2 : cellAt h b 2 = some (.string g.court)
  c3 : cellAt h b 3 = some (.int .i64 g.since)
  c4 : cellAt h b 4 = some (.int .i64 g.side)
  c6 : cellAt h b 6 = some (.bool g.host)
  c8 : cellAt h b 8 = some tv
  c9 : cellAt h b 9 = some (.int .i64 i)
theorem SeC.of {h : Heap} {b : Nat} {g : Gu} {tv : Value} {i : Int} (e : cellsN h b 0 10 = some (.agg ⟨seL g tv i⟩)) : SeC h b g tv i := by
  have q := fun k hk => cellAt_cellsN e k hk
  simp only [Nat.zero_add] at q
  exact ⟨e, q 0 (by decide), q 1 (by decide), q 2 (by decide), q 3 (by decide), q 4 (by decide), q 6 (by decide), q 8 (by decide), q 9 (by decide)⟩
theorem SeC.keeps {a s : St} (h : Keeps a s) {b : Nat} {g : Gu} {tv : Value} {i : Int} (e : SeC a.heap b g tv i) : SeC s.heap b g tv i := SeC.of (h.cells e.all)
theorem box_se {s : St} (hl : Live s) {g : Gu} {tv : Value} {i : Int} (ho : oneC tv = true) {f : Value → St → Prop}
    (k : ∀ s' b, Live s' → Keeps s s' → SeC s'.heap b g tv i → f (.pointer (some ⟨b, 0, none⟩)) s') : B2 (evBox s 183 (.agg ⟨seL g tv i⟩)) f :=
  box_rule hl (by simp only [seL, List.all_cons, ho]; rfl) fun s' b h1 h2 h3 => k s' b h1 h2 (SeC.of h3)

/-! ### what function values do -/
def Num (fv : Value) (st : St) (F : Gu → Int → Int) : Prop := ∀ s, Keeps st s → ∀ u g i, SeV s.heap u g i → Quiets fv [u] s (.int .i64 (F g i))
def Prd (fv : Value) (st : St) (F : Gu → Int → Bool) : Prop := ∀ s, Keeps st s → ∀ u g i, SeV s.heap u g i → Quiets fv [u] s (.bool (F g i))
def Key (fv : Value) (st : St) (F : Int → Int) : Prop := ∀ s, Keeps st s → ∀ i, Quiets fv [.int .i64 i] s (.int .i64 (F i))
def Ord (fv : Value) (st : St) (C : Gu → Int → Gu → Int → Int) : Prop := ∀ s, Keeps st s → ∀ u1 u2 a i b j, SeV s.heap u1 a i → SeV s.heap u2 b j → Quiets fv [u1, u2] s (.int .i64 (C a i b j))
theorem Num.keeps {fv : Value} {a s : St} {F : Gu → Int → Int} (h : Num fv a F) (k : Keeps a s) : Num fv s F := fun t ht => h t (k.trans ht)
theorem Prd.keeps {fv : Value} {a s : St} {F : Gu → Int → Bool} (h : Prd fv a F) (k : Keeps a s) : Prd fv s F := fun t ht => h t (k.trans ht)
theorem Key.keeps {fv : Value} {a s : St} {F : Int → Int} (h : Key fv a F) (k : Keeps a s) : Key fv s F := fun t ht => h t (k.trans ht)
theorem Ord.keeps {fv : Value} {a s : St} {F : Gu → Int → Gu → Int → Int} (h : Ord fv a F) (k : Keeps a s) : Ord fv s F := fun t ht => h t (k.trans ht)
theorem Quiets.one {fv : Value} {args : List Value} {st : St} {v : Value} (h : Quiets fv args st v) : oneC fv = true := by obtain ⟨f, a, c, rfl, _⟩ := h; rfl
theorem Quiets.of2 {f : FuncId} {args : List Value} {st : St} {v c d : Value} (h : Quiet f (args ++ [c, d]) st v) : Quiets (.func (.func f) ⟨[]⟩ ⟨[c, d]⟩) args st v := ⟨f, ⟨[]⟩, ⟨[c, d]⟩, rfl, by simpa using h⟩
theorem Quiets.eq {fv : Value} {args : List Value} {st : St} {u v : Value} (h : Quiets fv args st u) (e : u = v) : Quiets fv args st v := e ▸ h

def cmpI (a b : Int) : Int := if a < b then -1 else if b < a then 1 else 0
def cmpS (a b : ByteArray) : Int := if ltS a b then -1 else if !(ltS a b || eqS a b) then 1 else 0

theorem nan_q (a : Int) (st : St) : Quiet 391 [.int .i64 a] st (.bool false) := Quiet.of fun hl => by
  apply r391
  unfold R391
  simp [Keeps.refl]
theorem nanS_q (a : ByteArray) (st : St) : Quiet 393 [.string a] st (.bool false) := Quiet.of fun hl => by
  apply r393
  unfold R393
  simp [Keeps.refl, eqS_refl]
theorem cmp_q (a b : Int) (st : St) : Quiet 337 [.int .i64 a, .int .i64 b] st (.int .i64 (cmpI a b)) := Quiet.of fun hl => by
  apply r337
  refine (nan_q _ _).P fun m hm => ?_
  refine (nan_q _ _).P fun m2 hm2 => ?_
  simp only [upto_nxt] at hm2
  have hk : Keeps st (st.upto m2) := (Keeps.refl st).upto (by omega)
  by_cases h1 : a < b
  · simp [h1, cmpI, hk]
  · by_cases h2 : b < a
    · simp [h1, h2, cmpI, hk]
    · simp [h1, h2, cmpI, hk]
theorem cmpS_q (a b : ByteArray) (st : St) : Quiet 346 [.string a, .string b] st (.int .i64 (cmpS a b)) := Quiet.of fun hl => by
  apply r346
  refine (nanS_q _ _).P fun m hm => ?_
  refine (nanS_q _ _).P fun m2 hm2 => ?_
  simp only [upto_nxt] at hm2
  have hk : Keeps st (st.upto m2) := (Keeps.refl st).upto (by omega)
  cases h1 : ltS a b <;> cases h2 : eqS a b <;> simp [h1, h2, cmpS, hk]
theorem b2i_q (b : Bool) (st : St) : Quiet 338 [.bool b] st (.int .i64 (if b then 1 else 0)) := Quiet.of fun hl => by
  apply r338
  unfold R338
  cases b <;> simp [Keeps.refl]

theorem by_ord {st : St} {fv : Value} {F : Gu → Int → Int} (h : Num fv st F) {p : Nat} (hp : cellAt st.heap p 0 = some fv) :
    Ord (.func (.func 390) ⟨[]⟩ ⟨[.pointer (some ⟨p, 0, none⟩)]⟩) st fun a i b j => cmpI (F a i) (F b j) := fun s ks u1 u2 a i b j h1 h2 => Quiets.of1 <| Quiet.of fun hl => by
  obtain ⟨tv, rfl, ht⟩ := h1
  obtain ⟨uv, rfl, hu⟩ := h2
  apply r390
  refine box_se hl ht.one fun s1 p1 l1 k1 c1 => ?_
  refine box_se l1 hu.one fun s2 p2 l2 k2 c2 => ?_
  have k := k1.trans k2
  have c1' := c1.keeps k2
  have hf := (ks.trans k).cell hp
  simp [hf, c1'.all]
  refine (h s2 (ks.trans k) _ a i ⟨tv, rfl, ht.keeps k⟩).QV fun m hm => ?_
  simp [hf, c2.all]
  refine (h (s2.upto m) ((ks.trans k).upto hm) _ b j ⟨uv, rfl, hu.keeps k⟩).QV fun m2 hm2 => ?_
  simp only [upto_nxt] at hm2
  refine (cmp_q _ _ _).Q fun m3 hm3 => ?_
  simp only [upto_nxt] at hm3
  exact ⟨rfl, k.upto (by omega)⟩

theorem by_c {st : St} {fv : Value} {F : Gu → Int → Int} (h : Num fv st F) (ho : oneC fv = true) : CallP Tryz.prog 333 [fv] st fun u s => Live s ∧ Keeps st s ∧ Ord u s fun a i b j => cmpI (F a i) (F b j) := CallP.live fun hl => by
  apply r333
  refine box_rule1 hl ho fun s1 p l1 k1 hc => ?_
  exact ⟨l1, k1, by_ord (h.keeps k1) hc⟩

theorem named_num {st : St} {iv : Value} {P : Gu → Int → Bool} (h : Prd iv st P) {p q : Nat} (hp : cellAt st.heap p 0 = some iv) {last : Bool} (hq : cellAt st.heap q 2 = some (.bool last)) :
    Num (.func (.func 392) ⟨[]⟩ ⟨[.pointer (some ⟨p, 0, none⟩), .pointer (some ⟨q, 0, none⟩)]⟩) st fun g i => if P g i == last then 1 else 0 := fun s ks u g i h1 => Quiets.of2 <| Quiet.of fun hl => by
  obtain ⟨tv, rfl, ht⟩ := h1
  apply r392
  refine box_se hl ht.one fun s1 p1 l1 k1 c1 => ?_
  have hf := (ks.trans k1).cell hp
  have hg := (ks.trans k1).cell hq
  simp [hf, c1.all]
  refine (h s1 (ks.trans k1) _ g i ⟨tv, rfl, ht.keeps k1⟩).QV fun m hm => ?_
  cases hx : P g i <;> cases last <;> simp [hg, k1.upto hm]

theorem named_c {st : St} {v iv : Value} {c : Cl} (hv : ClV st.heap v c) {P : Gu → Int → Bool} (h : Prd iv st P) (ho : oneC iv = true) :
    CallP Tryz.prog 339 [v, iv] st fun u s => Live s ∧ Keeps st s ∧ Ord u s fun a i b j => cmpI (if P a i == c.last then 1 else 0) (if P b j == c.last then 1 else 0) := CallP.live fun hl => by
  obtain ⟨nv, rfl, hs⟩ := hv
  apply r339
  refine box_cl hl hs.one fun s1 p l1 k1 hc => ?_
  refine box_rule1 l1 ho fun s2 q l2 k2 hi => ?_
  have hc2 := (hc.keeps k2).c2
  simp at hc2
  refine (by_c (named_num (h.keeps (k1.trans k2)) hi hc2) rfl).use ?_
  rintro u s _ _ ⟨q1, q2, q3⟩
  exact ⟨q1, (k1.trans k2).trans q2, q3⟩
end Go.Ev
