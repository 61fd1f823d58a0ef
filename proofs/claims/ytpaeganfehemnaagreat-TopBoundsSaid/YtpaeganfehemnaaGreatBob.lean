/- The law of bounds: what its functions compute, second part, and the law over the small memory. -/
import Derived.Test.YtpaeganfehemnaaGreatBoa

namespace Go.Ev
open Go.Proofs

theorem overN_all : ∀ (c vs : List Value), c.length = vs.length → vs.all oneC = true → overN c vs = some vs := by
  intro c
  induction c with
  | nil => intro vs h _; cases vs <;> simp at h; rfl
  | cons a c ih =>
    intro vs h ho
    cases vs with
    | nil => simp at h
    | cons v vs =>
      simp only [List.all_cons, Bool.and_eq_true] at ho
      simp only [overN, ih vs (by simpa using h) ho.2, ho.1, cond_true]

theorem cells_cell {h : Heap} {b o n : Nat} {l : List Value} (e : cellsN h b o n = some (.agg ⟨l⟩)) (i : Nat) (hi : i < n) : cellAt h b (o + i) = l[i]? := by
  unfold cellsN at e
  unfold cellAt
  split at e
  · rename_i c t f hc
    split at e
    · rename_i l' hl
      simp only [Option.some.injEq, Value.agg.injEq, Array.mk.injEq] at e
      subst e
      have h1 := loadN_get hl i hi
      have h2 : i < l'.length := by have := loadN_len hl; omega
      rw [List.getElem?_eq_getElem h2] at h1
      rw [List.getElem?_eq_getElem h2]
      exact getC_of h1.symm (loadN_nohole hl _ (List.getElem_mem h2))
    · cases e
  · cases e

def sqL (n N : Nat) : List Value := [.int .i64 n, .slice (some ⟨N, 0, none⟩) (n * n) (n * n)]
def sqV (n N : Nat) : Value := .agg ⟨sqL n N⟩

theorem mul_lt {n x y : Nat} (hx : x < n) (hy : y < n) : x * n + y < n * n := by
  have : (x + 1) * n ≤ n * n := Nat.mul_le_mul_right _ hx
  rw [Nat.add_mul] at this
  omega

theorem sq_le {n : Nat} (hn : n ≤ 64) : n * n ≤ 4096 := by
  have := Nat.mul_le_mul hn hn
  omega

theorem at_q {s : St} {n N x y : Nat} (hn : n ≤ 64) (hx : x < n) (hy : y < n) : Quiet 172 [sqV n N, .int .i64 x, .int .i64 y] s (.pointer (some ⟨N, x * n + y, none⟩)) := Quiet.of fun hl => by
  have h1 := mul_lt hx hy
  have h2 := sq_le hn
  apply r172
  unfold R172
  refine box_rule hl (l := sqL n N) (by rfl) fun s1 b l1 k1 hc => ?_
  have c0 := cells_cell hc 0 (show 0 < 2 by decide)
  have c1 := cells_cell hc 1 (show 1 < 2 by decide)
  have c0 : cellAt s1.heap b 0 = some (.int .i64 n) := c0
  have c1 : cellAt s1.heap b (0 + 1) = some (.slice (some ⟨N, 0, none⟩) (n * n) (n * n)) := c1
  have e1 : ((x : Int) * (n : Int)) = ((x * n : Nat) : Int) := by simp
  have e2 : (((x * n : Nat) : Int) + (y : Int)) = ((x * n + y : Nat) : Int) := by simp
  have w1 : IntKind.i64.wrap ((x * n : Nat) : Int) = ((x * n : Nat) : Int) := i64_wrap _ (by omega)
  have w2 : IntKind.i64.wrap ((x * n + y : Nat) : Int) = ((x * n + y : Nat) : Int) := i64_wrap _ (by omega)
  have hia : evIndexAddr oT 25 (.slice (some ⟨N, 0, none⟩) (n * n) (n * n)) (.int .i64 (x * n + y : Nat)) = some (.pointer (some ⟨N, x * n + y, none⟩)) := by
    rw [ia25 _ _ _ _ _ _ (by omega) (by omega), Int.toNat_natCast, Nat.zero_add]
  simp only [fa164_0, fa164_1, ld25, ld3, B_some, c0, c1, bin_mul, bin_add, e1, w1, e2, w2, hia]
  exact ⟨trivial, k1⟩

theorem square_c {st : St} {n : Nat} (hn : n ≤ 64) : CallP Tryz.prog 170 [.int .i64 n] st fun u s => ∃ N, u = sqV n N ∧ Live s ∧ Keeps st s ∧ st.nxt ≤ N ∧ Nums s N (List.replicate (n * n) 0) := CallP.live fun hl => by
  have h2 := sq_le hn
  apply r170
  unfold R170
  simp only [evNew, ty164]
  rw [box_agg _ _ _ (by rfl), B2_some]
  have e1 : ((n : Int) * (n : Int)) = ((n * n : Nat) : Int) := by simp
  have w1 : IntKind.i64.wrap ((n * n : Nat) : Int) = ((n * n : Nat) : Int) := i64_wrap _ (by omega)
  rw [bin_mul, B_some, e1, w1]
  have l0 : Live (st.push (.cells ⟨[.int .i64 0, .slice none 0 0]⟩ 164)) := hl.push _
  have k0 : Keeps st (st.push (.cells ⟨[.int .i64 0, .slice none 0 0]⟩ 164)) := (Keeps.refl st).push hl _
  refine make_rule (f := Value.int .i64) (z := 0) ty25 ty3 rfl (by decide) l0 (n := n * n) (by omega) fun N s1 l1 k1 hN hb => ?_
  have hN : st.nxt + 1 ≤ N := hN
  have hbld : evBuild oT 164 [(0, .int .i64 n), (1, .slice (some ⟨N, 0, none⟩) (n * n) (n * n))] = some (sqV n N) := by
    simp only [evBuild, ty164]
    rfl
  rw [hbld, B_some]
  have hg0 : hget (st.push (.cells ⟨[.int .i64 0, .slice none 0 0]⟩ 164)).heap st.nxt = some (.cells ⟨[.int .i64 0, .slice none 0 0]⟩ 164) := by simp [St.push, hget_cons]
  have hg := k1.sub _ _ hg0
  have hst : evStoreU oT s1 164 (.pointer (some ⟨st.nxt, 0, none⟩)) (sqV n N) = some (undef, s1.put st.nxt (.cells ⟨sqL n N⟩ 164)) := by
    have h3 : setN [.int .i64 0, .slice none 0 0] 0 (cellsL (sqV n N)) = some (sqL n N) := by
      show setN _ 0 (sqL n N) = some (sqL n N)
      unfold setN
      exact overN_all _ _ rfl rfl
    have h4 : Nat.beq (cellsL (sqV n N)).length 2 = true := rfl
    simp only [evStoreU, evStore, hopen_of hg, ty164, h3, h4, cond_true]
  rw [hst, B2_some]
  have hg2 : hget (s1.put st.nxt (.cells ⟨sqL n N⟩ 164)).heap st.nxt = some (.cells ⟨sqL n N⟩ 164) := by rw [hget_put _ _ _ hg]; simp
  have hld : evLoad oT (s1.put st.nxt (.cells ⟨sqL n N⟩ 164)) 164 (.pointer (some ⟨st.nxt, 0, none⟩)) = some (sqV n N) := by
    rw [ld164]
    simp only [cellsN, hg2]
    have : loadN (sqL n N) 0 2 = some (sqL n N) := loadN_all (sqL n N) rfl
    simp only [this]
    rfl
  rw [hld, B_some]
  exact ⟨N, rfl, l1.putB hg _, (k0.trans k1).putB hl (Nat.le_refl _) _, by omega, hb.other (by omega) _⟩
end Go.Ev

namespace Go.Ev
open Go.Proofs

/-- What there was is there still, but for one object. -/
structure KeepX (N : Nat) (a s : St) : Prop where
  nxt : a.nxt ≤ s.nxt
  sub : ∀ id o, id ≠ N → hget a.heap id = some o → hget s.heap id = some o
theorem KeepX.refl (N : Nat) (s : St) : KeepX N s s := ⟨Nat.le_refl _, fun _ _ _ h => h⟩
theorem KeepX.trans {N : Nat} {a b c : St} (h : KeepX N a b) (h' : KeepX N b c) : KeepX N a c := ⟨Nat.le_trans h.nxt h'.nxt, fun id o hn e => h'.sub id o hn (h.sub id o hn e)⟩
theorem KeepX.keeps {N : Nat} {st a s : St} (k : Keeps st a) (hl : Live st) (hN : st.nxt ≤ N) (h : KeepX N a s) : Keeps st s :=
  ⟨Nat.le_trans k.nxt h.nxt, fun id o e => h.sub id o (by have := hl id (by rw [e]; rfl); omega) (k.sub id o e)⟩

def sqC (n : Nat) (P : List (Int × Int)) : List Int := (List.range (n * n)).map fun (j : Nat) => ((P.count (((j / n : Nat) : Int), ((j % n : Nat) : Int)) : Nat) : Int)
theorem sqC_len (n : Nat) (P : List (Int × Int)) : (sqC n P).length = n * n := by simp [sqC]

/-- Each yield is one increment. -/
def YieldOk (a : St) (N n : Nat) (yv : Value) : Prop :=
  ∀ s P (x y : Nat), x < n → y < n → Live s → KeepX N a s → Nums s N (sqC n P) → P.count ((x : Int), (y : Int)) ≤ 64 →
    CallV Tryz.prog yv [.int .i64 x, .int .i64 y] s fun u s' => u = .bool true ∧ Live s' ∧ KeepX N a s' ∧ Nums s' N (sqC n (P ++ [((x : Int), (y : Int))]))

theorem CallV.use {P : Program} {fv : Value} {args : List Value} {st : St} {Q R : Value → St → Prop} (h : CallV P fv args st Q) (hq : ∀ v s, Q v s → R v s) : CallV P fv args st R := by
  cases h with
  | fn f a c hf hc => exact .fn f a c hf (by obtain ⟨hc⟩ := hc; exact ⟨fun hl => let ⟨v, s, h1, h2⟩ := hc hl; ⟨v, s, h1, hq v s h2⟩⟩)
  | yield l a c hf hc => exact .yield l a c hf (by obtain ⟨hc⟩ := hc; exact ⟨fun hl => let ⟨r, t, v, s, h1, h2, h3, h4⟩ := hc hl; ⟨r, t, v, s, h1, h2, h3, hq v s h4⟩⟩)

section
variable {st a : St} {n N : Nat} {yv : Value}

theorem pairs_row {u : Value} {T : List Int} (h : Ints st.heap u T) (hl : Live st) (ka : Keeps st a) (hN : st.nxt ≤ N) (hy : YieldOk a N n yv) (hnd : T.Nodup) (hr : ∀ x ∈ T, 0 ≤ x ∧ x < n) {i : Nat} (hi : i < T.length) {P : List (Int × Int)} (hb : ∀ x, (P ++ rowP T T[i]).count x ≤ 64)
    {s : St} (ls : Live s) (ks : KeepX N a s) (hs : Nums s N (sqC n P)) {x2 : List Value} (hx : nth x2 0 = .int .i64 i) {n2 : List Value → St → Prop} {Q : Value → St → Prop}
    (k : ∀ s', Live s' → KeepX N a s' → Nums s' N (sqC n (P ++ rowP T T[i])) → n2 [.int .i64 (i + 1 : Nat)] s') :
    Lp (L255_4 yv u (.int .i64 T[i]) (.int .i64 T.length) x2 n2 Q) [.int .i64 0] s := by
  have hmx := SlOf.max h
  refine Lp.ind (fun m xs s' => ∃ k : Nat, k + m = T.length ∧ xs = [.int .i64 k] ∧ Live s' ∧ KeepX N a s' ∧ Nums s' N (sqC n (P ++ rowTo T T[i] k))) ?_ T.length ⟨0, by omega, rfl, ls, ks, by simpa [rowTo, rowTo.rowP'] using hs⟩
  rintro m _ s1 ⟨k1, hk, rfl, l1, ks1, hM⟩
  simp only [L255_4, nth, hx]
  by_cases hlt : k1 < T.length
  · obtain ⟨p, o, q1, q2⟩ := h.at_ hlt
    have q2 := (KeepX.keeps ka hl hN ks1).cell q2
    have hkl : (k1 : Int) < (T.length : Int) := by omega
    obtain ⟨r0, r1⟩ := hr _ (List.getElem_mem hlt)
    obtain ⟨a0, a1⟩ := hr _ (List.getElem_mem hi)
    have hsucc := rowTo_succ hlt T[i]
    by_cases he : i = k1
    · subst he
      rw [if_pos rfl, List.append_nil] at hsucc
      simp [hkl, q1, q2]
      exact ⟨m - 1, by omega, i + 1, by omega, by rw [i64_wrap _ (by omega)]; simp, l1, ks1, by rw [hsucc]; exact hM⟩
    · have hne : T[k1] ≠ T[i] := fun e => by
        have hp := List.pairwise_iff_getElem.1 hnd
        rcases Nat.lt_or_gt_of_ne he with h1 | h1
        · exact hp i k1 hi hlt h1 e.symm
        · exact hp k1 i hlt hi h1 e
      rw [if_neg hne] at hsucc
      have ea : ((T[i].toNat : Nat) : Int) = T[i] := by omega
      have eb : ((T[k1].toNat : Nat) : Int) = T[k1] := by omega
      have hcount : (P ++ rowTo T T[i] k1).count (T[i], T[k1]) ≤ 64 := Nat.le_trans (count_sub (List.Sublist.append (List.Sublist.refl P) (rowTo_sub T T[i] k1)) _) (hb _)
      have hcall := hy s1 (P ++ rowTo T T[i] k1) T[i].toNat T[k1].toNat (by omega) (by omega) l1 ks1 hM (by rw [ea, eb]; exact hcount)
      rw [ea, eb, List.append_assoc, ← hsucc] at hcall
      have he' : ¬ (i : Int) = (k1 : Int) := by omega
      simp [hkl, q1, q2, he, he']
      refine hcall.use ?_
      rintro v s2 ⟨rfl, l2, k2, hM2⟩
      simp
      exact ⟨m - 1, by omega, k1 + 1, by omega, by rw [i64_wrap _ (by omega)]; simp, l2, k2, hM2⟩
  · have hkk : k1 = T.length := by omega
    subst hkk
    rw [rowTo_all] at hM
    have := k s1 l1 ks1 hM
    simp
    rw [i64_wrap _ (by omega)]
    simpa using this

theorem pairs_table {u : Value} {T : List Int} (h : Ints st.heap u T) (hl : Live st) (ka : Keeps st a) (hN : st.nxt ≤ N) (hy : YieldOk a N n yv) (hnd : T.Nodup) (hr : ∀ x ∈ T, 0 ≤ x ∧ x < n) {P : List (Int × Int)} (hb : ∀ x, (P ++ pairsT T).count x ≤ 64)
    {s : St} (ls : Live s) (ks : KeepX N a s) (hs : Nums s N (sqC n P)) {x1 : List Value} {t : Nat} (hx : nth x1 0 = .int .i64 t) (ht : (t : Int) < 9223372036854775807) {n1 : List Value → St → Prop} {Q : Value → St → Prop}
    (k : ∀ s', Live s' → KeepX N a s' → Nums s' N (sqC n (P ++ pairsT T)) → n1 [.int .i64 (t + 1 : Nat)] s') :
    Lp (L255_2 yv u (.int .i64 T.length) x1 n1 Q) [.int .i64 0] s := by
  have hmx := SlOf.max h
  refine Lp.ind (fun m xs s' => ∃ k : Nat, k + m = T.length ∧ xs = [.int .i64 k] ∧ Live s' ∧ KeepX N a s' ∧ Nums s' N (sqC n (P ++ (T.take k).flatMap (rowP T)))) ?_ T.length ⟨0, by omega, rfl, ls, ks, by simpa using hs⟩
  rintro m _ s1 ⟨k1, hk, rfl, l1, ks1, hM⟩
  simp only [L255_2, nth, hx]
  by_cases hlt : k1 < T.length
  · obtain ⟨p, o, w1, w2⟩ := h.at_ hlt
    have w2 := (KeepX.keeps ka hl hN ks1).cell w2
    have hkl : (k1 : Int) < (T.length : Int) := by omega
    have hsub := take_flat_sub (rowP T) T (k1 + 1)
    have hsucc := take_flat_succ (rowP T) hlt
    simp [hkl, w1, w2, h.len]
    refine pairs_row h hl ka hN hy hnd hr hlt (fun x => ?_) l1 ks1 hM rfl fun s' a b d => ?_
    · rw [List.append_assoc, ← hsucc]
      exact Nat.le_trans (count_sub (List.Sublist.append (List.Sublist.refl P) hsub) x) (hb x)
    · rw [List.append_assoc, ← hsucc] at d
      exact ⟨m - 1, by omega, k1 + 1, by omega, rfl, a, b, d⟩
  · have hkk : k1 = T.length := by omega
    subst hkk
    rw [List.take_length] at hM
    have := k s1 l1 ks1 hM
    simp
    rw [i64_wrap _ (by omega)]
    simpa using this

theorem pairs_c {v : Value} {E : List (List Int)} {b : Nat} (h : Tabs st.heap v E) (hbox : cellAt a.heap b 0 = some v) (hl : Live st) (la : Live a) (ka : Keeps st a) (hN : st.nxt ≤ N) (hy : YieldOk a N n yv) (hev : EvOk n E) {P : List (Int × Int)} (hb : ∀ x, (P ++ pairsE E).count x ≤ 64) (hs : Nums a N (sqC n P)) :
    CallP Tryz.prog 255 [yv, .pointer (some ⟨b, 0, none⟩)] a fun _ s' => Live s' ∧ KeepX N a s' ∧ Nums s' N (sqC n (P ++ pairsE E)) := by
  have hmE := SlOf.max h
  apply r255
  unfold R255
  rw [ld36, hbox, B_some, h.len, B_some]
  refine Lp.ind (fun m xs s' => ∃ t : Nat, t + m = E.length ∧ xs = [.int .i64 t] ∧ Live s' ∧ KeepX N a s' ∧ Nums s' N (sqC n (P ++ (E.take t).flatMap pairsT))) ?_ E.length ⟨0, by omega, rfl, la, KeepX.refl N a, by simpa using hs⟩
  rintro m _ s1 ⟨t, hk, rfl, l1, ks1, hM⟩
  simp only [L255_0, nth]
  by_cases hlt : t < E.length
  · obtain ⟨p, o, u, w1, w2, w3⟩ := h.at_ hlt
    have w2 := (KeepX.keeps ka hl hN ks1).cell w2
    have hkl : (t : Int) < (E.length : Int) := by omega
    have hsub := take_flat_sub pairsT E (t + 1)
    have hsucc := take_flat_succ pairsT hlt
    have hmem := List.getElem_mem hlt
    have hnd : E[t].Nodup := hev.full.nodup.sublist (List.sublist_flatten_of_mem hmem)
    simp [hkl, w1, w2, w3.len]
    refine pairs_table w3 hl ka hN hy hnd (fun x hx => hev.full.range x (List.mem_flatten.2 ⟨_, hmem, hx⟩)) (fun x => ?_) l1 ks1 hM rfl (by omega) fun s' a b d => ?_
    · rw [List.append_assoc, ← hsucc]
      exact Nat.le_trans (count_sub (List.Sublist.append (List.Sublist.refl P) hsub) x) (hb x)
    · rw [List.append_assoc, ← hsucc] at d
      exact ⟨m - 1, by omega, t + 1, by omega, rfl, a, b, d⟩
  · have hkk : t = E.length := by omega
    subst hkk
    rw [List.take_length] at hM
    simp
    exact ⟨l1, ks1, hM⟩
end
end Go.Ev

namespace Go.Ev
open Go.Proofs

theorem sqC_at {n : Nat} (P : List (Int × Int)) {x y : Nat} (hx : x < n) (hy : y < n) : (sqC n P)[x * n + y]'(by rw [sqC_len]; exact mul_lt hx hy) = ((P.count ((x : Int), (y : Int)) : Nat) : Int) := by
  have h1 : (x * n + y) / n = x := by rw [Nat.mul_comm, Nat.mul_add_div (by omega), Nat.div_eq_of_lt hy]; omega
  have h2 : (x * n + y) % n = y := by rw [Nat.mul_comm, Nat.mul_add_mod, Nat.mod_eq_of_lt hy]
  simp only [sqC, List.getElem_map, List.getElem_range, h1, h2]

theorem sqC_snoc {n : Nat} (P : List (Int × Int)) {x y : Nat} (hx : x < n) (hy : y < n) : sqC n (P ++ [((x : Int), (y : Int))]) = (sqC n P).set (x * n + y) ((P.count ((x : Int), (y : Int)) : Nat) + 1) := by
  apply List.ext_getElem (by simp [sqC_len])
  intro j h1 h2
  rw [sqC_len] at h1
  have hn : 0 < n := by omega
  have e : j = j / n * n + j % n := by have := Nat.div_add_mod j n; rw [Nat.mul_comm] at this; omega
  rw [List.getElem_set]
  have hq : ∀ Q : List (Int × Int), (sqC n Q)[j]'(by rw [sqC_len]; exact h1) = ((Q.count (((j / n : Nat) : Int), ((j % n : Nat) : Int)) : Nat) : Int) := fun Q => by simp only [sqC, List.getElem_map, List.getElem_range]
  rw [hq, hq, List.count_append]
  by_cases he : x * n + y = j
  · have h3 : j / n = x := by rw [← he, Nat.mul_comm, Nat.mul_add_div hn, Nat.div_eq_of_lt hy]; omega
    have h4 : j % n = y := by rw [← he, Nat.mul_comm, Nat.mul_add_mod, Nat.mod_eq_of_lt hy]
    rw [if_pos he, h3, h4]
    simp
  · rw [if_neg he]
    have : ¬ ((x : Int), (y : Int)) = (((j / n : Nat) : Int), ((j % n : Nat) : Int)) := fun e2 => he (by
      simp only [Prod.mk.injEq] at e2
      have h3 : x = j / n := by omega
      have h4 : y = j % n := by omega
      rw [h3, h4]; exact e.symm)
    have h0 : [((x : Int), (y : Int))].count (((j / n : Nat) : Int), ((j % n : Nat) : Int)) = 0 := List.count_eq_zero.2 (by rw [List.mem_singleton]; exact fun e3 => this e3.symm)
    rw [h0, Nat.add_zero]

theorem yield93 {a : St} {n N l q fn d : Nat} {tmps : List Value} {a0 a1 v1 v2 v5 v6 v7 v8 v9 i : Value} (hn : n ≤ 64) (la : Live a)
    (hlo : hget a.heap l = some (.loop { state := .ready, pending := none, fn, tmps := ⟨tmps⟩, params := rfP (rowF Tryz.f93).body, assign := rfA (rowF Tryz.f93).body, body := rfB (rowF Tryz.f93).body, defers := d }))
    (hE : EnvLe (E93 a0 a1 v1 v2 (.pointer (some ⟨q, 0, none⟩)) v5 v6 v7 v8 v9 i) tmps) (hq : ∃ t, hget a.heap q = some (.cells ⟨sqL n N⟩ t)) (hqN : q ≠ N) (hlN : l ≠ N) :
    YieldOk a N n (.func (.yield l) #[] #[]) := by
  intro s P x y hx hy ls ks hM hc
  obtain ⟨r1, r2, r3⟩ := rf93_plain
  have hl := ks.sub _ _ hlN hlo
  obtain ⟨t, hq⟩ := hq
  have hqs := ks.sub _ _ hqN hq
  have hql : q ≠ l := fun e => by rw [e, hlo] at hq; cases hq
  obtain ⟨tmps', ht⟩ := putAll_some (rfP (rowF Tryz.f93).body).toList [.int .i64 x, .int .i64 y] tmps (by rw [r3]; rfl)
  refine .yield l #[] #[] rfl (round_sound oT_ok oS_ok (ann := fun _ => none) hl ht (setAll_le _ _ _ _ _ hE ht) r1 r2 (rr93 ?_))
  refine ⟨rfl, .mk _ hl rfl ?_⟩
  generalize hbusy : (Obj.loop { state := .busy, pending := none, fn, tmps := ⟨tmps⟩, params := rfP (rowF Tryz.f93).body, assign := rfA (rowF Tryz.f93).body, body := rfB (rowF Tryz.f93).body, defers := d }) = bo
  have l1 := ls.putB hl bo
  have hq1 : hget (s.put l bo).heap q = some (.cells ⟨sqL n N⟩ t) := by rw [hget_put _ _ _ hl, if_neg hql]; exact hqs
  have hld : evLoad oT (s.put l bo) 164 (.pointer (some ⟨q, 0, none⟩)) = some (sqV n N) := by
    rw [ld164]
    simp only [cellsN, hq1]
    have : loadN (sqL n N) 0 2 = some (sqL n N) := loadN_all (sqL n N) rfl
    simp only [this]
    rfl
  rw [hld, B_some]
  refine (at_q hn hx hy).P fun m hm => ?_
  have hm : s.nxt ≤ m := hm
  have hM1 : Nums ((s.put l bo).upto m) N (sqC n P) := hM.other (fun e => hlN e.symm) bo
  have hidx : x * n + y < (sqC n P).length := by rw [sqC_len]; exact mul_lt hx hy
  have hcell := hM1.at_ oneI hidx
  rw [sqC_at P hx hy] at hcell
  obtain ⟨ob, z1, z2⟩ := hM1.store oneI hidx ((P.count ((x : Int), (y : Int)) : Nat) + 1) ty3
  rw [← sqC_snoc P hx hy] at z2
  have l2 : Live ((s.put l bo).upto m) := l1.upto hm
  have l3 := l2.putB hM1.choose_spec ob
  have hw : IntKind.i64.wrap (((P.count ((x : Int), (y : Int)) : Nat) : Int) + 1) = ((P.count ((x : Int), (y : Int)) : Nat) : Int) + 1 := i64_wrap _ (by omega)
  simp only [evNil, B_some, ld3, hcell, bin_add, hw, z1, B2_some]
  have hl3 : hget (((s.put l bo).upto m).put N ob).heap l = some bo := by
    rw [hget_put _ _ _ hM1.choose_spec, if_neg hlN]
    show hget (s.put l bo).heap l = some bo
    rw [hget_put _ _ _ hl, if_pos rfl]
  subst hbusy
  refine ⟨trivial, .mk _ hl3 ⟨rfl, l3.putB hl3 _, ⟨Nat.le_trans ks.nxt hm, fun id o hid e => ?_⟩, z2.other (fun e => hlN e.symm) _⟩⟩
  rw [hget_put _ _ _ hl3]
  by_cases hidl : id = l
  · subst hidl
    rw [if_pos rfl]
    rw [hlo] at e
    exact e
  · rw [if_neg hidl, hget_put _ _ _ hM1.choose_spec, if_neg hid]
    show hget (s.put l _).heap id = some o
    rw [hget_put _ _ _ hl, if_neg hidl]
    exact ks.sub _ _ hid e
end Go.Ev

namespace Go.Ev
open Go.Proofs

/-- What is deferred for loops over functions that have ended. -/
structure Ends (s : St) (rs : List Nat) : Prop where
  at_ : ∀ r ∈ rs, hget s.heap r = some (.deferred (some []))
  nodup : rs.Nodup

def endV (rs : List Nat) : List Value := rs.map fun (r : Nat) => .int .i64 (r : Int)

theorem decD_endV (rs : List Nat) : decD (endV rs) = rs.map fun r => ({ target := .collected r, args := #[] } : Deferred) := by
  induction rs with
  | nil => rfl
  | cons r rs ih =>
    show decD (.int .i64 (r : Int) :: endV rs) = _
    simp only [decD, ih, List.map_cons, Int.toNat_natCast]

theorem Ends.put {s : St} {rs : List Nat} (h : Ends s rs) {N : Nat} (hN : N ∉ rs) (o : Obj) : Ends (s.put N o) rs :=
  ⟨fun r hr => by
    have := h.at_ r hr
    simp only [St.put, hget_hset]
    rw [if_neg (fun e => hN (by rw [← e]; exact hr))]
    exact this, h.nodup⟩

/-- The ends are run: nothing else is turned. -/
theorem Dfs_ends (X : List Nat) (k : St → Prop) : ∀ (rs : List Nat) (s : St), Live s → Ends s rs → (∀ r ∈ rs, r ∈ X) →
    (∀ s', Live s' → s'.nxt = s.nxt → (∀ id, id ∉ X → hget s'.heap id = hget s.heap id) → k s') → Dfs (rs.map fun r => ({ target := .collected r, args := #[] } : Deferred)) s k := by
  intro rs
  induction rs with
  | nil => intro s hl _ _ hk; exact hk s hl rfl fun _ _ => rfl
  | cons r rs ih =>
    intro s hl he hX hk
    obtain ⟨h1, h2⟩ := List.nodup_cons.1 he.nodup
    have hr := he.at_ r (by simp)
    refine ⟨hr, ih _ (hl.putB hr _) ((show Ends s rs from ⟨fun q hq => he.at_ q (by simp [hq]), h2⟩).put h1 _) (fun q hq => hX q (by simp [hq])) fun s' l' n' k' => hk s' l' n' fun id hid => ?_⟩
    rw [k' id hid, hget_put _ _ _ hr, if_neg (fun e => hid (by rw [e]; exact hX r (by simp)))]

theorem box1_q {s : St} (hl : Live s) {v : Value} (ho : oneC v = true) : CallP Tryz.prog 171 [v] s fun u s' => ∃ b, u = .func (.func 255) ⟨[]⟩ ⟨[.pointer (some ⟨b, 0, none⟩)]⟩ ∧ Live s' ∧ Keeps s s' ∧ s.nxt ≤ b ∧ cellAt s'.heap b 0 = some v := by
  apply r171
  unfold R171
  rw [box_one s 36 v ho, B2_some]
  refine ⟨s.nxt, rfl, hl.push _, (Keeps.refl s).push hl _, Nat.le_refl _, ?_⟩
  rw [cellAt_new _ _ _ _ _ _ rfl]
  exact getC_of rfl (oneC_hole ho)

/-- The state between the rounds of the loop over evenings. -/
structure Mid (st : St) (n N p q : Nat) (rs : List Nat) (s : St) (P : List (Int × Int)) : Prop where
  live : Live s
  keeps : Keeps st s
  nums : Nums s N (sqC n P)
  box : ∃ t, hget s.heap q = some (.cells ⟨sqL n N⟩ t)
  res : hget s.heap p = some (.cells ⟨[.int .i64 0, .slice none 0 0]⟩ 164)
  ends : Ends s rs
  new : st.nxt ≤ N ∧ st.nxt ≤ p ∧ st.nxt ≤ q ∧ ∀ r ∈ rs, st.nxt ≤ r
  ne : N ≠ q ∧ N ≠ p ∧ p ≠ q

section
variable {st : St} {v3 : Value} {S : Sched} {n N p q : Nat}

theorem mid_end {rs : List Nat} {s : St} {P : List (Int × Int)} (hl : Live st) (h : Mid st n N p q rs s P) (hN : N ∉ rs) (hp : p ∉ rs) {Q : Value → St → Prop} (k : ∀ s', Live s' → Keeps st s' → Nums s' N (sqC n P) → Q (sqV n N) s') :
    B (evLoad oT s 164 (.pointer (some ⟨q, 0, none⟩))) fun v11 => B2 (evStoreU oT s 164 (.pointer (some ⟨p, 0, none⟩)) v11) fun _ s8 =>
      Dfs (rs.map fun r => ({ target := .collected r, args := #[] } : Deferred)) s8 fun s9 => B (evLoad oT s9 164 (.pointer (some ⟨p, 0, none⟩))) fun v13 => Q v13 s9 := by
  obtain ⟨t, hq⟩ := h.box
  have load : ∀ (s' : St) (b : Nat) (t : TypeId), hget s'.heap b = some (.cells ⟨sqL n N⟩ t) → evLoad oT s' 164 (.pointer (some ⟨b, 0, none⟩)) = some (sqV n N) := fun s' b t hb => by
    rw [ld164]
    simp only [cellsN, hb]
    have : loadN (sqL n N) 0 2 = some (sqL n N) := loadN_all (sqL n N) rfl
    simp only [this]
    rfl
  have hst : evStoreU oT s 164 (.pointer (some ⟨p, 0, none⟩)) (sqV n N) = some (undef, s.put p (.cells ⟨sqL n N⟩ 164)) := by
    have h3 : setN [.int .i64 0, .slice none 0 0] 0 (cellsL (sqV n N)) = some (sqL n N) := by
      show setN _ 0 (sqL n N) = some (sqL n N)
      unfold setN
      exact overN_all _ _ rfl rfl
    have h4 : Nat.beq (cellsL (sqV n N)).length 2 = true := rfl
    simp only [evStoreU, evStore, hopen_of h.res, ty164, h3, h4, cond_true]
  rw [load s q t hq, B_some, hst, B2_some]
  have hp1 : hget (s.put p (.cells ⟨sqL n N⟩ 164)).heap p = some (.cells ⟨sqL n N⟩ 164) := by rw [hget_put _ _ _ h.res, if_pos rfl]
  have hn1 := h.nums.other h.ne.2.1 (.cells ⟨sqL n N⟩ 164)
  have hk1 := h.keeps.putB hl h.new.2.1 (.cells ⟨sqL n N⟩ 164)
  refine Dfs_ends rs _ rs _ (h.live.putB h.res _) (h.ends.put hp _) (fun _ h => h) fun s' l' n' k' => ?_
  rw [load s' p 164 (by rw [k' p hp]; exact hp1), B_some]
  refine k s' l' ⟨by rw [n']; exact hk1.nxt, fun id o e => ?_⟩ ?_
  · have hid := hl id (by rw [e]; rfl)
    rw [k' id (fun hm => by have := h.new.2.2.2 id hm; omega)]
    exact hk1.sub id o e
  · obtain ⟨e, he⟩ := hn1
    exact ⟨e, by rw [k' N hN]; exact he⟩
end
end Go.Ev

namespace Go.Ev
open Go.Proofs

section
variable {st : St} {v3 : Value} {S : Sched} {n : Nat}

theorem sqC_nil (n : Nat) : sqC n [] = List.replicate (n * n) 0 := by
  apply List.ext_getElem (by simp [sqC_len])
  intro k h1 h2
  simp [sqC]

theorem meetings_c (h3 : Sch st.heap v3 S) (hn : n ≤ 64) (hv : ∀ E ∈ S, EvOk n E) (hS : S.length ≤ 64) :
    CallP Tryz.prog 93 [.int .i64 n, v3] st fun u s => ∃ N, u = sqV n N ∧ Live s ∧ Keeps st s ∧ st.nxt ≤ N ∧ Nums s N (sqC n (incs S)) := CallP.live fun hl => by
  have hbound : ∀ x, (incs S).count x ≤ 64 := fun x => Nat.le_trans (count_incs (fun E hE => (hv E hE).full.nodup) x.1 x.2) hS
  have hm3 := SlOf.max h3
  apply r93
  unfold R93
  simp only [evNew, ty164]
  rw [box_agg _ _ _ (by rfl), B2_some]
  have l0 : Live (st.push (.cells ⟨[.int .i64 0, .slice none 0 0]⟩ 164)) := hl.push _
  have k0 : Keeps st (st.push (.cells ⟨[.int .i64 0, .slice none 0 0]⟩ 164)) := (Keeps.refl st).push hl _
  refine (square_c (st := st.push (.cells ⟨[.int .i64 0, .slice none 0 0]⟩ 164)) hn).use ?_
  rintro _ s2 _ _ ⟨N, rfl, l2, k2, hN, hM⟩
  have hN : st.nxt + 1 ≤ N := hN
  have hp2 : hget s2.heap st.nxt = some (.cells ⟨[.int .i64 0, .slice none 0 0]⟩ 164) := k2.sub _ _ (by simp [St.push, hget_cons])
  rw [box_agg _ _ _ (by rfl), B2_some]
  have l3 : Live (s2.push (.cells ⟨[.int .i64 0, .slice none 0 0]⟩ 164)) := l2.push _
  have k3 : Keeps s2 (s2.push (.cells ⟨[.int .i64 0, .slice none 0 0]⟩ 164)) := (Keeps.refl s2).push l2 _
  have hNlt : N < s2.nxt := hM.live l2
  have hplt : st.nxt < s2.nxt := by have := k2.nxt; have : st.nxt + 1 ≤ s2.nxt := this; omega
  have hg : hget (s2.push (.cells ⟨[.int .i64 0, .slice none 0 0]⟩ 164)).heap s2.nxt = some (.cells ⟨[.int .i64 0, .slice none 0 0]⟩ 164) := by simp [St.push, hget_cons]
  have hst : evStoreU oT (s2.push (.cells ⟨[.int .i64 0, .slice none 0 0]⟩ 164)) 164 (.pointer (some ⟨s2.nxt, 0, none⟩)) (sqV n N) = some (undef, (s2.push (.cells ⟨[.int .i64 0, .slice none 0 0]⟩ 164)).put s2.nxt (.cells ⟨sqL n N⟩ 164)) := by
    have h3 : setN [.int .i64 0, .slice none 0 0] 0 (cellsL (sqV n N)) = some (sqL n N) := by
      show setN _ 0 (sqL n N) = some (sqL n N)
      unfold setN
      exact overN_all _ _ rfl rfl
    have h4 : Nat.beq (cellsL (sqV n N)).length 2 = true := rfl
    simp only [evStoreU, evStore, hopen_of hg, ty164, h3, h4, cond_true]
  rw [hst, B2_some, h3.len, B_some]
  generalize hs4 : (s2.push (.cells ⟨[.int .i64 0, .slice none 0 0]⟩ 164)).put s2.nxt (.cells ⟨sqL n N⟩ 164) = s4
  have mid : Mid st n N st.nxt s2.nxt [] s4 [] := by
    subst hs4
    have kk : Keeps st (s2.push (.cells ⟨[.int .i64 0, .slice none 0 0]⟩ 164)) := (k0.trans k2).trans k3
    refine ⟨l3.putB hg _, kk.putB hl (by have := k2.nxt; omega) _, ?_, ⟨164, by rw [hget_put _ _ _ hg, if_pos rfl]⟩, ?_, ⟨by simp, by simp⟩, ⟨by omega, Nat.le_refl _, by omega, by simp⟩, by omega, by omega, by omega⟩
    · rw [sqC_nil]; exact (hM.keeps k3).other (by omega) _
    · rw [hget_put _ _ _ hg, if_neg (by omega)]; exact k3.sub _ _ hp2
  generalize s2.nxt = q at *
  refine Lp.ind (fun m xs s => ∃ (i : Nat) (rs : List Nat), i + m = S.length ∧ xs = .int .i64 i :: endV rs ∧ N ∉ rs ∧ st.nxt ∉ rs ∧ Mid st n N st.nxt q rs s (incs (S.take i))) ?_ S.length ⟨0, [], by omega, rfl, by simp, by simp, by simpa [incs] using mid⟩
  rintro m _ s5 ⟨i, rs, hk, rfl, hNr, hpr, hM5⟩
  simp only [L93_0, nth]
  by_cases hlt : i < S.length
  · obtain ⟨p, o, w, q1, q2, q3⟩ := h3.at_ hlt
    have hkl : (i : Int) < (S.length : Int) := by omega
    have hev := hv _ (List.getElem_mem hlt)
    simp only [bin_lss, hkl, decide_true, B_some, If_bool, q1, ld36, hM5.keeps.cell q2]
    refine ⟨fun _ => ?_, fun h => by cases h⟩
    refine (box1_q hM5.live (SlOf.one q3)).use ?_
    rintro _ s6 _ _ ⟨b, rfl, l6, k6, hb, hbox⟩
    refine .mk 255 ⟨[]⟩ ⟨[.pointer (some ⟨b, 0, none⟩)]⟩ rfl fun fn tmps hE => ?_
    generalize ha : (s6.push (.deferred (some []))).push (.loop { state := .ready, pending := none, fn, tmps := ⟨tmps⟩, params := rfP (rowF Tryz.f93).body, assign := rfA (rowF Tryz.f93).body, body := rfB (rowF Tryz.f93).body, defers := s6.nxt }) = a
    have k6a : Keeps s6 a := by subst ha; exact ((Keeps.refl s6).push l6 _).push l6 _
    have la : Live a := by subst ha; exact (l6.push _).push _
    have k5a := k6.trans k6a
    have n56 := k6.nxt
    have hNs5 := hM5.nums.live hM5.live
    obtain ⟨tq, hq⟩ := hM5.box
    have hlo : hget a.heap (s6.nxt + 1) = some (.loop { state := .ready, pending := none, fn, tmps := ⟨tmps⟩, params := rfP (rowF Tryz.f93).body, assign := rfA (rowF Tryz.f93).body, body := rfB (rowF Tryz.f93).body, defers := s6.nxt }) := by subst ha; simp [St.push, hget_cons]
    have hde : hget a.heap s6.nxt = some (.deferred (some [])) := by subst ha; simp [St.push, hget_cons]
    have hy := yield93 (N := N) hn la hlo hE ⟨tq, k5a.sub _ _ hq⟩ (fun e => hM5.ne.1 e.symm) (by omega)
    have hsucc : incs (S.take (i + 1)) = incs (S.take i) ++ pairsE S[i] := take_flat_succ pairsE hlt
    have hsubS : (incs (S.take (i + 1))).Sublist (incs S) := take_flat_sub pairsE S (i + 1)
    refine (pairs_c q3 (k6a.cell hbox) hl la (hM5.keeps.trans k5a) hM5.new.1 hy hev (fun x => by rw [← hsucc]; exact Nat.le_trans (count_sub hsubS x) (hbound x)) (hM5.nums.keeps k5a)).use ?_
    rintro _ s7 _ n7 ⟨l7, k7, h7⟩
    rw [← hsucc] at h7
    have hl7 := k7.sub _ _ (show s6.nxt + 1 ≠ N by omega) hlo
    refine .mk _ hl7 (by simp) rfl ?_
    rw [bin_add, B_some, i64_wrap _ (by omega)]
    have hrs : ∀ r ∈ rs, r < s5.nxt := fun r hr => hM5.live r (by rw [hM5.ends.at_ r hr]; rfl)
    have old : ∀ (id : Nat) (ob : Obj), id ≠ N → id < s5.nxt → hget s5.heap id = some ob → ∀ x, hget (s7.put (s6.nxt + 1) x).heap id = some ob := fun id ob h1 h2 h3 x => by
      rw [hget_put _ _ _ hl7, if_neg (by omega)]
      exact k7.sub _ _ h1 (k5a.sub _ _ h3)
    have hqlt := hM5.live q (by rw [hq]; rfl)
    have hplt5 := hM5.live st.nxt (by rw [hM5.res]; rfl)
    refine ⟨endV (s6.nxt :: rs), ?_, m - 1, by omega, i + 1, s6.nxt :: rs, by omega, by simp [endV], ?_, ?_, ?_⟩
    · show _ = decD (endV (s6.nxt :: rs)) ++ []
      rw [decD_endV]
      show _ :: (decD (endV rs) ++ []) = _
      rw [decD_endV]
      simp
    · simp only [List.mem_cons, not_or]; exact ⟨by omega, hNr⟩
    · simp only [List.mem_cons, not_or]; exact ⟨by omega, hpr⟩
    · refine ⟨l7.putB hl7 _, (KeepX.keeps (hM5.keeps.trans k5a) hl hM5.new.1 k7).putB hl (by have := hM5.keeps.nxt; omega) _, h7.other (by omega) _, ⟨tq, old _ _ (fun e => hM5.ne.1 e.symm) hqlt hq _⟩, old _ _ (fun e => hM5.ne.2.1 e.symm) hplt5 hM5.res _, ⟨fun r hr => ?_, ?_⟩, ⟨hM5.new.1, hM5.new.2.1, hM5.new.2.2.1, fun r hr => ?_⟩, hM5.ne⟩
      · rcases List.mem_cons.1 hr with rfl | hr
        · rw [hget_put _ _ _ hl7, if_neg (by omega)]
          exact k7.sub _ _ (by omega) hde
        · exact old r _ (fun e => hNr (e ▸ hr)) (hrs r hr) (hM5.ends.at_ r hr) _
      · exact List.nodup_cons.2 ⟨fun hm => by have := hrs _ hm; omega, hM5.ends.nodup⟩
      · rcases List.mem_cons.1 hr with rfl | hr
        · have := hM5.keeps.nxt; omega
        · exact hM5.new.2.2.2 r hr
  · have hkk : i = S.length := by omega
    subst hkk
    rw [List.take_length] at hM5
    have hnl : ¬ (S.length : Int) < (S.length : Int) := by omega
    simp only [bin_lss, hnl, decide_false, B_some, If_bool]
    refine ⟨fun h => (by cases h), fun _ => ?_⟩
    have := mid_end hl hM5 hNr hpr (Q := fun u s => ∃ N, u = sqV n N ∧ Live s ∧ Keeps st s ∧ st.nxt ≤ N ∧ Nums s N (sqC n (incs S))) fun s' a b c => ⟨N, rfl, a, b, hM5.new.1, c⟩
    rw [← decD_endV] at this
    simpa using this
end
end Go.Ev

namespace Go.Ev
open Go.Proofs

theorem takeN_of' : ∀ (k : Nat) (l : List Value), k ≤ l.length → noHole (l.take k) = true → takeN k l = some (l.take k) := by
  intro k
  induction k with
  | zero => intro l _ _; rfl
  | succ k ih =>
    intro l hl hn
    cases l with
    | nil => simp at hl
    | cons a l =>
      simp only [List.take_succ_cons, noHole] at hn ⊢
      cases ha : isHole a with
      | true => simp [ha] at hn
      | false =>
        simp only [ha, cond_false] at hn
        simp only [takeN, ha, cond_false, ih l (by simpa using hl) hn]

/-- A copy of a part of a row of numbers. -/
theorem clone_c {s : St} {N off k : Nat} {cap : Nat} {L : List Int} (hk : 0 < k) (hk2 : k ≤ 64) (hl : Live s) (h : Nums s N L) (hin : off + k ≤ L.length) :
    CallP Tryz.prog 58 [.slice (some ⟨N, off, none⟩) k cap] s fun u s' => ∃ K, u = .slice (some ⟨K, 0, some 1⟩) k k ∧ Live s' ∧ Keeps s s' ∧ s.nxt ≤ K ∧ Nums s' K ((L.drop off).take k) := by
  apply r58
  unfold R58
  have hnil : evBin oT .eql 25 (.slice (some ⟨N, off, none⟩) k cap) (.slice none 0 0) = some (.bool false) := by
    simp only [evBin, ty25, nilEq]
  rw [hnil, B_some, If_bool]
  refine ⟨fun h => (by cases h), fun _ => ?_⟩
  have hb : evBuildSlice oT s 25 0 [] = some (.slice (some ⟨s.nxt, 0, none⟩) 0 0, s.push (.cells ⟨[]⟩ 3)) := by
    simp only [evBuildSlice, ty25, ty3]
    rfl
  rw [hb, B2_some]
  obtain ⟨e, hN⟩ := h
  have hNlt := hl N (by rw [hN]; rfl)
  let s1 := s.push (.cells ⟨[]⟩ 3)
  have hN1 : hget s1.heap N = some (.cells ⟨L.map (Value.int .i64)⟩ e) := by simp only [s1, St.push, hget_cons]; rw [if_neg (by omega)]; exact hN
  have hall : ((L.map (Value.int .i64)).drop off).take k = ((L.drop off).take k).map (Value.int .i64) := by rw [List.map_take, List.map_drop]
  have hno : noHole (((L.drop off).take k).map (Value.int .i64)) = true := noHole_one (by rw [List.all_map, List.all_eq_true]; intro x _; rfl)
  have hlenk : (((L.drop off).take k).map (Value.int .i64)).length = k := by simp; omega
  have hfirst : evFirst s1 (k * 1) (.slice (some ⟨N, off, none⟩) k cap) = some (((L.drop off).take k).map (Value.int .i64)) := by
    simp only [evFirst, hN1, Nat.mul_one]
    unfold loadN
    rw [dropN_eq, takeN_of' k _ (by simp; omega) (by rw [hall]; exact hno), hall]
  have hsl : isSl oT 25 = true := by simp only [isSl, ty25]
  have hbl : Nat.ble (0 + k) 0 = false := by
    cases hx : Nat.ble (0 + k) 0 with
    | false => rfl
    | true => rw [Nat.ble_eq] at hx; omega
  have hbig : (Nat.ble (0 + k) 65536 && Nat.ble 8 65536) = true := by rw [Bool.and_eq_true, Nat.ble_eq, Nat.ble_eq]; omega
  have hold : evFirst s1 (0 * 1) (.slice (some ⟨s.nxt, 0, none⟩) 0 0) = some [] := by
    simp only [evFirst, s1, St.push, hget_cons, if_true]
    rfl
  have hbq : Nat.beq (((L.drop off).take k).map (Value.int .i64)).length (k * 1) = true := by rw [hlenk, Nat.mul_one]; exact Nat.beq_refl _
  have ha : evAppendU oT s1 25 25 (.slice (some ⟨s.nxt, 0, none⟩) 0 0) (.slice (some ⟨N, off, none⟩) k cap) = some (.slice (some ⟨s1.nxt, 0, some 1⟩) (0 + k) (0 + k), s1.push (.cells ⟨[] ++ ((L.drop off).take k).map (Value.int .i64)⟩ 3)) := by
    simp only [evAppendU, hsl, cond_true, evAppend, ty25, ty3, hfirst, hbq, hbl, cond_false, hbig, hold]
    rfl
  rw [show s.push (.cells ⟨[]⟩ 3) = s1 from rfl, ha, B2_some, Nat.zero_add]
  have l1 : Live s1 := hl.push _
  refine ⟨s1.nxt, rfl, l1.push _, ((Keeps.refl s).push hl _).trans ((Keeps.refl s1).push l1 _), Nat.le_succ _, 3, ?_⟩
  simp [St.push, hget_cons]
end Go.Ev

namespace Go.Ev
open Go.Proofs

/-- One object outlives a list's growth. -/
theorem keep_one {s s' : St} {acc : Value} (hk : ∀ r, Keeps r s → (∀ b, blockIs acc b → hget r.heap b = none) → Keeps r s') {K : Nat} {o : Obj} (hl : Live s) (ho : hget s.heap K = some o) (hne : ∀ b, blockIs acc b → b ≠ K) : hget s'.heap K = some o := by
  have hlt := hl K (by rw [ho]; rfl)
  have := hk { heap := [(K, o)], nxt := K + 1, wr := 0 } ⟨by show K + 1 ≤ s.nxt; omega, fun id x e => by
      simp only [hget_cons] at e
      split at e
      · rename_i h; subst h; injection e with e; subst e; exact ho
      · simp [hget] at e⟩ (fun b hb => by
      simp only [hget_cons]
      rw [if_neg (hne b hb)]
      rfl)
  exact this.sub K o (by simp [hget_cons])

def rowV (n : Nat) (K : Nat) : Value := .slice (some ⟨K, 0, some 1⟩) n n

/-- The rows so far. -/
structure Rws (st : St) (n N b : Nat) (P : List (Int × Int)) (s : St) (acc : Value) (Ks : List Nat) : Prop where
  live : Live s
  keeps : Keeps st s
  own : Own s acc (Ks.map (rowV n))
  cells : ∀ (i : Nat) (h : i < Ks.length), Nums s Ks[i] (rowL n P i)
  sq : ∃ t, hget s.heap b = some (.cells ⟨sqL n N⟩ t)
  src : Nums s N (sqC n P)
  acc : ∀ c, blockIs acc c → st.nxt ≤ c ∧ c ≠ b ∧ c ≠ N ∧ c ∉ Ks

theorem sqC_row {n : Nat} (P : List (Int × Int)) {x : Nat} (hx : x < n) : ((sqC n P).drop (x * n)).take n = rowL n P x := by
  have hle : x * n + n ≤ n * n := by
    have := Nat.mul_le_mul_right n (show x + 1 ≤ n from hx)
    rw [Nat.add_mul] at this
    omega
  apply List.ext_getElem (by simp [sqC_len, rowL_len]; omega)
  intro k h1 h2
  rw [rowL_len] at h2
  rw [rowL_at _ _ h2, List.getElem_take, List.getElem_drop, sqC_at P hx h2]
end Go.Ev

namespace Go.Ev
open Go.Proofs

theorem slice_mid {a len cap l h : Nat} (h1 : l < h) (h2 : h ≤ cap) : evSlice oT 25 (.slice (some ⟨a, 0, none⟩) len cap) (some (.int .i64 (l : Int))) (some (.int .i64 (h : Int))) none = some (.slice (some ⟨a, l, none⟩) (h - l) (cap - l)) := by
  have hb : boundOf cap cap none = some cap := rfl
  have hle : Nat.ble h cap = true := by rw [Nat.ble_eq]; omega
  have hh : hiOf len cap (some (.int .i64 (h : Int))) none = some h := by
    simp only [hiOf, boundOf]
    show cond (Nat.ble h cap) (some h) none = some h
    rw [hle]; rfl
  have hle2 : Nat.ble l h = true := by rw [Nat.ble_eq]; omega
  have hlo : boundOf 0 h (some (.int .i64 (l : Int))) = some l := by
    show cond (Nat.ble l h) (some l) none = some l
    rw [hle2]; rfl
  have hne : Nat.beq cap l = false := by
    cases hx : Nat.beq cap l with
    | false => rfl
    | true => rw [Nat.beq_eq] at hx; omega
  simp only [evSlice, ty25, hb, hh, hlo, ty3, hne, cond_false, Nat.mul_one, Nat.zero_add]

theorem Rws.add {st s s' : St} {n N b K : Nat} {P : List (Int × Int)} {acc acc' : Value} {Ks : List Nat} (h : Rws st n N b P s acc Ks) (hl : Live st) (hst : st.nxt ≤ b) {s3 : St} (k3 : Keeps s s3) (l3 : Live s3) (hK : s.nxt ≤ K) (hc : Nums s3 K (rowL n P Ks.length))
    (l4 : Live s') (ho : Own s' acc' (Ks.map (rowV n) ++ [rowV n K])) (hb : ∀ c, blockIs acc' c → s3.nxt ≤ c) (hk : ∀ r, Keeps r s3 → (∀ b, blockIs acc b → hget r.heap b = none) → Keeps r s') :
    Rws st n N b P s' acc' (Ks ++ [K]) := by
  have hold : ∀ (M : Nat) (o : Obj), hget s.heap M = some o → M < s.nxt := fun M o e => h.live M (by rw [e]; rfl)
  have hKs : ∀ r ∈ Ks, r < s.nxt := fun r hr => by
    obtain ⟨i, hi, rfl⟩ := List.mem_iff_getElem.1 hr
    exact (h.cells i hi).live h.live
  have hNlt := h.src.live h.live
  obtain ⟨t, hsq⟩ := h.sq
  have hblt := hold _ _ hsq
  have hKlt := hc.live l3
  have hKacc : ∀ c, blockIs acc c → c ≠ K := fun c hc' e => by
    rcases h.own with ⟨_, rfl⟩ | ⟨_, _, d, rfl, e', hd⟩
    · obtain ⟨_, _, _, _, e2⟩ := hc'; cases e2
    · obtain ⟨_, _, _, _, e2⟩ := hc'
      injection e2 with e2; injection e2 with e2; injection e2 with e2
      have := hold _ _ hd
      omega
  have hnx := k3.nxt
  refine ⟨l4, ?_, by simpa using ho, fun i hi => ?_, ⟨t, keep_one hk l3 (k3.sub _ _ hsq) fun c hc' => (h.acc c hc').2.1⟩, ?_, fun c hc' => ?_⟩
  · exact hk st (h.keeps.trans k3) fun c hc' => by
      cases hx : hget st.heap c with
      | none => rfl
      | some o => have := hl c (by rw [hx]; rfl); have := (h.acc c hc').1; omega
  · simp only [List.length_append, List.length_singleton] at hi
    by_cases he : i < Ks.length
    · rw [List.getElem_append_left he]
      obtain ⟨e, hx⟩ := h.cells i he
      exact ⟨e, keep_one hk l3 (k3.sub _ _ hx) fun c hc' e => (h.acc c hc').2.2.2 (by rw [e]; exact List.getElem_mem he)⟩
    · have hi' : i = Ks.length := by omega
      subst hi'
      rw [List.getElem_append_right (Nat.le_refl _)]
      simp only [Nat.sub_self, List.getElem_singleton]
      obtain ⟨e, hx⟩ := hc
      exact ⟨e, keep_one hk l3 hx hKacc⟩
  · obtain ⟨e, hx⟩ := h.src
    exact ⟨e, keep_one hk l3 (k3.sub _ _ hx) fun c hc' => (h.acc c hc').2.2.1⟩
  · have hge := hb c hc'
    have := h.keeps.nxt
    refine ⟨by omega, by omega, by omega, fun hm => ?_⟩
    rcases List.mem_append.1 hm with hm | hm
    · have := hKs _ hm; omega
    · simp only [List.mem_singleton] at hm; omega

theorem rows_c {st : St} {n N : Nat} {P : List (Int × Int)} (hn : n ≤ 64) (hs : Nums st N (sqC n P)) :
    CallP Tryz.prog 94 [sqV n N] st fun u s => ∃ Ks : List Nat, Ks.length = n ∧ Live s ∧ Keeps st s ∧ Own s u (Ks.map (rowV n)) ∧ ∀ (i : Nat) (h : i < Ks.length), Nums s Ks[i] (rowL n P i) := CallP.live fun hl => by
  have hsq2 := sq_le hn
  have hNlt := hs.live hl
  apply r94
  unfold R94
  rw [show sqV n N = .agg ⟨sqL n N⟩ from rfl, box_agg _ _ _ (by rfl), B2_some, fa164_0, B_some, ld3]
  have hcell : ∀ {s : St} {t : TypeId}, hget s.heap st.nxt = some (.cells ⟨sqL n N⟩ t) → cellAt s.heap st.nxt 0 = some (.int .i64 n) ∧ cellAt s.heap st.nxt (0 + 1) = some (.slice (some ⟨N, 0, none⟩) (n * n) (n * n)) := fun h => by
    simp only [cellAt, h]
    exact ⟨rfl, rfl⟩
  have hg0 : hget (st.push (.cells ⟨sqL n N⟩ 164)).heap st.nxt = some (.cells ⟨sqL n N⟩ 164) := by simp [St.push, hget_cons]
  rw [(hcell hg0).1, B_some]
  have l0 : Live (st.push (.cells ⟨sqL n N⟩ 164)) := hl.push _
  have k0 : Keeps st (st.push (.cells ⟨sqL n N⟩ 164)) := (Keeps.refl st).push hl _
  refine Lp.ind (fun m xs s => ∃ (acc : Value) (Ks : List Nat), Ks.length + m = n ∧ xs = [acc, .int .i64 Ks.length] ∧ Rws st n N st.nxt P s acc Ks) ?_ n
    ⟨.slice none 0 0, [], by simp, rfl, l0, k0, .inl ⟨rfl, rfl⟩, fun i hi => by simp at hi, ⟨164, hg0⟩, hs.keeps k0, fun c hc => by obtain ⟨_, _, _, _, e⟩ := hc; cases e⟩
  rintro m _ s ⟨acc, Ks, hk, rfl, hR⟩
  simp only [L94_0, nth]
  by_cases hlt : Ks.length < n
  · have hkl : (Ks.length : Int) < (n : Int) := by omega
    simp only [bin_lss, hkl, decide_true, B_some, If_bool]
    refine ⟨fun _ => ?_, fun h => by cases h⟩
    obtain ⟨t, hsq⟩ := hR.sq
    have hle : Ks.length * n + n ≤ n * n := by
      have := Nat.mul_le_mul_right n (show Ks.length + 1 ≤ n from hlt)
      rw [Nat.add_mul] at this
      omega
    have e1 : ((Ks.length : Int) * (n : Int)) = ((Ks.length * n : Nat) : Int) := by simp
    have w1 : IntKind.i64.wrap ((Ks.length * n : Nat) : Int) = ((Ks.length * n : Nat) : Int) := i64_wrap _ (by omega)
    have e2 : ((Ks.length : Int) + 1) = ((Ks.length + 1 : Nat) : Int) := by simp
    have w2 : IntKind.i64.wrap ((Ks.length + 1 : Nat) : Int) = ((Ks.length + 1 : Nat) : Int) := i64_wrap _ (by omega)
    have e3 : (((Ks.length + 1 : Nat) : Int) * (n : Int)) = ((Ks.length * n + n : Nat) : Int) := by rw [Int.natCast_add, Int.add_mul]; simp
    have w3 : IntKind.i64.wrap ((Ks.length * n + n : Nat) : Int) = ((Ks.length * n + n : Nat) : Int) := i64_wrap _ (by omega)
    simp only [fa164_1, fa164_0, ld25, ld3, B_some, (hcell hsq).1, (hcell hsq).2, bin_mul, bin_add, e1, w1, e2, w2, e3, w3]
    rw [slice_mid (by omega) hle, B_some, show Ks.length * n + n - Ks.length * n = n by omega]
    refine (clone_c (k := n) (off := Ks.length * n) (by omega) hn hR.live hR.src (by rw [sqC_len]; exact hle)).use ?_
    rintro _ s3 _ _ ⟨K, rfl, l3, k3, hK, hc⟩
    rw [sqC_row P hlt] at hc
    refine push_rule l3 ty36 ty25 rfl (by decide) (hR.own.keeps k3) (v := rowV n K) rfl (by simp; omega) fun s4 acc4 l4 n4 o4 b4 k4 => ?_
    refine ⟨m - 1, by omega, acc4, Ks ++ [K], by simp; omega, by simp, hR.add hl (Nat.le_refl _) k3 l3 hK hc l4 o4 b4 k4⟩
  · have hnl : ¬ (Ks.length : Int) < (n : Int) := by omega
    simp only [bin_lss, hnl, decide_false, B_some, If_bool]
    refine ⟨fun h => (by cases h), fun _ => ⟨Ks, by omega, hR.live, hR.keeps, hR.own, hR.cells⟩⟩
end Go.Ev

namespace Go.Ev
open Go.Proofs

theorem min_two (k k' : IntKind) (a b : Int) : evMinL [.int k a, .int k' b] = some (.int k (if b < a then b else a)) := by
  by_cases h : b < a <;> simp [evMinL, evMin, h]
theorem max_two (k k' : IntKind) (a b : Int) : evMaxL [.int k a, .int k' b] = some (.int k (if a < b then b else a)) := by
  by_cases h : a < b <;> simp [evMaxL, evMax, h]
theorem max_nat (k k' : IntKind) (a b : Nat) : evMaxL [.int k (a : Int), .int k' (b : Int)] = some (.int k ((max a b : Nat) : Int)) := by
  rw [max_two]
  by_cases h : a < b
  · rw [if_pos (by omega), Nat.max_eq_right (by omega)]
  · rw [if_neg (by omega), Nat.max_eq_left (by omega)]

/-! ### the largest count -/
structure MaxOn (n : Nat) (P : List (Int × Int)) (D : Nat → Nat → Prop) (M : Nat) : Prop where
  le : ∀ i k : Nat, i < n → k < n → D i k → P.count ((i : Int), (k : Int)) ≤ M
  at_ : M = 0 ∨ ∃ i k : Nat, i < n ∧ k < n ∧ P.count ((i : Int), (k : Int)) = M

abbrev IsMax (n : Nat) (P : List (Int × Int)) (M : Nat) : Prop := MaxOn n P (fun _ _ => True) M

theorem IsMax.unique {n : Nat} {P : List (Int × Int)} {M M' : Nat} (h : IsMax n P M) (h' : IsMax n P M') : M = M' := by
  have key : ∀ {A B : Nat}, IsMax n P A → IsMax n P B → A ≤ B := fun a b => by
    rcases a.at_ with h | ⟨i, k, hi, hk, h⟩
    · omega
    · rw [← h]; exact b.le i k hi hk trivial
  have := key h h'
  have := key h' h
  omega

theorem MaxOn.mono {n : Nat} {P : List (Int × Int)} {D D' : Nat → Nat → Prop} {M : Nat} (h : MaxOn n P D M) (hd : ∀ i k, i < n → k < n → D' i k → D i k) : MaxOn n P D' M := ⟨fun i k hi hk hh => h.le i k hi hk (hd i k hi hk hh), h.at_⟩

theorem MaxOn.none (n : Nat) (P : List (Int × Int)) : MaxOn n P (fun _ _ => False) 0 := ⟨fun _ _ _ _ h => h.elim, .inl rfl⟩

theorem MaxOn.add {n : Nat} {P : List (Int × Int)} {D : Nat → Nat → Prop} {M : Nat} (h : MaxOn n P D M) {x y : Nat} (hx : x < n) (hy : y < n) : MaxOn n P (fun i k => D i k ∨ (i = x ∧ k = y)) (max M (P.count ((x : Int), (y : Int)))) := by
  refine ⟨fun i k hi hk hh => ?_, ?_⟩
  · rcases hh with hh | ⟨rfl, rfl⟩
    · exact Nat.le_trans (h.le i k hi hk hh) (Nat.le_max_left _ _)
    · exact Nat.le_max_right _ _
  · by_cases hm : M < P.count ((x : Int), (y : Int))
    · rw [Nat.max_eq_right (by omega)]; exact .inr ⟨x, y, hx, hy, rfl⟩
    · rw [Nat.max_eq_left (by omega)]; exact h.at_

theorem MaxOn.whole {n : Nat} {S : Sched} {M : Nat} (h : MaxOn n (incs S) (fun i k => i < n ∧ k < i) M) : IsMax n (incs S) M := by
  refine ⟨fun i k hi hk _ => ?_, h.at_⟩
  rcases Nat.lt_trichotomy k i with h1 | h1 | h1
  · exact h.le i k hi hk ⟨hi, h1⟩
  · subst h1; rw [count_diag]; exact Nat.zero_le _
  · rw [count_sym]; exact h.le k i hk hi ⟨hk, h1⟩

/-! ### Meet -/
section
variable {st : St} {v3 : Value} {S : Sched} {n : Nat}

theorem meet_c (h3 : Sch st.heap v3 S) (h1 : 1 ≤ n) (hn : n ≤ 64) (hv : ∀ E ∈ S, EvOk n E) (hS : S.length ≤ 64) :
    CallP Tryz.prog 34 [.int .i64 n, v3] st fun u s => ∃ Ks : List Nat, Ks.length = n ∧ Live s ∧ Keeps st s ∧ Own s u (Ks.map (rowV n)) ∧ ∀ (i : Nat) (h : i < Ks.length), Nums s Ks[i] (rowL n (incs S) i) := CallP.live fun hl => by
  apply r34
  unfold R34
  refine (valid_q h3 hn).P fun m hm => ?_
  have kk : Keeps st (st.upto m) := (Keeps.refl st).upto hm
  rw [decide_eq_true (checkR_nil h1 hn hS hv), un_not, B_some, If_bool]
  refine ⟨fun h => (by cases h), fun _ => ?_⟩
  refine (meetings_c (h3.keeps kk) hn hv hS).use ?_
  rintro _ s _ _ ⟨N, rfl, l1, k1, hN, hs⟩
  refine (rows_c hn hs).use ?_
  rintro u s2 _ _ ⟨Ks, a, b, c, d, e⟩
  exact ⟨Ks, a, b, (kk.trans k1).trans c, d, e⟩

/-! ### a square in a cell -/
theorem new164 (s : St) : evNew oT s 164 = some (.pointer (some ⟨s.nxt, 0, none⟩), s.push (.cells ⟨[.int .i64 0, .slice none 0 0]⟩ 164)) := by
  simp only [evNew, ty164]
  rw [box_agg _ _ _ (by rfl)]
theorem store164 {s : St} {b N : Nat} (hg : hget s.heap b = some (.cells ⟨[.int .i64 0, .slice none 0 0]⟩ 164)) : evStoreU oT s 164 (.pointer (some ⟨b, 0, none⟩)) (sqV n N) = some (undef, s.put b (.cells ⟨sqL n N⟩ 164)) := by
  have h3 : setN [.int .i64 0, .slice none 0 0] 0 (cellsL (sqV n N)) = some (sqL n N) := by
    show setN _ 0 (sqL n N) = some (sqL n N)
    unfold setN
    exact overN_all _ _ rfl rfl
  have h4 : Nat.beq (cellsL (sqV n N)).length 2 = true := rfl
  simp only [evStoreU, evStore, hopen_of hg, ty164, h3, h4, cond_true]
theorem load164 {s : St} {b N : Nat} {t : TypeId} (hg : hget s.heap b = some (.cells ⟨sqL n N⟩ t)) : evLoad oT s 164 (.pointer (some ⟨b, 0, none⟩)) = some (sqV n N) := by
  rw [ld164]
  simp only [cellsN, hg]
  have : loadN (sqL n N) 0 2 = some (sqL n N) := loadN_all (sqL n N) rfl
  simp only [this]
  rfl

theorem extremes_c (h3 : Sch st.heap v3 S) (hn : n ≤ 64) (hv : ∀ E ∈ S, EvOk n E) (hS : S.length ≤ 64) :
    CallP Tryz.prog 95 [.int .i64 n, v3] st fun u s => ∃ (lo : Int) (M : Nat), u = .tuple ⟨[.int .i64 lo, .int .i64 M]⟩ ∧ Live s ∧ Keeps st s ∧ IsMax n (incs S) M := CallP.live fun hl => by
  apply r95
  unfold R95
  refine (meetings_c h3 hn hv hS).use ?_
  rintro _ s1 _ _ ⟨N, rfl, l1, k1, hN, hs⟩
  have hNlt := hs.live l1
  rw [new164, B2_some]
  have hg : hget (s1.push (.cells ⟨[.int .i64 0, .slice none 0 0]⟩ 164)).heap s1.nxt = some (.cells ⟨[.int .i64 0, .slice none 0 0]⟩ 164) := by simp [St.push, hget_cons]
  rw [store164 hg, B2_some]
  have l3 : Live ((s1.push (.cells ⟨[.int .i64 0, .slice none 0 0]⟩ 164)).put s1.nxt (.cells ⟨sqL n N⟩ 164)) := (l1.push _).putB hg _
  have k3 : Keeps s1 ((s1.push (.cells ⟨[.int .i64 0, .slice none 0 0]⟩ 164)).put s1.nxt (.cells ⟨sqL n N⟩ 164)) := ((Keeps.refl s1).push l1 _).putB l1 (Nat.le_refl _) _
  have hg3 : hget ((s1.push (.cells ⟨[.int .i64 0, .slice none 0 0]⟩ 164)).put s1.nxt (.cells ⟨sqL n N⟩ 164)).heap s1.nxt = some (.cells ⟨sqL n N⟩ 164) := by rw [hget_put _ _ _ hg, if_pos rfl]
  have hs3 := hs.keeps k3
  have kst := k1.trans k3
  generalize s1.nxt = b at *
  generalize (s1.push (.cells ⟨[.int .i64 0, .slice none 0 0]⟩ 164)).put b (.cells ⟨sqL n N⟩ 164) = s3 at *
  -- rows
  refine Lp.ind (fun m xs s => ∃ (x M m' : Nat) (lo : Int), x + m = n ∧ xs = [.int .i64 lo, .int .i64 M, .int .i64 x] ∧ s3.nxt ≤ m' ∧ s = s3.upto m' ∧ MaxOn n (incs S) (fun i k => i < x ∧ k < i) M) ?_ n
    ⟨0, 0, s3.nxt, 64, by omega, rfl, Nat.le_refl _, rfl, (MaxOn.none n _).mono fun i k _ _ h => by omega⟩
  rintro m _ _ ⟨x, M, m', lo, hk, rfl, hm', rfl, hM⟩
  simp only [L95_0, nth]
  by_cases hlt : x < n
  · have hkl : (x : Int) < (n : Int) := by omega
    simp only [bin_lss, hkl, decide_true, B_some, If_bool]
    refine ⟨fun _ => ?_, fun h => by cases h⟩
    -- cells
    refine Lp.ind (fun q xs s => ∃ (y M m' : Nat) (lo : Int), y + q = x ∧ xs = [.int .i64 lo, .int .i64 M, .int .i64 y] ∧ s3.nxt ≤ m' ∧ s = s3.upto m' ∧ MaxOn n (incs S) (fun i k => (i < x ∧ k < i) ∨ (i = x ∧ k < y)) M) ?_ x
      ⟨0, M, m', lo, by omega, rfl, hm', rfl, hM.mono fun i k _ _ h => by omega⟩
    rintro q _ _ ⟨y, M2, m2, lo2, hk2, rfl, hm2, rfl, hM2⟩
    simp only [L95_2, nth]
    by_cases hlt2 : y < x
    · have hkl2 : (y : Int) < (x : Int) := by omega
      have hyn : y < n := by omega
      have hcell : ∀ m3, cellAt (s3.upto m3).heap N (x * n + y) = some (.int .i64 ((incs S).count ((x : Int), (y : Int)) : Nat)) := fun m3 => by
        have := (hs3.upto m3).at_ oneI (k := x * n + y) (by rw [sqC_len]; exact mul_lt hlt hyn)
        rw [this, sqC_at _ hlt hyn]
      have hld : ∀ m3, evLoad oT (s3.upto m3) 164 (.pointer (some ⟨b, 0, none⟩)) = some (sqV n N) := fun m3 => load164 (s := s3.upto m3) hg3
      simp only [bin_lss, hkl2, decide_true, B_some, If_bool]
      refine ⟨fun _ => ?_, fun h => by cases h⟩
      rw [hld, B_some]
      refine (at_q hn hlt hyn).Q fun m4 hm4 => ?_
      have hm4 : m2 ≤ m4 := hm4
      simp only [evNil, B_some, ld3]
      rw [show (s3.upto m2).upto m4 = s3.upto m4 from rfl, hcell, B_some, min_two, B_some, hld, B_some]
      refine (at_q hn hlt hyn).Q fun m5 hm5 => ?_
      have hm5 : m4 ≤ m5 := hm5
      rw [show (s3.upto m4).upto m5 = s3.upto m5 from rfl]
      simp only [B_some, ld3]
      rw [hcell, B_some, max_nat, B_some, bin_add, B_some]
      refine ⟨q - 1, by omega, y + 1, max M2 ((incs S).count ((x : Int), (y : Int))), m5, if (((incs S).count ((x : Int), (y : Int)) : Nat) : Int) < lo2 then (((incs S).count ((x : Int), (y : Int)) : Nat) : Int) else lo2, by omega, by rw [i64_wrap _ (by omega)]; rfl, by omega, rfl, (hM2.add hlt hyn).mono fun i k _ _ h => by omega⟩
    · have hyx : y = x := by omega
      subst hyx
      simp only [bin_lss, Int.lt_irrefl, decide_false, B_some, If_bool, bin_add]
      refine ⟨fun h => (by cases h), fun _ => ⟨m - 1, by omega, y + 1, M2, m2, lo2, by omega, by rw [i64_wrap _ (by omega)]; simp, hm2, rfl, hM2.mono fun i k _ _ h => by omega⟩⟩
  · have hxn : x = n := by omega
    subst hxn
    have kk : Keeps st (s3.upto m') := kst.upto hm'
    have ll : Live (s3.upto m') := l3.upto hm'
    simp only [bin_lss, Int.lt_irrefl, decide_false, B_some, If_bool, bin_eql]
    refine ⟨fun h => (by cases h), fun _ => ⟨fun _ => ⟨0, M, rfl, ll, kk, hM.whole⟩, fun _ => ⟨lo, M, rfl, ll, kk, hM.whole⟩⟩⟩

theorem most_c (h3 : Sch st.heap v3 S) (h1 : 1 ≤ n) (hn : n ≤ 64) (hv : ∀ E ∈ S, EvOk n E) (hS : S.length ≤ 64) :
    CallP Tryz.prog 35 [.int .i64 n, v3] st fun u s => ∃ M : Nat, u = .int .i64 M ∧ Live s ∧ Keeps st s ∧ IsMax n (incs S) M := CallP.live fun hl => by
  apply r35
  unfold R35
  refine (valid_q h3 hn).P fun m hm => ?_
  have kk : Keeps st (st.upto m) := (Keeps.refl st).upto hm
  rw [decide_eq_true (checkR_nil h1 hn hS hv), un_not, B_some, If_bool]
  refine ⟨fun h => (by cases h), fun _ => ?_⟩
  refine (extremes_c (h3.keeps kk) hn hv hS).use ?_
  rintro _ s _ _ ⟨lo, M, rfl, l1, k1, hM⟩
  have e0 : evExtract (.tuple ⟨[.int .i64 lo, .int .i64 M]⟩) 0 = some (.int .i64 lo) := rfl
  have e1 : evExtract (.tuple ⟨[.int .i64 lo, .int .i64 M]⟩) 1 = some (.int .i64 M) := rfl
  rw [e0, B_some, e1, B_some]
  exact ⟨M, rfl, l1, kk.trans k1, hM⟩
end
end Go.Ev

namespace Go.Ev
open Go.Proofs

theorem fitGo_le : ∀ (l : List Int) (left : Int), fitGo left l = true → ∀ k ∈ l, 1 ≤ k ∧ k ≤ left := by
  intro l
  induction l with
  | nil => intro left _ k hk; simp at hk
  | cons a l ih =>
    intro left h k hk
    simp only [fitGo] at h
    by_cases ha : a < 1
    · simp [ha] at h
    by_cases hb : left < a
    · simp [hb] at h
    simp [ha, hb] at h
    rcases List.mem_cons.1 hk with rfl | hk
    · omega
    · have := ih _ h k hk; omega

theorem metN_ones : ∀ (l : List Int), (∀ k ∈ l, k = 1) → metN l = 0 := by
  intro l
  induction l with
  | nil => intro _; rfl
  | cons a l ih =>
    intro h
    have ha := h a (by simp)
    subst ha
    simp only [metN, ih fun k hk => h k (by simp [hk])]
    rfl

def allP (n : Nat) : Int := ((n : Int) * ((n : Int) - 1)).tdiv 2

theorem nn_le {n : Nat} (hn0 : 1 ≤ n) (hn : n ≤ 64) : 0 ≤ (n : Int) * ((n : Int) - 1) ∧ (n : Int) * ((n : Int) - 1) ≤ 4032 := by
  have a : 0 ≤ (n : Int) * ((n : Int) - 1) := Int.mul_nonneg (by omega) (by omega)
  have b : (n : Int) * ((n : Int) - 1) ≤ 64 * ((n : Int) - 1) := Int.mul_le_mul_of_nonneg_right (by omega) (by omega)
  omega
theorem allP_le {n : Nat} (hn0 : 1 ≤ n) (hn : n ≤ 64) : 0 ≤ allP n ∧ allP n ≤ 2016 := by
  obtain ⟨a, b⟩ := nn_le hn0 hn
  have g : allP n = ((n : Int) * ((n : Int) - 1)) / 2 := Int.tdiv_eq_ediv_of_nonneg a
  omega
theorem allP_pos {n : Nat} {l : List Int} (hn0 : 1 ≤ n) (hn : n ≤ 64) (hf : fitB n l = true) (hm : metN l ≠ 0) : 1 ≤ allP n := by
  have h2 : 2 ≤ n := by
    rcases Nat.lt_or_ge n 2 with h | h
    · refine absurd (metN_ones l fun k hk => ?_) hm
      simp only [fitB, Bool.and_eq_true] at hf
      have := fitGo_le l n hf.2 k hk
      omega
    · exact h
  have a : 2 * ((n : Int) - 1) ≤ (n : Int) * ((n : Int) - 1) := Int.mul_le_mul_of_nonneg_right (by omega) (by omega)
  have g : allP n = ((n : Int) * ((n : Int) - 1)) / 2 := Int.tdiv_eq_ediv_of_nonneg (by omega)
  omega

theorem mul_bnd {a b A B : Int} (a0 : 0 ≤ a) (a1 : a ≤ A) (b0 : 0 ≤ b) (b1 : b ≤ B) : 0 ≤ a * b ∧ a * b ≤ A * B :=
  ⟨Int.mul_nonneg a0 b0, Int.le_trans (Int.mul_le_mul_of_nonneg_right a1 b0) (Int.mul_le_mul_of_nonneg_left b1 (by omega))⟩

section
variable {st : St} {v1 : Value} {l : List Int} {n : Nat}

theorem least_q (h1 : Ints st.heap v1 l) (hs : ∀ x ∈ l, 1 ≤ x ∧ x ≤ 24) (hlen : l.length ≤ 20) (hn0 : 1 ≤ n) (hn : n ≤ 64) (hf : fitB n l = true) {k M : Nat} (hk : 1 ≤ k) (hk2 : k ≤ 20) (hb : (k : Int) * metN l ≤ allP n * M) :
    ∃ r : Int, r ≤ M ∧ Quiet 36 [.int .i64 n, v1, .int .i64 k] st (.int .i64 r) := by
  obtain ⟨m0, m1⟩ := metN_le hs
  obtain ⟨a0, a1⟩ := allP_le hn0 hn
  obtain ⟨p0, p1⟩ := mul_bnd (a := (k : Int)) (A := 20) (B := 5520) (by omega) (by omega) m0 (by omega)
  obtain ⟨c0, c1⟩ := nn_le hn0 hn
  refine ⟨if metN l = 0 then 0 else ((k : Int) * metN l + allP n - 1).tdiv (allP n), ?_, Quiet.of fun hl => ?_⟩
  · split
    · omega
    · rename_i hm
      have ap := allP_pos hn0 hn hf hm
      rw [Int.tdiv_eq_ediv_of_nonneg (by omega)]
      have : ((k : Int) * metN l + allP n - 1) / allP n < (M : Int) + 1 := by
        refine Int.ediv_lt_of_lt_mul (by omega) ?_
        rw [Int.add_mul, Int.one_mul, Int.mul_comm (M : Int)]
        omega
      omega
  · apply r36
    unfold R36
    refine (fit_q h1 (n := (n : Int)) (by omega) (by omega)).P fun m hm => ?_
    rw [hf, un_not, B_some]
    have hk1 : ¬ (k : Int) < 1 := by omega
    simp only [Bool.not_true, Gd_yes, Gv_yes, bin_lss, hk1, decide_false, B_some, evPick_b, cond_false, GC_yes]
    have kk : Keeps st (st.upto m) := (Keeps.refl st).upto hm
    refine (met_q (h1.keeps kk) hs hlen).P fun m2 hm2 => ?_
    have kk2 : Keeps st ((st.upto m).upto m2) := kk.upto hm2
    simp only [bin_eql, B_some, If_bool]
    by_cases hm : metN l = 0
    · simp only [hm, decide_true, if_true]
      exact ⟨fun _ => ⟨trivial, kk2⟩, fun h => by cases h⟩
    · have ap := allP_pos hn0 hn hf hm
      simp only [hm, decide_false, if_false]
      refine ⟨fun h => (by cases h), fun _ => ?_⟩
      have w1 : IntKind.i64.wrap ((n : Int) - 1) = (n : Int) - 1 := i64_wrap _ (by omega)
      have w2 : IntKind.i64.wrap ((n : Int) * ((n : Int) - 1)) = (n : Int) * ((n : Int) - 1) := i64_wrap _ (by omega)
      have w3 : IntKind.i64.wrap (((n : Int) * ((n : Int) - 1)).tdiv 2) = allP n := i64_wrap _ (by show _ ≤ allP n ∧ allP n ≤ _; omega)
      have hmin : ¬ (64 : Int) < (k : Int) := by omega
      rw [bin_sub, B_some, w1, bin_mul, B_some, w2, bin_quo _ _ _ _ _ (by decide), B_some, w3, min_two, if_neg hmin, B_some]
      refine (met_q (h1.keeps kk2) hs hlen).P fun m3 hm3 => ?_
      have w4 : IntKind.i64.wrap ((k : Int) * metN l) = (k : Int) * metN l := i64_wrap _ (by omega)
      have w5 : IntKind.i64.wrap ((k : Int) * metN l + allP n) = (k : Int) * metN l + allP n := i64_wrap _ (by omega)
      have w6 : IntKind.i64.wrap ((k : Int) * metN l + allP n - 1) = (k : Int) * metN l + allP n - 1 := i64_wrap _ (by omega)
      have hd : 0 ≤ ((k : Int) * metN l + allP n - 1) / allP n ∧ ((k : Int) * metN l + allP n - 1) / allP n ≤ (k : Int) * metN l + allP n - 1 :=
        ⟨Int.ediv_nonneg (by omega) (by omega), Int.ediv_le_self _ (by omega)⟩
      have w7 : IntKind.i64.wrap (((k : Int) * metN l + allP n - 1).tdiv (allP n)) = ((k : Int) * metN l + allP n - 1).tdiv (allP n) := i64_wrap _ (by
        rw [Int.tdiv_eq_ediv_of_nonneg (by omega)]; omega)
      rw [bin_mul, B_some, w4, bin_add, B_some, w5, bin_sub, B_some, w6, bin_quo _ _ _ _ _ (by omega), B_some, w7]
      exact ⟨rfl, kk2.upto hm3⟩

theorem evenings_q (h1 : Ints st.heap v1 l) (hs : ∀ x ∈ l, 1 ≤ x ∧ x ≤ 24) (hlen : l.length ≤ 20) (hn0 : 1 ≤ n) (hn : n ≤ 64) (hf : fitB n l = true) {k M : Nat} (hM : M ≤ 64) (hk2 : k ≤ 20) (hb : (k : Int) * metN l ≤ allP n * M) :
    ∃ r : Int, k ≤ r ∧ Quiet 37 [.int .i64 n, v1, .int .i64 M] st (.int .i64 r) := by
  obtain ⟨m0, m1⟩ := metN_le hs
  obtain ⟨a0, a1⟩ := allP_le hn0 hn
  obtain ⟨p0, p1⟩ := mul_bnd (a := (M : Int)) (A := 64) (b := allP n) (B := 2016) (by omega) (by omega) a0 (by omega)
  obtain ⟨c0, c1⟩ := nn_le hn0 hn
  refine ⟨if metN l = 0 then 64 else if ((M : Int) * allP n).tdiv (metN l) < 64 then ((M : Int) * allP n).tdiv (metN l) else 64, ?_, Quiet.of fun hl => ?_⟩
  · split
    · omega
    · rename_i hm
      rw [Int.tdiv_eq_ediv_of_nonneg p0]
      have : (k : Int) ≤ ((M : Int) * allP n) / metN l := by
        refine (Int.le_ediv_iff_mul_le (by omega)).2 ?_
        rw [Int.mul_comm (M : Int)]
        exact hb
      split <;> omega
  · apply r37
    unfold R37
    refine (fit_q h1 (n := (n : Int)) (by omega) (by omega)).P fun m hm => ?_
    have kk : Keeps st (st.upto m) := (Keeps.refl st).upto hm
    have hM0 : ¬ (M : Int) < 0 := by omega
    rw [hf, un_not, B_some]
    simp only [Bool.not_true, Gd_yes, Gv_yes, bin_lss, hM0, decide_false, B_some, evPick_b, cond_false, If_bool]
    refine ⟨fun h => (by cases h), fun _ => ?_⟩
    refine (met_q (h1.keeps kk) hs hlen).P fun m2 hm2 => ?_
    have kk2 : Keeps st ((st.upto m).upto m2) := kk.upto hm2
    simp only [bin_eql, B_some, If_bool]
    by_cases hm : metN l = 0
    · simp only [hm, decide_true, if_true]
      exact ⟨fun _ => ⟨trivial, kk2⟩, fun h => by cases h⟩
    · simp only [hm, decide_false, if_false]
      refine ⟨fun h => (by cases h), fun _ => ?_⟩
      have w1 : IntKind.i64.wrap ((n : Int) - 1) = (n : Int) - 1 := i64_wrap _ (by omega)
      have w2 : IntKind.i64.wrap ((n : Int) * ((n : Int) - 1)) = (n : Int) * ((n : Int) - 1) := i64_wrap _ (by omega)
      have w3 : IntKind.i64.wrap (((n : Int) * ((n : Int) - 1)).tdiv 2) = allP n := i64_wrap _ (by show _ ≤ allP n ∧ allP n ≤ _; omega)
      have w4 : IntKind.i64.wrap ((M : Int) * allP n) = (M : Int) * allP n := i64_wrap _ (by omega)
      have hmin : ¬ (64 : Int) < (M : Int) := by omega
      rw [min_two, if_neg hmin, B_some, bin_sub, B_some, w1, bin_mul, B_some, w2, bin_quo _ _ _ _ _ (by decide), B_some, w3, bin_mul, B_some, w4]
      refine (met_q (h1.keeps kk2) hs hlen).P fun m3 hm3 => ?_
      have hd : 0 ≤ ((M : Int) * allP n) / metN l ∧ ((M : Int) * allP n) / metN l ≤ (M : Int) * allP n :=
        ⟨Int.ediv_nonneg (by omega) (by omega), Int.ediv_le_self _ (by omega)⟩
      have w7 : IntKind.i64.wrap (((M : Int) * allP n).tdiv (metN l)) = ((M : Int) * allP n).tdiv (metN l) := i64_wrap _ (by
        rw [Int.tdiv_eq_ediv_of_nonneg (by omega)]; omega)
      rw [bin_quo _ _ _ _ _ hm, B_some, w7, min_two, B_some]
      exact ⟨rfl, kk2.upto hm3⟩
end
end Go.Ev

namespace Go.Ev
open Go.Proofs

section
variable {st : St} {v1 v3 : Value} {l : List Int} {S : Sched} {n : Nat}

theorem bounds_tail (q8 : ∀ s, Quiet 8 [] s (.bool true)) (h1 : Ints st.heap v1 l) (h3 : Sch st.heap v3 S) (hs : ∀ x ∈ l, 1 ≤ x ∧ x ≤ 24) (hlen : l.length ≤ 20) (hn0 : 1 ≤ n) (hn : n ≤ 64) (hf : fitB n l = true)
    (hv : ∀ E ∈ S, EvOk n E ∧ l = lens E) (hS0 : 1 ≤ S.length) (hS : S.length ≤ 20) {s8 : St} (k8 : Keeps st s8) {base B : Nat} {rs : List Nat} (hM : Mat n base s8 B rs (incs S)) :
    Lp (L5_2 v1 v3 (.int .i64 n) (.slice (some ⟨B, 0, none⟩) n n) fun u s => u = .bool true ∧ Keeps st s) [.int .i64 0, .int .i64 0] s8 := by
  have hv' : ∀ E ∈ S, EvOk n E := fun E hE => (hv E hE).1
  refine Lp.ind (fun m xs s => ∃ (x M : Nat), x + m = n ∧ xs = [.int .i64 M, .int .i64 x] ∧ s8 = s ∧ MaxOn n (incs S) (fun i _ => i < x) M) ?_ n ⟨0, 0, by omega, rfl, rfl, (MaxOn.none n _).mono fun i k _ _ h => by omega⟩
  rintro m _ _ ⟨x, M, hk, rfl, rfl, hMx⟩
  simp only [L5_2, nth]
  by_cases hlt : x < n
  · have hkl : (x : Int) < (n : Int) := by omega
    simp only [bin_lss, hkl, decide_true, B_some, If_bool]
    refine ⟨fun _ => ?_, fun h => by cases h⟩
    obtain ⟨r1, r2⟩ := hM.row hlt
    refine Lp.ind (fun q xs s => ∃ (y M : Nat), y + q = n ∧ xs = [.int .i64 M, .int .i64 y] ∧ s8 = s ∧ MaxOn n (incs S) (fun i k => i < x ∨ (i = x ∧ k < y)) M) ?_ n ⟨0, M, by omega, rfl, rfl, hMx.mono fun i k _ _ h => by omega⟩
    rintro q _ _ ⟨y, M2, hk2, rfl, rfl, hM2⟩
    simp only [L5_4, nth]
    by_cases hlt2 : y < n
    · have hkl2 : (y : Int) < (n : Int) := by omega
      obtain ⟨c1, c2⟩ := hM.cell hlt hlt2
      simp only [bin_lss, hkl2, decide_true, B_some, If_bool, r1, ld25, r2, c1, ld3, c2, max_nat, bin_add]
      refine ⟨fun _ => ?_, fun h => by cases h⟩
      exact ⟨q - 1, by omega, y + 1, max M2 ((incs S).count ((x : Int), (y : Int))), by omega, by rw [i64_wrap _ (by omega)]; rfl, trivial, (hM2.add hlt hlt2).mono fun i k _ _ h => by omega⟩
    · have hyn : y = n := by omega
      subst hyn
      simp only [bin_lss, Int.lt_irrefl, decide_false, B_some, If_bool, bin_add]
      refine ⟨fun h => (by cases h), fun _ => ⟨m - 1, by omega, x + 1, M2, by omega, by rw [i64_wrap _ (by omega)]; simp, trivial, hM2.mono fun i k _ _ h => by omega⟩⟩
  · have hxn : x = n := by omega
    subst hxn
    have hmax : IsMax x (incs S) M := hMx.mono fun i k h _ _ => h
    have hMS : M ≤ S.length := by
      rcases hmax.at_ with h | ⟨i, k, _, _, h⟩
      · omega
      · rw [← h]; exact count_incs (fun E hE => (hv' E hE).full.nodup) _ _
    have hb : (S.length : Int) * metN l ≤ allP x * M := bound hv fun i k hi hk => hmax.le i k hi hk trivial
    simp only [bin_lss, Int.lt_irrefl, decide_false, B_some, If_bool]
    refine ⟨fun h => (by cases h), fun _ => ?_⟩
    refine (meet_c (h3.keeps k8) hn0 hn hv' (by omega)).use ?_
    rintro told s11 _ _ ⟨Ks, hK, l11, k11, ho, hrows⟩
    have kk11 := k8.trans k11
    have hM11 := hM.keeps k11
    have hlenT : ∀ s, evLenM oT s 36 told = some (.int .i64 x) := fun s => by rw [ho.len ty36]; simp [hK]
    refine Lp.ind (fun q xs s => ∃ i : Nat, i + q = x ∧ xs = [.int .i64 i] ∧ s11 = s) ?_ x ⟨0, by omega, rfl, rfl⟩
    rintro q _ _ ⟨i, hk2, rfl, rfl⟩
    simp only [L5_6, nth]
    by_cases hlt : i < x
    · have hkl : (i : Int) < (x : Int) := by omega
      simp only [bin_lss, hkl, decide_true, B_some, Gv_yes, Gd_yes, hlenT, evPick_b, cond_true, If_bool]
      refine ⟨fun _ => ?_, fun h => by cases h⟩
      obtain ⟨r1, r2⟩ := hM11.row hlt
      obtain ⟨tb, to, t1, t2⟩ := ho.at_ ty36 ty25 (k := i) (by simp; omega)
      rw [List.getElem_map] at t2
      refine Lp.ind (fun q xs s => ∃ k : Nat, k + q = x ∧ xs = [.int .i64 k] ∧ s11 = s) ?_ x ⟨0, by omega, rfl, rfl⟩
      rintro q2 _ _ ⟨k, hk3, rfl, rfl⟩
      simp only [L5_8, nth]
      by_cases hlt2 : k < x
      · have hkl2 : (k : Int) < (x : Int) := by omega
        simp only [bin_lss, hkl2, decide_true, B_some, If_bool]
        refine ⟨fun _ => ?_, fun h => by cases h⟩
        have hnext : ∃ n', n' < q2 ∧ ∃ k' : Nat, k' + n' = x ∧ [Value.int .i64 (IntKind.i64.wrap ((k : Int) + 1))] = [.int .i64 k'] ∧ True := ⟨q2 - 1, by omega, k + 1, by omega, by rw [i64_wrap _ (by omega)]; simp, trivial⟩
        by_cases he : (k : Int) = (i : Int)
        · have hd : decide ((k : Int) ≠ (i : Int)) = false := decide_eq_false (fun h => h he)
          simp only [bin_neq, hd, B_some, Gd_ft, Gv_ft, evPick_b, cond_false, If_bool, bin_add]
          exact ⟨fun h => (by cases h), fun _ => hnext⟩
        · have hd : decide ((k : Int) ≠ (i : Int)) = true := decide_eq_true he
          obtain ⟨c1, c2⟩ := hM11.cell hlt hlt2
          have hia : evIndexAddr oT 25 (rowV x Ks[i]) (.int .i64 k) = some (.pointer (some ⟨Ks[i], k, none⟩)) := by
            unfold rowV
            rw [ia25 _ _ _ _ _ _ (by omega) (by omega)]; simp
          have hc := (hrows i (by omega)).at_ oneI (k := k) (by rw [rowL_len]; exact hlt2)
          rw [rowL_at _ _ hlt2] at hc
          have hself : decide ((((incs S).count ((i : Int), (k : Int)) : Nat) : Int) ≠ (((incs S).count ((i : Int), (k : Int)) : Nat) : Int)) = false := decide_eq_false (fun h => h rfl)
          simp only [bin_neq, hd, B_some, Gv_yes, Gd_yes, t1, ld25, t2, hia, ld3, hc, r1, r2, c1, c2, hself, evPick_b, cond_true, If_bool, bin_add]
          exact ⟨fun h => (by cases h), fun _ => hnext⟩
      · have hkx : k = x := by omega
        subst hkx
        simp only [bin_lss, Int.lt_irrefl, decide_false, B_some, If_bool, bin_add]
        refine ⟨fun h => (by cases h), fun _ => ⟨q - 1, by omega, i + 1, by omega, by rw [i64_wrap _ (by omega)]; simp, trivial⟩⟩
    · have hix : i = x := by omega
      subst hix
      simp only [bin_lss, Int.lt_irrefl, decide_false, B_some, Gd_ft, Gv_ft, evPick_b, cond_false, If_bool, hlenT, bin_eql, decide_true, GC_yes, Gv_yes]
      refine ⟨fun h => (by cases h), fun _ => ?_⟩
      refine (most_c (h3.keeps kk11) hn0 hn hv' (by omega)).use ?_
      rintro _ s14 _ _ ⟨M', rfl, l14, k14, hM'⟩
      have hMM : M' = M := hM'.unique hmax
      subst hMM
      have kk14 := kk11.trans k14
      obtain ⟨r, hr, hq⟩ := least_q (st := s14) (h1.keeps kk14) hs hlen hn0 hn hf hS0 hS hb
      simp only [Gd_yes, Gv_yes, bin_eql, decide_true, B_some, evPick_b, cond_true, h3.len, GC_yes]
      refine hq.P fun m15 hm15 => ?_
      have kk15 : Keeps st (s14.upto m15) := kk14.upto hm15
      have hr' : decide (r ≤ (M' : Int)) = true := decide_eq_true hr
      simp only [Gd_yes, Gv_yes, bin_leq, hr', B_some, evPick_b, cond_true, bin_eql]
      by_cases hz : (M' : Int) = 0
      · simp only [hz, decide_true, GC_tf, Gd_tf, B_some, evPick_b, cond_true, GC_yes]
        refine (q8 _).P fun m16 hm16 => ?_
        simp only []
        exact ⟨trivial, kk15.upto hm16⟩
      · simp only [hz, decide_false, Gv_yes, GC_yes]
        obtain ⟨r2, hr2, hq2⟩ := evenings_q (st := s14.upto m15) (h1.keeps kk15) hs hlen hn0 hn hf (by omega) hS hb
        refine hq2.P fun m16 hm16 => ?_
        have kk16 : Keeps st ((s14.upto m15).upto m16) := kk15.upto hm16
        have hr2' : decide ((S.length : Int) ≤ r2) = true := decide_eq_true hr2
        simp only [Gd_yes, h3.len, B_some, bin_geq, hr2', evPick_b, cond_true, cond_false, GC_yes]
        refine (q8 _).P fun m17 hm17 => ?_
        simp only []
        exact ⟨trivial, kk16.upto hm17⟩
end
end Go.Ev

namespace Go.Ev
open Go.Proofs

theorem checkR_fst {n : Nat} {l : List Int} {S : Sched} (h : (checkR n l S).2 = 0) : (checkR n l S).1 = 0 := by
  unfold checkR at h ⊢
  split
  · rfl
  · split
    · rfl
    · rename_i h1 h2
      rw [if_neg h1, if_neg h2] at h
      exact chkS_zero S 0 h

theorem bounds_core {st : St} (hl : Live st) (q8 : ∀ s, Quiet 8 [] s (.bool true)) {x : Int} {v1 v3 : Value} {l : List Int} {S : Sched} (h1 : Ints st.heap v1 l) (h3 : Sch st.heap v3 S) :
    R5 (.int .i64 x) v1 v3 st fun u s => u = .bool true ∧ Keeps st s := by
  obtain ⟨r, r0, r1, hq⟩ := pick_q x st
  obtain ⟨n, rfl⟩ := Int.eq_ofNat_of_zero_le r0
  have hn : n ≤ 64 := by omega
  unfold R5
  refine hq.P fun m hm => ?_
  have kk : Keeps st (st.upto m) := (Keeps.refl st).upto hm
  have alive : ∀ s : St, Keeps st s → CallP Tryz.prog 8 [] s fun u s => u = .bool true ∧ Keeps st s := fun s ks => (q8 s).P fun m2 hm2 => ⟨rfl, ks.upto hm2⟩
  by_cases c1 : (l.length : Int) = 0
  · have d1 : decide ((l.length : Int) = 0) = true := decide_eq_true c1
    simp only [h1.len, B_some, bin_eql, d1, Gd_tf, evPick_b, cond_true, If_bool]
    exact ⟨fun _ => alive _ kk, fun h => by cases h⟩
  have d1 : decide ((l.length : Int) = 0) = false := decide_eq_false c1
  by_cases c2 : (20 : Int) < l.length
  · have d2 : decide ((20 : Int) < l.length) = true := decide_eq_true c2
    simp only [h1.len, B_some, bin_eql, bin_gtr, d1, d2, Gd_yes, Gv_yes, Gd_tf, evPick_b, cond_true, cond_false, If_bool]
    exact ⟨fun _ => alive _ kk, fun h => by cases h⟩
  have d2 : decide ((20 : Int) < l.length) = false := decide_eq_false c2
  by_cases c3 : (20 : Int) < S.length
  · have d3 : decide ((20 : Int) < S.length) = true := decide_eq_true c3
    simp only [h1.len, h3.len, B_some, bin_eql, bin_gtr, d1, d2, d3, Gd_yes, Gv_yes, evPick_b, cond_false, If_bool]
    exact ⟨fun _ => alive _ kk, fun h => by cases h⟩
  have d3 : decide ((20 : Int) < S.length) = false := decide_eq_false c3
  have hS : S.length ≤ 20 := by omega
  have hlen : l.length ≤ 20 := by omega
  have hnil : l ≠ [] := by rintro rfl; simp at c1
  simp only [h1.len, h3.len, B_some, bin_eql, bin_gtr, d1, d2, d3, Gd_yes, Gv_yes, evPick_b, cond_false, If_bool]
  refine ⟨fun h => (by cases h), fun _ => ?_⟩
  -- the sizes
  refine Lp.ind (fun q xs s => ∃ i m' : Nat, i + q = l.length ∧ xs = [.int .i64 i] ∧ st.nxt ≤ m' ∧ s = st.upto m' ∧ ∀ (j : Nat) (h : j < l.length), j < i → 1 ≤ l[j] ∧ l[j] ≤ 24) ?_ l.length ⟨0, m, by omega, rfl, hm, rfl, fun j _ h => by omega⟩
  rintro q _ _ ⟨i, m', hk, rfl, hm', rfl, hsz⟩
  have kk : Keeps st (st.upto m') := (Keeps.refl st).upto hm'
  simp only [L5_0, nth]
  by_cases hlt : i < l.length
  · obtain ⟨p, o, q1, q2⟩ := h1.at_ hlt
    have hkl : (i : Int) < (l.length : Int) := by omega
    have q2' : cellAt (st.upto m').heap p o = some (.int .i64 l[i]) := q2
    by_cases a1 : l[i] < 1
    · have e1 : decide (l[i] < 1) = true := decide_eq_true a1
      simp only [h1.len, B_some, bin_lss, hkl, decide_true, If_bool, q1, ld3, q2', e1, Gd_tf, evPick_b, cond_true]
      exact ⟨fun _ => ⟨fun _ => alive _ kk, fun h => by cases h⟩, fun h => by cases h⟩
    have e1 : decide (l[i] < 1) = false := decide_eq_false a1
    by_cases a2 : 24 < l[i]
    · have e2 : decide (24 < l[i]) = true := decide_eq_true a2
      simp only [h1.len, B_some, bin_lss, bin_gtr, hkl, decide_true, If_bool, q1, ld3, q2', e1, e2, Gd_yes, Gv_yes, evPick_b, cond_false]
      exact ⟨fun _ => ⟨fun _ => alive _ kk, fun h => by cases h⟩, fun h => by cases h⟩
    have e2 : decide (24 < l[i]) = false := decide_eq_false a2
    simp only [h1.len, B_some, bin_lss, bin_gtr, hkl, decide_true, If_bool, q1, ld3, q2', e1, e2, Gd_yes, Gv_yes, evPick_b, cond_false, bin_add]
    refine ⟨fun _ => ⟨fun h => (by cases h), fun _ => ⟨q - 1, by omega, i + 1, m', by omega, by rw [i64_wrap _ (by omega)]; simp, hm', rfl, fun j hj hji => ?_⟩⟩, fun h => by cases h⟩
    by_cases hji' : j < i
    · exact hsz j hj hji'
    · have : j = i := by omega
      subst this
      omega
  have hil : i = l.length := by omega
  subst hil
  have hs : ∀ y ∈ l, 1 ≤ y ∧ y ≤ 24 := fun y hy => by
    obtain ⟨j, hj, rfl⟩ := List.mem_iff_getElem.1 hy
    exact hsz j hj hj
  simp only [h1.len, B_some, bin_lss, Int.lt_irrefl, decide_false, If_bool]
  refine ⟨fun h => (by cases h), fun _ => ?_⟩
  refine (Check_q (st := st.upto m') (h1.keeps kk) (h3.keeps kk) hn).P fun m2 hm2 => ?_
  have kk2 : Keeps st ((st.upto m').upto m2) := kk.upto hm2
  have e0 : evExtract (pairV (checkR n l S)) 0 = some (.int .i64 (checkR n l S).1) := rfl
  have e1 : evExtract (pairV (checkR n l S)) 1 = some (.int .i64 (checkR n l S).2) := rfl
  rw [e0, B_some, e1, B_some]
  by_cases hz : (checkR n l S).2 = 0
  · obtain ⟨hn0, hf, hv⟩ := checkR_sizes hnil hz
    have g1 : decide ((checkR n l S).1 = 0) = true := decide_eq_true (checkR_fst hz)
    have g2 : decide ((checkR n l S).2 = 0) = true := decide_eq_true hz
    have g3 : decide ((checkR n l S).2 ≠ 0) = false := decide_eq_false fun h => h hz
    simp only [bin_eql, g1, B_some, Gd_yes, Gv_yes, g2, evPick_b, cond_true, GC_yes]
    refine (seated_q (h1.keeps kk2) (h3.keeps kk2) hn hv).P fun m3 hm3 => ?_
    have kk3 : Keeps st (((st.upto m').upto m2).upto m3) := kk2.upto hm3
    simp only [un_not, Bool.not_true, B_some, If_bool]
    refine ⟨fun h => (by cases h), fun _ => ?_⟩
    by_cases hS0 : (S.length : Int) = 0
    · have g4 : decide ((S.length : Int) = 0) = true := decide_eq_true hS0
      simp only [bin_neq, g3, B_some, Gd_yes, Gv_yes, h3.len, bin_eql, g4, evPick_b, cond_false, If_bool]
      exact ⟨fun _ => alive _ kk3, fun h => by cases h⟩
    · have g4 : decide ((S.length : Int) = 0) = false := decide_eq_false hS0
      simp only [bin_neq, g3, B_some, Gd_yes, Gv_yes, h3.len, bin_eql, g4, evPick_b, cond_false, If_bool]
      refine ⟨fun h => (by cases h), fun _ => ?_⟩
      refine (meets_c (h3.keeps kk3) hn (fun E hE => (hv E hE).1) (by omega)).use ?_
      rintro _ s8 _ _ ⟨B, rs, rfl, l8, k8, hM⟩
      exact bounds_tail q8 h1 h3 hs hlen hn0 hn hf hv (by omega) hS (kk3.trans k8) hM
  · have g2 : decide ((checkR n l S).2 = 0) = false := decide_eq_false hz
    have g3 : decide ((checkR n l S).2 ≠ 0) = true := decide_eq_true hz
    by_cases hy : (checkR n l S).1 = 0
    · have g1 : decide ((checkR n l S).1 = 0) = true := decide_eq_true hy
      simp only [bin_eql, bin_neq, g1, g2, g3, B_some, Gd_yes, Gv_yes, evPick_b, cond_true, cond_false, GC_ft, Gd_ft, Gd_tf, If_bool]
      exact ⟨fun h => (by cases h), fun _ => ⟨fun _ => alive _ kk2, fun h => by cases h⟩⟩
    · have g1 : decide ((checkR n l S).1 = 0) = false := decide_eq_false hy
      simp only [bin_eql, bin_neq, g1, g3, B_some, evPick_b, cond_true, cond_false, GC_ft, Gd_ft, Gd_tf, If_bool]
      exact ⟨fun h => (by cases h), fun _ => ⟨fun _ => alive _ kk2, fun h => by cases h⟩⟩
end Go.Ev
