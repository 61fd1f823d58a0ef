/- The law of orders: what its functions compute, second part, and the law over the small memory. -/
import Derived.Test.YtpaeganfehemnaaGreatOra
import Derived.Test.YtpaeganfehemnaaGreatSyb

namespace Go.Ev
open Go.Proofs

def keyC (i n : Int) : Int := (IntKind.i64.wrap (IntKind.i64.wrap (i * IntKind.i64.wrap (IntKind.i64.wrap (2 * n) + 1)) + n)).tmod 64
def elderC (kind : Int) (a b : Gu) : Int :=
  if (decide (a.since = 0) == decide (b.since = 0)) = false then cmpI (if a.since = 0 then 1 else 0) (if b.since = 0 then 1 else 0)
  else if kind = 3 then IntKind.i64.wrap (0 - cmpI a.since b.since) else cmpI a.since b.since
def rankC (l : List ByteArray) (s : ByteArray) : Int := if 0 ≤ idxGo (fun x => eqS x s) l 0 then idxGo (fun x => eqS x s) l 0 else l.length
def placedC (K : Int → Int) (i j : Int) : Int := if inB i && inB j then cmpI (K i) (K j) else 0
def namC (c : Cl) (P : Gu → Bool) (a b : Gu) : Int := cmpI (if P a == c.last then 1 else 0) (if P b == c.last then 1 else 0)
def plainC (c : Cl) (a : Gu) (i : Int) (b : Gu) (j : Int) : Int :=
  if c.kind = 1 then cmpI (rankC c.names a.rank) (rankC c.names b.rank)
  else if c.kind = 2 ∨ c.kind = 3 then elderC c.kind a b
  else if c.kind = 4 then namC c (fun g => decide (g.side = c.n)) a b
  else if c.kind = 5 then namC c (fun g => g.host) a b
  else if c.kind = 6 then namC c (fun g => g.tongues.any fun s => hasS c.names s) a b
  else if c.kind = 7 then namC c (fun g => hasS c.names g.court) a b
  else if c.kind = 8 then cmpS a.name b.name
  else if c.kind = 10 then placedC (fun i => keyC i c.n) i j
  else placedC id i j

section
variable {st : St} {c : Cl} {nv : Value} {p : Nat}

theorem rank_num (hc : ClC st.heap p 0 c nv) (hs : Strs st.heap nv c.names) : Num (.func (.func 334) ⟨[]⟩ ⟨[.pointer (some ⟨p, 0, none⟩)]⟩) st fun g _ => rankC c.names g.rank := fun s ks u g i h1 => Quiets.of1 <| Quiet.of fun hl => by
  obtain ⟨tv, rfl, ht⟩ := h1
  apply r334
  refine box_se hl ht.one fun s1 p1 l1 k1 c1 => ?_
  have hk := ks.trans k1
  have e3 := (hc.keeps hk).c3
  simp at e3
  have hs1 := hs.keeps hk
  simp [e3, c1.c1]
  refine (index_q hs1 g.rank).P fun m hm => ?_
  by_cases h0 : 0 ≤ idxGo (fun x => eqS x g.rank) c.names 0
  · simp [h0, rankC, k1.upto hm]
  · simp [h0, rankC, e3, hs1.len, k1.upto hm]

theorem side_prd (hc : ClC st.heap p 0 c nv) : Prd (.func (.func 340) ⟨[]⟩ ⟨[.pointer (some ⟨p, 0, none⟩)]⟩) st fun g _ => decide (g.side = c.n) := fun s ks u g i h1 => Quiets.of1 <| Quiet.of fun hl => by
  obtain ⟨tv, rfl, ht⟩ := h1
  apply r340
  refine box_se hl ht.one fun s1 p1 l1 k1 c1 => ?_
  have e4 := (hc.keeps (ks.trans k1)).c4
  simp at e4
  simp [e4, c1.c4, k1]

theorem host_prd : Prd (.func (.func 341) #[] #[]) st fun g _ => g.host := fun s ks u g i h1 => Quiets.of <| Quiet.of fun hl => by
  obtain ⟨tv, rfl, ht⟩ := h1
  apply r341
  refine box_se hl ht.one fun s1 p1 l1 k1 c1 => ?_
  simp [c1.c6, k1]

theorem has1_q {s : St} (e3 : cellAt s.heap p 3 = some nv) (hs : Strs s.heap nv c.names) (x : ByteArray) : Quiet 343 [.string x, .pointer (some ⟨p, 0, none⟩)] s (.bool (hasS c.names x)) := Quiet.of fun hl => by
  apply r343
  unfold R343
  simp [e3]
  refine (contains_q hs x).P fun m hm => ?_
  exact ⟨rfl, (Keeps.refl s).upto hm⟩

theorem tongue_prd (hc : ClC st.heap p 0 c nv) (hs : Strs st.heap nv c.names) : Prd (.func (.func 342) ⟨[]⟩ ⟨[.pointer (some ⟨p, 0, none⟩)]⟩) st fun g _ => g.tongues.any fun s => hasS c.names s := fun s ks u g i h1 => Quiets.of1 <| Quiet.of fun hl => by
  obtain ⟨tv, rfl, ht⟩ := h1
  apply r342
  refine box_se hl ht.one fun s1 p1 l1 k1 c1 => ?_
  have hk := ks.trans k1
  have e3 := (hc.keeps hk).c3
  simp at e3
  simp [c1.c8]
  refine (anyS_q (ht.keeps k1) (fun s => hasS c.names s) (fun x hx m hm => Quiets.of1 (has1_q (s := s1.upto m) e3 (hs.keeps hk) x))).P fun m hm => ?_
  exact ⟨rfl, k1.upto hm⟩

theorem court_prd (hc : ClC st.heap p 0 c nv) (hs : Strs st.heap nv c.names) : Prd (.func (.func 344) ⟨[]⟩ ⟨[.pointer (some ⟨p, 0, none⟩)]⟩) st fun g _ => hasS c.names g.court := fun s ks u g i h1 => Quiets.of1 <| Quiet.of fun hl => by
  obtain ⟨tv, rfl, ht⟩ := h1
  apply r344
  refine box_se hl ht.one fun s1 p1 l1 k1 c1 => ?_
  have hk := ks.trans k1
  have e3 := (hc.keeps hk).c3
  simp at e3
  simp [e3, c1.c2]
  refine (contains_q (hs.keeps hk) _).P fun m hm => ?_
  exact ⟨rfl, k1.upto hm⟩

theorem elder_ord (hc : ClC st.heap p 0 c nv) : Ord (.func (.func 336) ⟨[]⟩ ⟨[.pointer (some ⟨p, 0, none⟩)]⟩) st fun a _ b _ => elderC c.kind a b := fun s ks u1 u2 a i b j h1 h2 => Quiets.of1 <| Quiet.of fun hl => by
  obtain ⟨tv, rfl, ht⟩ := h1
  obtain ⟨uv, rfl, hu⟩ := h2
  apply r336
  refine box_se hl ht.one fun s1 p1 l1 k1 c1 => ?_
  refine box_se l1 hu.one fun s2 p2 l2 k2 c2 => ?_
  have k := k1.trans k2
  have c1' := c1.keeps k2
  have e0 := (hc.keeps (ks.trans k)).c0
  simp [c1'.c3, c2.c3]
  refine ⟨fun hn => ?_, fun hy => ?_⟩
  · have hx : (decide (a.since = 0) == decide (b.since = 0)) = false := by simpa using hn
    refine (b2i_q _ _).Q fun m hm => ?_
    simp [c2.c3]
    refine (b2i_q _ _).Q fun m2 hm2 => ?_
    simp only [upto_nxt] at hm2
    refine (cmp_q _ _ _).Q fun m3 hm3 => ?_
    simp only [upto_nxt] at hm3
    exact ⟨by simp [elderC, hx], k.upto (by omega)⟩
  · have hx : (decide (a.since = 0) == decide (b.since = 0)) = true := by simpa using hy
    refine (cmp_q _ _ _).P fun m hm => ?_
    by_cases h3 : c.kind = 3
    · simp [e0, h3, elderC, hx, k.upto hm]
    · simp [e0, h3, elderC, hx, k.upto hm]

theorem name_ord : Ord (.func (.func 345) #[] #[]) st fun a _ b _ => cmpS a.name b.name := fun s ks u1 u2 a i b j h1 h2 => Quiets.of <| Quiet.of fun hl => by
  obtain ⟨tv, rfl, ht⟩ := h1
  obtain ⟨uv, rfl, hu⟩ := h2
  apply r345
  refine box_se hl ht.one fun s1 p1 l1 k1 c1 => ?_
  refine box_se l1 hu.one fun s2 p2 l2 k2 c2 => ?_
  have k := k1.trans k2
  have c1' := c1.keeps k2
  simp [c1'.c0, c2.c0]
  refine (cmpS_q _ _ _).P fun m hm => ?_
  exact ⟨rfl, k.upto hm⟩

theorem inside_q (i : Int) (s : St) : Quiet 394 [.int .i64 i] s (.bool (inB i)) := Quiet.of fun hl => by
  apply r394
  unfold R394
  by_cases h : 0 ≤ i <;> by_cases h2 : i ≤ 63 <;> simp [h, h2, inB, Keeps.refl]

theorem key_key (hc : ClC st.heap p 0 c nv) : Key (.func (.func 348) ⟨[]⟩ ⟨[.pointer (some ⟨p, 0, none⟩)]⟩) st fun i => keyC i c.n := fun s ks i => Quiets.of1 <| Quiet.of fun hl => by
  have e4 := (hc.keeps ks).c4
  simp at e4
  apply r348
  unfold R348
  simp only [fa171_4, Nat.zero_add, B_some, ld3, e4]
  rw [bin_mul, B_some]
  rw [bin_add, B_some]
  rw [bin_mul, B_some]
  rw [bin_add, B_some]
  rw [bin_rem _ _ _ _ _ (by decide), B_some]
  exact ⟨rfl, Keeps.refl _⟩
theorem id_key : Key (.func (.func 349) #[] #[]) st id := fun s ks i => Quiets.of <| Quiet.of fun hl => by
  apply r349
  exact ⟨rfl, Keeps.refl _⟩

theorem placed_ord {kv : Value} {K : Int → Int} (hk : Key kv st K) {q r : Nat} (hq : cellAt st.heap q 0 = some (.func (.func 394) #[] #[])) (hr : cellAt st.heap r 0 = some kv) :
    Ord (.func (.func 395) ⟨[]⟩ ⟨[.pointer (some ⟨q, 0, none⟩), .pointer (some ⟨r, 0, none⟩)]⟩) st fun _ i _ j => placedC K i j := fun s ks u1 u2 a i b j h1 h2 => Quiets.of2 <| Quiet.of fun hl => by
  obtain ⟨tv, rfl, ht⟩ := h1
  obtain ⟨uv, rfl, hu⟩ := h2
  apply r395
  refine box_se hl ht.one fun s1 p1 l1 k1 c1 => ?_
  refine box_se l1 hu.one fun s2 p2 l2 k2 c2 => ?_
  have k := k1.trans k2
  have c1' := c1.keeps k2
  have eq := (ks.trans k).cell hq
  have er := (ks.trans k).cell hr
  simp [eq, c1'.c9]
  refine (Quiets.of (inside_q i s2)).V fun m hm => ?_
  cases hi : inB i
  · simp [placedC, hi, k.upto hm]
  · simp [eq, c2.c9]
    refine (Quiets.of (inside_q j (s2.upto m))).V fun m2 hm2 => ?_
    simp only [upto_nxt] at hm2
    cases hj : inB j
    · simp [placedC, hi, hj, k.upto (Nat.le_trans hm hm2)]
    · simp [er, c1'.c9]
      refine (hk (s2.upto m2) ((ks.trans k).upto (by omega)) i).QV fun m3 hm3 => ?_
      simp only [upto_nxt] at hm3
      simp [er, c2.c9]
      refine (hk (s2.upto m3) ((ks.trans k).upto (by omega)) j).QV fun m4 hm4 => ?_
      simp only [upto_nxt] at hm4
      refine (cmp_q _ _ _).Q fun m5 hm5 => ?_
      simp only [upto_nxt] at hm5
      exact ⟨by simp [placedC, hi, hj], k.upto (by omega)⟩

theorem placed_c {kv : Value} {K : Int → Int} (hk : Key kv st K) (ho : oneC kv = true) : CallP Tryz.prog 347 [kv] st fun u s => Live s ∧ Keeps st s ∧ Ord u s fun _ i _ j => placedC K i j := CallP.live fun hl => by
  apply r347
  refine box_rule1 hl ho fun s1 r l1 k1 hr => ?_
  refine var_rule1 l1 ty159 rfl rfl fun s2 q l2 k2 hq => ?_
  exact ⟨l2, k1.trans k2, placed_ord (hk.keeps (k1.trans k2)) hq (k2.cell hr)⟩
end

theorem plain_c {st : St} {v : Value} {c : Cl} (hv : ClV st.heap v c) : CallP Tryz.prog 259 [v] st fun u s => Live s ∧ Keeps st s ∧ Ord u s (plainC c) := CallP.live fun hl => by
  obtain ⟨nv, rfl, hs⟩ := hv
  apply r259
  refine box_cl hl hs.one fun s1 p l1 k1 hc => ?_
  have hs1 := hs.keeps k1
  have e0 := hc.c0
  have vc : ClV s1.heap (clV c nv) c := ⟨nv, rfl, hs1⟩
  have fin : ∀ {f : FuncId} {args : List Value} {C : Gu → Int → Gu → Int → Int}, C = plainC c → CallP Tryz.prog f args s1 (fun u s => Live s ∧ Keeps s1 s ∧ Ord u s C) → CallP Tryz.prog f args s1 (fun u s => Live s ∧ Keeps st s ∧ Ord u s (plainC c)) :=
    fun hC h => h.use fun u s _ _ ⟨q1, q2, q3⟩ => ⟨q1, k1.trans q2, hC ▸ q3⟩
  have eta : ∀ C : Gu → Int → Gu → Int → Int, (∀ a i b j, C a i b j = plainC c a i b j) → C = plainC c := fun C h => by funext a i b j; exact h a i b j
  by_cases n1 : c.kind = 1
  · simp [e0, n1]
    exact fin (eta _ fun a i b j => by simp [plainC, n1]) (by_c (rank_num hc hs1) rfl)
  by_cases n2 : c.kind = 2 ∨ c.kind = 3
  · have := elder_ord hc
    rw [eta (fun a _ b _ => elderC c.kind a b) fun a i b j => by simp [plainC, n1, n2]] at this
    rcases n2 with n | n
    · simp [e0, n, l1, k1, this]
    · simp [e0, n, l1, k1, this]
  simp only [not_or] at n2
  by_cases n4 : c.kind = 4
  · simp [e0, n4, hc.all]
    exact fin (eta _ fun a i b j => by simp [plainC, n4, namC]) (named_c vc (side_prd hc) rfl)
  by_cases n5 : c.kind = 5
  · simp [e0, n5, hc.all]
    exact fin (eta _ fun a i b j => by simp [plainC, n5, namC]) (named_c vc host_prd rfl)
  by_cases n6 : c.kind = 6
  · simp [e0, n6, hc.all]
    exact fin (eta _ fun a i b j => by simp [plainC, n6, namC]) (named_c vc (tongue_prd hc hs1) rfl)
  by_cases n7 : c.kind = 7
  · simp [e0, n7, hc.all]
    exact fin (eta _ fun a i b j => by simp [plainC, n7, namC]) (named_c vc (court_prd hc hs1) rfl)
  by_cases n8 : c.kind = 8
  · have := name_ord (st := s1)
    rw [eta (fun a _ b _ => cmpS a.name b.name) fun a i b j => by simp [plainC, n8]] at this
    simp [e0, n8, l1, k1, this]
  by_cases n10 : c.kind = 10
  · simp [e0, n10]
    exact fin (eta _ fun a i b j => by simp [plainC, n10]) (placed_c (key_key hc) rfl)
  · simp [e0, n1, n2, n4, n5, n6, n7, n8, n10]
    exact fin (eta _ fun a i b j => by simp [plainC, n1, n2, n4, n5, n6, n7, n8, n10]) (placed_c id_key rfl)
end Go.Ev

namespace Go.Ev
open Go.Proofs

def ordC (c : Cl) (a : Gu) (i : Int) (b : Gu) (j : Int) : Int :=
  if !eqS c.among noS && (!eqS a.rank c.among || !eqS b.rank c.among) then 0 else plainC c a i b j

theorem orderOf_ord {st : St} {c : Cl} {nv fv : Value} {p q : Nat} (hc : ClC st.heap p 0 c nv) (hf : cellAt st.heap q 0 = some fv) (ho : Ord fv st (plainC c)) :
    Ord (.func (.func 260) ⟨[]⟩ ⟨[.pointer (some ⟨p, 0, none⟩), .pointer (some ⟨q, 0, none⟩)]⟩) st (ordC c) := fun s ks u1 u2 a i b j h1 h2 => Quiets.of2 <| Quiet.of fun hl => by
  obtain ⟨tv, rfl, ht⟩ := h1
  obtain ⟨uv, rfl, hu⟩ := h2
  apply r260
  refine box_se hl ht.one fun s1 p1 l1 k1 c1 => ?_
  refine box_se l1 hu.one fun s2 p2 l2 k2 c2 => ?_
  have k := k1.trans k2
  have c1' := c1.keeps k2
  have e1 := (hc.keeps (ks.trans k)).c1
  simp at e1
  have ef := (ks.trans k).cell hf
  have call : CallV Tryz.prog fv [.agg ⟨seL a tv i⟩, .agg ⟨seL b uv j⟩] s2 fun v23 s3 => v23 = Value.int .i64 (plainC c a i b j) ∧ Keeps s s3 :=
    (ho s2 (ks.trans k) _ _ a i b j ⟨tv, rfl, ht.keeps k⟩ ⟨uv, rfl, hu.keeps k⟩).V fun m hm => ⟨rfl, k.upto hm⟩
  cases h8 : eqS c.among noS
  · have h8' : eqS c.among ⟨⟨[]⟩⟩ = false := h8
    cases h9 : eqS a.rank c.among
    · simp [e1, h8', c1'.c1, h9, ordC, h8, k]
    · cases h10 : eqS b.rank c.among
      · simp [e1, h8', c1'.c1, h9, c2.c1, h10, ordC, h8, k]
      · simp [e1, h8', c1'.c1, h9, c2.c1, h10, ordC, h8, ef, c1'.all, c2.all]
        exact call
  · have h8' : eqS c.among ⟨⟨[]⟩⟩ = true := h8
    simp [e1, h8', ordC, h8, ef, c1'.all, c2.all]
    exact call

theorem orderOf_c {st : St} {v : Value} {c : Cl} (hv : ClV st.heap v c) : CallP Tryz.prog 178 [v] st fun u s => Keeps st s ∧ Ord u s (ordC c) ∧ oneC u = true := CallP.live fun hl => by
  obtain ⟨nv, rfl, hs⟩ := hv
  apply r178
  refine box_cl hl hs.one fun s1 p l1 k1 hc => ?_
  simp only [ld171, hc.all, B_some]
  refine (plain_c (st := s1) ⟨nv, rfl, hs.keeps k1⟩).use ?_
  rintro u s2 _ _ ⟨l2, k2, o2⟩
  have hu : oneC u = true := (o2 s2 (Keeps.refl _) (.agg ⟨seL ⟨noS, noS, noS, 0, 0, noS, false, false, []⟩ (.slice none 0 0) 0⟩) (.agg ⟨seL ⟨noS, noS, noS, 0, 0, noS, false, false, []⟩ (.slice none 0 0) 0⟩) ⟨noS, noS, noS, 0, 0, noS, false, false, []⟩ 0 ⟨noS, noS, noS, 0, 0, noS, false, false, []⟩ 0
    ⟨_, rfl, .inr ⟨none, 0, rfl, Nat.le_refl _, by omega, fun h => absurd rfl h⟩⟩ ⟨_, rfl, .inr ⟨none, 0, rfl, Nat.le_refl _, by omega, fun h => absurd rfl h⟩⟩).one
  refine var_rule1 l2 ty185 rfl hu fun s3 q l3 k3 hq => ?_
  exact ⟨k1.trans (k2.trans k3), orderOf_ord (hc.keeps (k2.trans k3)) hq (o2.keeps k3), rfl⟩

theorem Keeps.of_upto {r s : St} {n : Nat} (h : Keeps (r.upto n) s) (hn : r.nxt ≤ n) : Keeps r s := ⟨Nat.le_trans hn h.nxt, h.sub⟩

/-- The closures of a text. -/
def Fns (s : St) (acc : Value) (fs : List Value) (l : List Cl) : Prop := Own s acc fs ∧ fs.length = l.length ∧ ∀ j (h1 : j < fs.length) (h2 : j < l.length), ∃ r, Live r ∧ Ord fs[j] r (ordC l[j]) ∧ Keeps r s ∧ ∀ b, blockIs acc b → hget r.heap b = none

theorem none_of_live {r : St} (hl : Live r) {b : Nat} (h : r.nxt ≤ b) : hget r.heap b = none := by
  cases hh : hget r.heap b with
  | none => rfl
  | some o => have := hl b (by rw [hh]; rfl); omega

theorem orders_c {st : St} {v : Value} {l : List Cl} (h : Cls st.heap v l) (ho : ∀ c ∈ l, c.ok) (hb : l.length ≤ 65535) : CallP Tryz.prog 105 [v] st fun u s => Live s ∧ Keeps st s ∧
    ∃ acc, u = .tuple ⟨[acc, .bool (validB l)]⟩ ∧ (validB l = true → ∃ fs, Fns s acc fs l) := CallP.live fun hl => by
  apply r105
  refine (ctext_q h ho).P fun m hm => ?_
  have hk0 : Keeps st (st.upto m) := (Keeps.refl st).upto hm
  by_cases hv : (textR l).2 = 0
  rotate_left
  · have hvb : validB l = false := by simp [validB, hv]
    simp only [two, ext_0, ext_1, B_some, bin_neq, If_bool]
    refine ⟨fun _ => ⟨hl.upto hm, hk0, _, by rw [hvb], fun e => by rw [hvb] at e; cases e⟩, fun e => by simp at e; exact absurd e hv⟩
  have hvb : validB l = true := by simp [validB, hv]
  simp only [two, ext_0, ext_1, B_some, bin_neq, If_bool, h.len]
  refine ⟨fun e => by simp at e; exact absurd hv e, fun _ => ?_⟩
  refine Lp.ind (fun n xs t => ∃ (k : Nat) (acc : Value) (fs : List Value), k + n = l.length ∧ xs = [acc, .int .i64 k] ∧ Live t ∧ Keeps st t ∧ (∀ b, blockIs acc b → hget st.heap b = none) ∧ Fns t acc fs (l.take k)) ?_ l.length
    ⟨0, .slice none 0 0, [], by omega, rfl, hl.upto hm, hk0, (fun b hb => by obtain ⟨o, g, n, m, e⟩ := hb; cases e), .inl ⟨rfl, rfl⟩, rfl, fun j h1 _ => by simp at h1⟩
  rintro n _ s ⟨k, acc, fs, hk1, rfl, ls, ks, hacc, hown, hlen, hfs⟩
  have hmx := h.max
  simp only [L105_0, bin_lss, nth_0, nth_1, B_some, If_bool, decide_eq_true_eq, decide_eq_false_iff_not]
  refine ⟨fun hlt => ?_, fun hge => ?_⟩
  · have hlt : k < l.length := by omega
    obtain ⟨b, o, nv, q1, q2, q3⟩ := h.at_ hlt
    simp only [q1, B_some, ld171, (q2.keeps ks).all]
    refine var_cl ls q3.one fun s2 p l2 k2 hc => ?_
    simp only [ld171, hc.all, B_some]
    have ks2 := ks.trans k2
    refine (CallP.frame (r := st) ks2 hl (Q := fun u r => Ord u r (ordC l[k]) ∧ oneC u = true) ((orderOf_c (st := st.upto s2.nxt) (c := l[k]) ⟨nv, rfl, q3⟩).use fun u r _ _ ⟨a1, a2⟩ => ⟨a1.of_upto ks2.nxt, a2⟩)).use ?_
    rintro u s5 _ _ ⟨r', ⟨o1, o2⟩, kr, kr5, k5, l5, lr', hold⟩
    have hlk : (l.take k).length = k := by rw [List.length_take]; omega
    refine push_rule l5 ty178 ty185 rfl (by decide) (hown.keeps (k2.trans k5)) o2 (by rw [hlen, hlk]; omega) fun s7 acc' l7 n7 own7 fresh7 keep7 => ?_
    rw [bin_add, B_some, i64_wrap _ (by omega)]
    have hnot : ∀ b, blockIs acc b → b < s.nxt := fun b hb => by
      obtain ⟨o, g, n', m', e⟩ := hb
      rcases hown with ⟨_, e2⟩ | ⟨_, _, b', e2, e', e3⟩
      · rw [e2] at e; cases e
      · rw [e2] at e
        injection e with e
        injection e with e
        injection e with e
        subst e
        exact ls _ (by rw [e3]; rfl)
    have hr'no : ∀ b, blockIs acc b → hget r'.heap b = none := fun b hb => by
      cases hh : hget r'.heap b with
      | none => rfl
      | some x =>
        have := hold b (Nat.lt_of_lt_of_le (hnot b hb) k2.nxt) (by rw [hh]; rfl)
        rw [hacc b hb] at this
        cases this
    refine ⟨n - 1, by omega, k + 1, acc', fs ++ [u], by omega, by simp, l7, keep7 st (ks2.trans k5) hacc, fun b hb => none_of_live hl (Nat.le_trans (ks2.trans k5).nxt (fresh7 b hb)), own7, by simp [hlen]; omega, fun j h1 h2 => ?_⟩
    by_cases hj : j < k
    · obtain ⟨r, lr, or, kr2, nr⟩ := hfs j (by rw [hlen, hlk]; exact hj) (by rw [hlk]; exact hj)
      refine ⟨r, lr, ?_, keep7 r (kr2.trans (k2.trans k5)) nr, fun b hb => none_of_live lr (Nat.le_trans (kr2.trans (k2.trans k5)).nxt (fresh7 b hb))⟩
      have e1 : (fs ++ [u])[j] = fs[j]'(by rw [hlen, hlk]; exact hj) := by rw [List.getElem_append_left]
      have e2 : (l.take (k + 1))[j] = (l.take k)[j]'(by rw [hlk]; exact hj) := by simp
      rw [e1, e2]; exact or
    · have hjk : j = k := by simp [hlen, hlk] at h1; omega
      subst hjk
      refine ⟨r', lr', ?_, keep7 r' kr5 hr'no, fun b hb => none_of_live lr' (Nat.le_trans kr5.nxt (fresh7 b hb))⟩
      have e1 : (fs ++ [u])[j] = u := by
        rw [List.getElem_append_right (by rw [hlen, hlk]; exact Nat.le_refl _)]
        simp [hlen, hlk]
      have e2 : (l.take (j + 1))[j] = l[j] := by simp
      rw [e1, e2]; exact o1
  · have : k = l.length := by omega
    subst this
    rw [List.take_length] at hlen hfs
    exact ⟨ls, ks, acc, by rw [hvb], fun _ => ⟨fs, hown, hlen, hfs⟩⟩
end Go.Ev

namespace Go.Ev
open Go.Proofs

def firstC : List Cl → Gu → Int → Gu → Int → Nat → Int × Int
  | [], _, _, _, _, _ => (-1, 0)
  | c :: l, a, i, b, j, k => if ordC c a i b j = 0 then firstC l a i b j (k + 1) else (k, ordC c a i b j)
theorem firstC_drop {l : List Cl} {k : Nat} (h : k < l.length) (a b : Gu) (i j : Int) :
    firstC (l.drop k) a i b j k = if ordC l[k] a i b j = 0 then firstC (l.drop (k + 1)) a i b j (k + 1) else (k, ordC l[k] a i b j) := by
  rw [List.drop_eq_getElem_cons h]; rfl

theorem first_q {st : St} {acc u1 u2 : Value} {fs : List Value} {l : List Cl} (h : Fns st acc fs l) (hb : l.length ≤ 65535) {a b : Gu} {i j : Int} (h1 : SeV st.heap u1 a i) (h2 : SeV st.heap u2 b j) :
    Quiet 106 [acc, u1, u2] st (two (firstC l a i b j 0)) := Quiet.of fun hl => by
  obtain ⟨hown, hlen, hfs⟩ := h
  obtain ⟨tv, rfl, ht⟩ := h1
  obtain ⟨uv, rfl, hu⟩ := h2
  apply r106
  refine box_se hl ht.one fun s1 p1 l1 k1 c1 => ?_
  refine box_se l1 hu.one fun s2 p2 l2 k2 c2 => ?_
  have k := k1.trans k2
  have c1' := c1.keeps k2
  have hown2 := hown.keeps k
  rw [hown.len ty178, B_some, hlen]
  refine Lp.ind (fun n xs t => ∃ q m : Nat, q + n = l.length ∧ firstC (l.drop q) a i b j q = firstC l a i b j 0 ∧ xs = [.int .i64 q] ∧ s2.nxt ≤ m ∧ t = s2.upto m) ?_ l.length ⟨0, s2.nxt, by omega, rfl, rfl, Nat.le_refl _, rfl⟩
  rintro n _ _ ⟨q, m, hk1, hk2, rfl, hm, rfl⟩
  simp only [L106_0, bin_lss, nth_0, B_some, If_bool, decide_eq_true_eq, decide_eq_false_iff_not]
  refine ⟨fun hlt => ?_, fun hge => ?_⟩
  · have hlt : q < l.length := by omega
    have hlt' : q < fs.length := by omega
    obtain ⟨b', o', e1, e2⟩ := hown2.at_ ty178 ty185 hlt'
    simp only [e1, B_some, ld185, upto_heap, e2, ld183, c1'.all, c2.all]
    obtain ⟨r, lr, or, kr, _⟩ := hfs q hlt' hlt
    refine (or (s2.upto m) ((kr.trans k).upto hm) _ _ a i b j ⟨tv, rfl, ht.keeps k⟩ ⟨uv, rfl, hu.keeps k⟩).V fun m2 hm2 => ?_
    simp only [upto_nxt] at hm2
    rw [firstC_drop hlt] at hk2
    by_cases h0 : ordC l[q] a i b j = 0
    · rw [if_pos h0] at hk2
      simp [h0]
      exact ⟨n - 1, by omega, q + 1, by omega, hk2, by rw [i64_wrap _ (by omega)]; simp, m2, by omega, rfl⟩
    · rw [if_neg h0] at hk2
      simp [h0, ← hk2, two, k.upto (show s2.nxt ≤ m2 by omega)]
  · have : q = l.length := by omega
    subst this
    rw [List.drop_length] at hk2
    simp [← hk2, firstC, two, k.upto hm]

theorem build_se (g : Gu) (tv : Value) (i : Int) (ho : oneC tv = true) : evBuild oT 183 [(0, guV g tv), (1, .int .i64 i)] = some (.agg ⟨seL g tv i⟩) := by
  have h1 : ∀ s, oneC (.string s) = true := fun _ => rfl
  have h2 : ∀ k n, oneC (.int k n) = true := fun _ _ => rfl
  have h3 : ∀ b, oneC (.bool b) = true := fun _ => rfl
  simp [evBuild, ty183, guV, guL, seL, fillL, placeOf, fldAt, cellsL, setN, overN, ho, h1, h2, h3]

def creasonR (l : List Cl) (a b : Gu) (i j : Int) : Int × Int := if validB l then firstC l a i b j 0 else (0, 0)

theorem creason_q {st : St} {v u1 u2 : Value} {l : List Cl} {a b : Gu} (h : Cls st.heap v l) (ho : ∀ c ∈ l, c.ok) (hb : l.length ≤ 65535) (h1 : GuV st.heap u1 a) (h2 : GuV st.heap u2 b) (i j : Int) :
    Quiet 41 [v, u1, u2, .int .i64 i, .int .i64 j] st (two (creasonR l a b i j)) := Quiet.of fun hl => by
  obtain ⟨tv, rfl, ht⟩ := h1
  obtain ⟨uv, rfl, hu⟩ := h2
  apply r41
  refine box_gu hl ht.one fun s1 p1 l1 k1 hg => ?_
  refine box_gu l1 hu.one fun s2 p2 l2 k2 hh => ?_
  have k := k1.trans k2
  have hg' := hg.keeps k2
  refine (orders_c (h.keeps k) ho hb).use ?_
  rintro u s3 _ _ ⟨l3, k3, acc, rfl, hfs⟩
  have kk := k.trans k3
  simp only [ext_0, ext_1, B_some, un_not, If_bool]
  refine ⟨fun hv => ?_, fun hv => ?_⟩
  · have hv : validB l = false := by simpa using hv
    exact ⟨by simp [creasonR, hv, two], kk⟩
  · have hv : validB l = true := by simpa using hv
    obtain ⟨fs, hfs⟩ := hfs hv
    simp only [ld77, (hg'.keeps k3).all, (hh.keeps k3).all, B_some, build_se _ _ _ ht.one, build_se _ _ _ hu.one]
    refine (first_q hfs hb (a := a) (b := b) (i := i) (j := j) ⟨tv, rfl, ht.keeps kk⟩ ⟨uv, rfl, hu.keeps kk⟩).P fun m hm => ?_
    simp [two, creasonR, hv, kk.upto hm]

theorem compare_q {st : St} {v u1 u2 : Value} {l : List Cl} {a b : Gu} (h : Cls st.heap v l) (ho : ∀ c ∈ l, c.ok) (hb : l.length ≤ 65535) (h1 : GuV st.heap u1 a) (h2 : GuV st.heap u2 b) (i j : Int) :
    Quiet 43 [v, u1, u2, .int .i64 i, .int .i64 j] st (.int .i64 (creasonR l a b i j).2) := Quiet.of fun hl => by
  obtain ⟨tv, rfl, ht⟩ := h1
  obtain ⟨uv, rfl, hu⟩ := h2
  apply r43
  refine box_gu hl ht.one fun s1 p1 l1 k1 hg => ?_
  refine box_gu l1 hu.one fun s2 p2 l2 k2 hh => ?_
  have k := k1.trans k2
  simp only [ld77, (hg.keeps k2).all, hh.all, B_some]
  refine (creason_q (h.keeps k) ho hb (a := a) (b := b) ⟨tv, rfl, ht.keeps k⟩ ⟨uv, rfl, hu.keeps k⟩ i j).P fun m hm => ?_
  simp [two, k.upto hm]
end Go.Ev

namespace Go.Ev

/-! ### three-way comparisons -/
def Three (x : Int) : Prop := x = -1 ∨ x = 0 ∨ x = 1
/-- A comparison by some key. -/
structure WC {X : Type} (C : X → X → Int) : Prop where
  three : ∀ a b, Three (C a b)
  anti : ∀ a b, C b a = -C a b
  trans : ∀ a b c, C a b ≤ 0 → C b c ≤ 0 → C a c = min (C a b) (C b c)

theorem cmpI_wc : WC cmpI := by
  refine ⟨fun a b => ?_, fun a b => ?_, fun a b c => ?_⟩
  · unfold Three cmpI; repeat' split
    all_goals omega
  · unfold cmpI; repeat' split
    all_goals omega
  · unfold cmpI; intro h1 h2
    repeat' split at h1
    all_goals repeat' split at h2
    all_goals repeat' split
    all_goals omega
theorem WC.by {X Y : Type} {C : Y → Y → Int} (h : WC C) (f : X → Y) : WC (fun a b => C (f a) (f b)) := ⟨fun a b => h.three _ _, fun a b => h.anti _ _, fun a b c => h.trans _ _ _⟩
theorem WC.zero {X : Type} : WC (fun _ _ : X => 0) := ⟨fun _ _ => .inr (.inl rfl), fun _ _ => rfl, fun _ _ _ _ _ => rfl⟩
theorem WC.neg {X : Type} {C : X → X → Int} (h : WC C) : WC (fun a b => -C a b) := by
  refine ⟨fun a b => ?_, fun a b => ?_, fun a b c h1 h2 => ?_⟩
  · have := h.three a b; unfold Three at *; omega
  · have := h.anti a b; omega
  · have t := h.trans c b a
    have a1 := h.anti a b
    have a2 := h.anti b c
    have a3 := h.anti a c
    rw [a1, a2, a3] at t
    have := t h2 h1
    omega

def cmpL : List UInt8 → List UInt8 → Int
  | [], [] => 0
  | [], _ :: _ => -1
  | _ :: _, [] => 1
  | a :: x, b :: y => if a.toNat < b.toNat then -1 else if b.toNat < a.toNat then 1 else cmpL x y

theorem cmpL_three : ∀ a b, Three (cmpL a b) := fun a => by
  induction a with
  | nil => intro b; cases b <;> simp [cmpL, Three]
  | cons x a ih =>
    intro b
    cases b with
    | nil => simp [cmpL, Three]
    | cons y b =>
      simp only [cmpL]
      have := ih b
      repeat' split
      all_goals first
        | exact this
        | simp [Three]

theorem cmpL_wc : WC cmpL := by
  refine ⟨cmpL_three, fun a => ?_, fun a => ?_⟩
  · induction a with
    | nil => intro b; cases b <;> simp [cmpL]
    | cons x a ih =>
      intro b
      cases b with
      | nil => simp [cmpL]
      | cons y b =>
        simp only [cmpL]
        have := ih b
        repeat' split
        all_goals omega
  · induction a with
    | nil =>
      intro b c h1 h2
      have t2 := cmpL_three b c
      unfold Three at t2
      cases b with
      | nil => cases c <;> simp [cmpL]; omega
      | cons y b =>
        cases c with
        | nil => simp [cmpL] at h2
        | cons z c =>
          show -1 = min (-1) (cmpL (y :: b) (z :: c))
          omega
    | cons x a ih =>
      intro b c h1 h2
      cases b with
      | nil => simp [cmpL] at h1
      | cons y b =>
        cases c with
        | nil => simp [cmpL] at h2
        | cons z c =>
          have t1 := cmpL_three a b
          have t2 := cmpL_three b c
          unfold Three at t1 t2
          simp only [cmpL] at h1 h2 ⊢
          have t := ih b c
          repeat' split at h1
          all_goals repeat' split at h2
          all_goals repeat' split
          all_goals first
            | omega
            | (have := t h1 h2; omega)

theorem bytes_cmp : ∀ (x y : List UInt8), bytesLt x y = decide (cmpL x y = -1) ∧ bytesEq x y = decide (cmpL x y = 0) := by
  intro x
  induction x with
  | nil => intro y; cases y <;> simp [bytesLt, bytesEq, cmpL]
  | cons a x ih =>
    intro y
    cases y with
    | nil => simp [bytesLt, bytesEq, cmpL]
    | cons b y =>
      obtain ⟨h1, h2⟩ := ih y
      simp only [bytesLt, bytesEq, cmpL]
      by_cases hlt : a.toNat < b.toNat
      · have e1 : Nat.blt a.toNat b.toNat = true := by rw [Nat.blt_eq]; exact hlt
        have e2 : Nat.beq a.toNat b.toNat = false := by
          cases hb : Nat.beq a.toNat b.toNat with
          | false => rfl
          | true => have := Nat.eq_of_beq_eq_true hb; omega
        simp [e1, e2, hlt]
      · have e1 : Nat.blt a.toNat b.toNat = false := by
          cases hb : Nat.blt a.toNat b.toNat with
          | false => rfl
          | true => rw [Nat.blt_eq] at hb; exact absurd hb hlt
        by_cases hgt : b.toNat < a.toNat
        · have e2 : Nat.beq a.toNat b.toNat = false := by
            cases hb : Nat.beq a.toNat b.toNat with
            | false => rfl
            | true => have := Nat.eq_of_beq_eq_true hb; omega
          simp [e1, e2, hlt, hgt]
        · have e2 : Nat.beq a.toNat b.toNat = true := by
            have : a.toNat = b.toNat := by omega
            rw [this]; exact Nat.beq_refl _
          simp [e1, e2, hlt, hgt, h1, h2]

theorem cmpS_eq (a b : ByteArray) : cmpS a b = cmpL a.data.toList b.data.toList := by
  obtain ⟨h1, h2⟩ := bytes_cmp a.data.toList b.data.toList
  have h3 := cmpL_wc.three a.data.toList b.data.toList
  simp only [cmpS, ltS, eqS, h1, h2]
  rcases h3 with h | h | h <;> rw [h] <;> decide
theorem ltS_eq (a b : ByteArray) : ltS a b = decide (cmpS a b = -1) := by
  rw [cmpS_eq]; exact (bytes_cmp _ _).1
theorem cmpS_wc : WC cmpS := by
  have := cmpL_wc.by (fun a : ByteArray => a.data.toList)
  have e : cmpS = fun a b => cmpL a.data.toList b.data.toList := by funext a b; exact cmpS_eq a b
  rw [e]; exact this

/-! ### one comparison behind another -/
theorem WC.lexp {X : Type} {R D : X → X → Int} {p : X → Bool} (hR : WC R) (hD : WC D) (hs : ∀ a b, R a b = 0 → p a = p b) : WC (fun a b => if R a b = 0 then (if p a && p b then D a b else 0) else R a b) := by
  refine ⟨fun a b => ?_, fun a b => ?_, fun a b c h1 h2 => ?_⟩
  · have h1 := hR.three a b
    have h2 := hD.three a b
    unfold Three at *
    repeat' split
    all_goals omega
  · have h1 := hR.anti a b
    have h2 := hD.anti a b
    by_cases h : R a b = 0
    · have h' : R b a = 0 := by omega
      simp only [h, h', if_true, Bool.and_comm (p b) (p a)]
      split <;> omega
    · have h' : R b a ≠ 0 := by omega
      simp only [h, h', if_false]; exact h1
  · have t1 := hR.three a b
    have t2 := hR.three b c
    have t3 := hR.three a c
    have d1 := hD.three a b
    have d2 := hD.three b c
    have hx : R a b ≤ 0 := by split at h1 <;> omega
    have hy : R b c ≤ 0 := by split at h2 <;> omega
    have hz := hR.trans a b c hx hy
    by_cases x0 : R a b = 0
    · by_cases y0 : R b c = 0
      · have z0 : R a c = 0 := by rw [hz, x0, y0]; rfl
        have e1 := hs a b x0
        have e2 := hs b c y0
        simp only [x0, y0, z0, if_true] at h1 h2 ⊢
        rw [e1, e2] at h1 ⊢
        rw [e2] at h2
        cases hp : p c
        · simp
        · rw [hp] at h1 h2
          simp only [Bool.and_self, if_true] at h1 h2 ⊢
          exact hD.trans a b c h1 h2
      · have z0 : R a c ≠ 0 := by unfold Three at *; omega
        simp only [x0, y0, z0, if_true, if_false] at h1 h2 ⊢
        rw [hz, x0]
        unfold Three at *
        split at h1 <;> split <;> omega
    · have z0 : R a c ≠ 0 := by unfold Three at *; omega
      simp only [x0, z0, if_false] at h1 ⊢
      rw [hz]
      unfold Three at *
      split <;> split at h2 <;> first | omega | skip
theorem WC.lex {X : Type} {R D : X → X → Int} (hR : WC R) (hD : WC D) : WC (fun a b => if R a b = 0 then D a b else R a b) := by
  have := hR.lexp (p := fun _ => true) hD (fun _ _ _ => rfl)
  simpa using this
end Go.Ev

namespace Go.Ev

structure Seat where
  g : Gu
  i : Int
  hi : inB i = true

theorem keyC_eq (i n : Int) : keyC i n = keyI i n := by
  unfold keyC keyI
  rw [show (2 * n : Int) = n + n by omega]

theorem rankC_eq (l : List ByteArray) (s : ByteArray) : rankC l s = rankS l s := by
  have key : ∀ (l : List ByteArray) (k : Nat), (hasS l s = true → idxGo (fun x => eqS x s) l k = (k + rankS l s : Nat)) ∧ (hasS l s = false → idxGo (fun x => eqS x s) l k = -1) := by
    intro l
    induction l with
    | nil => intro k; simp [hasS, idxGo]
    | cons x l ih =>
      intro k
      cases hx : eqS x s
      · have := ih (k + 1)
        simp only [hasS, List.any_cons, hx, Bool.false_or] at this ⊢
        simp only [idxGo, hx, rankS, Bool.false_eq_true, if_false]
        refine ⟨fun h => by rw [this.1 h]; congr 1; omega, this.2⟩
      · simp [hasS, idxGo, hx, rankS]
  have := key l 0
  unfold rankC
  cases h : hasS l s
  · rw [this.2 h, rankS_none h]; simp
  · rw [this.1 h]; simp

def elderK (kind : Int) (a b : Gu) : Int :=
  if cmpI (if a.since = 0 then 1 else 0) (if b.since = 0 then 1 else 0) = 0 then (if kind = 3 then -cmpI a.since b.since else cmpI a.since b.since) else cmpI (if a.since = 0 then 1 else 0) (if b.since = 0 then 1 else 0)
theorem elder_eq (kind : Int) (a b : Gu) : elderC kind a b = elderK kind a b := by
  have hw : IntKind.i64.wrap (0 - cmpI a.since b.since) = -cmpI a.since b.since := by
    have := cmpI_wc.three a.since b.since
    unfold Three at this
    rw [i64_wrap _ (by omega)]; omega
  unfold elderC elderK
  rw [hw]
  by_cases h1 : a.since = 0 <;> by_cases h2 : b.since = 0 <;> simp [h1, h2, cmpI]
theorem elderK_wc (kind : Int) : WC (elderK kind) := by
  have h1 : WC (fun a b : Gu => cmpI (if a.since = 0 then 1 else 0) (if b.since = 0 then 1 else 0)) := cmpI_wc.by (fun g : Gu => if g.since = 0 then (1 : Int) else 0)
  have h2 : WC (fun a b : Gu => cmpI a.since b.since) := cmpI_wc.by (fun g : Gu => g.since)
  by_cases hk : kind = 3
  · have := h1.lex h2.neg
    have e : elderK kind = fun a b : Gu => if cmpI (if a.since = 0 then 1 else 0) (if b.since = 0 then 1 else 0) = 0 then -cmpI a.since b.since else cmpI (if a.since = 0 then 1 else 0) (if b.since = 0 then 1 else 0) := by
      funext a b; simp only [elderK, hk, if_true]
    rw [e]; exact this
  · have := h1.lex h2
    have e : elderK kind = fun a b : Gu => if cmpI (if a.since = 0 then 1 else 0) (if b.since = 0 then 1 else 0) = 0 then cmpI a.since b.since else cmpI (if a.since = 0 then 1 else 0) (if b.since = 0 then 1 else 0) := by
      funext a b; simp only [elderK, hk, if_false]
    rw [e]; exact this

theorem plain_wc (c : Cl) : WC (fun a b : Seat => plainC c a.g a.i b.g b.i) := by
  have e : ∀ D : Seat → Seat → Int, WC D → (∀ a b, D a b = plainC c a.g a.i b.g b.i) → WC (fun a b : Seat => plainC c a.g a.i b.g b.i) := fun D hD h => by
    have : D = fun a b => plainC c a.g a.i b.g b.i := by funext a b; exact h a b
    rw [← this]; exact hD
  have nam : ∀ P : Gu → Bool, WC (fun a b : Seat => namC c P a.g b.g) := fun P => cmpI_wc.by (fun x : Seat => if P x.g == c.last then (1 : Int) else 0)
  have pl : ∀ K : Int → Int, WC (fun a b : Seat => placedC K a.i b.i) := fun K => by
    have : (fun a b : Seat => placedC K a.i b.i) = fun a b : Seat => cmpI (K a.i) (K b.i) := by
      funext a b; simp [placedC, a.hi, b.hi]
    rw [this]
    exact cmpI_wc.by (fun x : Seat => K x.i)
  by_cases n1 : c.kind = 1
  · exact e _ (cmpI_wc.by (fun x : Seat => rankC c.names x.g.rank)) fun a b => by simp [plainC, n1]
  by_cases n2 : c.kind = 2 ∨ c.kind = 3
  · exact e _ ((elderK_wc c.kind).by (fun x : Seat => x.g)) fun a b => by simp [plainC, n1, n2, elder_eq]
  by_cases n4 : c.kind = 4
  · exact e _ (nam fun g => decide (g.side = c.n)) fun a b => by simp [plainC, n4]
  by_cases n5 : c.kind = 5
  · exact e _ (nam fun g => g.host) fun a b => by simp [plainC, n5]
  by_cases n6 : c.kind = 6
  · exact e _ (nam fun g => g.tongues.any fun s => hasS c.names s) fun a b => by simp [plainC, n6]
  by_cases n7 : c.kind = 7
  · exact e _ (nam fun g => hasS c.names g.court) fun a b => by simp [plainC, n7]
  by_cases n8 : c.kind = 8
  · exact e _ (cmpS_wc.by (fun x : Seat => x.g.name)) fun a b => by simp [plainC, n8]
  by_cases n10 : c.kind = 10
  · exact e _ (pl fun i => keyC i c.n) fun a b => by simp [plainC, n10]
  · exact e _ (pl id) fun a b => by simp [plainC, n1, n2, n4, n5, n6, n7, n8, n10]

/-! ### the program's order of a clause is the document's -/
theorem formed_kind {c : Cl} (h : formedB c = true) : c.kind = 1 ∨ c.kind = 2 ∨ c.kind = 3 ∨ c.kind = 4 ∨ c.kind = 5 ∨ c.kind = 6 ∨ c.kind = 7 ∨ c.kind = 8 ∨ c.kind = 9 ∨ c.kind = 10 := by
  unfold formedB at h
  by_cases n1 : c.kind = 1; · exact .inl n1
  by_cases n2 : c.kind = 2; · exact .inr (.inl n2)
  by_cases n3 : c.kind = 3; · exact .inr (.inr (.inl n3))
  by_cases n4 : c.kind = 4; · exact .inr (.inr (.inr (.inl n4)))
  by_cases n5 : c.kind = 5; · exact .inr (.inr (.inr (.inr (.inl n5))))
  by_cases n6 : c.kind = 6; · exact .inr (.inr (.inr (.inr (.inr (.inl n6)))))
  by_cases n7 : c.kind = 7; · exact .inr (.inr (.inr (.inr (.inr (.inr (.inl n7))))))
  by_cases n8 : c.kind = 8; · exact .inr (.inr (.inr (.inr (.inr (.inr (.inr (.inl n8)))))))
  by_cases n9 : c.kind = 9; · exact .inr (.inr (.inr (.inr (.inr (.inr (.inr (.inr (.inl n9))))))))
  by_cases n10 : c.kind = 10; · exact .inr (.inr (.inr (.inr (.inr (.inr (.inr (.inr (.inr n10))))))))
  simp [n1, n2, n3, n4, n5, n6, n7, n8, n9, n10] at h

theorem cmp_of {p q : Bool} {a b : Int} (h1 : p = decide (a < b)) (h2 : q = decide (b < a)) : cmpI a b = if p then -1 else if q then 1 else 0 := by
  subst h1 h2
  simp [cmpI]

theorem tell_eq {c : Cl} (h : formedB c = true) (a b : Gu) (i j : Int) : tellB c a b i j = ordC c a i b j := by
  have key : plainC c a i b j = if beforeB c a b i j then -1 else if beforeB c b a j i then 1 else 0 := by
    have nam : ∀ P : Gu → Bool, namC c P a b = if (if c.last = true then !P a && P b else P a && !P b) then -1 else if (if c.last = true then !P b && P a else P b && !P a) then 1 else 0 := fun P => by
      unfold namC
      cases c.last <;> cases P a <;> cases P b <;> decide
    rcases formed_kind h with n | n | n | n | n | n | n | n | n | n
    · simp only [plainC, n, if_true, rankC_eq]
      exact cmp_of (by simp [beforeB, n]) (by simp [beforeB, n])
    · simp only [plainC, n, elder_eq, elderK, beforeB]
      by_cases h1 : a.since = 0 <;> by_cases h2 : b.since = 0 <;> simp [h1, h2, cmpI]
    · simp only [plainC, n, elder_eq, elderK, beforeB]
      by_cases h1 : a.since = 0 <;> by_cases h2 : b.since = 0 <;> simp [h1, h2, cmpI]
      repeat' split
      all_goals omega
    · have h1 : plainC c a i b j = namC c (fun g => decide (g.side = c.n)) a b := by simp [plainC, n]
      have h2 : ∀ x y i j, beforeB c x y i j = if c.last = true then !namedB c x && namedB c y else namedB c x && !namedB c y := fun x y i j => by simp [beforeB, n]
      have h3 : ∀ x, namedB c x = decide (x.side = c.n) := fun x => by simp [namedB, n]
      rw [h1, h2, h2, h3, h3]; exact nam _
    · have h1 : plainC c a i b j = namC c (fun g => g.host) a b := by simp [plainC, n]
      have h2 : ∀ x y i j, beforeB c x y i j = if c.last = true then !namedB c x && namedB c y else namedB c x && !namedB c y := fun x y i j => by simp [beforeB, n]
      have h3 : ∀ x, namedB c x = x.host := fun x => by simp [namedB, n]
      rw [h1, h2, h2, h3, h3]; exact nam _
    · have h1 : plainC c a i b j = namC c (fun g => g.tongues.any fun s => hasS c.names s) a b := by simp [plainC, n]
      have h2 : ∀ x y i j, beforeB c x y i j = if c.last = true then !namedB c x && namedB c y else namedB c x && !namedB c y := fun x y i j => by simp [beforeB, n]
      have h3 : ∀ x, namedB c x = x.tongues.any fun s => hasS c.names s := fun x => by simp [namedB, n]
      rw [h1, h2, h2, h3, h3]; exact nam _
    · have h1 : plainC c a i b j = namC c (fun g => hasS c.names g.court) a b := by simp [plainC, n]
      have h2 : ∀ x y i j, beforeB c x y i j = if c.last = true then !namedB c x && namedB c y else namedB c x && !namedB c y := fun x y i j => by simp [beforeB, n]
      have h3 : ∀ x, namedB c x = hasS c.names x.court := fun x => by simp [namedB, n]
      rw [h1, h2, h2, h3, h3]; exact nam _
    · have h3 := cmpS_wc.three a.name b.name
      have h4 := cmpS_wc.anti a.name b.name
      have h1 : plainC c a i b j = cmpS a.name b.name := by simp [plainC, n]
      have h2 : ∀ x y i j, beforeB c x y i j = decide (cmpS x.name y.name = -1) := fun x y i j => by simp [beforeB, n, ltS_eq]
      rw [h1, h2, h2, h4]
      rcases h3 with e | e | e <;> rw [e] <;> decide
    · have h1 : plainC c a i b j = placedC id i j := by simp [plainC, n]
      have h2 : ∀ x y i j, beforeB c x y i j = (inB i && inB j && decide (i < j)) := fun x y i j => by simp [beforeB, n]
      rw [h1, h2, h2]
      cases hi : inB i <;> cases hj : inB j <;> simp [placedC, hi, hj, cmpI]
    · have h1 : plainC c a i b j = placedC (fun i => keyC i c.n) i j := by simp [plainC, n]
      have h2 : ∀ x y i j, beforeB c x y i j = (inB i && inB j && decide (keyC i c.n < keyC j c.n)) := fun x y i j => by simp [beforeB, n, keyC_eq]
      rw [h1, h2, h2]
      cases hi : inB i <;> cases hj : inB j <;> simp [placedC, hi, hj, cmpI]
  unfold tellB ordC
  rw [key]
end Go.Ev

namespace Go.Ev

/-! ### valid texts -/
theorem textGo_at : ∀ (r pre : List Cl) (k : Nat), (textGo pre r k).2 = 0 → ∀ j (hj : j < r.length), oneR (pre ++ r.take j) r[j] = 0 := by
  intro r
  induction r with
  | nil => intro pre k _ j hj; simp at hj
  | cons c r ih =>
    intro pre k h j hj
    simp only [textGo] at h
    split at h
    · rename_i h0
      cases j with
      | zero => simpa using h0
      | succ j =>
        have := ih (pre ++ [c]) (k + 1) h j (by simpa using hj)
        simpa using this
    · rename_i h0
      exact absurd h h0

theorem textGo_of : ∀ (r pre : List Cl) (k : Nat), (∀ j (hj : j < r.length), oneR (pre ++ r.take j) r[j] = 0) → textGo pre r k = (0, 0) := by
  intro r
  induction r with
  | nil => intro pre k _; rfl
  | cons c r ih =>
    intro pre k h
    have h0 := h 0 (by simp)
    simp only [List.take_zero, List.append_nil, List.getElem_cons_zero] at h0
    simp only [textGo, h0, if_true]
    refine ih _ _ fun j hj => ?_
    have := h (j + 1) (by simpa using hj)
    simpa using this

theorem valid_iff (l : List Cl) : validB l = true ↔ l.length ≤ 32 ∧ ∀ j (hj : j < l.length), oneR (l.take j) l[j] = 0 := by
  unfold validB textR
  rw [decide_eq_true_eq]
  by_cases h : (32 : Int) < l.length
  · rw [if_pos h]
    refine ⟨fun e => by simp at e, fun ⟨e, _⟩ => by omega⟩
  · rw [if_neg h]
    refine ⟨fun e => ⟨by omega, fun j hj => by simpa using textGo_at l [] 0 e j hj⟩, fun ⟨_, e⟩ => ?_⟩
    rw [textGo_of l [] 0 fun j hj => by simpa using e j hj]

theorem valid_take {l : List Cl} (h : validB l = true) (n : Nat) : validB (l.take n) = true := by
  rw [valid_iff] at h ⊢
  refine ⟨by rw [List.length_take]; omega, fun j hj => ?_⟩
  rw [List.length_take] at hj
  have := h.2 j (by omega)
  have e1 : (l.take n).take j = l.take j := by rw [List.take_take]; congr 1; omega
  have e2 : (l.take n)[j]'(by rw [List.length_take]; omega) = l[j]'(by omega) := by simp
  rw [e1, e2]; exact this

theorem one_formed {pre : List Cl} {c : Cl} (h : oneR pre c = 0) : formedB c = true ∧ (eqS c.among noS = true ∨ amongB pre c = true) := by
  unfold oneR at h
  split at h; · cases h
  rename_i h1
  split at h; · cases h
  split at h; · cases h
  split at h; · cases h
  split at h
  · rename_i h2
    rw [Bool.or_eq_true] at h2
    exact ⟨by simpa using h1, h2⟩
  · cases h

/-! ### the first clause that tells -/
theorem reason_first {l : List Cl} (h : ∀ c ∈ l, formedB c = true) (a b : Gu) (i j : Int) (k : Nat) : reasonGo l a b i j k = firstC l a i b j k := by
  induction l generalizing k with
  | nil => rfl
  | cons c l ih =>
    simp only [reasonGo, firstC, tell_eq (h c (by simp))]
    rw [ih (fun d hd => h d (by simp [hd]))]

theorem firstC_shift (l : List Cl) (a b : Gu) (i j : Int) (k : Nat) : firstC l a i b j k = (if (firstC l a i b j 0).2 = 0 then -1 else (firstC l a i b j 0).1 + k, (firstC l a i b j 0).2) := by
  induction l generalizing k with
  | nil => simp [firstC]
  | cons c l ih =>
    by_cases h : ordC c a i b j = 0
    · have e : ∀ k, firstC (c :: l) a i b j k = firstC l a i b j (k + 1) := fun k => by simp only [firstC, h, if_true]
      rw [e k, e 0, ih (k + 1), ih (0 + 1)]
      by_cases h2 : (firstC l a i b j 0).2 = 0
      · simp [h2]
      · simp [h2]; omega
    · simp [firstC, h]

theorem firstC_zero {l : List Cl} {a b : Gu} {i j : Int} {k : Nat} (h : (firstC l a i b j k).2 = 0) : ∀ c ∈ l, ordC c a i b j = 0 := by
  induction l generalizing k with
  | nil => intro c hc; cases hc
  | cons c l ih =>
    simp only [firstC] at h
    split at h
    · rename_i h0
      intro d hd
      rcases List.mem_cons.1 hd with rfl | hd
      · exact h0
      · exact ih h d hd
    · rename_i h0; exact absurd h h0

/-- The comparison by a text. -/
def cmpTo (l : List Cl) (a b : Seat) : Int := (firstC l a.g a.i b.g b.i 0).2

theorem cmpTo_nil (a b : Seat) : cmpTo [] a b = 0 := rfl
theorem cmpTo_cons (c : Cl) (l : List Cl) (a b : Seat) : cmpTo (c :: l) a b = if ordC c a.g a.i b.g b.i = 0 then cmpTo l a b else ordC c a.g a.i b.g b.i := by
  simp only [cmpTo, firstC]
  split
  · rw [firstC_shift]
  · rfl
theorem cmpTo_snoc (l : List Cl) (c : Cl) (a b : Seat) : cmpTo (l ++ [c]) a b = if cmpTo l a b = 0 then ordC c a.g a.i b.g b.i else cmpTo l a b := by
  induction l with
  | nil =>
    rw [List.nil_append, cmpTo_cons, cmpTo_nil]
    by_cases h : ordC c a.g a.i b.g b.i = 0 <;> simp [h]
  | cons d l ih =>
    rw [List.cons_append, cmpTo_cons, cmpTo_cons, ih]
    by_cases h : ordC d a.g a.i b.g b.i = 0 <;> simp [h]

theorem first_facts (l : List Cl) (a b : Seat) : ((firstC l a.g a.i b.g b.i 0).1 = -1 ∧ (firstC l a.g a.i b.g b.i 0).2 = 0) ∨
    ∃ k : Nat, k < l.length ∧ (firstC l a.g a.i b.g b.i 0).1 = k ∧ (firstC l a.g a.i b.g b.i 0).2 ≠ 0 ∧ cmpTo (l.take k) a b = 0 ∧ cmpTo (l.take (k + 1)) a b = (firstC l a.g a.i b.g b.i 0).2 := by
  induction l with
  | nil => exact .inl ⟨rfl, rfl⟩
  | cons c l ih =>
    by_cases h : ordC c a.g a.i b.g b.i = 0
    · have e : firstC (c :: l) a.g a.i b.g b.i 0 = firstC l a.g a.i b.g b.i 1 := by simp [firstC, h]
      rw [e, firstC_shift]
      rcases ih with ⟨h1, h2⟩ | ⟨k, h1, h2, h3, h4, h5⟩
      · left; simp [h2]
      · right
        refine ⟨k + 1, by simpa using h1, by simp [h2, h3], h3, ?_, ?_⟩
        · rw [List.take_succ_cons, cmpTo_cons, if_pos h, h4]
        · rw [List.take_succ_cons, cmpTo_cons, if_pos h, h5]
    · right
      refine ⟨0, by simp, by simp [firstC, h], by simp [firstC, h], rfl, ?_⟩
      simp only [List.take_succ_cons, List.take_zero]
      rw [cmpTo_cons, if_neg h]
      simp [firstC, h]

/-! ### the order of a valid text -/
theorem rank_same {l : List ByteArray} {x y : ByteArray} (hy : hasS l y = true) (h : rankS l x = rankS l y) : x = y := by
  induction l with
  | nil => simp [hasS] at hy
  | cons z l ih =>
    simp only [rankS] at h
    by_cases h1 : eqS z y = true
    · rw [if_pos h1] at h
      by_cases h2 : eqS z x = true
      · rw [← (eqS_iff z x).1 h2, ← (eqS_iff z y).1 h1]
      · rw [if_neg h2] at h; omega
    · rw [if_neg h1] at h
      by_cases h2 : eqS z x = true
      · rw [if_pos h2] at h; omega
      · rw [if_neg h2] at h
        refine ih ?_ (by omega)
        simp only [hasS, List.any_cons, Bool.or_eq_true] at hy
        rcases hy with hy | hy
        · exact absurd hy h1
        · exact hy

def inGrp (c : Cl) (x : Seat) : Bool := eqS c.among noS || eqS x.g.rank c.among
theorem ordC_grp (c : Cl) (a b : Seat) : ordC c a.g a.i b.g b.i = if inGrp c a && inGrp c b then plainC c a.g a.i b.g b.i else 0 := by
  unfold ordC inGrp
  cases eqS c.among noS <;> cases eqS a.g.rank c.among <;> cases eqS b.g.rank c.among <;> rfl

theorem cmpTo_wc {l : List Cl} (h : validB l = true) : ∀ n, n ≤ l.length → WC (cmpTo (l.take n)) := by
  have hv := (valid_iff l).1 h
  intro n
  induction n with
  | zero =>
    intro _
    have : cmpTo (l.take 0) = fun _ _ : Seat => 0 := by funext a b; rfl
    rw [this]; exact WC.zero
  | succ n ih =>
    intro hn
    have hw := ih (by omega)
    have hc := one_formed (hv.2 n (by omega))
    have e : cmpTo (l.take (n + 1)) = fun a b => if cmpTo (l.take n) a b = 0 then (if inGrp l[n] a && inGrp l[n] b then plainC l[n] a.g a.i b.g b.i else 0) else cmpTo (l.take n) a b := by
      funext a b
      have : l.take (n + 1) = l.take n ++ [l[n]] := by rw [List.take_add_one, List.getElem?_eq_getElem (by omega)]; rfl
      rw [this, cmpTo_snoc, ordC_grp]
    rw [e]
    refine hw.lexp (plain_wc l[n]) fun a b h0 => ?_
    unfold inGrp
    rcases hc.2 with h1 | h1
    · rw [h1]; rfl
    · unfold amongB at h1
      rw [List.any_eq_true] at h1
      obtain ⟨d, hd, hd2⟩ := h1
      simp only [Bool.and_eq_true, decide_eq_true_eq] at hd2
      have hz := firstC_zero h0 d hd
      have hdf : formedB d = true := by
        obtain ⟨m, hm, rfl⟩ := List.getElem_of_mem hd
        rw [List.length_take] at hm
        have e2 : (l.take n)[m]'(by rw [List.length_take]; omega) = l[m]'(by omega) := by simp
        rw [e2]
        exact (one_formed (hv.2 m (by omega))).1
      have hda : eqS d.among noS = true := by
        unfold formedB at hdf
        rw [if_pos hd2.1] at hdf
        simp only [Bool.and_eq_true] at hdf
        exact hdf.2
      rw [ordC_grp] at hz
      simp only [inGrp, hda, Bool.true_or, Bool.and_self, if_true, plainC, hd2.1, rankC_eq] at hz
      have hr : rankS d.names a.g.rank = rankS d.names b.g.rank := by
        unfold cmpI at hz
        split at hz; · cases hz
        split at hz; · cases hz
        omega
      congr 1
      rw [Bool.eq_iff_iff, eqS_iff, eqS_iff]
      constructor
      · intro ha
        exact rank_same hd2.2 (by rw [← hr, ha])
      · intro hb
        exact rank_same hd2.2 (by rw [hr, hb])
end Go.Ev

namespace Go.Ev
open Go.Proofs

theorem ia_arr {t e : TypeId} {a b : Nat} {c : Bool} {n : Nat} {z : Value} {r : TyRow} (h : oT.ty t = some ⟨.arr n e, a, b, c, z⟩) (hr : oT.ty e = some r) (i : Int) (x o : Nat) (h0 : 0 ≤ i) (h1 : i < n) :
    evIndexAddr oT t (.pointer (some ⟨x, o, none⟩)) (.int .i64 i) = some (.pointer (some ⟨x, o + i.toNat * r.size, none⟩)) := by
  simp [evIndexAddr, h, hr, inRange_of h0 h1]
section
variable (i : Int) (x o : Nat)
theorem ia78 (h0 : 0 ≤ i) (h1 : i < 3) : evIndexAddr oT 78 (.pointer (some ⟨x, o, none⟩)) (.int .i64 i) = some (.pointer (some ⟨x, o + i.toNat * 9, none⟩)) := ia_arr ty78 ty77 i x o h0 h1
theorem ia79 (h0 : 0 ≤ i) (h1 : i < 3) : evIndexAddr oT 79 (.pointer (some ⟨x, o, none⟩)) (.int .i64 i) = some (.pointer (some ⟨x, o + i.toNat, none⟩)) := by rw [ia_arr ty79 ty3 i x o h0 h1]; simp
theorem ia82 (h0 : 0 ≤ i) (h1 : i < 3) : evIndexAddr oT 82 (.pointer (some ⟨x, o, none⟩)) (.int .i64 i) = some (.pointer (some ⟨x, o + i.toNat * 3, none⟩)) := ia_arr ty82 ty79 i x o h0 h1
end

/-- A row of nine numbers of the call's own. -/
def Nine (s : St) (N : Nat) (ns : List Int) : Prop := ∃ e, hget s.heap N = some (.cells ⟨ns.map (Value.int .i64)⟩ e)
theorem Nine.at_ {s : St} {N : Nat} {ns : List Int} (h : Nine s N ns) {k : Nat} (hk : k < ns.length) : cellAt s.heap N k = some (.int .i64 ns[k]) := by
  obtain ⟨e, h⟩ := h
  simp only [cellAt, h]
  refine getC_of ?_ rfl
  rw [List.getElem?_map, List.getElem?_eq_getElem hk]
  rfl
theorem setN_one : ∀ (c : List Value) (k : Nat) (v : Value), k < c.length → oneC v = true → setN c k [v] = some (c.set k v) := by
  intro c
  induction c with
  | nil => intro k v h; simp at h
  | cons a c ih =>
    intro k v h hv
    cases k with
    | zero => simp [setN, overN, hv]
    | succ k => simp only [setN, ih k v (by simpa using h) hv, List.set_cons_succ]
theorem store3 {s : St} {N : Nat} {ns : List Int} (h : Nine s N ns) {k : Nat} (hk : k < ns.length) (x : Int) :
    ∃ o, evStoreU oT s 3 (.pointer (some ⟨N, k, none⟩)) (.int .i64 x) = some (undef, s.put N o) ∧ Nine (s.put N o) N (ns.set k x) := by
  obtain ⟨e, h⟩ := h
  have h1 : setN (ns.map (Value.int .i64)) k (cellsL (.int .i64 x)) = some ((ns.set k x).map (Value.int .i64)) := by
    show setN (ns.map (Value.int .i64)) k [.int .i64 x] = _
    rw [setN_one _ _ _ (by simpa using hk) rfl, List.map_set]
  refine ⟨.cells ⟨(ns.set k x).map (Value.int .i64)⟩ e, ?_, e, ?_⟩
  · simp only [evStoreU, evStore, hopen_of h, ty3, h1]
    rfl
  · rw [hget_put _ _ _ h]; simp

def and63 (a : Int) : Int := IntKind.i64.wrap ((BitVec.ofInt 64 a &&& BitVec.ofInt 64 63).toNat : Int)
theorem and63_in (a : Int) : inB (and63 a) = true := by
  have h : (BitVec.ofInt 64 a &&& BitVec.ofInt 64 63).toNat ≤ 63 := by
    rw [BitVec.toNat_and]
    exact Nat.and_le_right
  unfold and63 inB
  rw [i64_wrap _ (by omega)]
  simp only [decide_eq_true_eq]
  omega

/-! ### what three guests at three places are told -/
structure Three3 where
  g : Nat → Gu
  p : Nat → Int
def Three3.seat (t : Three3) (i : Nat) : Seat := ⟨t.g i, and63 (t.p i), and63_in _⟩
def Three3.o (t : Three3) (l : List Cl) (i k : Nat) : Int := cmpTo l (t.seat i) (t.seat k)
def Three3.fill (t : Three3) (l : List Cl) (m : Nat) : List Int := (List.range 9).map fun j => if j < m then t.o l (j / 3) (j % 3) else 0
theorem fill_len (t : Three3) (l : List Cl) (m : Nat) : (t.fill l m).length = 9 := by simp [Three3.fill]
theorem fill_set (t : Three3) (l : List Cl) {m : Nat} (hm : m < 9) : (t.fill l m).set m (t.o l (m / 3) (m % 3)) = t.fill l (m + 1) := by
  apply List.ext_getElem
  · simp [fill_len]
  · intro j h1 h2
    rw [List.getElem_set]
    simp only [Three3.fill, List.getElem_map, List.getElem_range]
    by_cases hj : m = j
    · subst hj; simp
    · rw [if_neg hj]
      by_cases h3 : j < m
      · rw [if_pos h3, if_pos (by omega)]
      · rw [if_neg h3, if_neg (by omega)]
theorem fill_get (t : Three3) (l : List Cl) {i k : Nat} (hi : i < 3) (hk : k < 3) : (t.fill l 9)[i * 3 + k]'(by rw [fill_len]; omega) = t.o l i k := by
  simp only [Three3.fill, List.getElem_map, List.getElem_range]
  rw [if_pos (by omega)]
  congr 1 <;> omega

section
variable {st s2 : St} {v : Value} {l : List Cl} {t : Three3} {pg pp N : Nat}

/-- What is so at the head of each loop. -/
structure Hd (s2 : St) (N : Nat) (ns : List Int) (s : St) : Prop where
  live : Live s
  keeps : Keeps s2 s
  nine : Nine s N ns

theorem min2 (a b : Int) : evMinL [.int .i64 a, .int .i64 b] = some (.int .i64 (min a b)) := by
  simp only [evMinL, evMin]
  by_cases h : b < a
  · simp [h]; omega
  · simp [h]; omega

theorem last_loops (hk2 : Keeps st s2) (hv : validB l = true) {s : St} (h : Hd s2 N (t.fill l 9) s) :
    Lp (L6_4 (.pointer (some ⟨N, 0, none⟩)) (fun u s => u = .bool true ∧ Keeps st s)) [.int .i64 0] s := by
  have hw : WC (cmpTo l) := by
    have := cmpTo_wc hv l.length (Nat.le_refl _)
    rwa [List.take_length] at this
  have at_ : ∀ s, Hd s2 N (t.fill l 9) s → ∀ i k : Nat, i < 3 → k < 3 → cellAt s.heap N (i * 3 + k) = some (.int .i64 (t.o l i k)) := fun s h i k hi hk => by
    have := h.nine.at_ (k := i * 3 + k) (by rw [fill_len]; omega)
    rw [this, fill_get t l hi hk]
  refine Lp.ind (fun n xs s' => ∃ i : Nat, i + n = 3 ∧ xs = [.int .i64 i] ∧ Hd s2 N (t.fill l 9) s') ?_ 3 ⟨0, by omega, rfl, h⟩
  rintro n _ s ⟨i, hi, rfl, h⟩
  simp only [L6_4, bin_lss, nth_0, B_some, If_bool, decide_eq_true_eq, decide_eq_false_iff_not]
  refine ⟨fun hlt => ?_, fun _ => ⟨trivial, hk2.trans h.keeps⟩⟩
  refine Lp.ind (fun n xs s' => ∃ k : Nat, k + n = 3 ∧ xs = [.int .i64 k] ∧ Hd s2 N (t.fill l 9) s') ?_ 3 ⟨0, by omega, rfl, h⟩
  rintro n2 _ s ⟨k, hk, rfl, h⟩
  simp only [L6_6, bin_lss, nth_0, B_some, If_bool, decide_eq_true_eq, decide_eq_false_iff_not]
  refine ⟨fun hlt2 => ?_, fun _ => ?_⟩
  · have ha : t.o l k i = -t.o l i k := hw.anti _ _
    have h3 := hw.three (t.seat i) (t.seat k)
    have h3' : Three (t.o l i k) := h3
    have hwr : IntKind.i64.wrap (-t.o l k i) = t.o l i k := by
      unfold Three at h3'
      rw [ha, i64_wrap _ (by omega)]; omega
    simp [ia82, ia79, show (i : Int) < 3 from hlt, show (k : Int) < 3 from hlt2, at_ s h i k (by omega) (by omega), at_ s h k i (by omega) (by omega), hwr]
    refine Lp.ind (fun n xs s' => ∃ m : Nat, m + n = 3 ∧ xs = [.int .i64 m] ∧ Hd s2 N (t.fill l 9) s') ?_ 3 ⟨0, by omega, rfl, h⟩
    rintro n3 _ s ⟨m, hm, rfl, h⟩
    simp only [L6_8, bin_lss, nth_0, B_some, If_bool, decide_eq_true_eq, decide_eq_false_iff_not]
    refine ⟨fun hlt3 => ?_, fun _ => ?_⟩
    · have ht := hw.trans (t.seat i) (t.seat k) (t.seat m)
      have ht' : t.o l i k ≤ 0 → t.o l k m ≤ 0 → t.o l i m = min (t.o l i k) (t.o l k m) := ht
      by_cases c1 : t.o l i k ≤ 0
      · by_cases c2 : t.o l k m ≤ 0
        · have e := ht' c1 c2
          simp [ia82, ia79, show (i : Int) < 3 from hlt, show (k : Int) < 3 from hlt2, show (m : Int) < 3 from hlt3, at_ s h i k (by omega) (by omega), at_ s h k m (by omega) (by omega), at_ s h i m (by omega) (by omega), c1, c2, min2, e]
          exact ⟨n3 - 1, by omega, m + 1, by omega, by rw [i64_wrap _ (by omega)]; simp, h⟩
        · simp [ia82, ia79, show (i : Int) < 3 from hlt, show (k : Int) < 3 from hlt2, show (m : Int) < 3 from hlt3, at_ s h i k (by omega) (by omega), at_ s h k m (by omega) (by omega), c1, c2]
          exact ⟨n3 - 1, by omega, m + 1, by omega, by rw [i64_wrap _ (by omega)]; simp, h⟩
      · simp [ia82, ia79, show (i : Int) < 3 from hlt, show (k : Int) < 3 from hlt2, at_ s h i k (by omega) (by omega), c1]
        exact ⟨n3 - 1, by omega, m + 1, by omega, by rw [i64_wrap _ (by omega)]; simp, h⟩
    · rw [bin_add, B_some]
      exact ⟨n2 - 1, by omega, k + 1, by omega, by rw [i64_wrap _ (by omega)]; simp, h⟩
  · rw [bin_add, B_some]
    exact ⟨n - 1, by omega, i + 1, by omega, by rw [i64_wrap _ (by omega)]; simp, h⟩
end
end Go.Ev

namespace Go.Ev
open Go.Proofs

theorem bin_and63 (T : Tab) (t : TypeId) (a : Int) : evBin T .and t (.int .i64 a) (.int .i64 63) = some (.int .i64 (and63 a)) := by rw [bin_and]; rfl

section
variable {st s2 : St} {v : Value} {l : List Cl} {t : Three3} {pg pp N : Nat}

/-- What the law's loops find in memory. -/
structure Found (h : Heap) (v : Value) (l : List Cl) (t : Three3) (pg pp : Nat) : Prop where
  cls : Cls h v l
  gu : ∀ i, i < 3 → ∃ tv, cellsN h pg (i * 9) 9 = some (guV (t.g i) tv) ∧ Strs h tv (t.g i).tongues
  pl : ∀ i, i < 3 → cellAt h pp i = some (.int .i64 (t.p i))
theorem Found.keeps {a s : St} (k : Keeps a s) (h : Found a.heap v l t pg pp) : Found s.heap v l t pg pp :=
  ⟨h.cls.keeps k, fun i hi => let ⟨tv, q1, q2⟩ := h.gu i hi; ⟨tv, k.cells q1, q2.keeps k⟩, fun i hi => k.cell (h.pl i hi)⟩

theorem first_loops (hl2 : Live s2) (hk2 : Keeps st s2) (hv : validB l = true) (hok : ∀ c ∈ l, c.ok) (hlen : l.length ≤ 40) (hf : Found s2.heap v l t pg pp) (hN : s2.nxt ≤ N) {s : St} (h : Hd s2 N (t.fill l 0) s) :
    Lp (L6_0 v (.pointer (some ⟨pg, 0, none⟩)) (.pointer (some ⟨pp, 0, none⟩)) (.pointer (some ⟨N, 0, none⟩)) (fun u s => u = .bool true ∧ Keeps st s)) [.int .i64 0] s := by
  have hvi := (valid_iff l).1 hv
  have hformed : ∀ c ∈ l, formedB c = true := fun c hc => by
    obtain ⟨j, hj, rfl⟩ := List.getElem_of_mem hc
    exact (one_formed (hvi.2 j hj)).1
  refine Lp.ind (fun n xs s' => ∃ i : Nat, i + n = 3 ∧ xs = [.int .i64 i] ∧ Hd s2 N (t.fill l (i * 3)) s') ?_ 3 ⟨0, by omega, rfl, h⟩
  rintro n _ s ⟨i, hi, rfl, h⟩
  simp only [L6_0, bin_lss, nth_0, B_some, If_bool, decide_eq_true_eq, decide_eq_false_iff_not]
  refine ⟨fun hlt => ?_, fun hge => ?_⟩
  · refine Lp.ind (fun n xs s' => ∃ k : Nat, k + n = 3 ∧ xs = [.int .i64 k] ∧ Hd s2 N (t.fill l (i * 3 + k)) s') ?_ 3 ⟨0, by omega, rfl, h⟩
    rintro n2 _ s ⟨k, hk, rfl, h⟩
    simp only [L6_2, bin_lss, nth_0, B_some, If_bool, decide_eq_true_eq, decide_eq_false_iff_not]
    refine ⟨fun hlt2 => ?_, fun _ => ?_⟩
    · have hfs := hf.keeps h.keeps
      obtain ⟨tv, g1, g2⟩ := hfs.gu i (by omega)
      obtain ⟨uv, g3, g4⟩ := hfs.gu k (by omega)
      have p1 := hfs.pl i (by omega)
      have p2 := hfs.pl k (by omega)
      have li : (i : Int) < 3 := hlt
      have lk : (k : Int) < 3 := hlt2
      have v1 : ∀ m, GuV (s.upto m).heap (guV (t.g i) tv) (t.g i) := fun m => ⟨tv, rfl, g2⟩
      have v2 : ∀ m, GuV (s.upto m).heap (guV (t.g k) uv) (t.g k) := fun m => ⟨uv, rfl, g4⟩
      have fin : ∀ m, s.nxt ≤ m → ∃ n', n' < n2 ∧ ∃ k', k' + n' = 3 ∧ [Value.int .i64 (k + 1)] = [Value.int .i64 k'] ∧ ∀ o, Nine ((s.upto m).put N o) N ((t.fill l (i * 3 + k)).set (i * 3 + k) (t.o l i k)) → Hd s2 N (t.fill l (i * 3 + k')) ((s.upto m).put N o) := fun m hm => by
        refine ⟨n2 - 1, by omega, k + 1, by omega, by simp, fun o ho => ?_⟩
        obtain ⟨e, hn⟩ := h.nine
        refine ⟨(h.live.upto hm).put (o0 := .cells _ e) hn o, (h.keeps.upto hm).put hl2 hN o, ?_⟩
        have hs := fill_set t l (m := i * 3 + k) (by omega)
        rw [show (i * 3 + k) / 3 = i by omega, show (i * 3 + k) % 3 = k by omega] at hs
        rw [hs] at ho
        exact ho
      have nine : ∀ m, Nine (s.upto m) N (t.fill l (i * 3 + k)) := fun m => h.nine
      simp [-bin_and, bin_and63, ia79, ia78, li, lk, p1, p2, g1, g3]
      refine (creason_q (st := s) hfs.cls hok (by omega) (v1 s.nxt) (v2 s.nxt) _ _).Q fun m1 hm1 => ?_
      have hF : creasonR l (t.g i) (t.g k) (and63 (t.p i)) (and63 (t.p k)) = firstC l (t.g i) (and63 (t.p i)) (t.g k) (and63 (t.p k)) 0 := by simp [creasonR, hv]
      rw [hF]
      simp [two, g1, g3]
      refine (reason_q (st := s.upto m1) hfs.cls (v1 m1) (v2 m1) _ _).Q fun m2 hm2 => ?_
      simp only [upto_nxt] at hm2
      rw [reason_first hformed]
      simp [two, ia78, li, lk, g1, g3]
      refine (compare_q (st := s.upto m2) hfs.cls hok (by omega) (v1 m2) (v2 m2) _ _).Q fun m3 hm3 => ?_
      simp only [upto_nxt] at hm3
      rw [hF]
      have hfacts := first_facts l (t.seat i) (t.seat k)
      simp only [Three3.seat] at hfacts
      have ho : t.o l i k = (firstC l (t.g i) (and63 (t.p i)) (t.g k) (and63 (t.p k)) 0).2 := rfl
      generalize firstC l (t.g i) (and63 (t.p i)) (t.g k) (and63 (t.p k)) 0 = F at hfacts ho
      obtain ⟨F1, F2⟩ := F
      simp only at hfacts ho
      rcases hfacts with ⟨f1, f2⟩ | ⟨q, hq, f1, f2, f3, f4⟩
      · subst f1 f2
        obtain ⟨o, w1, w2⟩ := store3 (nine m3) (k := i * 3 + k) (by rw [fill_len]; omega) 0
        rw [ho] at fin
        obtain ⟨n', a1, k', a2, a3, a4⟩ := fin m3 (by omega)
        simp [hfs.cls.len, ia82, ia79, li, lk, w1]
        rw [i64_wrap _ (by omega)]
        refine ⟨by omega, fun _ => ⟨n', a1, k', a2, by simpa using a3, a4 o w2⟩⟩
      · subst f1
        obtain ⟨u1, x1, x2⟩ := hfs.cls.take (k := q) (by omega)
        obtain ⟨u2, y1, y2⟩ := hfs.cls.take (k := q + 1) (by omega)
        have y1' : evSlice oT 74 v none (some (.int .i64 (↑q + 1))) none = some u2 := by simpa using y1
        have hqw : IntKind.i64.wrap ((q : Int) + 1) = ↑q + 1 := i64_wrap _ (by omega)
        have n0 : ¬ ((q : Int) < 0) := by omega
        have n1 : ¬ (l.length ≤ q) := by omega
        simp [hfs.cls.len, f2, n0, n1, x1, ia78, li, lk, g1, g3]
        have hok2 : ∀ n, ∀ c ∈ l.take n, c.ok := fun n c hc => hok c (List.mem_of_mem_take hc)
        have hle : ∀ n, (l.take n).length ≤ 65535 := fun n => by rw [List.length_take]; omega
        have hF2 : ∀ n, (creasonR (l.take n) (t.g i) (t.g k) (and63 (t.p i)) (and63 (t.p k))).2 = cmpTo (l.take n) (t.seat i) (t.seat k) := fun n => by
          simp only [creasonR, valid_take hv n, if_true]; rfl
        refine (compare_q (st := s.upto m3) x2 (hok2 q) (hle q) (v1 m3) (v2 m3) _ _).Q fun m4 hm4 => ?_
        simp only [upto_nxt] at hm4
        rw [hF2 q, show cmpTo (l.take q) (t.seat i) (t.seat k) = 0 from f3]
        simp [hqw, y1', ia78, li, lk, g1, g3]
        refine (compare_q (st := s.upto m4) y2 (hok2 (q + 1)) (hle (q + 1)) (v1 m4) (v2 m4) _ _).Q fun m5 hm5 => ?_
        simp only [upto_nxt] at hm5
        rw [hF2 (q + 1), show cmpTo (l.take (q + 1)) (t.seat i) (t.seat k) = F2 from f4]
        obtain ⟨o, w1, w2⟩ := store3 (nine m5) (k := i * 3 + k) (by rw [fill_len]; omega) F2
        rw [ho] at fin
        obtain ⟨n', a1, k', a2, a3, a4⟩ := fin m5 (by omega)
        simp [ia82, ia79, li, lk, w1]
        rw [i64_wrap _ (by omega)]
        exact ⟨n', a1, k', a2, by simpa using a3, a4 o w2⟩
    · rw [bin_add, B_some]
      refine ⟨n - 1, by omega, i + 1, by omega, by rw [i64_wrap _ (by omega)]; simp, ?_⟩
      have : k = 3 := by omega
      subst this
      rw [show (i + 1) * 3 = i * 3 + 3 by omega]
      exact h
  · have : i = 3 := by omega
    subst this
    exact last_loops hk2 hv h
end

/-- slice of an array -/
theorem sl78 (b o : Nat) : evSlice oT 78 (.pointer (some ⟨b, o, none⟩)) none none none = some (.slice (some ⟨b, o, none⟩) 3 3) := by simp [evSlice, ty78]

theorem few_ok {l : List Cl} (h : fewB l = true) : l.length ≤ 40 ∧ ∀ c ∈ l, c.ok := by
  simp only [fewB, Bool.and_eq_true, decide_eq_true_eq, Bool.not_eq_true'] at h
  refine ⟨by omega, fun c hc => ?_⟩
  have := List.any_eq_false.1 h.2 c hc
  simp only [bigC, Bool.or_eq_true, decide_eq_true_eq, not_or, Bool.not_eq_true, List.any_eq_false] at this
  obtain ⟨⟨h1, h2⟩, h3⟩ := this
  exact ⟨by omega, fun s hs => by have := h3 s hs; omega⟩

theorem loadN_part : ∀ (a b c : List Value), noHole b = true → loadN (a ++ b ++ c) a.length b.length = some b := by
  intro a b c hb
  unfold loadN
  rw [dropN_eq, List.append_assoc, List.drop_left]
  induction b with
  | nil => rfl
  | cons x b ih =>
    simp only [noHole] at hb
    cases hx : isHole x with
    | true => simp [hx] at hb
    | false =>
      simp only [hx, cond_false] at hb
      simp only [List.length_cons, List.cons_append, takeN, ih hb, hx, cond_false]

/-- The law of orders: what the function computes is true, and memory is kept. -/
theorem orders_core {st : St} (hl : Live st) {v : Value} {l : List Cl} (h8 : ∀ s, Quiet 8 [] s (.bool true)) (hc : Cls st.heap v l) (t : Three3) (tv : Nat → Value) (ht : ∀ i, i < 3 → Strs st.heap (tv i) (t.g i).tongues) :
    R6 v (.agg ⟨guL (t.g 0) (tv 0) ++ (guL (t.g 1) (tv 1) ++ guL (t.g 2) (tv 2))⟩) (.agg ⟨[.int .i64 (t.p 0), .int .i64 (t.p 1), .int .i64 (t.p 2)]⟩) st (fun u s => u = .bool true ∧ Keeps st s) := by
  refine box_rule hl (by simp only [List.all_append, guL_one (ht 0 (by omega)).one, guL_one (ht 1 (by omega)).one, guL_one (ht 2 (by omega)).one]; rfl) fun s1 pg l1 k1 hg => ?_
  refine box_rule l1 (by rfl) fun s2 pp l2 k2 hp => ?_
  have k := k1.trans k2
  have hg2 := k2.cells hg
  have hcc : ∀ n, n ≤ 9 → True := fun _ _ => trivial
  have found : Found s2.heap v l t pg pp := by
    refine ⟨hc.keeps k, fun i hi => ⟨tv i, ?_, (ht i hi).keeps k⟩, fun i hi => ?_⟩
    · obtain ⟨c, e, f, hcell, hload⟩ : ∃ c e f, hget s2.heap pg = some (.cells c e f) ∧ loadN c.toList 0 27 = some (guL (t.g 0) (tv 0) ++ (guL (t.g 1) (tv 1) ++ guL (t.g 2) (tv 2))) := by
        unfold cellsN at hg2
        split at hg2
        · rename_i c e f hcell
          split at hg2
          · rename_i l' hl'
            simp only [Option.some.injEq, Value.agg.injEq, Array.mk.injEq] at hg2
            subst hg2
            exact ⟨c, e, f, hcell, hl'⟩
          · cases hg2
        · cases hg2
      have hpre : ∃ r, c.toList = guL (t.g 0) (tv 0) ++ (guL (t.g 1) (tv 1) ++ guL (t.g 2) (tv 2)) ++ r := by
        obtain ⟨q1, q2⟩ := loadN_eq hload
        refine ⟨c.toList.drop 27, ?_⟩
        rw [q1]; simp
      obtain ⟨r, hr⟩ := hpre
      have len9 : ∀ (g : Gu) (u : Value), (guL g u).length = 9 := fun _ _ => rfl
      have key : loadN c.toList (i * 9) 9 = some (guL (t.g i) (tv i)) := by
        match i, hi with
        | 0, _ =>
          have := loadN_part [] (guL (t.g 0) (tv 0)) (guL (t.g 1) (tv 1) ++ guL (t.g 2) (tv 2) ++ r) (noHole_one (guL_one (ht 0 (by omega)).one))
          rw [hr]
          simpa [len9] using this
        | 1, _ =>
          have := loadN_part (guL (t.g 0) (tv 0)) (guL (t.g 1) (tv 1)) (guL (t.g 2) (tv 2) ++ r) (noHole_one (guL_one (ht 1 (by omega)).one))
          rw [hr]
          simpa [len9] using this
        | 2, _ =>
          have := loadN_part (guL (t.g 0) (tv 0) ++ guL (t.g 1) (tv 1)) (guL (t.g 2) (tv 2)) r (noHole_one (guL_one (ht 2 (by omega)).one))
          rw [hr]
          simpa [len9] using this
      simp only [cellsN, hcell, key]
      rfl
    · have := cellAt_cellsN hp i (show i < 3 from hi)
      rw [Nat.zero_add] at this
      rw [this]
      match i, hi with
      | 0, _ => rfl
      | 1, _ => rfl
      | 2, _ => rfl
  have say : ∀ m, s2.nxt ≤ m → CallP Tryz.prog 8 [] (s2.upto m) fun v15 s7 => v15 = Value.bool true ∧ Keeps st s7 := fun m hm =>
    (h8 (s2.upto m)).P fun m2 hm2 => ⟨rfl, k.upto (Nat.le_trans hm hm2)⟩
  have gus : Gus s2.heap (.slice (some ⟨pg, 0, none⟩) 3 3) [t.g 0, t.g 1, t.g 2] := by
    refine ⟨by simp, pg, 0, 3, rfl, fun j hj => ?_⟩
    have hj3 : j < 3 := hj
    obtain ⟨u, q1, q2⟩ := found.gu j hj3
    have e : [t.g 0, t.g 1, t.g 2][j] = t.g j := by
      match j, hj3 with
      | 0, _ => rfl
      | 1, _ => rfl
      | 2, _ => rfl
    rw [e]
    exact ⟨u, by rw [Nat.zero_add]; exact GuC.of q1, q2⟩
  refine (few_q found.cls).P fun m1 hm1 => ?_
  cases hfew : fewB l
  · simp
    exact say m1 hm1
  simp [sl78]
  refine (fewG_q (st := s2.upto m1) gus 3).P fun m2 hm2 => ?_
  simp only [upto_nxt] at hm2
  cases hfg : fewGB [t.g 0, t.g 1, t.g 2] 3
  · simp
    exact say m2 (by omega)
  simp
  refine (valid_q (st := s2.upto m2) found.cls).P fun m3 hm3 => ?_
  simp only [upto_nxt] at hm3
  cases hv : validB l
  · simp
    exact say m3 (by omega)
  simp
  refine (h8 (s2.upto m3)).P fun m4 hm4 => ?_
  simp only [upto_nxt] at hm4
  simp
  obtain ⟨hlen, hok⟩ := few_ok hfew
  simp only [evNew, ty82]
  rw [box_agg _ _ _ (by rfl), B2_some]
  refine first_loops (s2 := s2) l2 k hv hok hlen found (show s2.nxt ≤ m4 by omega) ⟨(l2.upto (by omega)).push _, (((Keeps.refl s2).upto (show s2.nxt ≤ m4 by omega)).push l2 _), 82, ?_⟩
  simp only [upto_nxt, St.push, hget_cons, if_true]
  rfl

theorem orders_law {st : St} {v : Value} {l : List Cl} (h8 : ∀ s, Quiet 8 [] s (.bool true)) (hc : Cls st.heap v l) (t : Three3) (tv : Nat → Value) (ht : ∀ i, i < 3 → Strs st.heap (tv i) (t.g i).tongues) :
    Quiet 6 [v, .agg ⟨guL (t.g 0) (tv 0) ++ (guL (t.g 1) (tv 1) ++ guL (t.g 2) (tv 2))⟩, .agg ⟨[.int .i64 (t.p 0), .int .i64 (t.p 1), .int .i64 (t.p 2)]⟩] st (.bool true) := Quiet.of fun hl => r6 (orders_core hl h8 hc t tv ht)
end Go.Ev
