/- The evaluator: builtins, frames, calls, regions in the order of the text; regions whose order is open. -/
import Derived.Test.YtpaeganfehemnaaGreatEva
import Derived.Orders

/- The evaluator: the law of all operations that touch memory. -/
namespace Go.Ev

section
variable {P : Program} {T : Tab} {E : Env} {w : World}

theorem Fresh.one {n hi : Nat} (h : ∀ id, n ≤ id → id < hi → E id = none) (hlt : n < hi) : E n = none := h n (Nat.le_refl _) hlt

theorem clear_ok (hT : TabOk P T) {st st' : St} {ts : Array TypeId} {ty : TypeId} {x x' v : Value} {t : TypeId} (ht : ts[0]? = some t)
    (h : evBuiltin T st .clear [t] [x] = some (.val v st')) (hx : VR E x x') (hs : Sim E (hget st.heap) w) :
    ∃ w', (Builtin.clear_ ts ty #[x']).run P w = .ok v w' ∧ VR E v v ∧ Out E (hget st.heap) st.nxt w E (hget st'.heap) st'.nxt w' := by
  simp only [evBuiltin] at h
  split at h
  · rename_i k e _ _ _ _ r hr
    obtain ⟨d, hd, _, hdd⟩ := (hT.ty _ _ hr).und
    subst hdd
    split at h
    case h_2 => cases h
    rename_i es clock hm
    injection h with h
    injection h with h1 h2
    subst h1 h2
    cases hx with
    | @map _ p he hs0 =>
      obtain ⟨es', q1, _, q3⟩ := hs.mapAt hm he
      have hg := run_getObj (P := P) q1 (by intro c e f h; cases h)
      have hso : ∀ o', (setObj p.b o').run P w = .ok () { w with heap := w.heap.setIfInBounds p.b o' } := fun o' => run_setObj q1 (by intro c e f h; cases h)
      refine ⟨{ w with heap := w.heap.setIfInBounds p.b (.map #[] clock) }, ?_, .tuple' (VL.nil E), Out.put (O' := .map #[] clock) hs hm he (.map hs0 ⟨rfl, fun i e e' q => by simp at q⟩) (hget_put st r _ hm) (setObj_at q1) (fun b hb => setObj_ne hb) (by simp) rfl rfl rfl⟩
      simp [Builtin.clear_, ht, run_underlying hd, hg, hso]
  · rename_i e _ _ _ _ a c hr
    obtain ⟨d, hd, _, hdd⟩ := (hT.ty _ _ hr).und
    subst hdd
    injection h with h
    injection h with h1 h2
    subst h1 h2
    obtain ⟨b', c', rfl⟩ := slice_shape hx
    refine ⟨w, ?_, .tuple' (VL.nil E), Out.refl hs⟩
    cases b' <;> simp [Builtin.clear_, ht, run_underlying hd]
  · rename_i e _ _ _ _ _ id off tag n c hr
    obtain ⟨d, hd, _, hdd⟩ := (hT.ty _ _ hr).und
    subst hdd
    split at h
    case h_2 => cases h
    rename_i r cc e' f hre hc
    obtain ⟨hc, rfl⟩ := hopen_spec hc
    have hte := hT.ty _ _ hre
    obtain ⟨ie, hie, hsz, _, hz⟩ := hte.info
    split at h
    case h_2 => cases h
    rename_i l hset
    injection h with h
    injection h with h1 h2
    subst h1 h2
    have hzc : r.zv.cells.size = r.size := by have := hte.zl; rw [cellsL_eq] at this; simpa using this
    have hz0 := zeros_ok (E := E) hte.zv hte.zl (n + 1)
    have main : ∀ (p : Pl) (c' : Nat), E id = some p → ∃ w', (Builtin.clear_ ts ty #[.slice (some ⟨p.b, p.s + off, none⟩) (n + 1) c']).run P w = .ok (.tuple #[]) w' ∧ VR E (.tuple #[]) (.tuple #[]) ∧
        Out E (hget st.heap) st.nxt w E (hget (st.put id (.cells ⟨l⟩ e')).heap) st.nxt w' := by
      intro p c' hp
      obtain ⟨w', hst, hout⟩ := storeCells_ok (P := P) (n := st.nxt) hs hc hp hset hz0 (h' := hget (st.put id (.cells ⟨l⟩ e')).heap) (hget_put st id _ hc)
      refine ⟨w', ?_, .tuple' (VL.nil E), hout⟩
      have hzz : Builtin.zeroCells r.zv.cells (n + 1) = madeCells r.zv.cells ((n + 1) * r.size) := by unfold Builtin.zeroCells madeCells; rw [hzc]
      simp [Builtin.clear_, ht, run_underlying hd, run_zeroValue hie hz, hzz, hst]
    cases hx with
    | sl _ _ he => exact main _ _ he
    | slIn _ _ _ he _ _ => exact main _ _ he
  · cases h

theorem builtin_ok (hT : TabOk P T) {st : St} {b : Builtin} {ts : Array TypeId} {ty : TypeId} {cs : Array Bool} {args : List Value} {args' : Array Value} {x : NextA}
    (h : evBuiltin T st b ts.toList args = some x) (ha : VL E args args'.toList) (hs : Sim E (hget st.heap) w) (hl : Live st) (hE : ∀ id, st.nxt ≤ id → id < (stOf x).nxt → E id = none) :
    ∃ E' w' y, (builtin b ts ty cs args').run P w = .ok y w' ∧ NextR E' x y ∧ Out E (hget st.heap) st.nxt w E' (hget (stOf x).heap) (stOf x).nxt w' := by
  have lift : ∀ {s : Sem Value} {v' : Value} {w' : World}, s.run P w = .ok v' w' → (do pure (.value (← s)) : Sem Next).run P w = .ok (.value v') w' := by
    intro s v' w' hs
    simp [hs]
  unfold evBuiltin at h
  split at h
  · -- append
    rename_i t t' s y hts
    have hts' : ts = #[t, t'] := by apply Array.ext'; simpa using hts
    subst hts'
    obtain ⟨s', r', e1, v1, v2⟩ := ha.cons_inv
    obtain ⟨y', r'', e2, v3, v4⟩ := v2.cons_inv
    have e3 := v4.nil_inv
    subst e3 e2
    have hargs : args' = #[s', y'] := by apply Array.ext'; simpa using e1
    subst hargs
    cases hsl : isSl T t' with
    | false => simp [hsl] at h
    | true =>
      simp only [hsl, cond_true] at h
      split at h
      case h_2 => cases h
      rename_i v st' hap
      injection h with h
      subst h
      obtain ⟨E', w', v', q1, q2, q3⟩ := append_ok (P := P) (ty := ty) hT hsl hap v1 v3 hs hl hE
      exact ⟨E', w', _, lift q1, .val q2, q3⟩
  · -- copy
    rename_i t tl d s hts
    obtain ⟨d', r', e1, v1, v2⟩ := ha.cons_inv
    obtain ⟨s', r'', e2, v3, v4⟩ := v2.cons_inv
    have e3 := v4.nil_inv
    subst e3 e2
    have hargs : args' = #[d', s'] := by apply Array.ext'; simpa using e1
    subst hargs
    split at h
    case h_2 => cases h
    rename_i v st' hcp
    injection h with h
    subst h
    obtain ⟨w', q1, q2, q3⟩ := copy_ok (P := P) (t' := 0) (ty := ty) hT hcp v1 v3 hs
    have hts0 : ts[0]? = some t := by
      have : ts.toList[0]? = some t := by rw [hts]; rfl
      simpa using this
    refine ⟨E, w', _, lift ?_, .val q2, q3⟩
    rw [← q1]
    simp only [Builtin.copy_, hts0]
    rfl
  · -- len of a map
    rename_i t r hts
    have hts' : ts = #[t] := by apply Array.ext'; simpa using hts
    subst hts'
    obtain ⟨x', r', e1, v1, v2⟩ := ha.cons_inv
    have e2 := v2.nil_inv
    subst e2
    have hargs : args' = #[x'] := by apply Array.ext'; simpa using e1
    subst hargs
    split at h
    case h_2 => cases h
    rename_i k e _ _ _ _ es clock hr hm
    obtain ⟨d, hd, _, hdd⟩ := (hT.ty _ _ hr).und
    subst hdd
    injection h with h
    subst h
    cases v1 with
    | @map _ p he hs0 =>
      obtain ⟨es', q1, _, q3⟩ := hs.mapAt hm he
      have hg := run_getObj (P := P) q1 (by intro c e f h; cases h)
      refine ⟨E, w, .value (goInt es.toList.length), lift ?_, .val (.int _ _), Out.refl hs⟩
      have hlen : es'.size = es.toList.length := by rw [q3.1]; simp
      simp [Builtin.len_, run_underlying hd, hg, hlen]
  · -- len of no map
    rename_i t hts
    have hts' : ts = #[t] := by apply Array.ext'; simpa using hts
    subst hts'
    obtain ⟨x', r', e1, v1, v2⟩ := ha.cons_inv
    have e2 := v2.nil_inv
    subst e2
    have hargs : args' = #[x'] := by apply Array.ext'; simpa using e1
    subst hargs
    split at h
    case h_2 => cases h
    rename_i k e _ _ _ _ hr
    obtain ⟨d, hd, _, hdd⟩ := (hT.ty _ _ hr).und
    subst hdd
    injection h with h
    subst h
    cases v1
    refine ⟨E, w, .value (goInt 0), lift ?_, .val (.int _ _), Out.refl hs⟩
    simp [Builtin.len_, run_underlying hd]
  · -- max
    rename_i x0 l0
    obtain ⟨x', r', e1, v1, v2⟩ := ha.cons_inv
    split at h
    case h_2 => cases h
    rename_i v hmx
    injection h with h
    subst h
    obtain ⟨v', q1, q2⟩ := max_ok (P := P) (w := w) l0 r' x0 x' hmx v1 v2
    refine ⟨E, w, _, lift (s := Builtin.max_ ts ty args') ?_, .val q2, Out.refl hs⟩
    simp only [Builtin.max_, e1]
    exact q1
  · -- min
    rename_i x0 l0
    obtain ⟨x', r', e1, v1, v2⟩ := ha.cons_inv
    split at h
    case h_2 => cases h
    rename_i v hmx
    injection h with h
    subst h
    obtain ⟨v', q1, q2⟩ := min_ok (P := P) (w := w) l0 r' x0 x' hmx v1 v2
    refine ⟨E, w, _, lift (s := Builtin.min_ ts ty args') ?_, .val q2, Out.refl hs⟩
    simp only [Builtin.min_, e1]
    exact q1
  · -- clear
    rename_i t y hts
    have hts' : ts = #[t] := by apply Array.ext'; simpa using hts
    subst hts'
    obtain ⟨x', r', e1, v1, v2⟩ := ha.cons_inv
    have e2 := v2.nil_inv
    subst e2
    have hargs : args' = #[x'] := by apply Array.ext'; simpa using e1
    subst hargs
    have hv : ∃ v st', x = .val v st' := by
      split at h <;> first
        | (cases h; done)
        | (injection h with h; exact ⟨_, _, h.symm⟩)
        | (split at h <;> first | (cases h; done) | (injection h with h; exact ⟨_, _, h.symm⟩) | (split at h <;> first | (cases h; done) | (injection h with h; exact ⟨_, _, h.symm⟩)))
    obtain ⟨v, st', rfl⟩ := hv
    obtain ⟨w', q1, q2, q3⟩ := clear_ok (P := P) (ts := #[t]) (ty := ty) (t := t) (x := y) hT rfl (by simp only [evBuiltin]; exact h) v1 hs
    exact ⟨E, w', _, lift q1, .val q2, q3⟩
  · cases h

/-- THE LAW OF ALL OPERATIONS. -/
theorem op_ok (hT : TabOk P T) {ev ev' : Operand → Value} (hev : ∀ x, VR E (ev x) (ev' x)) {st : St} (o : Oper) {x : NextA} (h : evOp ev T st o.op = some x)
    (hs : Sim E (hget st.heap) w) (hl : Live st) (hE : ∀ id, st.nxt ≤ id → id < (stOf x).nxt → E id = none) (hc : ∀ f a s, x = .enter f a s → Callable P f) :
    ∃ E' w' y, (execOp ev' o).run P w = .ok y w' ∧ NextR E' x y ∧ Out E (hget st.heap) st.nxt w E' (hget (stOf x).heap) (stOf x).nxt w' := by
  have lift : ∀ {s : Sem Value} {v' : Value} {w' : World}, s.run P w = .ok v' w' → (do pure (.value (← s)) : Sem Next).run P w = .ok (.value v') w' := by
    intro s v' w' hs
    simp [hs]
  have liftU : ∀ {s : Sem Unit} {w' : World}, s.run P w = .ok () w' → (do s; pure .skip : Sem Next).run P w = .ok .skip w' := by
    intro s w' hs
    simp [hs]
  obtain ⟨dst, op, type, pos, after, guard⟩ := o
  simp only at h
  unfold evOp at h
  unfold execOp
  split at h
  · -- alloc
    rename_i t
    split at h
    case h_2 => cases h
    rename_i r hr
    have hte := hT.ty _ _ hr
    obtain ⟨i, hi, _, _, hz⟩ := hte.info
    obtain ⟨n, hn⟩ := hte.zv
    unfold evAlloc at h
    cases ha : (cellsL r.zv).all oneC with
    | false => simp [ha] at h
    | true =>
      simp only [ha, cond_true, Option.some.injEq] at h
      subst h
      obtain ⟨E', w', a', q1, q2, q3⟩ := alloc_ok (P := P) (t := t) (VR.plain (E := E) n _ hn) hs hl (Fresh.one hE (by simp [stOf, St.push]))
      refine ⟨E', w', _, lift ?_, .val q2, q3⟩
      rw [← q1]
      simp only [Instr.alloc, Sem.run_bind, run_zeroValue hi hz, Result.andThen_ok]
  · -- box
    rename_i t y
    unfold evAlloc at h
    cases ha : (cellsL (ev y)).all oneC with
    | false => simp [ha] at h
    | true =>
      simp only [ha, cond_true, Option.some.injEq] at h
      subst h
      obtain ⟨E', w', a', q1, q2, q3⟩ := alloc_ok (P := P) (t := t) (hev y) hs hl (Fresh.one hE (by simp [stOf, St.push]))
      exact ⟨E', w', _, lift q1, .val q2, q3⟩
  · -- buildSlice
    rename_i t len parts
    split at h
    case h_2 => cases h
    rename_i v st' hb
    injection h with h
    subst h
    have hlt : st.nxt < st'.nxt := by
      unfold evBuildSlice at hb
      split at hb
      case h_2 => cases hb
      split at hb
      case h_2 => cases hb
      rename_i r _
      cases hq : Nat.ble (len * r.size) 65536 with
      | false => simp [hq] at hb
      | true =>
        simp only [hq, cond_true] at hb
        split at hb
        case h_2 => cases hb
        injection hb with hb
        injection hb with _ hb
        subst hb
        simp [St.push]
    obtain ⟨E', w', v', q1, q2, q3⟩ := buildSlice_ok (P := P) hT (parts' := parts.toList.map fun p => (p.1, ev' p.2)) hb (by simp) (by simp only [List.map_map]; exact VL.map _ _ _ fun x => hev x.2) hs hl (Fresh.one hE hlt)
    refine ⟨E', w', _, lift ?_, .val q2, q3⟩
    rw [← q1]
    congr 2
    apply Array.ext'
    simp
  · -- load
    rename_i t a
    split at h
    case h_2 => cases h
    rename_i v hv
    injection h with h
    subst h
    obtain ⟨v', q1, q2⟩ := load_ok (P := P) hT hv (hev a) hs
    exact ⟨E, w, _, lift q2, .val q1, Out.refl hs⟩
  · -- store
    rename_i t a y
    split at h
    case h_2 => cases h
    rename_i st' hv
    injection h with h
    subst h
    obtain ⟨w', q1, q2⟩ := store_ok (P := P) hT hv (hev a) (hev y) hs
    exact ⟨E, w', _, liftU q1, .skip, q2⟩
  · -- makeMap
    rename_i t
    injection h with h
    subst h
    have hE0 := Fresh.one hE (by simp [stOf, St.push])
    refine ⟨_, _, .value (.map (some w.heap.size)), lift ?_, .val ?_, Out.push (S := 0) (O := .map #[] 0) hs hE0 (live_none hl) (.map rfl ⟨rfl, fun i e e' q => by simp at q⟩) (hget_push st _)⟩
    · simp only [Option.map_none, Instr.makeMap, Sem.run_bind, run_newObj, Result.andThen_ok, Sem.run_pure]
      rfl
    · exact VR.map (E := upE E st.nxt ⟨w.heap.size, 0, 0⟩) (upE_self E st.nxt _) rfl
  · -- makeSlice
    rename_i t l c
    split at h
    case h_2 => cases h
    rename_i v st' hb
    injection h with h
    subst h
    have hlt : st.nxt < st'.nxt := by
      unfold evMakeSlice at hb
      split at hb
      case h_2 => cases hb
      split at hb
      case h_2 => cases hb
      simp only [cond_bool] at hb
      split at hb
      · simp only [Option.some.injEq, Prod.mk.injEq] at hb
        rw [← hb.2]
        simp [St.push]
      · cases hb
    obtain ⟨E', w', v', q1, q2, q3⟩ := makeSlice_ok (P := P) hT hb (hev l) (hev c) hs hl (Fresh.one hE hlt)
    exact ⟨E', w', _, lift q1, .val q2, q3⟩
  · -- lookup
    rename_i t y k ok
    split at h
    case h_2 => cases h
    rename_i v hv
    injection h with h
    subst h
    obtain ⟨v', q1, q2⟩ := lookup_ok (P := P) hT hv (hev y) (hev k) hs
    exact ⟨E, w, _, lift q2, .val q1, Out.refl hs⟩
  · -- mapUpdate
    rename_i t m k y
    split at h
    case h_2 => cases h
    rename_i st' hv
    injection h with h
    subst h
    obtain ⟨w', q1, q2⟩ := mapUpdate_ok (P := P) hT hv (hev m) (hev k) (hev y) hs
    exact ⟨E, w', _, liftU q1, .skip, q2⟩
  · -- insert
    rename_i t m k y
    split at h
    case h_2 => cases h
    rename_i st' hv
    injection h with h
    subst h
    obtain ⟨w', q1, q2⟩ := mapUpdate_ok (P := P) hT hv (hev m) (hev k) (hev y) hs
    exact ⟨E, w', _, liftU q1, .skip, q2⟩
  · -- range
    rename_i t y
    split at h
    case h_2 => cases h
    rename_i v st' hb
    injection h with h
    subst h
    have hlt : st.nxt < st'.nxt := by
      unfold evRange at hb
      split at hb
      case h_2 => cases hb
      split at hb
      case h_2 => cases hb
      injection hb with hb
      injection hb with _ hb
      subst hb
      simp [St.push]
    obtain ⟨E', w', v', q1, q2, q3⟩ := range_ok (P := P) hT hb (hev y) hs hl (Fresh.one hE hlt)
    exact ⟨E', w', _, lift q1, .val q2, q3⟩
  · -- next
    rename_i it
    split at h
    case h_2 => cases h
    rename_i v st' hb
    injection h with h
    subst h
    obtain ⟨w', v', q1, q2, q3⟩ := next_ok (P := P) (ty := type) hb (hev it) hs
    exact ⟨E, w', _, lift q1, .val q2, q3⟩
  · -- entry
    rename_i it
    split at h
    case h_2 => cases h
    rename_i v hv
    injection h with h
    subst h
    obtain ⟨v', q1, q2⟩ := entry_ok (P := P) hv (hev it) hs
    exact ⟨E, w, _, lift q1, .val q2, Out.refl hs⟩
  · -- call
    rename_i c
    obtain ⟨callee, args, argTypes⟩ := c
    simp only at h
    have hargs : VL E (args.toList.map ev) (args.map ev').toList := by
      have := VL.map (E := E) args.toList ev ev' hev
      simpa using this
    split at h
    · rename_i b
      obtain ⟨E', w', y, q1, q2, q3⟩ := builtin_ok (P := P) (ty := type) (cs := args.map fun | .const _ => true | _ => false) hT h hargs hs hl hE
      refine ⟨E', w', y, ?_, q2, q3⟩
      rw [← q1]
      rfl
    · rename_i f
      split at h
      case h_2 => cases h
      rename_i fn first captured hf
      have hv := hev f
      rw [hf] at hv
      obtain ⟨y, q1, q2, q3⟩ := callFn_ok (P := P) (args' := args.map ev') h hv hargs hc hs
      refine ⟨E, w, y, ?_, q2, by rw [q3]; exact Out.refl hs⟩
      rw [← q1]
      rfl
    · cases h
  · -- defer
    rename_i c
    obtain ⟨callee, args, argTypes⟩ := c
    simp only at h
    have hargs : VL E (args.toList.map ev) (args.map ev').toList := by
      have := VL.map (E := E) args.toList ev ev' hev
      simpa using this
    split at h
    case h_2 => cases h
    rename_i f
    split at h
    case h_2 => cases h
    rename_i fn first captured hf
    injection h with h
    subst h
    have hv := hev f
    rw [hf] at hv
    simp only
    generalize hy : ev' f = y at hv
    cases hv with
    | fn h1 h2 h3 h4 =>
      rename_i a' c'
      refine ⟨E, w, .defer ⟨.fn (.func fn) c', a' ++ args.map ev'⟩, ?_, .defer (.fn ⟨h2, h4⟩ ?_), Out.refl hs⟩
      · simp [resolve, hy, Deferred.ofValue]
      · have v1 : VL E first.toList a'.toList := ⟨h1, h3⟩
        simpa using v1.append hargs
  · cases h

end
end Go.Ev

/- The evaluator: what each operation does to its own memory. -/
namespace Go.Ev

section
variable {T : Tab}

theorem evStore_abs {st st' : St} {t : TypeId} {a v : Value} (h : evStore T st t a v = some st') : Abs st st' := by
  unfold evStore at h
  split at h
  case h_2 => cases h
  split at h
  case h_2 => cases h
  rename_i hc
  split at h
  case h_2 => cases h
  simp only [cond_bool] at h
  split at h
  case isFalse => cases h
  split at h
  case h_2 => cases h
  injection h with h
  subst h
  exact Abs.put _ _ _ (hopen_hget hc)

theorem evBuildSlice_abs {st st' : St} {t : TypeId} {n : Nat} {ps : List (Nat × Value)} {v : Value} (h : evBuildSlice T st t n ps = some (v, st')) : Abs st st' := by
  unfold evBuildSlice at h
  split at h
  case h_2 => cases h
  split at h
  case h_2 => cases h
  simp only [cond_bool] at h
  split at h
  case isFalse => cases h
  split at h
  case h_2 => cases h
  injection h with h
  injection h with _ h
  subst h
  exact Abs.push _ _

theorem evMakeSlice_abs {st st' : St} {t : TypeId} {l c : Value} {v : Value} (h : evMakeSlice T st t l c = some (v, st')) : Abs st st' := by
  unfold evMakeSlice at h
  split at h
  case h_2 => cases h
  split at h
  case h_2 => cases h
  simp only [cond_bool] at h
  split at h
  case isFalse => cases h
  injection h with h
  injection h with _ h
  subst h
  exact Abs.push _ _

theorem evAppend_abs {st st' : St} {t : TypeId} {s x v : Value} (h : evAppend T st t s x = some (v, st')) : Abs st st' := by
  unfold evAppend at h
  split at h
  case h_2 => cases h
  split at h
  case h_2 => cases h
  split at h
  case h_2 => cases h
  simp only [cond_bool] at h
  split at h
  case isFalse => cases h
  split at h
  · split at h
    · split at h
      · injection h with h
        injection h with _ h
        subst h
        exact Abs.refl _
      · cases h
    · split at h
      case h_2 => cases h
      rename_i hc
      split at h
      case h_2 => cases h
      injection h with h
      injection h with _ h
      subst h
      split
      · exact Abs.refl _
      · exact Abs.put _ _ _ (hopen_hget hc)
  · split at h
    case isFalse => cases h
    split at h
    case h_2 => cases h
    split at h
    case isFalse => cases h
    split at h
    · split at h
      · injection h with h
        injection h with _ h
        subst h
        exact (Abs.push _ _).trans (Abs.kill _ _)
      · cases h
    · injection h with h
      injection h with _ h
      subst h
      exact Abs.push _ _

theorem evCopy_abs {st st' : St} {t : TypeId} {s x v : Value} (h : evCopy T st t s x = some (v, st')) : Abs st st' := by
  unfold evCopy at h
  split at h
  case h_2 => cases h
  split at h
  case h_2 => cases h
  simp only at h
  split at h
  case h_2 => cases h
  split at h
  · split at h
    case h_2 => cases h
    injection h with h
    injection h with _ h
    subst h
    exact Abs.refl _
  · split at h
    case h_2 => cases h
    rename_i hc
    split at h
    case h_2 => cases h
    injection h with h
    injection h with _ h
    subst h
    exact Abs.put _ _ _ (hopen_hget hc)

theorem evMapUpdate_abs {st st' : St} {t : TypeId} {m k v : Value} (h : evMapUpdate T st t m k v = some st') : Abs st st' := by
  unfold evMapUpdate at h
  split at h
  case h_2 => cases h
  split at h
  case h_2 => cases h
  rename_i hg
  simp only [cond_bool] at h
  split at h
  case isFalse => cases h
  split at h
  · injection h with h; subst h; exact Abs.put _ _ _ hg
  · injection h with h; subst h; exact Abs.put _ _ _ hg
  · cases h

theorem evRange_abs {st st' : St} {t : TypeId} {x v : Value} (h : evRange T st t x = some (v, st')) : Abs st st' := by
  unfold evRange at h
  split at h
  case h_2 => cases h
  split at h
  case h_2 => cases h
  injection h with h
  injection h with _ h
  subst h
  exact Abs.push _ _

theorem evNext_abs {st st' : St} {it v : Value} (h : evNext st it = some (v, st')) : Abs st st' := by
  unfold evNext at h
  split at h
  case h_2 => cases h
  split at h
  case h_2 => cases h
  rename_i hr
  split at h
  case h_2 => cases h
  split at h
  · injection h with h; injection h with _ h; subst h; exact Abs.refl _
  · simp only [cond_bool] at h
    split at h
    · injection h with h; injection h with _ h; subst h; exact Abs.put _ _ _ hr
    · cases h
  · simp only [cond_bool] at h
    split at h
    · injection h with h; injection h with _ h; subst h; exact Abs.refl _
    · cases h
  · cases h

theorem evCallFn_abs {st : St} {fn : Fn} {a c : List Value} {x : NextA} (h : evCallFn st fn a c = some x) : Abs st (stOf x) := by
  unfold evCallFn at h
  split at h
  · injection h with h; subst h; exact Abs.refl _
  · split at h
    case h_2 => cases h
    split at h
    case h_2 => cases h
    injection h with h; subst h; exact Abs.refl _
  · cases h

theorem evAlloc_abs {st : St} {t : TypeId} {v : Value} {x : NextA} (h : evAlloc st t v = some x) : Abs st (stOf x) := by
  unfold evAlloc at h
  simp only [cond_bool] at h
  split at h
  · injection h with h; subst h; exact Abs.push _ _
  · cases h

theorem evBuiltin_abs {st : St} {b : Builtin} {ts : List TypeId} {args : List Value} {x : NextA} (h : evBuiltin T st b ts args = some x) : Abs st (stOf x) := by
  unfold evBuiltin at h
  split at h
  · simp only [cond_bool] at h
    split at h
    case isFalse => cases h
    split at h
    case h_2 => cases h
    rename_i hh
    injection h with h; subst h; exact evAppend_abs hh
  · split at h
    case h_2 => cases h
    rename_i hh
    injection h with h; subst h; exact evCopy_abs hh
  · split at h
    case h_2 => cases h
    injection h with h; subst h; exact Abs.refl _
  · split at h
    case h_2 => cases h
    injection h with h; subst h; exact Abs.refl _
  · split at h
    case h_2 => cases h
    injection h with h; subst h; exact Abs.refl _
  · split at h
    case h_2 => cases h
    injection h with h; subst h; exact Abs.refl _
  · split at h
    · split at h
      case h_2 => cases h
      rename_i hh
      injection h with h; subst h; exact Abs.put _ _ _ hh
    · injection h with h; subst h; exact Abs.refl _
    · split at h
      case h_2 => cases h
      rename_i hh
      split at h
      case h_2 => cases h
      injection h with h; subst h; exact Abs.put _ _ _ (hopen_hget hh)
    · cases h
  · cases h

theorem op_abs {ev : Operand → Value} {st : St} {o : Op} {x : NextA} (h : evOp ev T st o = some x) : Abs st (stOf x) := by
  unfold evOp at h
  split at h
  · split at h
    case h_2 => cases h
    exact evAlloc_abs h
  · exact evAlloc_abs h
  · split at h
    case h_2 => cases h
    rename_i hh
    injection h with h; subst h; exact evBuildSlice_abs hh
  · split at h
    case h_2 => cases h
    injection h with h; subst h; exact Abs.refl _
  · split at h
    case h_2 => cases h
    rename_i hh
    injection h with h; subst h; exact evStore_abs hh
  · injection h with h; subst h; exact Abs.push _ _
  · split at h
    case h_2 => cases h
    rename_i hh
    injection h with h; subst h; exact evMakeSlice_abs hh
  · split at h
    case h_2 => cases h
    injection h with h; subst h; exact Abs.refl _
  · split at h
    case h_2 => cases h
    rename_i hh
    injection h with h; subst h; exact evMapUpdate_abs hh
  · split at h
    case h_2 => cases h
    rename_i hh
    injection h with h; subst h; exact evMapUpdate_abs hh
  · split at h
    case h_2 => cases h
    rename_i hh
    injection h with h; subst h; exact evRange_abs hh
  · split at h
    case h_2 => cases h
    rename_i hh
    injection h with h; subst h; exact evNext_abs hh
  · split at h
    case h_2 => cases h
    injection h with h; subst h; exact Abs.refl _
  · split at h
    · exact evBuiltin_abs h
    · split at h
      case h_2 => cases h
      exact evCallFn_abs h
    · cases h
  · split at h
    case h_2 => cases h
    split at h
    case h_2 => cases h
    injection h with h; subst h; exact Abs.refl _
  · cases h

end
end Go.Ev

/- The evaluator: frames, and the machine's steps. -/
namespace Go.Ev

/-! ### frames -/
inductive IR (E : Env) : AItem → Item → Prop where
  | code (c : Code) : IR E (.code c) (.code c)
  | inBlock (i : Nat) : IR E (.inBlock i) (.inBlock i)
  | inLoop (c : Code) : IR E (.inLoop c) (.inLoop c)
  | inScope (c : Code) : IR E (.inScope c) (.inScope c)
  | endRangeFunc {l : Nat} {p : Pl} (h : E l = some p) (hs : p.s = 0) : IR E (.endRangeFunc l) (.endRangeFunc p.b)
  | beginRound : IR E .beginRound .beginRound

inductive TR (E : Env) : List AItem → List Item → Prop where
  | nil : TR E [] []
  | cons {a : AItem} {b : Item} {l : List AItem} {l' : List Item} (h : IR E a b) (t : TR E l l') : TR E (a :: l) (b :: l')

inductive DL (E : Env) : List Deferred → List Deferred → Prop where
  | nil : DL E [] []
  | cons {a b : Deferred} {l l' : List Deferred} (h : DR E a b) (t : DL E l l') : DL E (a :: l) (b :: l')

def RR (E : Env) : Option Nat → Option Nat → Prop
  | none, none => True
  | some l, some b => ∃ p, E l = some p ∧ p.s = 0 ∧ p.b = b
  | _, _ => False

structure FR (E : Env) (a : AF) (F : Frame) : Prop where
  fn : F.fn = a.fn
  tmps : VL E a.tmps F.tmps.toList
  todo : TR E a.todo F.todo
  defers : DL E a.defers F.defers
  mode : F.mode = cond a.ret .returning .run
  kind : F.kind = a.kind
  round : RR E a.round F.roundOf

theorem IR.mono {E E' : Env} (h : Le E E') {a : AItem} {b : Item} (hi : IR E a b) : IR E' a b := by
  cases hi with
  | code c => exact .code c
  | inBlock i => exact .inBlock i
  | inLoop c => exact .inLoop c
  | inScope c => exact .inScope c
  | endRangeFunc e hs => exact .endRangeFunc (h _ _ e) hs
  | beginRound => exact .beginRound

theorem TR.mono {E E' : Env} (h : Le E E') {a : List AItem} {b : List Item} (ht : TR E a b) : TR E' a b := by
  induction ht with
  | nil => exact .nil
  | cons hi _ ih => exact .cons (hi.mono h) ih

theorem DL.mono {E E' : Env} (h : Le E E') {a b : List Deferred} (ht : DL E a b) : DL E' a b := by
  induction ht with
  | nil => exact .nil
  | cons hi _ ih => exact .cons (hi.mono h) ih

theorem RR.mono {E E' : Env} (h : Le E E') {a b : Option Nat} (hr : RR E a b) : RR E' a b := by
  cases a <;> cases b <;> first | trivial | exact hr.elim | skip
  obtain ⟨p, h1, h2⟩ := hr
  exact ⟨p, h _ _ h1, h2⟩

theorem FR.mono {E E' : Env} (h : Le E E') {a : AF} {F : Frame} (hf : FR E a F) : FR E' a F :=
  ⟨hf.fn, hf.tmps.mono h, hf.todo.mono h, hf.defers.mono h, hf.mode, hf.kind, hf.round.mono h⟩

/-! ### runs of the machine -/
section
variable {P : Program}

def Goes (P : Program) (F : Frame) (w : World) (F' : Frame) (w' : World) : Prop := ∀ cs, Steps P (lone F cs w) (lone F' cs w')

theorem Goes.refl (F : Frame) (w : World) : Goes P F w F w := fun _ => Steps.refl _ _
theorem Goes.trans {F F1 F2 : Frame} {w w1 w2 : World} (h : Goes P F w F1 w1) (h' : Goes P F1 w1 F2 w2) : Goes P F w F2 w2 := fun cs => (h cs).trans (h' cs)
theorem Goes.one {F F' : Frame} {w w' : World} (h : ∀ cs, step P (lone F cs w) = .next (lone F' cs w')) : Goes P F w F' w' := fun cs => Steps.one (h cs)

/-- A frame that has been called comes back with a value. -/
def Returns (P : Program) (F : Frame) (w : World) (v : Value) (w' : World) : Prop :=
  ∀ c cs, (F.kind = .normal → Steps P (lone F (c :: cs) w) (lone (c.finish v) cs w')) ∧ (F.kind = .deferred → c.mode = .returning → Steps P (lone F (c :: cs) w) (lone c cs w'))

theorem Returns.of_goes {F F' : Frame} {w w' w'' : World} {v : Value} (h : Goes P F w F' w') (hk : F'.kind = F.kind) (h' : Returns P F' w' v w'') : Returns P F w v w'' :=
  fun c cs => ⟨fun e => (h (c :: cs)).trans ((h' c cs).1 (by rw [hk]; exact e)), fun e em => (h (c :: cs)).trans ((h' c cs).2 (by rw [hk]; exact e) em)⟩

section
variable {F : Frame} {w : World} {cs : List Frame} {k : List Item}

theorem stepF {F' : Frame} {cs cs' : List Frame} {w' : World} (h : (stepG P true { frame := F, callers := cs, status := .running, dying := none } w).bare =
      .go { frame := F', callers := cs', status := .running, dying := none } w') : step P (lone F cs w) = .next (lone F' cs' w') := step_lone_go h

theorem step_skipF (hm : F.mode = .run) (ht : F.todo = .code .skip :: k) : step P (lone F cs w) = .next (lone { F with todo := k } cs w) := by
  cases F; simp only at hm ht; subst hm ht; exact stepF (by simp [stepG, stepG.exec])
theorem step_labelF {l : Nat} (hm : F.mode = .run) (ht : F.todo = .code (.label l) :: k) : step P (lone F cs w) = .next (lone { F with todo := k } cs w) := by
  cases F; simp only at hm ht; subst hm ht; exact stepF (by simp [stepG, stepG.exec])
theorem step_inBlockF {l : Nat} (hm : F.mode = .run) (ht : F.todo = .inBlock l :: k) : step P (lone F cs w) = .next (lone { F with todo := k } cs w) := by
  cases F; simp only at hm ht; subst hm ht; exact stepF (by simp [stepG, stepG.exec])
theorem step_inScopeF {c : Code} (hm : F.mode = .run) (ht : F.todo = .inScope c :: k) : step P (lone F cs w) = .next (lone { F with todo := k } cs w) := by
  cases F; simp only at hm ht; subst hm ht; exact stepF (by simp [stepG, stepG.exec])
theorem step_inRegionEndF {ops : Array Oper} (hm : F.mode = .run) (ht : F.todo = .inRegion ops [] :: k) : step P (lone F cs w) = .next (lone { F with todo := k } cs w) := by
  cases F; simp only at hm ht; subst hm ht; exact stepF (by simp [stepG, stepG.exec])
theorem step_seqF {a b : Code} (hm : F.mode = .run) (ht : F.todo = .code (.seq a b) :: k) : step P (lone F cs w) = .next (lone { F with todo := .code a :: .code b :: k } cs w) := by
  cases F; simp only at hm ht; subst hm ht; exact stepF (by simp [stepG, stepG.exec])
theorem step_condF {c : Operand} {x y : Code} {t : Bool} (hm : F.mode = .run) (ht : F.todo = .code (.cond c x y) :: k) (hc : F.eval c = .bool t) :
    step P (lone F cs w) = .next (lone { F with todo := .code (if t then x else y) :: k } cs w) := by
  cases F; simp only at hm ht; subst hm ht; exact stepF (by simp [stepG, stepG.exec, hc])
theorem step_blockF {i : Nat} {c : Code} (hm : F.mode = .run) (ht : F.todo = .code (.block i c) :: k) : step P (lone F cs w) = .next (lone { F with todo := .code c :: .inBlock i :: k } cs w) := by
  cases F; simp only at hm ht; subst hm ht; exact stepF (by simp [stepG, stepG.exec])
theorem step_loopF {c : Code} (hm : F.mode = .run) (ht : F.todo = .code (.loop c) :: k) : step P (lone F cs w) = .next (lone { F with todo := .code c :: .inLoop c :: k } cs w) := by
  cases F; simp only at hm ht; subst hm ht; exact stepF (by simp [stepG, stepG.exec])
theorem step_inLoopF {c : Code} (hm : F.mode = .run) (ht : F.todo = .inLoop c :: k) : step P (lone F cs w) = .next (lone { F with todo := .code c :: .inLoop c :: k } cs w) := by
  cases F; simp only at hm ht; subst hm ht; exact stepF (by simp [stepG, stepG.exec])
theorem step_scopeF {c : Code} (hm : F.mode = .run) (ht : F.todo = .code (.scope c) :: k) : step P (lone F cs w) = .next (lone { F with todo := .code c :: .inScope c :: k } cs w) := by
  cases F; simp only at hm ht; subst hm ht; exact stepF (by simp [stepG, stepG.exec])
theorem step_exitF {i : Nat} {k' : List Item} (hm : F.mode = .run) (ht : F.todo = .code (.exit i) :: k) (he : exitTo i k = some k') : step P (lone F cs w) = .next (lone { F with todo := k' } cs w) := by
  cases F; simp only at hm ht; subst hm ht; exact stepF (by simp [stepG, stepG.exec, he])
theorem step_retF (hm : F.mode = .run) (hr : F.roundOf = none) (ht : F.todo = .code .ret :: k) : step P (lone F cs w) = .next (lone { F with mode := .returning } cs w) := by
  cases F; simp only at hm ht hr; subst hm ht hr; exact stepF (by simp [stepG, stepG.exec])
theorem step_endF (hm : F.mode = .run) (hr : F.roundOf = none) (ht : F.todo = []) : step P (lone F cs w) = .next (lone { F with mode := .returning } cs w) := by
  cases F; simp only at hm ht hr; subst hm ht hr; exact stepF (by simp [stepG, stepG.exec])
theorem step_regionF {i : Nat} {ops : Array Oper} (hm : F.mode = .run) (ht : F.todo = .code (.region i ops false) :: k) :
    step P (lone F cs w) = .next (lone { F with todo := .inRegion ops (List.range ops.size) :: k } cs w) := by
  cases F; simp only at hm ht; subst hm ht; exact stepF (by simp [stepG, stepG.exec])
theorem step_regionDF {i : Nat} {ops : Array Oper} (hm : F.mode = .run) (ht : F.todo = .code (.region i ops true) :: k) (hx : P.follows .mixedOrders = true) :
    step P (lone F cs w) = .next (lone { F with todo := .inRegion ops (Region.linearise .any ops (w.tape w.drawn (.order F.fn i))) :: k } cs w.drew) := by
  cases F; simp only at hm ht; subst hm ht; exact stepF (by simp [stepG, stepG.exec, choose, Sem.run, Question.forced, Question.cut, Region.schedule, hx])

/-! ### one operation -/
structure AtOp (F : Frame) (ops : Array Oper) (i : Nat) (rest : List Nat) (k : List Item) (o : Oper) : Prop where
  mode : F.mode = .run
  todo : F.todo = .inRegion ops (i :: rest) :: k
  at_ : ops[i]? = some o

theorem step_skipOp {ops : Array Oper} {i : Nat} {rest : List Nat} {o : Oper} (h : AtOp F ops i rest k o) (hw : Region.wanted o (yielded ops F.tmps) = false) :
    step P (lone F cs w) = .next (lone (F.finish undef) cs w) := by
  obtain ⟨hm, ht, ho⟩ := h
  cases F; simp only at hm ht hw; subst hm ht; exact stepF (by simp [stepG, stepG.exec, ho, hw])

def noDefer : Op → Bool
  | .defer _ => false
  | _ => true

theorem stepG_op' {ops : Array Oper} {i : Nat} {rest : List Nat} {o : Oper} (h : AtOp F ops i rest k o) (hw : Region.wanted o (yielded ops F.tmps) = true) (hd : F.roundOf = none ∨ noDefer o.op = true) :
    stepG P true { frame := F, callers := cs, status := .running, dying := none } w = stepG.apply P true F cs none (execOp F.eval o) w := by
  obtain ⟨hm, ht, ho⟩ := h
  cases F
  rename_i fn tmps todo defers mode kind roundOf
  simp only at hm ht hw hd
  subst hm ht
  cases roundOf with
  | none => simp [stepG, stepG.exec, ho, hw, stepG.oper, Frame.oper?]
  | some l =>
    have hd' : noDefer o.op = true := by rcases hd with hd | hd; · cases hd
                                         · exact hd
    cases hop : o.op <;> first
      | (rw [hop] at hd'; simp [noDefer] at hd'; done)
      | simp [stepG, stepG.exec, ho, hw, stepG.oper, Frame.oper?, hop]

theorem step_valF {ops : Array Oper} {i : Nat} {rest : List Nat} {o : Oper} (h : AtOp F ops i rest k o) (hw : Region.wanted o (yielded ops F.tmps) = true) (hd : F.roundOf = none ∨ noDefer o.op = true)
    {v : Value} {w' : World} (hr : (execOp F.eval o).run P w = .ok (.value v) w') : step P (lone F cs w) = .next (lone (F.finish v) cs w') :=
  stepF (by rw [stepG_op' h hw hd]; simp [stepG.apply, hr])

theorem step_skipF' {ops : Array Oper} {i : Nat} {rest : List Nat} {o : Oper} (h : AtOp F ops i rest k o) (hw : Region.wanted o (yielded ops F.tmps) = true) (hd : F.roundOf = none ∨ noDefer o.op = true)
    {w' : World} (hr : (execOp F.eval o).run P w = .ok .skip w') : step P (lone F cs w) = .next (lone (F.finish undef) cs w') :=
  stepF (by rw [stepG_op' h hw hd]; simp [stepG.apply, hr])

theorem step_deferF {ops : Array Oper} {i : Nat} {rest : List Nat} {o : Oper} (h : AtOp F ops i rest k o) (hw : Region.wanted o (yielded ops F.tmps) = true) (hd : F.roundOf = none ∨ noDefer o.op = true)
    {d : Deferred} {w' : World} (hr : (execOp F.eval o).run P w = .ok (.defer d) w') : step P (lone F cs w) = .next (lone ({ F with defers := d :: F.defers }.finish undef) cs w') :=
  stepF (by rw [stepG_op' h hw hd]; simp [stepG.apply, hr])

theorem step_enterF {ops : Array Oper} {i : Nat} {rest : List Nat} {o : Oper} (h : AtOp F ops i rest k o) (hw : Region.wanted o (yielded ops F.tmps) = true) (hd : F.roundOf = none ∨ noDefer o.op = true)
    {f : FuncId} {args : Array Value} {w' : World} (hr : (execOp F.eval o).run P w = .ok (.enter f args) w') : step P (lone F cs w) = .next (lone (Frame.enter P f args .normal) (F :: cs) w') :=
  stepF (by rw [stepG_op' h hw hd]; simp [stepG.apply, hr, h.todo])

theorem step_roundF {ops : Array Oper} {i : Nat} {rest : List Nat} {o : Oper} (h : AtOp F ops i rest k o) (hw : Region.wanted o (yielded ops F.tmps) = true) (hd : F.roundOf = none ∨ noDefer o.op = true)
    {l f : Nat} {tmps : Array Value} {x y : Code} {w' : World} (hr : (execOp F.eval o).run P w = .ok (.round l f tmps x y) w') : step P (lone F cs w) = .next (lone (Frame.round l f tmps x y .normal) (F :: cs) w') :=
  stepF (by rw [stepG_op' h hw hd]; simp [stepG.apply, hr])

end
end
end Go.Ev

/- The evaluator: operands; how frames are left; calls. -/
namespace Go.Ev

/-! ### operands -/
def restr (f : Operand → Value) (x : Operand) : Value := cond (okX x) (f x) undef

theorem restr_eq {f : Operand → Value} {x : Operand} (h : okX x = true) : restr f x = f x := by simp [restr, h]

theorem okL_eq {f : Operand → Value} {l : List Operand} (h : okL l = true) : l.map (restr f) = l.map f := by
  induction l with
  | nil => rfl
  | cons a l ih =>
    simp only [okL, Bool.and_eq_true] at h
    simp [restr_eq h.1, ih h.2]

theorem okP_eq {f : Operand → Value} {l : List (Nat × Operand)} (h : okP l = true) : l.map (fun p => (p.1, restr f p.2)) = l.map (fun p => (p.1, f p.2)) := by
  induction l with
  | nil => rfl
  | cons a l ih =>
    simp only [okP, Bool.and_eq_true] at h
    simp [restr_eq h.1, ih h.2]

theorem okL_arr {f : Operand → Value} {l : Array Operand} (h : okL l.toList = true) : l.map (restr f) = l.map f := by
  apply Array.ext'
  simpa using okL_eq (f := f) h

theorem okP_arr {f : Operand → Value} {l : Array (Nat × Operand)} (h : okP l.toList = true) : l.map (fun p => (p.1, restr f p.2)) = l.map (fun p => (p.1, f p.2)) := by
  apply Array.ext'
  simpa using okP_eq (f := f) h

theorem okO_eq {f : Operand → Value} {o : Option Operand} (h : okO o = true) : o.map (restr f) = o.map f := by
  cases o with
  | none => rfl
  | some x => simp [restr_eq (f := f) (x := x) h]

theorem exec_restr {f : Operand → Value} (o : Oper) (h : okOp o.op = true) : execOp (restr f) o = execOp f o := by
  obtain ⟨dst, op, type, pos, after, guard⟩ := o
  simp only at h
  unfold execOp
  cases op <;> first
    | (simp [okOp] at h; done)
    | (simp only [okOp, Bool.and_eq_true] at h; simp [restr_eq, h]; done)
    | skip
  case build t ps => simp only [okOp] at h; simp only [okP_arr h]
  case buildSlice t n ps => simp only [okOp] at h; simp only [okP_arr h]
  case makeFunc fn a b => simp only [okOp, Bool.and_eq_true] at h; simp only [okL_arr h.1, okL_arr h.2]
  case makeMap t r => cases r <;> simp [okOp] at h; rfl
  case slice t x l hh m => simp only [okOp, Bool.and_eq_true] at h; simp only [restr_eq h.1.1.1, okO_eq h.1.1.2, okO_eq h.1.2, okO_eq h.2]
  case call c =>
    simp only [okOp, Bool.and_eq_true] at h
    obtain ⟨callee, args, ts⟩ := c
    simp only at h
    cases callee with
    | value g => simp only [resolve, okL_arr h.2, restr_eq h.1]
    | builtin b => simp only [resolve, okL_arr h.2]
    | invoke a b => simp at h
  case defer c =>
    simp only [okOp, Bool.and_eq_true] at h
    obtain ⟨callee, args, ts⟩ := c
    simp only at h
    cases callee with
    | value g => simp only [resolve, okL_arr h.2, restr_eq h.1]
    | builtin b => simp only [resolve, okL_arr h.2]
    | invoke a b => simp at h

theorem pureOp_restr {f : Operand → Value} {T : Tab} (o : Op) (h : okOp o = true) : pureOp (restr f) T o = pureOp f T o := by
  unfold pureOp
  cases o <;> first
    | (simp [okOp] at h; done)
    | rfl
    | (simp only [okOp, Bool.and_eq_true] at h; simp [restr_eq, h]; done)
    | skip
  case build t ps => simp only [okOp] at h; simp only [okP_eq h]
  case makeFunc fn a b =>
    simp only [okOp, Bool.and_eq_true] at h
    cases fn <;> first | rfl | simp only [okL_eq h.1, okL_eq h.2]
  case slice t x l hh m => simp only [okOp, Bool.and_eq_true] at h; simp only [restr_eq h.1.1.1, okO_eq h.1.1.2, okO_eq h.1.2, okO_eq h.2]
  case call c =>
    simp only [okOp, Bool.and_eq_true] at h
    obtain ⟨callee, args, ts⟩ := c
    simp only at h
    cases callee with
    | value g => rfl
    | invoke a b => rfl
    | builtin b =>
      cases b <;> first
        | rfl
        | skip
      simp only
      split
      · rename_i t x _ hx
        have : okX x = true := by
          have h2 := h.2
          rw [hx] at h2
          simpa [okL] using h2
        rw [restr_eq this]
      · rfl

theorem evOp_restr {f : Operand → Value} {T : Tab} {st : St} (o : Op) (h : okOp o = true) : evOp (restr f) T st o = evOp f T st o := by
  unfold evOp
  cases o <;> first
    | (simp [okOp] at h; done)
    | rfl
    | (simp only [okOp, Bool.and_eq_true] at h; simp [restr_eq, h]; done)
    | skip
  case makeMap t r => cases r <;> rfl
  case next it b => simp only [okOp] at h; cases b <;> simp only [restr_eq h]
  case buildSlice t n ps => simp only [okOp] at h; simp only [okP_eq h]
  case call c =>
    simp only [okOp, Bool.and_eq_true] at h
    obtain ⟨callee, args, ts⟩ := c
    simp only at h
    cases callee with
    | value g => simp only [okL_eq h.2, restr_eq h.1]
    | builtin b => simp only [okL_eq h.2]
    | invoke a b => simp at h
  case defer c =>
    simp only [okOp, Bool.and_eq_true] at h
    obtain ⟨callee, args, ts⟩ := c
    simp only at h
    cases callee with
    | value g => simp only [okL_eq h.2, restr_eq h.1]
    | builtin b => rfl
    | invoke a b => simp at h

section
variable {P : Program} {T : Tab} {E : Env} {w : World}

theorem evalT_ok {tmps : List Value} {F : Frame} (h : VL E tmps F.tmps.toList) {x : Operand} (hx : okX x = true) : VR E (evalT tmps x) (F.eval x) := by
  cases x with
  | tmp t =>
    simp only [evalT, getN_eq, Frame.eval]
    cases hg : tmps[t]? with
    | none =>
      have h2 : F.tmps[t]? = none := by simpa using h.none hg
      have h3 : F.tmps.getD t undef = undef := by simp [Array.getD_eq_getD_getElem?, h2]
      rw [h3]
      exact VR.undef E
    | some v =>
      obtain ⟨v', h1, h2⟩ := h.get hg
      have h3 : F.tmps[t]? = some v' := by simpa using h1
      have h4 : F.tmps.getD t undef = v' := by simp [Array.getD_eq_getD_getElem?, h3]
      rw [h4]
      exact h2
  | const v => exact VR.plain 9 v hx
  | global g => simp [okX] at hx
  | func f => exact .fn rfl rfl (fun i v v' e => by simp at e) (fun i v v' e => by simp at e)

theorem restr_ok {tmps : List Value} {F : Frame} (h : VL E tmps F.tmps.toList) (x : Operand) : VR E (restr (evalT tmps) x) (restr F.eval x) := by
  unfold restr
  cases hx : okX x with
  | true => exact evalT_ok h hx
  | false => exact VR.undef E

/-! ### results -/
def resV (tmps : Array Value) : ResultVar → Sem Value
  | .tmp t => pure (tmps.getD t undef)
  | .cell a t => do loadVar t (← asAddr (tmps.getD a undef))

theorem results_eq (fn : Func) (tmps : Array Value) : results fn tmps = (do let vs ← fn.results.mapM (resV tmps); pure (if h : vs.size = 1 then vs[0] else .tuple vs)) := by
  unfold results
  congr 1

theorem results_ok (hT : TabOk P T) {st : St} {tmps : List Value} {tmps' : Array Value} (ht : VL E tmps tmps'.toList) (hs : Sim E (hget st.heap) w) :
    ∀ (l : List ResultVar) (r : List Value), evResults T st tmps l = some r → ∃ r', VL E r r' ∧ (l.mapM (resV tmps')).run P w = .ok r' w := by
  have hF : ∀ t, VR E (evalT tmps (.tmp t)) (tmps'.getD t undef) := fun t => evalT_ok (F := { (default : Frame) with tmps := tmps' }) ht (x := .tmp t) rfl
  intro l
  induction l with
  | nil => intro r h; simp only [evResults, Option.some.injEq] at h; subst h; exact ⟨[], VL.nil E, by simp⟩
  | cons a l ih =>
    intro r h
    have fin : ∀ (v v' : Value) (r1 : List Value), evResults T st tmps l = some r1 → VR E v v' → (resV tmps' a).run P w = .ok v' w → r = v :: r1 → ∃ r', VL E r r' ∧ ((a :: l).mapM (resV tmps')).run P w = .ok r' w := by
      intro v v' r1 hr hv hrun he
      obtain ⟨r', h1, h2⟩ := ih r1 hr
      subst he
      exact ⟨_, VL.cons hv h1, by simp [List.mapM_cons, hrun, h2]⟩
    cases a with
    | tmp t =>
      simp only [evResults] at h
      split at h
      case h_2 => cases h
      rename_i r1 hr
      injection h with h
      exact fin _ _ r1 hr (hF t) (by simp [resV]) h.symm
    | cell a t =>
      simp only [evResults] at h
      split at h
      case h_2 => cases h
      rename_i v r1 hv hr
      injection h with h
      obtain ⟨v', q1, q2⟩ := load_ok (P := P) hT hv (hF a) hs
      refine fin v v' r1 hr q1 ?_ h.symm
      have hva := hF a
      have : ∃ ad, tmps'.getD a undef = .pointer (some ad) := by
        unfold evLoad at hv
        split at hv
        case h_2 => cases hv
        rename_i heq
        rw [heq] at hva
        generalize tmps'.getD a undef = y at hva
        cases hva
        exact ⟨_, rfl⟩
      obtain ⟨ad, hat⟩ := this
      rw [hat] at q2
      simp only [resV, hat]
      exact q2

/-- A frame of the evaluator that is about to be left. -/
def Final (fe : AF) : Prop :=
  match fe.round with
  | none => fe.ret = true ∧ fe.defers = []
  | some _ => fe.ret = false ∧ ∃ j, leaves fe.todo = some j

theorem exitTo_ok {i : Nat} : ∀ {l : List AItem} {l' : List Item}, TR E l l' → match exitToA i l with | some k => ∃ k', exitTo i l' = some k' ∧ TR E k k' | none => exitTo i l' = none := by
  intro l
  induction l with
  | nil => intro l' h; cases h; rfl
  | cons a l ih =>
    intro l' h
    cases h with
    | cons hi ht =>
      have := ih ht
      cases hi with
      | inBlock j =>
        simp only [exitToA, exitTo]
        cases hb : Nat.beq j i with
        | true =>
          have e := Nat.eq_of_beq_eq_true hb
          subst e
          simp only [cond_true]
          exact ⟨_, by simp, ht⟩
        | false =>
          have hne : (j == i) = false := by
            rw [beq_eq_false_iff_ne]
            intro e
            subst e
            simp [Nat.beq_refl] at hb
          simp only [cond_false, hne]
          exact this
      | _ => simpa [exitToA, exitTo] using this

theorem leaves_ok {l : List AItem} {l' : List Item} (h : TR E l l') {j : Option Code} (hj : leaves l = some j) :
    (l' = [] ∧ j = none) ∨ (∃ k, l' = .code .ret :: k ∧ j = some .ret) ∨ ∃ i k, l' = .code (.exit i) :: k ∧ exitTo i k = none ∧ j = some (.exit i) := by
  unfold leaves at hj
  split at hj
  · cases h
    injection hj with hj
    exact .inl ⟨rfl, hj.symm⟩
  · cases h with
    | cons hi ht =>
      cases hi
      injection hj with hj
      exact .inr (.inl ⟨_, rfl, hj.symm⟩)
  · cases h with
    | cons hi ht =>
      cases hi
      rename_i i k _
      have := exitTo_ok (i := i) ht
      split at hj
      · rename_i hx
        rw [hx] at this
        injection hj with hj
        exact .inr (.inr ⟨_, _, rfl, this, hj.symm⟩)
      · cases hj
  · cases hj

end
end Go.Ev

/- The evaluator: leaving a frame; calls. -/
namespace Go.Ev

section
variable {P : Program} {T : Tab} {E : Env} {w : World}

theorem DL.nil_inv {l : List Deferred} (h : DL E [] l) : l = [] := by cases h; rfl

theorem step_leaveN {F : Frame} {c : Frame} {cs : List Frame} {fn : Func} {v : Value} (hm : F.mode = .returning) (hd : F.defers = []) (hf : P.funcs[F.fn]? = some fn)
    (hr : (results fn F.tmps).run P w = .ok v w) :
    (F.kind = .normal → step P (lone F (c :: cs) w) = .next (lone (c.finish v) cs w)) ∧ (F.kind = .deferred → c.mode = .returning → step P (lone F (c :: cs) w) = .next (lone c cs w)) := by
  cases F
  rename_i f tmps todo defers mode kind roundOf
  simp only at hm hd hf hr
  subst hm hd
  constructor
  · intro hk
    simp only at hk
    subst hk
    exact stepF (by simp [stepG, unwind, doReturn, hf, hr])
  · intro hk hcm
    simp only at hk
    subst hk
    exact stepF (by simp [stepG, unwind, doReturn, hf, hr, hcm])

theorem run_endRound {b : Nat} {l : Loop} (h : w.heap[b]? = some (.loop l)) (j : Option Code) :
    (Instr.endRound b j).run P w = .ok (.bool j.isNone) { w with heap := w.heap.setIfInBounds b (.loop { l with state := if j.isNone then .ready else .done, pending := j }) } := by
  have hg := run_getObj (P := P) h (by intro c e f h; cases h)
  have hso : ∀ o', (setObj b o').run P w = .ok () { w with heap := w.heap.setIfInBounds b o' } := fun o' => run_setObj h (by intro c e f h; cases h)
  simp only [Instr.endRound, Instr.getLoop, Sem.run_bind, hg, Result.andThen_ok, hso, Sem.run_pure]

theorem step_leaveR {F : Frame} {c : Frame} {cs : List Frame} {b : Nat} {l : Loop} {j : Option Code} (hm : F.mode = .run) (hr : F.roundOf = some b) (hk : F.kind = .normal) (hl : w.heap[b]? = some (.loop l))
    (ht : (F.todo = [] ∧ j = none) ∨ (∃ k, F.todo = .code .ret :: k ∧ j = some .ret) ∨ ∃ i k, F.todo = .code (.exit i) :: k ∧ exitTo i k = none ∧ j = some (.exit i)) :
    step P (lone F (c :: cs) w) = .next (lone (c.finish (.bool j.isNone)) cs { w with heap := w.heap.setIfInBounds b (.loop { l with state := if j.isNone then .ready else .done, pending := j }) }) := by
  have he := fun j => run_endRound (P := P) hl j
  cases F
  rename_i f tmps todo defers mode kind roundOf
  simp only at hm hr hk ht
  subst hm hr hk
  rcases ht with ⟨rfl, rfl⟩ | ⟨k, rfl, rfl⟩ | ⟨i, k, rfl, hx, rfl⟩
  · exact stepF (by simp [stepG, stepG.exec, he, doReturn])
  · exact stepF (by simp [stepG, stepG.exec, he, doReturn])
  · exact stepF (by simp [stepG, stepG.exec, he, doReturn, hx])

/-- What comes of a frame that is left. -/
theorem result_ok (hT : TabOk P T) {fe : AF} {se se' : St} {v : Value} {F : Frame} (h : resultA T fe se = some (v, se')) (hfin : Final fe) (hF : FR E fe F) (hs : Sim E (hget se.heap) w) (hk : fe.round ≠ none → fe.kind = .normal) :
    ∃ v' w', VR E v v' ∧ Out E (hget se.heap) se.nxt w E (hget se'.heap) se'.nxt w' ∧ Returns P F w v' w' := by
  unfold resultA at h
  cases hrd : fe.round with
  | none =>
    have hfin' : fe.ret = true ∧ fe.defers = [] := by unfold Final at hfin; rw [hrd] at hfin; exact hfin
    rw [hrd] at h
    simp only at h
    split at h
    case h_2 => cases h
    rename_i r hr
    obtain ⟨fn, f1, f2, f3, f4, f5⟩ := (hT.fn _ _ hr).ok
    have hfn : P.funcs[F.fn]? = some fn := by rw [hF.fn]; exact f1
    have hm : F.mode = .returning := by rw [hF.mode, hfin'.1]; rfl
    have hd : F.defers = [] := by
      have := hF.defers
      rw [hfin'.2] at this
      exact this.nil_inv
    have fin : ∀ (l : List Value) (v0 : Value), evResults T se fe.tmps r.results = some l → (l.length = 1 → ∀ x, l = [x] → v0 = x) → (l.length ≠ 1 → v0 = .tuple ⟨l⟩) →
        ∃ v' , VR E v0 v' ∧ (results fn F.tmps).run P w = .ok v' w := by
      intro l v0 hl h1 h2
      rw [← f4] at hl
      obtain ⟨l', q1, q2⟩ := results_ok (P := P) hT hF.tmps hs _ l hl
      rw [results_eq, Array.mapM_eq_mapM_toList]
      simp only [Sem.run_bind, Sem.run_map, q2, Result.andThen_ok, Sem.run_pure]
      by_cases hone : l.length = 1
      · obtain ⟨x, rfl⟩ := List.length_eq_one_iff.1 hone
        obtain ⟨x', r', e1, q3, q4⟩ := q1.cons_inv
        have e2 := q4.nil_inv
        subst e2 e1
        refine ⟨x', by rw [h1 hone x rfl]; exact q3, by simp⟩
      · have hl' : l'.length ≠ 1 := by have := q1.1; omega
        refine ⟨.tuple ⟨l'⟩, by rw [h2 hone]; exact .tuple' q1, ?_⟩
        rw [dif_neg (by simpa using hl')]
    have key : ∀ v0, (∃ l, evResults T se fe.tmps r.results = some l ∧ (l.length = 1 → ∀ x, l = [x] → v0 = x) ∧ (l.length ≠ 1 → v0 = .tuple ⟨l⟩)) →
        ∃ v' w', VR E v0 v' ∧ Out E (hget se.heap) se.nxt w E (hget se.heap) se.nxt w' ∧ Returns P F w v' w' := by
      rintro v0 ⟨l, hl, h1, h2⟩
      obtain ⟨v', q1, q2⟩ := fin l v0 hl h1 h2
      refine ⟨v', w, q1, Out.refl hs, fun c cs => ?_⟩
      have := step_leaveN (c := c) (cs := cs) hm hd hfn q2
      exact ⟨fun hk => Steps.one (this.1 hk), fun hk hc => Steps.one (this.2 hk hc)⟩
    split at h
    · rename_i v0 hl
      simp only [Option.some.injEq, Prod.mk.injEq] at h
      obtain ⟨e1, e2⟩ := h
      subst e1 e2
      exact key _ ⟨_, hl, fun _ x hx => by injection hx, fun hn => by simp at hn⟩
    · rename_i l hne hl
      simp only [Option.some.injEq, Prod.mk.injEq] at h
      obtain ⟨e1, e2⟩ := h
      subst e1 e2
      exact key _ ⟨_, hl, fun _ x hx => by subst hx; exact absurd rfl (hne x), fun _ => rfl⟩
    · cases h
  | some b =>
    have hfin' : fe.ret = false ∧ ∃ j, leaves fe.todo = some j := by unfold Final at hfin; rw [hrd] at hfin; exact hfin
    rw [hrd] at h
    simp only at h
    split at h
    case h_2 => cases h
    rename_i j l hj hl
    simp only [Option.some.injEq, Prod.mk.injEq] at h
    obtain ⟨e1, e2⟩ := h
    subst e1 e2
    have hro := hF.round
    rw [hrd] at hro
    cases hfr : F.roundOf with
    | none => rw [hfr] at hro; exact hro.elim
    | some b' =>
      rw [hfr] at hro
      obtain ⟨p, hp, hp0, hpb⟩ := hro
      subst hpb
      obtain ⟨l', _, hlr, hw⟩ := hs.loopAt hl hp
      have hm : F.mode = .run := by rw [hF.mode, hfin'.1]; rfl
      have hkn : F.kind = .normal := by rw [hF.kind]; exact hk (by rw [hrd]; simp)
      have hlv := leaves_ok hF.todo hj
      refine ⟨.bool j.isNone, _, .bool _, Out.put (O' := .loop { l' with state := if j.isNone then .ready else .done, pending := j }) (w' := { w with heap := w.heap.setIfInBounds p.b (.loop { l' with state := if j.isNone then .ready else .done, pending := j }) }) hs hl hp (.loop hp0 ?_) (hget_put se b _ hl) (setObj_at hw) (fun b hb => setObj_ne hb) (by simp) rfl rfl rfl, fun c cs => ?_⟩
      · exact ⟨by cases j <;> rfl, rfl, hlr.fn, hlr.tmps, hlr.params, hlr.assign, hlr.body, hlr.defers⟩
      · have := step_leaveR (P := P) (c := c) (cs := cs) hm hfr hkn hw hlv
        exact ⟨fun _ => Steps.one this, fun hk' => by rw [hkn] at hk'; cases hk'⟩

/-! ### calls -/
def Fresh (E : Env) (lo hi : Nat) : Prop := ∀ id, lo ≤ id → id < hi → E id = none

/-- What is asked of a run of frames. -/
def RunOk (P : Program) (run : Run) : Prop := ∀ fr st fr2 st2, run fr st = some (fr2, st2) → Live st →
  Abs st st2 ∧ Final fr2 ∧ fr2.kind = fr.kind ∧ fr2.round = fr.round ∧
  ∀ E w F, Fresh E st.nxt st2.nxt → Sim E (hget st.heap) w → FR E fr F → ∃ E2 w2 F2, Out E (hget st.heap) st.nxt w E2 (hget st2.heap) st2.nxt w2 ∧ FR E2 fr2 F2 ∧ Goes P F w F2 w2

theorem hget_collect (c0 : Nat) (v : Value) (se : St) : (∀ id o, hget (collect c0 v se).heap id = some o → hget se.heap id = some o) ∧ (∀ id, id < c0 → hget (collect c0 v se).heap id = hget se.heap id) ∧
    (collect c0 v se).nxt = se.nxt ∧ (collect c0 v se).wr = se.wr := by
  unfold collect
  rw [cond_bool]
  split
  · split
    · refine ⟨fun id o h => ?_, fun id h => ?_, rfl, rfl⟩
      · rw [hget_keep] at h
        split at h
        · exact h
        · cases h
      · simp only [hget_keep]
        rw [if_pos (by rw [Nat.blt_eq]; exact h)]
    · refine ⟨fun id o h => ?_, fun id h => ?_, rfl, rfl⟩
      · rw [hget_keep] at h
        split at h
        · exact h
        · cases h
      · simp only [hget_keep]
        rw [if_pos (by rw [Bool.or_eq_true, Nat.blt_eq]; exact .inl h)]
  · exact ⟨fun _ _ h => h, fun _ _ => rfl, rfl, rfl⟩

theorem resultA_abs {fe : AF} {se se' : St} {v : Value} (h : resultA T fe se = some (v, se')) : Abs se se' := by
  unfold resultA at h
  split at h
  · split at h
    case h_2 => cases h
    split at h
    · simp only [Option.some.injEq, Prod.mk.injEq] at h; rw [← h.2]; exact Abs.refl _
    · simp only [Option.some.injEq, Prod.mk.injEq] at h; rw [← h.2]; exact Abs.refl _
    · cases h
  · split at h
    case h_2 => cases h
    rename_i hl
    simp only [Option.some.injEq, Prod.mk.injEq] at h
    rw [← h.2]
    exact Abs.put _ _ _ hl

/-- The law of calls. -/
theorem call_ok (hT : TabOk P T) {run : Run} (hrun : RunOk P run) {callee : AF} {st st' : St} {v : Value} (h : callA T run callee st = some (v, st')) (hl : Live st) (hk : callee.round ≠ none → callee.kind = .normal) :
    Abs st st' ∧ ∀ E w F, Fresh E st.nxt st'.nxt → Sim E (hget st.heap) w → FR E callee F → ∃ E2 w2 v2, VR E2 v v2 ∧ Out E (hget st.heap) st.nxt w E2 (hget st'.heap) st'.nxt w2 ∧ Returns P F w v2 w2 := by
  unfold callA at h
  split at h
  case h_2 => cases h
  rename_i fe se hr
  split at h
  case h_2 => cases h
  rename_i v1 se1 hres
  simp only [Option.some.injEq, Prod.mk.injEq] at h
  obtain ⟨e1, e2⟩ := h
  subst e1
  obtain ⟨c1, c2, c3, c4⟩ := hget_collect st.nxt v1 se1
  have hl0 : Live { heap := st.heap, nxt := st.nxt, wr := st.nxt } := hl
  obtain ⟨a1, a2, a3, a4, a5⟩ := hrun _ _ _ _ hr hl0
  have b1 := resultA_abs hres
  have ab := a1.trans b1
  have hst' : st' = { heap := (collect st.nxt v1 se1).heap, nxt := (collect st.nxt v1 se1).nxt, wr := Nat.min st.wr (collect st.nxt v1 se1).wr } := e2.symm
  have hnxt : st'.nxt = se1.nxt := by rw [hst']; exact c3
  have hheap : st'.heap = (collect st.nxt v1 se1).heap := by rw [hst']
  have hwr : st'.wr = Nat.min st.wr se1.wr := by rw [hst', ← c4]
  have hnn : st.nxt ≤ se1.nxt := ab.nxt
  refine ⟨⟨by rw [hnxt]; exact hnn, fun _ id hid => ?_, by rw [hwr]; exact Nat.min_le_left _ _, fun id h1 h2 => ?_, fun id h1 h2 => ?_⟩, fun E w F hfr hs hF => ?_⟩
  · rw [hheap] at hid
    rw [hnxt]
    obtain ⟨o, ho⟩ := Option.isSome_iff_exists.1 hid
    exact ab.live hl0 id (by rw [c1 id o ho]; rfl)
  · rw [hheap, c2 id h2]
    rw [hwr] at h1
    exact ab.keep id (Nat.lt_of_lt_of_le h1 (Nat.min_le_right _ _)) h2
  · rw [hheap, c2 id h1] at h2
    exact ab.old id h1 h2
  · rw [hnxt] at hfr
    have hmid : st.nxt ≤ se.nxt := a1.nxt
    obtain ⟨E2, w2, F2, o1, f1, g1⟩ := a5 E w F (fun id h1 h2 => hfr id h1 (Nat.lt_of_lt_of_le h2 b1.nxt)) hs hF
    obtain ⟨v2, w3, q1, q2, q3⟩ := result_ok (P := P) hT hres a2 f1 o1.sim (by rw [a4, a3]; exact hk)
    refine ⟨E2, w3, v2, q1, ?_, Returns.of_goes g1 ?_ q3⟩
    · have o2 := o1.trans q2 hmid b1.nxt
      rw [hnxt, hheap]
      exact o2.sub c1
    · rw [f1.kind, a3, hF.kind]

end
end Go.Ev

/- The evaluator: operations with their calls; regions in the text's order. -/
namespace Go.Ev

section
variable {P : Program} {T : Tab} {E : Env} {w : World}

/-- What is asked of what is known beforehand of calls. -/
def SumOk (P : Program) (T : Tab) : Prop := ∀ f args st v st', T.sum f args st = some (v, st') → Live st → Callable P f ∧ Abs st st' ∧
  ∀ E w args', Fresh E st.nxt st'.nxt → Sim E (hget st.heap) w → VL E args (Array.toList args') →
    ∃ E2 w2 v2, VR E2 v v2 ∧ Out E (hget st.heap) st.nxt w E2 (hget st'.heap) st'.nxt w2 ∧ Returns P (Frame.enter P f args' .normal) w v2 w2

theorem undefs_len (n : Nat) : (undefs n).length = n := by
  induction n with
  | zero => rfl
  | succ n ih => simp [undefs, ih]

theorem undefs_eq (n : Nat) : undefs n = List.replicate n undef := by
  induction n with
  | zero => rfl
  | succ n ih => simp [undefs, ih, List.replicate_succ]

theorem VL.undefs (E : Env) (n : Nat) : VL E (undefs n) (List.replicate n undef) := by
  rw [undefs_eq]
  refine ⟨rfl, fun i v v' h1 h2 => ?_⟩
  rw [h1] at h2
  injection h2 with h2
  subst h2
  have := List.mem_of_getElem? h1
  rw [List.eq_of_mem_replicate this]
  exact VR.undef E

theorem enter_FR {f : FuncId} {r : FnRow} (h : FnOk P f r) {args : List Value} {args' : Array Value} (ha : VL E args args'.toList) (kind : CallKind) : FR E (enterA r f args kind) (Frame.enter P f args' kind) := by
  obtain ⟨fn, h1, h2, h3, h4, h5⟩ := h.ok
  have hl : args.length = args'.size := by have := ha.1; simpa using this
  refine ⟨rfl, ?_, ?_, .nil, rfl, rfl, trivial⟩
  · simp only [enterA, Frame.enter, h1, Option.map_some, Option.getD_some, h2, Array.toList_append, Array.toList_replicate, hl]
    exact ha.append (VL.undefs E _)
  · simp only [enterA, Frame.enter, h1, Option.bind_some, h3, Option.getD_some]
    exact .cons (.code _) .nil

theorem callFn_ok' (hT : TabOk P T) (hS : SumOk P T) {run : Run} (hrun : RunOk P run) {f : FuncId} {args : List Value} {kind : CallKind} {st st' : St} {v : Value} (h : callFn T run f args kind st = some (v, st')) (hl : Live st)
    (hk : kind = .normal ∨ kind = .deferred) :
    Callable P f ∧ Abs st st' ∧ ∀ E w args', Fresh E st.nxt st'.nxt → Sim E (hget st.heap) w → VL E args (Array.toList args') →
      ∃ E2 w2 v2, VR E2 v v2 ∧ Out E (hget st.heap) st.nxt w E2 (hget st'.heap) st'.nxt w2 ∧ Returns P (Frame.enter P f args' kind) w v2 w2 := by
  unfold callFn at h
  split at h
  · rename_i x hx
    injection h with h
    subst h
    rcases hk with rfl | rfl
    · obtain ⟨a, b, c⟩ := hS _ _ _ _ _ hx hl
      exact ⟨a, b, fun E w args' => c E w args'⟩
    · cases hx
  · split at h
    case h_2 => cases h
    rename_i r hr
    have hf := hT.fn _ _ hr
    obtain ⟨a, b⟩ := call_ok (P := P) hT hrun h hl (fun hn => absurd rfl hn)
    exact ⟨hf.callable, a, fun E w args' h1 h2 h3 => b E w _ h1 h2 (enter_FR hf h3 kind)⟩

theorem round_FR {l f : Nat} {p : Pl} (hp : E l = some p) (hs : p.s = 0) {t : List Value} {t' : Array Value} (ht : VL E t t'.toList) (x y : Code) : FR E (roundA l f t x y) (Frame.round p.b f t' x y .normal) :=
  ⟨rfl, ht, .cons (.code _) (.cons .beginRound (.cons (.code _) .nil)), .nil, rfl, rfl, ⟨p, hp, hs, rfl⟩⟩

theorem Goes.enter {F F1 : Frame} {w1 w2 : World} {v : Value} (hs : ∀ cs, step P (lone F cs w) = .next (lone F1 (F :: cs) w1)) (hk : F1.kind = .normal) (hr : Returns P F1 w1 v w2) : Goes P F w (F.finish v) w2 :=
  fun cs => Steps.head (hs cs) ((hr F cs).1 hk)

/-- An operation with its call. -/
theorem done_ok (hT : TabOk P T) (hS : SumOk P T) {run : Run} (hrun : RunOk P run) {tmps : List Value} {st st' : St} {o : Oper} {x : NextA} {v : Value} (hop : okOp o.op = true)
    (h : evOp (evalT tmps) T st o.op = some x) (hd : doneA T run x = some (v, st')) (hl : Live st) :
    Abs st st' ∧ ∀ E w F ops i rest k, Fresh E st.nxt st'.nxt → Sim E (hget st.heap) w → VL E tmps F.tmps.toList → AtOp F ops i rest k o → Region.wanted o (yielded ops F.tmps) = true → (F.roundOf = none ∨ noDefer o.op = true) →
      ∃ E2 w2 v2, VR E2 v v2 ∧ Out E (hget st.heap) st.nxt w E2 (hget st'.heap) st'.nxt w2 ∧ Goes P F w (F.finish v2) w2 := by
  have ha := op_abs h
  have hex : ∀ {E w} {F : Frame}, Sim E (hget st.heap) w → VL E tmps F.tmps.toList → Fresh E st.nxt (stOf x).nxt → (∀ f a s, x = .enter f a s → Callable P f) →
      ∃ E' w' y, (execOp F.eval o).run P w = .ok y w' ∧ NextR E' x y ∧ Out E (hget st.heap) st.nxt w E' (hget (stOf x).heap) (stOf x).nxt w' := by
    intro E w F hs ht hfr hc
    have := op_ok (P := P) hT (ev := restr (evalT tmps)) (ev' := restr F.eval) (restr_ok ht) o (x := x) (by rw [evOp_restr o.op hop]; exact h) hs hl hfr hc
    rw [exec_restr o hop] at this
    exact this
  cases x with
  | val v0 s0 =>
    simp only [doneA, Option.some.injEq, Prod.mk.injEq] at hd
    obtain ⟨e1, e2⟩ := hd
    subst e1 e2
    refine ⟨ha, fun E w F ops i rest k h1 h2 h3 h4 h5 h6 => ?_⟩
    obtain ⟨E', w', y, q1, q2, q3⟩ := hex h2 h3 h1 (fun f a s e => by cases e)
    cases q2 with
    | val hv => exact ⟨E', w', _, hv, q3, Goes.one fun cs => step_valF h4 h5 h6 q1⟩
  | skip s0 =>
    simp only [doneA, Option.some.injEq, Prod.mk.injEq] at hd
    obtain ⟨e1, e2⟩ := hd
    subst e1 e2
    refine ⟨ha, fun E w F ops i rest k h1 h2 h3 h4 h5 h6 => ?_⟩
    obtain ⟨E', w', y, q1, q2, q3⟩ := hex h2 h3 h1 (fun f a s e => by cases e)
    cases q2
    exact ⟨E', w', undef, VR.undef E', q3, Goes.one fun cs => step_skipF' h4 h5 h6 q1⟩
  | defer d s0 => simp [doneA] at hd
  | enter f a s0 =>
    simp only [doneA] at hd
    obtain ⟨c1, c2, c3⟩ := callFn_ok' hT hS hrun hd (ha.live hl) (.inl rfl)
    refine ⟨ha.trans c2, fun E w F ops i rest k h1 h2 h3 h4 h5 h6 => ?_⟩
    obtain ⟨E', w', y, q1, q2, q3⟩ := hex h2 h3 (fun id x1 x2 => h1 id x1 (Nat.lt_of_lt_of_le x2 c2.nxt)) (fun f' a' s' e => by injection e with e; subst e; exact c1)
    cases q2 with
    | enter hv =>
      rename_i a'
      have hfr : Fresh E' s0.nxt st'.nxt := fun id x1 x2 => by
        rw [q3.same id (.inr x1)]
        exact h1 id (Nat.le_trans ha.nxt x1) x2
      obtain ⟨E2, w2, v2, r1, r2, r3⟩ := c3 E' w' a' hfr q3.sim hv
      exact ⟨E2, w2, v2, r1, q3.trans r2 ha.nxt c2.nxt, Goes.enter (fun cs => step_enterF h4 h5 h6 q1) rfl r3⟩
  | round l f t x y s0 =>
    simp only [doneA] at hd
    obtain ⟨c2, c3⟩ := call_ok (P := P) hT hrun hd (ha.live hl) (fun _ => rfl)
    refine ⟨ha.trans c2, fun E w F ops i rest k h1 h2 h3 h4 h5 h6 => ?_⟩
    obtain ⟨E', w', y', q1, q2, q3⟩ := hex h2 h3 (fun id x1 x2 => h1 id x1 (Nat.lt_of_lt_of_le x2 c2.nxt)) (fun f' a' s' e => by cases e)
    cases q2 with
    | round hp hp0 hv =>
      have hfr : Fresh E' s0.nxt st'.nxt := fun id x1 x2 => by
        rw [q3.same id (.inr x1)]
        exact h1 id (Nat.le_trans ha.nxt x1) x2
      obtain ⟨E2, w2, v2, r1, r2, r3⟩ := c3 E' w' _ hfr q3.sim (round_FR hp hp0 hv x y)
      exact ⟨E2, w2, v2, r1, q3.trans r2 ha.nxt c2.nxt, Goes.enter (fun cs => step_roundF h4 h5 h6 q1) rfl r3⟩

/-- An operation that touches no memory. -/
theorem pureStep_ok (hT : TabOk P T) {tmps : List Value} {o : Oper} {v : Value} (hop : okOp o.op = true) (h : pureOp (evalT tmps) T o.op = some (some v))
    {F : Frame} (ht : VL E tmps F.tmps.toList) : ∃ v', VR E v v' ∧ (execOp F.eval o).run P w = .ok (.value v') w := by
  have := pure_ok (P := P) hT (ev := restr (evalT tmps)) (ev' := restr F.eval) (restr_ok ht) o (v := v) (by rw [pureOp_restr o.op hop]; exact h) w
  rw [exec_restr o hop] at this
  exact this

theorem VR.bool_iff {v v' : Value} (h : VR E v v') (b : Bool) : v = .bool b ↔ v' = .bool b := by
  cases h <;> simp

theorem yielded_ok {ops : Array Oper} {tmps : List Value} {tmps' : Array Value} (ht : VL E tmps tmps'.toList) (j : Nat) : yieldedA ops.toList tmps j = yielded ops tmps' j := by
  unfold yieldedA yielded
  simp only [Array.getElem?_toList]
  cases ops[j]? with
  | none => rfl
  | some o =>
    simp only [Option.bind_some]
    cases hd : o.dst with
    | none => rfl
    | some d =>
      simp only [Option.bind_some, getN_eq]
      cases hg : tmps[d]? with
      | none =>
        have h2 : tmps'[d]? = none := by simpa using ht.none hg
        rw [h2]
      | some v =>
        obtain ⟨v', h1, h2⟩ := ht.get hg
        have h3 : tmps'[d]? = some v' := by simpa using h1
        rw [h3]
        cases h2 <;> rfl

theorem wanted_ok {ops : Array Oper} {tmps : List Value} {tmps' : Array Value} (ht : VL E tmps tmps'.toList) (o : Oper) : wantedA ops.toList tmps o = Region.wanted o (yielded ops tmps') := by
  unfold wantedA Region.wanted
  cases o.guard with
  | none => rfl
  | some g =>
    obtain ⟨j, b⟩ := g
    simp only
    rw [yielded_ok ht j]
    cases yielded ops tmps' j <;> simp

theorem finish_at {F : Frame} {ops : Array Oper} {i : Nat} {rest : List Nat} {k : List Item} {o : Oper} (ht : F.todo = .inRegion ops (i :: rest) :: k) (ho : ops[i]? = some o) (v : Value) :
    F.finish v = { F with tmps := (match o.dst with | some d => F.tmps.setIfInBounds d v | none => F.tmps), todo := .inRegion ops rest :: k } := by
  simp only [Frame.finish, ht, ho, Option.bind_some]
  cases o.dst <;> rfl

theorem put_ok {tmps : List Value} {tmps' : Array Value} (ht : VL E tmps tmps'.toList) (d : Option Tmp) {v v' : Value} (hv : VR E v v') :
    VL E (putT tmps d v) (match d with | some d => tmps'.setIfInBounds d v' | none => tmps').toList := by
  cases d with
  | none => exact ht
  | some d =>
    simp only [putT, putN_eq, Array.toList_setIfInBounds]
    exact ht.set d hv

/-- One operation in the text's order. -/
theorem seqStep_ok (hT : TabOk P T) (hS : SumOk P T) {run : Run} (hrun : RunOk P run) {inR : Bool} {ops : Array Oper} {q q' : QS} {o : Oper} (h : seqStep T run inR ops.toList q o = some q') (hl : Live q.st) :
    Abs q.st q'.st ∧ ∀ E w F i rest k, Fresh E q.st.nxt q'.st.nxt → Sim E (hget q.st.heap) w → VL E q.tmps F.tmps.toList → DL E q.defers F.defers → AtOp F ops i rest k o → inR = F.roundOf.isSome →
      ∃ E2 w2 F2, Out E (hget q.st.heap) q.st.nxt w E2 (hget q'.st.heap) q'.st.nxt w2 ∧ VL E2 q'.tmps F2.tmps.toList ∧ DL E2 q'.defers F2.defers ∧ Goes P F w F2 w2 ∧
        F2 = { F with tmps := F2.tmps, defers := F2.defers, todo := .inRegion ops rest :: k } := by
  -- what a value does to the frame
  have fin : ∀ {E E2 : Env} {w w2 : World} {F : Frame} {i : Nat} {rest : List Nat} {k : List Item} {v v' : Value} {st' : St}, Le E E2 → VL E q.tmps F.tmps.toList → DL E q.defers F.defers → AtOp F ops i rest k o → VR E2 v v' →
      Out E (hget q.st.heap) q.st.nxt w E2 (hget st'.heap) st'.nxt w2 → Goes P F w (F.finish v') w2 →
      ∃ E2 w2 F2, Out E (hget q.st.heap) q.st.nxt w E2 (hget st'.heap) st'.nxt w2 ∧ VL E2 (putT q.tmps o.dst v) F2.tmps.toList ∧ DL E2 q.defers F2.defers ∧ Goes P F w F2 w2 ∧
        F2 = { F with tmps := F2.tmps, defers := F2.defers, todo := .inRegion ops rest :: k } := by
    intro E E2 w w2 F i rest k v v' st' hle h3 h4 h5 hv ho hg
    have hf := finish_at h5.todo h5.at_ v'
    refine ⟨E2, w2, F.finish v', ho, ?_, ?_, hg, ?_⟩
    · rw [hf]; exact put_ok (h3.mono hle) o.dst hv
    · rw [hf]; exact h4.mono hle
    · rw [hf]
  unfold seqStep at h
  rw [cond_bool] at h
  split at h
  · rename_i hw
    rw [cond_bool] at h
    split at h
    case isFalse => cases h
    rename_i hop
    split at h
    · rename_i v hp
      injection h with h
      subst h
      refine ⟨Abs.refl _, fun E w F i rest k h1 h2 h3 h4 h5 h6 => ?_⟩
      have hw' : Region.wanted o (yielded ops F.tmps) = true := by rw [← wanted_ok h3 o]; exact hw
      obtain ⟨v', q1, q2⟩ := pureStep_ok (P := P) (w := w) hT hop hp h3
      have hnd : F.roundOf = none ∨ noDefer o.op = true := by
        refine .inr ?_
        cases hoo : o.op <;> first | rfl | (rw [hoo] at hp; simp [pureOp] at hp; done)
      exact fin (Le.refl E) h3 h4 h5 q1 (Out.refl h2) (Goes.one fun cs => step_valF h5 hw' hnd q2)
    · cases h
    · rename_i hp
      split at h
      · -- a deferred call
        rename_i d st hev
        rw [cond_bool] at h
        split at h
        · cases h
        rename_i hin
        injection h with h
        subst h
        have ha := op_abs hev
        refine ⟨ha, fun E w F i rest k h1 h2 h3 h4 h5 h6 => ?_⟩
        have hw' : Region.wanted o (yielded ops F.tmps) = true := by rw [← wanted_ok h3 o]; exact hw
        have hop2 := op_ok (P := P) hT (ev := restr (evalT q.tmps)) (ev' := restr F.eval) (restr_ok h3) o (x := .defer d st) (by rw [evOp_restr o.op hop]; exact hev) h2 hl h1 (fun f a s e => by cases e)
        rw [exec_restr o hop] at hop2
        obtain ⟨E', w', y, q1, q2, q3⟩ := hop2
        cases q2 with
        | defer hd =>
          rename_i d'
          have hro : F.roundOf = none := by
            cases hr : F.roundOf with
            | none => rfl
            | some x => rw [hr] at h6; simp at h6; rw [h6] at hin; exact absurd rfl hin
          have h5' : AtOp { F with defers := d' :: F.defers } ops i rest k o := ⟨h5.mode, h5.todo, h5.at_⟩
          have hf := finish_at (F := { F with defers := d' :: F.defers }) h5'.todo h5'.at_ undef
          refine ⟨E', w', _, q3, ?_, ?_, Goes.one fun cs => step_deferF h5 hw' (.inl hro) q1, ?_⟩
          · rw [hf]; exact put_ok (h3.mono q3.le) o.dst (VR.undef E')
          · rw [hf]; exact .cons hd (h4.mono q3.le)
          · rw [hf]
      · rename_i x hnd hev
        split at h
        case h_2 => cases h
        rename_i v st hdn
        injection h with h
        subst h
        obtain ⟨a1, a2⟩ := done_ok hT hS hrun hop hev hdn hl
        refine ⟨a1, fun E w F i rest k h1 h2 h3 h4 h5 h6 => ?_⟩
        have hw' : Region.wanted o (yielded ops F.tmps) = true := by rw [← wanted_ok h3 o]; exact hw
        have hndo : F.roundOf = none ∨ noDefer o.op = true := by
          refine .inr ?_
          cases hoo : o.op <;> first | rfl | skip
          rename_i c
          rw [hoo] at hev
          simp only [evOp] at hev
          split at hev
          case h_2 => cases hev
          split at hev
          case h_2 => cases hev
          injection hev with hev
          exact absurd hev.symm (hnd _ _)
        obtain ⟨E2, w2, v2, q1, q2, q3⟩ := a2 E w F ops i rest k h1 h2 h3 h5 hw' hndo
        exact fin q2.le h3 h4 h5 q1 q2 q3
      · cases h
  · rename_i hw
    injection h with h
    subst h
    refine ⟨Abs.refl _, fun E w F i rest k h1 h2 h3 h4 h5 h6 => ?_⟩
    have hw' : Region.wanted o (yielded ops F.tmps) = false := by
      rw [← wanted_ok h3 o]
      cases hh : wantedA ops.toList q.tmps o with
      | false => rfl
      | true => exact absurd hh hw
    exact fin (Le.refl E) h3 h4 h5 (VR.undef E) (Out.refl h2) (Goes.one fun cs => step_skipOp h5 hw')

theorem seqGo_ok (hT : TabOk P T) (hS : SumOk P T) {run : Run} (hrun : RunOk P run) {inR : Bool} {ops : Array Oper} : ∀ (l : List Oper) (i : Nat) (q q' : QS), seqGo T run inR ops.toList l q = some q' → l = ops.toList.drop i → i + l.length = ops.size → Live q.st →
    Abs q.st q'.st ∧ ∀ E w F k, Fresh E q.st.nxt q'.st.nxt → Sim E (hget q.st.heap) w → VL E q.tmps F.tmps.toList → DL E q.defers F.defers → F.mode = .run → F.todo = .inRegion ops (List.range' i l.length) :: k → inR = F.roundOf.isSome →
      ∃ E2 w2 F2, Out E (hget q.st.heap) q.st.nxt w E2 (hget q'.st.heap) q'.st.nxt w2 ∧ VL E2 q'.tmps F2.tmps.toList ∧ DL E2 q'.defers F2.defers ∧ Goes P F w F2 w2 ∧ F2 = { F with tmps := F2.tmps, defers := F2.defers, todo := k } := by
  intro l
  induction l with
  | nil =>
    intro i q q' h hd hsz hl
    simp only [seqGo, Option.some.injEq] at h
    subst h
    refine ⟨Abs.refl _, fun E w F k h1 h2 h3 h4 h5 h6 h7 => ⟨E, w, { F with todo := k }, Out.refl h2, h3, h4, Goes.one fun cs => step_inRegionEndF h5 (by simpa using h6), rfl⟩⟩
  | cons o l ih =>
    intro i q q' h hd hsz hl
    simp only [seqGo] at h
    split at h
    case h_2 => cases h
    rename_i q1 hq
    obtain ⟨a1, a2⟩ := seqStep_ok hT hS hrun hq hl
    have hd' : l = ops.toList.drop (i + 1) := by
      have : (o :: l).drop 1 = (ops.toList.drop i).drop 1 := by rw [hd]
      simpa [List.drop_drop, Nat.add_comm] using this
    have hat : ops[i]? = some o := by
      have : (ops.toList.drop i)[0]? = some o := by rw [← hd]; rfl
      simpa using this
    obtain ⟨b1, b2⟩ := ih (i + 1) q1 q' h hd' (by simp at hsz; omega) (a1.live hl)
    refine ⟨a1.trans b1, fun E w F k h1 h2 h3 h4 h5 h6 h7 => ?_⟩
    have h6' : F.todo = .inRegion ops (i :: List.range' (i + 1) l.length) :: k := by
      rw [h6]; simp [List.range'_succ]
    obtain ⟨E1, w1, F1, o1, v1, d1, g1, e1⟩ := a2 E w F i (List.range' (i + 1) l.length) k (fun id x1 x2 => h1 id x1 (Nat.lt_of_lt_of_le x2 b1.nxt)) h2 h3 h4 ⟨h5, h6', hat⟩ h7
    have hm1 : F1.mode = .run := by rw [e1]; exact h5
    have ht1 : F1.todo = .inRegion ops (List.range' (i + 1) l.length) :: k := by rw [e1]
    have hr1 : inR = F1.roundOf.isSome := by rw [e1]; exact h7
    obtain ⟨E2, w2, F2, o2, v2, d2, g2, e2⟩ := b2 E1 w1 F1 k (fun id x1 x2 => by rw [o1.same id (.inr x1)]; exact h1 id (Nat.le_trans a1.nxt x1) x2) o1.sim v1 d1 hm1 ht1 hr1
    refine ⟨E2, w2, F2, o1.trans o2 a1.nxt b1.nxt, v2, d2, g1.trans g2, ?_⟩
    rw [e2, e1]

end
end Go.Ev

/- The evaluator: regions whose order is open; what an operation depends on. -/
namespace Go.Ev

/-! ### operands -/
theorem map_congrA {f g : Operand → Value} {l : List Operand} (h : ∀ x ∈ l, f x = g x) : l.map f = l.map g := List.map_congr_left h

theorem mapP_congr {f g : Operand → Value} {l : List (Nat × Operand)} (h : ∀ x ∈ l.map (·.2), f x = g x) : l.map (fun p => (p.1, f p.2)) = l.map (fun p => (p.1, g p.2)) := by
  apply List.map_congr_left
  intro p hp
  rw [h p.2 (List.mem_map.2 ⟨p, hp, rfl⟩)]

theorem mapO_congr {f g : Operand → Value} {o : Option Operand} (h : ∀ x ∈ o.toList, f x = g x) : o.map f = o.map g := by
  cases o with
  | none => rfl
  | some x => simp [h x (by simp)]

theorem pureOp_congr {f g : Operand → Value} {T : Tab} (o : Op) (h : ∀ x ∈ o.operands.toList, f x = g x) : pureOp f T o = pureOp g T o := by
  unfold pureOp
  cases o <;> first
    | rfl
    | (simp only [Op.operands, List.mem_cons, List.not_mem_nil, or_false, forall_eq_or_imp, forall_eq] at h; simp only [h]; done)
    | skip
  case build t ps => simp only [Op.operands] at h; simp only [mapP_congr h]
  case makeFunc fn a b =>
    simp only [Op.operands, Array.toList_append, List.mem_append] at h
    cases fn <;> first | rfl | simp only [map_congrA (fun x hx => h x (.inl hx)), map_congrA (fun x hx => h x (.inr hx))]
  case slice t x l hh m =>
    simp only [Op.operands, Array.toList_append, List.mem_append, List.mem_cons, List.not_mem_nil, or_false] at h
    have h1 := h x (.inl (.inl (.inl rfl)))
    have h2 := mapO_congr (o := l) (fun y hy => h y (.inl (.inl (.inr (by simpa using hy)))))
    have h3 := mapO_congr (o := hh) (fun y hy => h y (.inl (.inr (by simpa using hy))))
    have h4 := mapO_congr (o := m) (fun y hy => h y (.inr (by simpa using hy)))
    simp only [h1, h2, h3, h4]
  case call c =>
    obtain ⟨callee, args, ts⟩ := c
    simp only [Op.operands, Call.operands, Array.toList_append, List.mem_append] at h
    cases callee with
    | value g => rfl
    | invoke a b => rfl
    | builtin b =>
      cases b <;> first
        | rfl
        | skip
      simp only
      split
      · rename_i t x _ hx
        rw [h x (.inr (by rw [hx]; simp))]
      · rfl

theorem evOp_congr {f g : Operand → Value} {T : Tab} {st : St} (o : Op) (h : ∀ x ∈ o.operands.toList, f x = g x) : evOp f T st o = evOp g T st o := by
  unfold evOp
  cases o <;> first
    | rfl
    | (simp only [Op.operands, List.mem_cons, List.not_mem_nil, or_false, forall_eq_or_imp, forall_eq] at h; simp only [h]; done)
    | skip
  case makeMap t r => cases r <;> rfl
  case next it b =>
    simp only [Op.operands, List.mem_cons, List.not_mem_nil, or_false, forall_eq] at h
    cases b <;> simp only [h]
  case buildSlice t n ps => simp only [Op.operands] at h; simp only [mapP_congr h]
  case call c =>
    obtain ⟨callee, args, ts⟩ := c
    simp only [Op.operands, Call.operands, Array.toList_append, List.mem_append] at h
    cases callee with
    | value g => simp only [map_congrA (fun x hx => h x (.inr hx)), h g (.inl (by simp))]
    | builtin b => simp only [map_congrA (fun x hx => h x (.inr hx))]
    | invoke a b => rfl
  case defer c =>
    obtain ⟨callee, args, ts⟩ := c
    simp only [Op.operands, Call.operands, Array.toList_append, List.mem_append] at h
    cases callee with
    | value g => simp only [map_congrA (fun x hx => h x (.inr hx)), h g (.inl (by simp))]
    | builtin b => rfl
    | invoke a b => rfl

theorem hasN_iff (l : List Nat) (i : Nat) : hasN l i = true ↔ i ∈ l := by
  induction l with
  | nil => simp [hasN]
  | cons k l ih =>
    simp only [hasN, cond_bool, List.mem_cons]
    split
    · rename_i h
      have := Nat.eq_of_beq_eq_true h
      simp [this]
    · rename_i h
      rw [ih]
      constructor
      · exact .inr
      · rintro (e | e)
        · subst e; exact absurd (Nat.beq_refl _) h
        · exact e

theorem evalT_names {a b : List Value} {o : Oper} (h : ∀ t ∈ namesOf o, getN a t = getN b t) : ∀ x ∈ o.op.operands.toList, evalT a x = evalT b x := by
  intro x hx
  cases x <;> first | rfl | skip
  rename_i t
  have : t ∈ namesOf o := by
    unfold namesOf
    exact List.mem_filterMap.2 ⟨_, hx, rfl⟩
  simp only [evalT, h t this]

/-! ### memory -/
theorem hget_part (h : Heap) (l : List Nat) (i : Nat) {o : Obj} (e : hget (part h l) i = some o) : hget h i = some o := by
  induction l with
  | nil => simp [part, hget] at e
  | cons k l ih =>
    simp only [part] at e
    split at e
    · rename_i o' ho
      rw [hget_cons] at e
      split at e
      · rename_i hi; subst hi; rw [ho]; exact e
      · exact ih e
    · exact ih e

theorem hget_within (b : Nat) (l : List Note) : ∀ (h : Heap) (i : Nat) {o : Obj}, hget (within h b l) i = some o → hget h i = some o := by
  induction l with
  | nil => intro h i o e; exact e
  | cons n l ih =>
    intro h i o e
    simp only [within, cond_bool] at e
    split at e
    · exact ih _ _ e
    · have := ih _ _ e
      rw [hget_keep] at this
      split at this
      · exact this
      · cases this

theorem mem_keysOf (h : Heap) (i : Nat) : i ∈ keysOf h ↔ (hget h i).isSome = true := by
  induction h with
  | nil => simp [keysOf, hget]
  | cons x h ih =>
    obtain ⟨k, o⟩ := x
    rw [hget_cons]
    simp only [keysOf, List.mem_cons, ih]
    split
    · rename_i e; simp [e]
    · rename_i e; simp [e]

theorem hget_upd (h' : Heap) : ∀ (l : List Nat) (h : Heap) (i : Nat), (∀ k ∈ l, (hget h' k).isSome = true → (hget h k).isSome = true) →
    hget (upd h h' l) i = if i ∈ l then hget h' i else hget h i := by
  intro l
  induction l with
  | nil => intro h i _; simp [upd]
  | cons k l ih =>
    intro h i hk
    simp only [upd]
    split
    · rename_i o ho
      have hks : (hget h k).isSome = true := hk k (by simp) (by rw [ho]; rfl)
      rw [ih]
      · rw [hget_hset, hks]
        by_cases hi : i = k
        · subst hi; simp [ho]
        · simp [hi]
      · intro m hm hs
        rw [hget_hset, hks]
        split
        · rfl
        · exact hk m (by simp [hm]) hs
    · rename_i ho
      rw [ih]
      · rw [hget_hdel]
        by_cases hi : i = k
        · subst hi; simp [ho]
        · simp [hi]
      · intro m hm hs
        rw [hget_hdel]
        split
        · rename_i e; subst e; rw [ho] at hs; cases hs
        · exact hk m (by simp [hm]) hs

theorem putN_comm (l : List Value) {i j : Nat} (h : i ≠ j) (v u : Value) : putN (putN l i v) j u = putN (putN l j u) i v := by
  simp only [putN_eq]
  exact List.set_comm _ _ h

theorem putT_comm (l : List Value) {d e : Option Tmp} (h : ∀ x, d = some x → e ≠ some x) (v u : Value) : putT (putT l d v) e u = putT (putT l e u) d v := by
  cases d with
  | none => cases e <;> rfl
  | some d =>
    cases e with
    | none => rfl
    | some e => exact putN_comm l (fun he => h d rfl (by rw [he])) v u

theorem getN_putT (l : List Value) {d : Option Tmp} {t : Tmp} (h : d ≠ some t) (v : Value) : getN (putT l d v) t = getN l t := by
  cases d with
  | none => rfl
  | some d =>
    simp only [putT, putN_eq, getN_eq]
    rw [List.getElem?_set_ne]
    intro e; exact h (by rw [e])

end Go.Ev

/- The evaluator: regions whose order is open; which operations may change places. -/
namespace Go.Ev

/-- What is kept of one operation of a region. -/
structure Rec where
  o : Oper
  b : Nat
  v : Value
  tm : List Value
  small : HF
  res : HF
  writes : Bool
  lo : Nat
  hi : Nat

def Rec.aff (r : Rec) (id : Nat) : Bool := (decide (r.lo ≤ id) && decide (id < r.hi)) || (r.writes && (r.small id).isSome)

/-- An object, when the operations of a set have been done. -/
def hat (D : Nat → Bool) (id : Nat) : List Rec → Nat → Option Obj → Option Obj
  | [], _, x => x
  | r :: R, i, x => hat D id R (i + 1) (if D i = true ∧ r.aff id = true then r.res id else x)

def tat (D : Nat → Bool) : List Rec → Nat → List Value → List Value
  | [], _, t => t
  | r :: R, i, t => tat D R (i + 1) (if D i = true then putT t r.o.dst r.v else t)

def looks (ops : Array Oper) (o : Oper) : List Tmp :=
  namesOf o ++ (match o.guard with
    | some (j, _) => (match ops[j]? with | some q => q.dst.toList | none => [])
    | none => [])

theorem hat_append (D : Nat → Bool) (id : Nat) (A B : List Rec) : ∀ (i : Nat) (x : Option Obj), hat D id (A ++ B) i x = hat D id B (i + A.length) (hat D id A i x) := by
  induction A with
  | nil => intro i x; rfl
  | cons r A ih =>
    intro i x
    simp only [List.cons_append, hat, List.length_cons]
    rw [ih]
    congr 1
    omega

theorem tat_append (D : Nat → Bool) (A B : List Rec) : ∀ (i : Nat) (t : List Value), tat D (A ++ B) i t = tat D B (i + A.length) (tat D A i t) := by
  induction A with
  | nil => intro i x; rfl
  | cons r A ih =>
    intro i x
    simp only [List.cons_append, tat, List.length_cons]
    rw [ih]
    congr 1
    omega

theorem hat_agree {D D' : Nat → Bool} {id : Nat} : ∀ (R : List Rec) (i : Nat) (x : Option Obj), (∀ n r, R[n]? = some r → r.aff id = true → D (i + n) = D' (i + n)) → hat D id R i x = hat D' id R i x := by
  intro R
  induction R with
  | nil => intro i x _; rfl
  | cons r R ih =>
    intro i x h
    simp only [hat]
    have h0 : (if D i = true ∧ r.aff id = true then r.res id else x) = (if D' i = true ∧ r.aff id = true then r.res id else x) := by
      by_cases ha : r.aff id = true
      · have := h 0 r (by simp) ha
        simp only [Nat.add_zero] at this
        rw [this]
      · simp [ha]
    rw [h0]
    exact ih _ _ fun n r' hr ha => by
      have := h (n + 1) r' (by simpa using hr) ha
      rw [show i + 1 + n = i + (n + 1) by omega]
      exact this

theorem hat_none {D : Nat → Bool} {id : Nat} : ∀ (R : List Rec) (i : Nat) (x : Option Obj), (∀ n r, R[n]? = some r → D (i + n) = true → r.aff id = false) → hat D id R i x = x := by
  intro R
  induction R with
  | nil => intro i x _; rfl
  | cons r R ih =>
    intro i x h
    simp only [hat]
    have h0 : (if D i = true ∧ r.aff id = true then r.res id else x) = x := by
      rw [if_neg]
      rintro ⟨h1, h2⟩
      have := h 0 r (by simp) (by simpa using h1)
      rw [this] at h2; cases h2
    rw [h0]
    exact ih _ _ fun n r' hr ha => h (n + 1) r' (by simpa using hr) (by rw [show i + (n + 1) = i + 1 + n by omega]; exact ha)

theorem getN_putT' (l l' : List Value) (d : Option Tmp) (t : Tmp) (v : Value) (h : getN l t = getN l' t) : getN (putT l d v) t = getN (putT l' d v) t := by
  cases d with
  | none => exact h
  | some d =>
    simp only [putT, putN_eq, getN_eq] at h ⊢
    by_cases hd : d = t
    · subst hd
      rw [List.getElem?_set, List.getElem?_set]
      simp only [if_true]
      by_cases h1 : d < l.length
      · have h2 : d < l'.length := by
          rw [List.getElem?_eq_getElem h1] at h
          exact (List.getElem?_eq_some_iff.1 h.symm).1
        simp [h1, h2]
      · have h2 : ¬ d < l'.length := fun h2 => by
          rw [List.getElem?_eq_getElem h2] at h
          exact h1 (List.getElem?_eq_some_iff.1 h).1
        simp [h1, h2]
    · rw [List.getElem?_set_ne hd, List.getElem?_set_ne hd]
      exact h

theorem tat_get {D : Nat → Bool} {x : Tmp} : ∀ (R : List Rec) (i : Nat) (t : List Value), (∀ n r, R[n]? = some r → D (i + n) = true → r.o.dst ≠ some x) → getN (tat D R i t) x = getN t x := by
  intro R
  induction R with
  | nil => intro i t _; rfl
  | cons r R ih =>
    intro i t h
    simp only [tat]
    rw [ih _ _ fun n r' hr ha => h (n + 1) r' (by simpa using hr) (by rw [show i + (n + 1) = i + 1 + n by omega]; exact ha)]
    split
    · rename_i hd
      exact getN_putT t (h 0 r (by simp) (by simpa using hd)) r.v
    · rfl

theorem tat_agree {D D' : Nat → Bool} {x : Tmp} : ∀ (R : List Rec) (i : Nat) (t t' : List Value), getN t x = getN t' x → (∀ n r, R[n]? = some r → r.o.dst = some x → D (i + n) = D' (i + n)) → getN (tat D R i t) x = getN (tat D' R i t') x := by
  intro R
  induction R with
  | nil => intro i t t' h _; exact h
  | cons r R ih =>
    intro i t t' ht h
    simp only [tat]
    apply ih
    · by_cases hd : r.o.dst = some x
      · have := h 0 r (by simp) hd
        simp only [Nat.add_zero] at this
        rw [this]
        split
        · exact getN_putT' _ _ _ _ _ ht
        · exact ht
      · split <;> split <;> (try simp only [getN_putT _ hd]) <;> exact ht
    · intro n r' hr ha
      have := h (n + 1) r' (by simpa using hr) ha
      rw [show i + 1 + n = i + (n + 1) by omega]
      exact this

theorem tat_put {D : Nat → Bool} {d : Option Tmp} {v : Value} : ∀ (R : List Rec) (i : Nat) (t : List Value), (∀ n r, R[n]? = some r → D (i + n) = true → ∀ x, d = some x → r.o.dst ≠ some x) → tat D R i (putT t d v) = putT (tat D R i t) d v := by
  intro R
  induction R with
  | nil => intro i t _; rfl
  | cons r R ih =>
    intro i t h
    simp only [tat]
    have ih' := fun t => ih (i + 1) t fun n r' hr ha => h (n + 1) r' (by simpa using hr) (by rw [show i + (n + 1) = i + 1 + n by omega]; exact ha)
    by_cases hd : D i = true
    · simp only [hd, if_true]
      rw [putT_comm t (h 0 r (by simp) (by simpa using hd)) v r.v, ih']
    · simp only [if_neg hd]
      exact ih' _

def all : Nat → Bool := fun _ => true
def more (D : Nat → Bool) (j : Nat) : Nat → Bool := fun i => if i = j then true else D i

structure RecOk (P : Program) (ops : Array Oper) (n : Nat) (r : Rec) : Prop where
  at_ : ops[n]? = some r.o
  lohi : r.lo ≤ r.hi
  lt : ∀ id, (r.small id).isSome = true → id < r.lo
  old : ∀ id, id < r.lo → (r.res id).isSome = true → (r.small id).isSome = true
  keep : r.writes = false → ∀ id, id < r.lo → r.res id = r.small id
  live : ∀ id, (r.res id).isSome = true → id < r.hi
  law : ∀ E w F rest k tmps, Fresh E r.lo r.hi → Sim E r.small w → VL E tmps (Array.toList F.tmps) → (∀ t, t ∈ looks ops r.o → getN tmps t = getN r.tm t) → AtOp F ops n rest k r.o →
    ∃ E2 w2 v2, VR E2 r.v v2 ∧ Out E r.small r.lo w E2 r.res r.hi w2 ∧ Goes P F w (F.finish v2) w2

structure PairOk (ops : Array Oper) (m : Nat) (a b : Rec) : Prop where
  ord : a.hi ≤ b.lo
  apart : b.b.testBit m = true ∨ ((∀ id, a.aff id = true → (b.small id).isSome = true → False) ∧ (∀ id, b.aff id = true → (a.small id).isSome = true → False) ∧
    (∀ d, a.o.dst = some d → d ∉ looks ops b.o ∧ b.o.dst ≠ some d) ∧ (∀ d, b.o.dst = some d → d ∉ looks ops a.o))

structure Recs (P : Program) (ops : Array Oper) (n0 : Nat) (h0 : HF) (tm0 : List Value) (R : List Rec) : Prop where
  each : ∀ (n : Nat) (r : Rec), R[n]? = some r → RecOk P ops n r
  low : ∀ (n : Nat) (r : Rec), R[n]? = some r → n0 ≤ r.lo
  tm : ∀ (n : Nat) (r : Rec), R[n]? = some r → r.tm = tat all (R.take n) 0 tm0
  small : ∀ (n : Nat) (r : Rec), R[n]? = some r → ∀ id o, r.small id = some o → hat all id (R.take n) 0 (h0 id) = some o
  pair : ∀ (m n : Nat) (a b : Rec), m < n → R[m]? = some a → R[n]? = some b → PairOk ops m a b

theorem aff_disj {ops : Array Oper} {m : Nat} {a b : Rec} (h : PairOk ops m a b) (hb : b.b.testBit m = false) {id : Nat} (h1 : a.aff id = true) (h2 : b.aff id = true) : False := by
  rcases h.apart with e | ⟨e1, e2, _⟩
  · rw [hb] at e; cases e
  · simp only [Rec.aff, Bool.or_eq_true, Bool.and_eq_true, decide_eq_true_eq] at h1 h2
    rcases h2 with h2 | h2
    · rcases h1 with h1 | h1
      · have := h.ord; omega
      · exact e2 id (by simp [Rec.aff, h2]) h1.2
    · exact e1 id (by simp only [Rec.aff, Bool.or_eq_true, Bool.and_eq_true, decide_eq_true_eq]; exact h1) h2.2

section
variable {P : Program} {ops : Array Oper} {n0 : Nat} {h0 : HF} {tm0 : List Value} {R : List Rec}

/-- What a step finds, and what it makes. -/
theorem Recs.step (hR : Recs P ops n0 h0 tm0 R) {D : Nat → Bool} {j : Nat} {r : Rec} (hj : R[j]? = some r) (hD : D j = false) (hpre : ∀ m, r.b.testBit m = true → D m = true)
    (hpost : ∀ k b, R[k]? = some b → D k = true → b.b.testBit j = false) :
    (∀ id o, r.small id = some o → hat D id R 0 (h0 id) = some o) ∧ (∀ t, t ∈ looks ops r.o → getN (tat D R 0 tm0) t = getN r.tm t) ∧
    (∀ id x, hat (more D j) id R 0 x = if r.aff id = true then r.res id else hat D id R 0 x) ∧ tat (more D j) R 0 tm0 = putT (tat D R 0 tm0) r.o.dst r.v := by
  obtain ⟨hlt, hget⟩ := List.getElem?_eq_some_iff.1 hj
  have hlen : (R.take j).length = j := by rw [List.length_take]; omega
  have hsplit : R = R.take j ++ r :: R.drop (j + 1) := by
    rw [← hget, ← List.drop_eq_getElem_cons hlt, List.take_append_drop]
  have htk : ∀ n a, (R.take j)[n]? = some a → n < j ∧ R[n]? = some a := fun n a h => by
    have hn : n < j := by have := (List.getElem?_eq_some_iff.1 h).1; omega
    rw [List.getElem?_take_of_lt hn] at h
    exact ⟨hn, h⟩
  have hdr : ∀ n a, (R.drop (j + 1))[n]? = some a → R[j + 1 + n]? = some a := fun n a h => by
    rw [List.getElem?_drop] at h
    exact h
  have hpairL : ∀ n a, n < j → R[n]? = some a → D n = false → PairOk ops n a r ∧ r.b.testBit n = false := fun n a hn ha hd =>
    ⟨hR.pair n j a r hn ha hj, by
      cases hb : r.b.testBit n with
      | false => rfl
      | true => rw [hpre n hb] at hd; cases hd⟩
  have hpairR : ∀ n b, R[j + 1 + n]? = some b → D (j + 1 + n) = true → PairOk ops j r b ∧ b.b.testBit j = false := fun n b hb hd =>
    ⟨hR.pair j (j + 1 + n) r b (by omega) hj hb, hpost _ b hb hd⟩
  have hH : ∀ D' id x, hat D' id R 0 x = hat D' id (R.drop (j + 1)) (j + 1) (if D' j = true ∧ r.aff id = true then r.res id else hat D' id (R.take j) 0 x) := fun D' id x => by
    conv => lhs; rw [hsplit]
    rw [hat_append, hlen]
    simp only [hat, Nat.zero_add]
  have hT : ∀ D' t, tat D' R 0 t = tat D' (R.drop (j + 1)) (j + 1) (if D' j = true then putT (tat D' (R.take j) 0 t) r.o.dst r.v else tat D' (R.take j) 0 t) := fun D' t => by
    conv => lhs; rw [hsplit]
    rw [tat_append, hlen]
    simp only [tat, Nat.zero_add]
  have hne : ∀ n, n ≠ j → more D j n = D n := fun n hn => by simp [more, hn]
  have hjj : more D j j = true := by simp [more]
  refine ⟨fun id o ho => ?_, fun t ht => ?_, fun id x => ?_, ?_⟩
  · rw [hH, hD]
    simp only [Bool.false_eq_true, false_and, if_false]
    rw [hat_none]
    · rw [← hR.small j r hj id o ho]
      apply hat_agree
      intro n a ha haff
      obtain ⟨hn, ha'⟩ := htk n a ha
      rw [Nat.zero_add]
      cases hd : D n with
      | true => rfl
      | false =>
        obtain ⟨h1, h2⟩ := hpairL n a hn ha' hd
        rcases h1.apart with e | ⟨e1, _⟩
        · rw [h2] at e; cases e
        · exact (e1 id haff (by rw [ho]; rfl)).elim
    · intro n b hb hd
      obtain ⟨h1, h2⟩ := hpairR n b (hdr n b hb) hd
      rcases h1.apart with e | ⟨_, e2, _⟩
      · rw [h2] at e; cases e
      · cases hba : b.aff id with
        | false => rfl
        | true => exact (e2 id hba (by rw [ho]; rfl)).elim
  · rw [hT, hD]
    simp only [Bool.false_eq_true, if_false]
    rw [tat_get, hR.tm j r hj]
    · apply tat_agree _ _ _ _ rfl
      intro n a ha hdst
      obtain ⟨hn, ha'⟩ := htk n a ha
      rw [Nat.zero_add]
      cases hd : D n with
      | true => rfl
      | false =>
        obtain ⟨h1, h2⟩ := hpairL n a hn ha' hd
        rcases h1.apart with e | ⟨_, _, e3, _⟩
        · rw [h2] at e; cases e
        · exact absurd ht (e3 t hdst).1
    · intro n b hb hd hdst
      obtain ⟨h1, h2⟩ := hpairR n b (hdr n b hb) hd
      rcases h1.apart with e | ⟨_, _, _, e4⟩
      · rw [h2] at e; cases e
      · exact e4 t hdst ht
  · rw [hH, hH, hjj, hD]
    simp only [true_and, Bool.false_eq_true, false_and, if_false]
    rw [hat_agree (D := more D j) (D' := D) (R.take j) 0 x (fun n a ha _ => hne _ (by have := (htk n a ha).1; omega))]
    rw [hat_agree (D := more D j) (D' := D) (R.drop (j + 1)) (j + 1) _ (fun n a ha _ => hne _ (by omega))]
    split
    · rename_i haff
      apply hat_none
      intro n b hb hd
      obtain ⟨h1, h2⟩ := hpairR n b (hdr n b hb) hd
      cases hba : b.aff id with
      | false => rfl
      | true => exact (aff_disj h1 h2 haff hba).elim
    · rfl
  · rw [hT, hT, hjj, hD]
    simp only [if_true, Bool.false_eq_true, if_false]
    have e1 : ∀ (L : List Rec) (i : Nat) (t : List Value), (∀ n, n < L.length → i + n ≠ j) → tat (more D j) L i t = tat D L i t := by
      intro L
      induction L with
      | nil => intro i t _; rfl
      | cons a L ih =>
        intro i t h
        simp only [tat]
        rw [hne i (by have := h 0 (by simp); omega)]
        exact ih _ _ fun n hn => by have := h (n + 1) (by simp; omega); omega
    rw [e1 (R.take j) 0 tm0 (fun n hn => by rw [hlen] at hn; omega), e1 (R.drop (j + 1)) (j + 1) _ (fun n hn => by omega)]
    apply tat_put
    intro n b hb hd x hx hbx
    obtain ⟨h1, h2⟩ := hpairR n b (hdr n b hb) hd
    rcases h1.apart with e | ⟨_, _, e3, _⟩
    · rw [h2] at e; cases e
    · exact (e3 x hx).2 hbx
end

/-! ### a small memory's run, in a larger one -/
theorem Out.frame {E E2 : Env} {small res H H' : HF} {lo hi : Nat} {w w2 : World} (a : Out E small lo w E2 res hi w2) (hs : Sim E H w) (sub : ∀ id o, small id = some o → H id = some o)
    (wr : Bool) (lt : ∀ id, (small id).isSome = true → id < lo) (keep : wr = false → ∀ id, id < lo → res id = small id)
    (hH : ∀ id, H' id = if ((decide (lo ≤ id) && decide (id < hi)) || (wr && (small id).isSome)) = true then res id else H id) : Out E H lo w E2 H' hi w2 := by
  have hlive : ∀ id p, (H id).isSome = true → E id = some p → p.b < w.heap.size := fun id p e1 e2 => by
    obtain ⟨o', ho'⟩ := Option.isSome_iff_exists.1 e1
    obtain ⟨p', O', f1, f2, _⟩ := hs.obj id o' ho'
    rw [e2] at f1
    injection f1 with f1
    subst f1
    exact heap_lt f2
  have hsubS : ∀ id, (small id).isSome = true → (H id).isSome = true := fun id h => by
    obtain ⟨o, ho⟩ := Option.isSome_iff_exists.1 h
    rw [sub id o ho]; rfl
  -- an object of the larger memory afterwards: of the run, or untouched
  have cases2 : ∀ id o, H' id = some o → (res id = some o) ∨ (H id = some o ∧ small id = none) := fun id o e => by
    rw [hH] at e
    split at e
    · exact .inl e
    · rename_i hn
      cases hsm : small id with
      | none => exact .inr ⟨e, rfl⟩
      | some o' =>
        have h1 : (small id).isSome = true := by rw [hsm]; rfl
        have hw : wr = false := by
          cases hw : wr with
          | false => rfl
          | true => rw [hw, h1] at hn; simp at hn
        rw [keep hw id (lt id h1), hsm]
        rw [sub id o' hsm] at e
        exact .inl e
  have keptB : ∀ id p, (H id).isSome = true → small id = none → E id = some p → w2.heap[p.b]? = w.heap[p.b]? := fun id p h1 h2 h3 => by
    apply a.kept p.b (hlive id p h1 h3)
    intro id' p' h4 h5 h6
    have := hs.inj id id' p p' h1 (hsubS id' h4) h3 h5 h6.symm
    subst this
    rw [h2] at h4; cases h4
  refine ⟨a.le, a.same, ⟨fun id o e => ?_, fun id id' p p' e e' f f' hb => ?_⟩, a.size, fun b hb hn => a.kept b hb fun id p e1 e2 => hn id p (hsubS id e1) e2, fun id p e f => ?_, a.tape, a.os, a.output, a.rows⟩
  · rcases cases2 id o e with h | ⟨h1, h2⟩
    · exact a.sim.obj id o h
    · obtain ⟨p, O, f1, f2, f3⟩ := hs.obj id o h1
      exact ⟨p, O, a.le _ _ f1, by rw [keptB id p (by rw [h1]; rfl) h2 f1]; exact f2, f3.mono a.le⟩
  · obtain ⟨o, ho⟩ := Option.isSome_iff_exists.1 e
    obtain ⟨o', ho'⟩ := Option.isSome_iff_exists.1 e'
    have mixed : ∀ id o id' o' p p', res id = some o → H id' = some o' → small id' = none → E2 id = some p → E2 id' = some p' → p.b = p'.b → False := by
      intro id o id' o' p p' h1 h2 h3 f f' hb
      obtain ⟨q', O, g1, g2, _⟩ := hs.obj id' o' h2
      have g3 := a.le _ _ g1
      rw [f'] at g3
      injection g3 with g3
      subst g3
      rcases a.new id p (by rw [h1]; rfl) f with h | ⟨id0, p0, k1, k2, k3⟩
      · have := heap_lt g2; omega
      · have := hs.inj id0 id' p0 p' (hsubS id0 k1) (by rw [h2]; rfl) k2 g1 (by omega)
        subst this
        rw [h3] at k1; cases k1
    rcases cases2 id o ho with h | ⟨h1, h2⟩ <;> rcases cases2 id' o' ho' with g | ⟨g1, g2⟩
    · exact a.sim.inj id id' p p' (by rw [h]; rfl) (by rw [g]; rfl) f f' hb
    · exact (mixed id o id' o' p p' h g1 g2 f f' hb).elim
    · exact (mixed id' o' id o p' p g h1 h2 f' f hb.symm).elim
    · obtain ⟨q, O, k1, _, _⟩ := hs.obj id o h1
      obtain ⟨q', O', k1', _, _⟩ := hs.obj id' o' g1
      have k2 := a.le _ _ k1
      have k2' := a.le _ _ k1'
      rw [f] at k2
      rw [f'] at k2'
      injection k2 with k2
      injection k2' with k2'
      subst k2 k2'
      exact hs.inj id id' p p' (by rw [h1]; rfl) (by rw [g1]; rfl) k1 k1' hb
  · obtain ⟨o, ho⟩ := Option.isSome_iff_exists.1 e
    rcases cases2 id o ho with h | ⟨h1, h2⟩
    · rcases a.new id p (by rw [h]; rfl) f with k | ⟨id0, p0, k1, k2, k3⟩
      · exact .inl k
      · exact .inr ⟨id0, p0, hsubS id0 k1, k2, k3⟩
    · obtain ⟨q, O, k1, _, _⟩ := hs.obj id o h1
      have k2 := a.le _ _ k1
      rw [f] at k2
      injection k2 with k2
      subst k2
      exact .inr ⟨id, p, by rw [h1]; rfl, k1, rfl⟩

theorem Out.widen {E E2 : Env} {h h' : HF} {lo hi lo' hi' : Nat} {w w2 : World} (a : Out E h lo w E2 h' hi w2) (h1 : lo' ≤ lo) (h2 : hi ≤ hi') : Out E h lo' w E2 h' hi' w2 :=
  { a with same := fun id hid => a.same id (by omega) }

theorem Out.trans' {E E1 E2 : Env} {h h1 h2 : HF} {lo hi : Nat} {w w1 w2 : World} (a : Out E h lo w E1 h1 hi w1) (b : Out E1 h1 lo w1 E2 h2 hi w2) : Out E h lo w E2 h2 hi w2 where
  le := a.le.trans b.le
  same := fun id hid => by rw [b.same id hid, a.same id hid]
  sim := b.sim
  size := Nat.le_trans a.size b.size
  kept := fun x hx hn => by
    rw [b.kept x (Nat.lt_of_lt_of_le hx a.size) (fun id p e1 e2 => ?_), a.kept x hx hn]
    rcases a.new id p e1 e2 with h | ⟨id0, p0, f1, f2, f3⟩
    · omega
    · rw [← f3]; exact hn id0 p0 f1 f2
  new := fun id p e1 e2 => by
    rcases b.new id p e1 e2 with h | ⟨id0, p0, f1, f2, f3⟩
    · exact .inl (Nat.le_trans a.size h)
    · rcases a.new id0 p0 f1 f2 with h | ⟨id1, p1, g1, g2, g3⟩
      · exact .inl (by omega)
      · exact .inr ⟨id1, p1, g1, g2, by omega⟩
  tape := by rw [b.tape, a.tape]
  os := by rw [b.os, a.os]
  output := by rw [b.output, a.output]
  rows := fun x C e f h => let ⟨C', h'⟩ := a.rows x C e f h; b.rows x C' e f h'

end Go.Ev

/- The evaluator: regions whose order is open; whatever the order. -/
namespace Go.Ev

def cnt (D : Nat → Bool) : Nat → Nat
  | 0 => 0
  | n + 1 => cnt D n + (if D n = true then 0 else 1)

theorem cnt_more {D : Nat → Bool} {j : Nat} (hD : D j = false) : ∀ n, cnt (more D j) n + (if j < n then 1 else 0) = cnt D n := by
  intro n
  induction n with
  | zero => simp [cnt]
  | succ n ih =>
    simp only [cnt]
    by_cases h : n = j
    · subst h
      simp only [Nat.lt_irrefl, if_false, Nat.add_zero] at ih
      simp [ih, more, hD]
    · have hm : more D j n = D n := by simp [more, h]
      rw [hm]
      by_cases hj : j < n
      · have a : (if j < n + 1 then 1 else 0) = 1 := if_pos (by omega)
        rw [if_pos hj] at ih
        omega
      · have a : (if j < n + 1 then 1 else 0) = 0 := if_neg (by omega)
        rw [if_neg hj] at ih
        omega

theorem cnt_zero {D : Nat → Bool} : ∀ n, cnt D n = 0 → ∀ i, i < n → D i = true := by
  intro n
  induction n with
  | zero => intro _ i hi; omega
  | succ n ih =>
    intro h i hi
    simp only [cnt] at h
    by_cases hn : D n = true
    · by_cases he : i = n
      · subst he; exact hn
      · exact ih (by omega) i (by omega)
    · rw [if_neg hn] at h; omega

/-- What is known of the bits that say what stands before. -/
structure Bits (ops : Array Oper) (R : List Rec) : Prop where
  size : R.length = ops.size
  lt : ∀ (n : Nat) (r : Rec), R[n]? = some r → ∀ m, r.b.testBit m = true → m < n
  up : ∀ (n : Nat) (r : Rec), R[n]? = some r → ∀ m, r.b.testBit m = true → ∃ e ∈ r.o.after, Region.binds .any e = true ∧ (m = e.on ∨ ∃ r', R[e.on]? = some r' ∧ r'.b.testBit m = true)
  dn : ∀ (n : Nat) (r : Rec), R[n]? = some r → ∀ e ∈ r.o.after, Region.binds .any e = true → r.b.testBit e.on = true

def Closed (D : Nat → Bool) (R : List Rec) : Prop := ∀ (n : Nat) (r : Rec), R[n]? = some r → D n = true → ∀ m, r.b.testBit m = true → D m = true

section
variable {P : Program} {ops : Array Oper} {n0 n1 : Nat} {h0 : HF} {tm0 : List Value} {R : List Rec} {E0 : Env} {w0 : World}

structure Inv (ops : Array Oper) (n0 n1 : Nat) (h0 : HF) (tm0 : List Value) (R : List Rec) (E0 : Env) (w0 : World) (D : Nat → Bool) (E : Env) (w : World) (tmps : Array Value) : Prop where
  out : Out E0 h0 n0 w0 E (fun id => hat D id R 0 (h0 id)) n1 w
  tmps : VL E (tat D R 0 tm0) tmps.toList
  fresh : ∀ (k : Nat) (r : Rec), R[k]? = some r → D k = false → Fresh E r.lo r.hi

theorem region_step (hR : Recs P ops n0 h0 tm0 R) (hi1 : ∀ (n : Nat) (r : Rec), R[n]? = some r → r.hi ≤ n1) {D : Nat → Bool} {E : Env} {w : World} {F : Frame} (hI : Inv ops n0 n1 h0 tm0 R E0 w0 D E w F.tmps)
    {j : Nat} {r : Rec} (hj : R[j]? = some r) (hD : D j = false) (hpre : ∀ m, r.b.testBit m = true → D m = true) (hcl : Closed D R) {rest : List Nat} {k : List Item} (hm : F.mode = .run) (ht : F.todo = .inRegion ops (j :: rest) :: k) :
    ∃ E2 w2 F2, Inv ops n0 n1 h0 tm0 R E0 w0 (more D j) E2 w2 F2.tmps ∧ Goes P F w F2 w2 ∧ F2 = { F with tmps := F2.tmps, todo := .inRegion ops rest :: k } := by
  obtain ⟨s1, s2, s3, s4⟩ := hR.step hj hD hpre (fun k b hb hk => by
    cases hbt : b.b.testBit j with
    | false => rfl
    | true => have := hcl k b hb hk j hbt; rw [hD] at this; cases this)
  have ho := hR.each j r hj
  have hsim := hI.out.sim
  obtain ⟨E2, w2, v2, q1, q2, q3⟩ := ho.law E w F rest k _ (hI.fresh j r hj hD) (hsim.sub s1) hI.tmps s2 ⟨hm, ht, ho.at_⟩
  have hfr := q2.frame (H := fun id => hat D id R 0 (h0 id)) (H' := fun id => hat (more D j) id R 0 (h0 id)) hsim s1 r.writes ho.lt ho.keep (fun id => by rw [s3]; rfl)
  have hf := finish_at ht ho.at_ v2
  refine ⟨E2, w2, F.finish v2, ⟨hI.out.trans' (hfr.widen (hR.low j r hj) (hi1 j r hj)), ?_, fun n a ha hd => ?_⟩, q3, ?_⟩
  · rw [s4, hf]
    exact put_ok (hI.tmps.mono q2.le) r.o.dst q1
  · have hnj : n ≠ j := fun e => by subst e; simp [more] at hd
    have hd' : D n = false := by simpa [more, hnj] using hd
    intro id h1 h2
    have hrange : id < r.lo ∨ r.hi ≤ id := by
      rcases Nat.lt_or_gt_of_ne hnj with h | h
      · have := (hR.pair n j a r h ha hj).ord; omega
      · have := (hR.pair j n r a h hj ha).ord; omega
    rw [q2.same id hrange]
    exact hI.fresh n a ha hd' id h1 h2
  · rw [hf]

theorem region_go (hR : Recs P ops n0 h0 tm0 R) (hi1 : ∀ (n : Nat) (r : Rec), R[n]? = some r → r.hi ≤ n1) (hB : Bits ops R) : ∀ (fuel t : Nat) (listed : Array Bool) (E : Env) (w : World) (F : Frame) (k : List Item),
    listed.size = ops.size → Closed (fun i => listed.getD i false) R → cnt (fun i => listed.getD i false) ops.size ≤ fuel → Inv ops n0 n1 h0 tm0 R E0 w0 (fun i => listed.getD i false) E w F.tmps → F.mode = .run →
    F.todo = .inRegion ops (Region.linearise.go .any ops fuel t listed []) :: k →
    ∃ E2 w2 F2, Inv ops n0 n1 h0 tm0 R E0 w0 all E2 w2 F2.tmps ∧ Goes P F w F2 w2 ∧ F2 = { F with tmps := F2.tmps, todo := k } := by
  have done : ∀ (D : Nat → Bool) (E : Env) (w : World) (tmps : Array Value), (∀ i, i < ops.size → D i = true) → Inv ops n0 n1 h0 tm0 R E0 w0 D E w tmps → Inv ops n0 n1 h0 tm0 R E0 w0 all E w tmps := by
    intro D E w tmps hall hI
    have e1 : ∀ id x, hat D id R 0 x = hat all id R 0 x := fun id x => hat_agree R 0 x fun n r hr _ => by
      rw [hall _ (by have := (List.getElem?_eq_some_iff.1 hr).1; have := hB.size; omega)]; rfl
    have e2 : ∀ (L : List Rec) (i : Nat) (t : List Value), i + L.length ≤ ops.size → tat D L i t = tat all L i t := by
      intro L
      induction L with
      | nil => intro i t _; rfl
      | cons a L ih =>
        intro i t hl
        simp only [tat]
        simp only [List.length_cons] at hl
        rw [hall i (by omega), ih _ _ (by omega)]
        rfl
    refine ⟨?_, ?_, fun k r hr hd => by simp [all] at hd⟩
    · have : (fun id => hat all id R 0 (h0 id)) = fun id => hat D id R 0 (h0 id) := by funext id; rw [e1]
      rw [this]; exact hI.out
    · rw [← e2 R 0 tm0 (by have := hB.size; omega)]; exact hI.tmps
  intro fuel
  induction fuel with
  | zero =>
    intro t listed E w F k hsz hcl hc hI hm ht
    simp only [Region.linearise.go, List.reverse_nil] at ht
    exact ⟨E, w, { F with todo := k }, done _ E w _ (cnt_zero _ (by omega)) hI, Goes.one fun cs => step_inRegionEndF hm ht, rfl⟩
  | succ fuel ih =>
    intro t listed E w F k hsz hcl hc hI hm ht
    simp only [Region.linearise.go] at ht
    change F.todo = .inRegion ops (match (Region.ready .any ops listed)[t % (Region.ready .any ops listed).length]? with
      | some i => Region.linearise.go .any ops fuel (t / (Region.ready .any ops listed).length) (listed.setIfInBounds i true) [i]
      | none => [].reverse) :: k at ht
    have hmem : ∀ i, i ∈ Region.ready .any ops listed ↔ i < ops.size ∧ listed.getD i false = false ∧ ∃ o, ops[i]? = some o ∧ ∀ e ∈ o.after, Region.binds .any e = true → listed.getD e.on false = true := by
      intro i
      simp only [Region.ready, List.mem_filter, List.mem_range, Bool.and_eq_true, Bool.not_eq_true']
      constructor
      · rintro ⟨h1, h2, h3⟩
        have hlt : i < listed.size := by omega
        refine ⟨h1, ?_, ops[i], by simp [h1], ?_⟩
        · simpa [Array.getD, hlt] using h2
        · simp only [Array.getElem?_eq_getElem h1, Option.map_some, Option.getD_some, Array.all_eq_true_iff_forall_mem] at h3
          intro e he hb
          have := h3 e he
          simpa [hb] using this
      · rintro ⟨h1, h2, o, h3, h4⟩
        have hlt : i < listed.size := by omega
        refine ⟨h1, by simpa [Array.getD, hlt] using h2, ?_⟩
        rw [h3]
        simp only [Option.map_some, Option.getD_some, Array.all_eq_true_iff_forall_mem]
        intro e he
        cases hb : Region.binds .any e with
        | false => rfl
        | true => rw [h4 e he hb]; rfl
    cases hi : (Region.ready .any ops listed)[t % (Region.ready .any ops listed).length]? with
    | none =>
      have hnil : Region.ready .any ops listed = [] := by
        cases hr : Region.ready .any ops listed with
        | nil => rfl
        | cons x xs =>
          rw [hr] at hi
          have hlt : t % (x :: xs).length < (x :: xs).length := Nat.mod_lt _ (by simp)
          simp at hi
          simp at hlt
          omega
      rw [hi] at ht
      simp only [List.reverse_nil] at ht
      have hall : ∀ i, i < ops.size → listed.getD i false = true := by
        intro i
        induction i using Nat.strongRecOn with
        | ind i ih2 =>
          intro hi'
          cases hl : listed.getD i false with
          | true => rfl
          | false =>
            obtain ⟨ri, hr⟩ : ∃ r, R[i]? = some r := ⟨_, List.getElem?_eq_getElem (show i < R.length by rw [hB.size]; exact hi')⟩
            have ho := (hR.each i _ hr).at_
            have : i ∈ Region.ready .any ops listed := (hmem i).2 ⟨hi', hl, _, ho, fun e he hb => by
              have h1 := hB.dn i _ hr e he hb
              have h2 := hB.lt i _ hr _ h1
              exact ih2 e.on h2 (by omega)⟩
            rw [hnil] at this
            cases this
      exact ⟨E, w, { F with todo := k }, done _ E w _ hall hI, Goes.one fun cs => step_inRegionEndF hm ht, rfl⟩
    | some i =>
      rw [hi] at ht
      simp only [] at ht
      rw [linearise_go_acc, List.reverse_singleton, List.singleton_append] at ht
      obtain ⟨g1, g2, o, g3, g4⟩ := (hmem i).1 (List.mem_of_getElem? hi)
      obtain ⟨ri, hr⟩ : ∃ r, R[i]? = some r := ⟨_, List.getElem?_eq_getElem (show i < R.length by rw [hB.size]; exact g1)⟩
      have ho := (hR.each i _ hr).at_
      rw [g3] at ho
      injection ho with ho
      have hpre : ∀ m, ri.b.testBit m = true → listed.getD m false = true := by
        intro m hm'
        obtain ⟨e, he, hb, hmm⟩ := hB.up i _ hr m hm'
        have hon := g4 e (by rw [ho]; exact he) hb
        rcases hmm with rfl | ⟨r', hr', hbt⟩
        · exact hon
        · exact hcl e.on r' hr' hon m hbt
      obtain ⟨E1, w1, F1, i1, go1, e1⟩ := region_step hR hi1 hI hr g2 hpre hcl hm ht
      have hD : (fun x => (listed.setIfInBounds i true).getD x false) = more (fun x => listed.getD x false) i := by
        funext x
        simp only [more, Array.getD_eq_getD_getElem?, Array.getElem?_setIfInBounds]
        by_cases hx : i = x
        · subst hx
          simp [show i < listed.size by omega]
        · have hx' : ¬ x = i := fun e => hx e.symm
          simp [hx, hx']
      obtain ⟨E2, w2, F2, i2, go2, e2⟩ := ih (t / (Region.ready .any ops listed).length) (listed.setIfInBounds i true) E1 w1 F1 k (by simp [hsz]) (by
        rw [hD]
        intro n a ha hd m hbt
        by_cases hmi : m = i
        · subst hmi; simp [more]
        · simp only [more, hmi, if_false]
          by_cases hni : n = i
          · subst hni
            rw [hr] at ha
            injection ha with ha
            subst ha
            exact hpre m hbt
          · simp only [more, hni, if_false] at hd
            exact hcl n a ha hd m hbt) (by
        rw [hD]
        have := cnt_more (D := fun x => listed.getD x false) (j := i) g2 ops.size
        rw [if_pos g1] at this
        omega) (by rw [hD]; exact i1) (by rw [e1]; exact hm) (by rw [e1])
      refine ⟨E2, w2, F2, i2, go1.trans go2, ?_⟩
      rw [e2, e1]

/-- A region whose order is drawn. -/
theorem region_all (hP : P.follows .mixedOrders = true) (hR : Recs P ops n0 h0 tm0 R) (hi1 : ∀ (n : Nat) (r : Rec), R[n]? = some r → r.hi ≤ n1) (hB : Bits ops R) {E : Env} {w : World} {F : Frame} {k : List Item} {i : Nat}
    (hfr : Fresh E n0 n1) (hs : Sim E h0 w) (ht : VL E tm0 F.tmps.toList) (hm : F.mode = .run) (htodo : F.todo = .code (.region i ops true) :: k) :
    ∃ E2 w2 F2, Out E h0 n0 w E2 (fun id => hat all id R 0 (h0 id)) n1 w2 ∧ VL E2 (tat all R 0 tm0) F2.tmps.toList ∧ Goes P F w F2 w2 ∧ F2 = { F with tmps := F2.tmps, todo := k } := by
  have hno : (fun i => (Array.replicate ops.size false).getD i false) = fun _ => false := by
    funext x
    simp only [Array.getD_eq_getD_getElem?, Array.getElem?_replicate]
    split <;> rfl
  have e1 : ∀ (L : List Rec) (i : Nat) (id : Nat) (x : Option Obj), hat (fun _ => false) id L i x = x := fun L i id x => hat_none L i x fun n r _ h => by cases h
  have e2 : ∀ (L : List Rec) (i : Nat) (t : List Value), tat (fun _ => false) L i t = t := by
    intro L
    induction L with
    | nil => intro i t; rfl
    | cons a L ih => intro i t; simp only [tat, Bool.false_eq_true, if_false]; exact ih _ _
  have hsw : Sim E h0 w.drew := ⟨hs.obj, hs.inj⟩
  have hI : Inv ops n0 n1 h0 tm0 R E w (fun i => (Array.replicate ops.size false).getD i false) E w.drew F.tmps := by
    rw [hno]
    refine ⟨⟨Le.refl E, fun _ _ => rfl, ⟨fun id o e => hs.obj id o (by rw [e1] at e; exact e), fun id id' p p' e e' => hs.inj id id' p p' (by rw [e1] at e; exact e) (by rw [e1] at e'; exact e')⟩, Nat.le_refl _, fun _ _ _ => rfl,
      fun id p e1' e2' => .inr ⟨id, p, by rw [e1] at e1'; exact e1', e2', rfl⟩, rfl, rfl, rfl, fun _ C _ _ h => ⟨C, h⟩⟩, by rw [e2]; exact ht, fun k r hr _ id x1 x2 => hfr id (Nat.le_trans (hR.low k r hr) x1) (Nat.lt_of_lt_of_le x2 (hi1 k r hr))⟩
  obtain ⟨E2, w2, F2, i2, g2, f2⟩ := region_go (P := P) hR hi1 hB ops.size (w.tape w.drawn (.order F.fn i)) (Array.replicate ops.size false) E w.drew { F with todo := .inRegion ops (Region.linearise .any ops (w.tape w.drawn (.order F.fn i))) :: k } k
    (by simp) (by rw [hno]; intro n r _ h; cases h) (by
      rw [hno]
      have : ∀ n, cnt (fun _ => false) n = n := by
        intro n; induction n with
        | zero => rfl
        | succ n ih => simp [cnt, ih]
      rw [this]; exact Nat.le_refl _) hI hm rfl
  refine ⟨E2, w2, F2, i2.out, i2.tmps, (Goes.one fun cs => step_regionDF hm htodo hP).trans g2, ?_⟩
  rw [f2]
end
end Go.Ev
