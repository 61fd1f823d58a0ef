/- What a function computes, as a proposition, and that it is sound. -/
import Derived.Test.YtpaeganfehemnaaGreatEvc

namespace Go.Ev

/-! ### what is known of a frame's places (none: nothing) -/
abbrev OEnv := List (Option Value)

def getO : OEnv → Nat → Option Value
  | [], _ => none
  | v :: _, 0 => v
  | _ :: l, n + 1 => getO l n

def putO : OEnv → Nat → Option Value → OEnv
  | [], _, _ => []
  | _ :: l, 0, v => v :: l
  | x :: l, n + 1, v => x :: putO l n v

def setO (e : OEnv) (d : Option Tmp) (v : Value) : OEnv := match d with | some d => putO e d (some v) | none => e

def opd (e : OEnv) : Operand → Option Value
  | .tmp t => getO e t
  | .const v => some v
  | .global _ => none
  | .func f => some (.func (.func f) #[] #[])

def opV (e : OEnv) (x : Operand) : Value := match opd e x with | some v => v | none => undef

def okD (e : OEnv) : List Operand → Bool
  | [] => true
  | x :: l => match opd e x with | some _ => okD e l | none => false

def allSome : List Value → OEnv
  | [] => []
  | v :: l => some v :: allSome l

def nones : Nat → OEnv
  | 0 => []
  | n + 1 => none :: nones n

def nth : List Value → Nat → Value
  | [], _ => undef
  | v :: _, 0 => v
  | _ :: l, n + 1 => nth l n

def readL (e : OEnv) : List Nat → Option (List Value)
  | [] => some []
  | m :: ms => match getO e m with
    | some v => (match readL e ms with | some vs => some (v :: vs) | none => none)
    | none => none

def junk (e : OEnv) : List Nat → OEnv
  | [] => e
  | d :: ds => junk (putO e d none) ds

def emb (e : OEnv) (xs : List Value) : List Nat → Nat → OEnv
  | [], _ => e
  | m :: ms, j => emb (putO e m (some (nth xs j))) xs ms (j + 1)

/-! ### words -/
inductive B (x : Option Value) (f : Value → Prop) : Prop
  | mk (v : Value) (h : x = some v) (hf : f v) : B x f

inductive B2 (x : Option (Value × St)) (f : Value → St → Prop) : Prop
  | mk (v : Value) (st : St) (h : x = some (v, st)) (hf : f v st) : B2 x f

inductive If (v : Value) (a b : Prop) : Prop
  | mk (t : Bool) (h : v = .bool t) (ha : t = true → a) (hb : t = false → b) : If v a b

def want (v : Value) (w : Bool) : Bool := match v with | .bool b => b == w | _ => false
def Gv (v : Value) (w : Bool) (x : Value) : Value := cond (want v w) x undef
def Gd (v : Value) (w : Bool) (x : Option Value) : Option Value := cond (want v w) x (some undef)
def G2 (v : Value) (w : Bool) (st : St) (x : Option (Value × St)) : Option (Value × St) := cond (want v w) x (some (undef, st))

/-- A call of a function comes back. -/
structure GoodCall (P : Program) (f : FuncId) (args : List Value) (st : St) (v : Value) (st' : St) : Prop where
  callable : Callable P f
  abs : Abs st st'
  run : ∀ E w args', Fresh E st.nxt st'.nxt → Sim E (hget st.heap) w → VL E args (Array.toList args') →
    ∃ E2 w2 v2, VR E2 v v2 ∧ Out E (hget st.heap) st.nxt w E2 (hget st'.heap) st'.nxt w2 ∧ Returns P (Frame.enter P f args' .normal) w v2 w2

/-- A frame that has been called comes back. -/
structure GoodFrame (P : Program) (callee : AF) (st : St) (v : Value) (st' : St) : Prop where
  abs : Abs st st'
  run : ∀ E w F, Fresh E st.nxt st'.nxt → Sim E (hget st.heap) w → FR E callee F → ∃ E2 w2 v2, VR E2 v v2 ∧ Out E (hget st.heap) st.nxt w E2 (hget st'.heap) st'.nxt w2 ∧ Returns P F w v2 w2

inductive CallP (P : Program) (f : FuncId) (args : List Value) (st : St) (Q : Value → St → Prop) : Prop
  | mk (h : Live st → ∃ v st', GoodCall P f args st v st' ∧ Q v st') : CallP P f args st Q

inductive YieldP (P : Program) (l : Nat) (args : List Value) (st : St) (Q : Value → St → Prop) : Prop
  | mk (h : Live st → ∃ r tmps v st', hget st.heap l = some (.loop r) ∧ putAll r.tmps.toList r.params.toList args = some tmps ∧ GoodFrame P (roundA l r.fn tmps r.assign r.body) st v st' ∧ Q v st') : YieldP P l args st Q

inductive CallV (P : Program) (fv : Value) (args : List Value) (st : St) (Q : Value → St → Prop) : Prop
  | fn (f : FuncId) (a c : Array Value) (h : fv = .func (.func f) a c) (hc : CallP P f (a.toList ++ args ++ c.toList) st Q) : CallV P fv args st Q
  | yield (l : Nat) (a c : Array Value) (h : fv = .func (.yield l) a c) (hc : YieldP P l (a.toList ++ args) st Q) : CallV P fv args st Q

/-- A call that leaves memory as it was. -/
inductive CallQ (P : Program) (f : FuncId) (args : List Value) (st : St) (Q : Value → St → Prop) : Prop
  | mk (h : Live st → ∃ v m, GoodCall P f args st v { heap := st.heap, nxt := m, wr := st.wr } ∧ Q v { heap := st.heap, nxt := m, wr := st.wr }) : CallQ P f args st Q

inductive CallQV (P : Program) (fv : Value) (args : List Value) (st : St) (Q : Value → St → Prop) : Prop
  | fn (f : FuncId) (a c : Array Value) (h : fv = .func (.func f) a c) (hc : CallQ P f (a.toList ++ args ++ c.toList) st Q) : CallQV P fv args st Q

inductive GC (v : Value) (w : Bool) (st : St) (c : (Value → St → Prop) → Prop) (k : Value → St → Prop) : Prop
  | mk (h1 : want v w = true → c k) (h2 : want v w = false → k undef st) : GC v w st c k

/-- The least that a loop's text asks for. -/
inductive Lp (body : List Value → St → (List Value → St → Prop) → Prop) (xs : List Value) (st : St) : Prop
  | mk (out : ∀ X : List Value → St → Prop, (∀ xs st (Y : List Value → St → Prop), (∀ a b, Y a b → X a b) → body xs st Y → X xs st) → X xs st) : Lp body xs st

theorem Lp.unfold {body : List Value → St → (List Value → St → Prop) → Prop} {xs : List Value} {st : St} (h : body xs st (Lp body)) : Lp body xs st :=
  ⟨fun X hX => hX xs st (Lp body) (fun _ _ hl => hl.rec fun out => out X hX) h⟩

/-! ### operations -/
def evPick (c a b : Value) : Option Value := match c with | .bool t => some (cond t a b) | _ => none
def evNil (x : Value) : Option Value := match x with | .pointer (some a) => some (.pointer (some a)) | .func (.func f) a b => some (.func (.func f) a b) | .func (.yield f) a b => some (.func (.yield f) a b) | _ => none
def evBox (st : St) (t : TypeId) (v : Value) : Option (Value × St) :=
  cond ((cellsL v).all oneC) (some (.pointer (some ⟨st.nxt, 0, none⟩), st.push (.cells ⟨cellsL v⟩ t))) none
def evNew (T : Tab) (st : St) (t : TypeId) : Option (Value × St) := match T.ty t with | some r => evBox st t r.zv | none => none
def evStoreU (T : Tab) (st : St) (t : TypeId) (a x : Value) : Option (Value × St) := match evStore T st t a x with | some st => some (undef, st) | none => none
def evMapUpdateU (T : Tab) (st : St) (t : TypeId) (m k x : Value) : Option (Value × St) := match evMapUpdate T st t m k x with | some st => some (undef, st) | none => none
def evAppendU (T : Tab) (st : St) (t t' : TypeId) (s x : Value) : Option (Value × St) := cond (isSl T t') (evAppend T st t s x) none
def evMakeMapU (st : St) : Option (Value × St) := some (.map (some st.nxt), st.push (.map #[] 0))
def evMaxL : List Value → Option Value
  | x :: l => evMax x l
  | [] => none
def evMinL : List Value → Option Value
  | x :: l => evMin x l
  | [] => none
def evLenM (T : Tab) (st : St) (t : TypeId) (x : Value) : Option Value :=
  match x with
  | .string s => (match T.ty t with | some { td := .str, .. } => some (goInt s.data.toList.length) | _ => none)
  | .slice _ n _ => (match T.ty t with | some { td := .sl _, .. } => some (goInt n) | _ => none)
  | .iface _ (.slice _ n _) => (match T.ty t with | some { td := .sl _, .. } => some (goInt n) | _ => none)
  | .map (some r) => (match T.ty t, hget st.heap r with
    | some { td := .map _ _, .. }, some (.map es _) => some (goInt es.toList.length)
    | _, _ => none)
  | .map none => (match T.ty t with
    | some { td := .map _ _, .. } => some (goInt 0)
    | _ => none)
  | _ => none

/-- Operations that give a value and leave memory as it is. -/
def valOp (e : OEnv) (T : Tab) (st : St) (o : Op) : Option (Option Value) :=
  match o with
  | .pick c a b => some (evPick (opV e c) (opV e a) (opV e b))
  | .build t parts => some (evBuild T t (parts.toList.map fun p => (p.1, opV e p.2)))
  | .nilCheck x => some (evNil (opV e x))
  | .binOp op t x y _ => some (evBin T op t (opV e x) (opV e y))
  | .unOp op _ x => some (evUn op (opV e x))
  | .convert s d x => some (evConvert T s d (opV e x))
  | .slice t x lo hi mx => some (evSlice T t (opV e x) (lo.map (opV e)) (hi.map (opV e)) (mx.map (opV e)))
  | .fieldAddr s x f => some (evFieldAddr T s (opV e x) f)
  | .field t x f => some (evField T t (opV e x) f)
  | .indexAddr t x ix => some (evIndexAddr T t (opV e x) (opV e ix))
  | .index t x ix => some (evIndex T t (opV e x) (opV e ix))
  | .extract t ix => some (evExtract (opV e t) ix)
  | .load t a => some (evLoad T st t (opV e a))
  | .lookup t x k ok => some (evLookup T st t (opV e x) (opV e k) ok)
  | .entry it => some (evEntry st (opV e it))
  | .call { callee := .builtin .len, args, argTypes } => match argTypes.toList, args.toList with
    | [t], [x] => some (evLenM T st t (opV e x))
    | _, _ => none
  | .call { callee := .builtin .max, args, .. } => some (evMaxL (args.toList.map (opV e)))
  | .call { callee := .builtin .min, args, .. } => some (evMinL (args.toList.map (opV e)))
  | _ => none

/-- Operations that turn memory. -/
def stOp (e : OEnv) (T : Tab) (st : St) (o : Op) : Option (Option (Value × St)) :=
  match o with
  | .alloc t => some (evNew T st t)
  | .box t x => some (evBox st t (opV e x))
  | .buildSlice t len parts => some (evBuildSlice T st t len (parts.toList.map fun p => (p.1, opV e p.2)))
  | .store t a x => some (evStoreU T st t (opV e a) (opV e x))
  | .makeMap _ none => some (evMakeMapU st)
  | .makeSlice t l c => some (evMakeSlice T st t (opV e l) (opV e c))
  | .mapUpdate t m k x | .insert t m k x => some (evMapUpdateU T st t (opV e m) (opV e k) (opV e x))
  | .range t x => some (evRange T st t (opV e x))
  | .next it false => some (evNext st (opV e it))
  | .call { callee := .builtin .append, args, argTypes } => match argTypes.toList, args.toList with
    | [t, t'], [s, x] => some (evAppendU T st t t' (opV e s) (opV e x))
    | _, _ => none
  | .call { callee := .builtin .copy, args, argTypes } => match argTypes.toList, args.toList with
    | t :: _, [d, s] => some (evCopy T st t (opV e d) (opV e s))
    | _, _ => none
  | _ => none

/-- What is known of the value that says whether an operation is wanted. -/
def guardOf (e : OEnv) (ops : List Oper) (o : Oper) : Option (Option (Value × Bool)) :=
  match o.guard with
  | none => some none
  | some (j, w) => match ops[j]? with
    | some p => match p.dst with
      | some d => match getO e d with
        | some v => some (some (v, w))
        | none => none
      | none => none
    | none => none

/-- One operation that is wanted. -/
def denC (P : Program) (T : Tab) (e : OEnv) (st : St) (o : Oper) (k : OEnv → St → Prop) : Prop :=
  match o.op with
  | .move x => k (setO e o.dst (opV e x)) st
  | .assign x => k (setO e o.dst (opV e x)) st
  | .makeFunc (.func f) a b => k (setO e o.dst (.func (.func f) ⟨a.toList.map (opV e)⟩ ⟨b.toList.map (opV e)⟩)) st
  | .call { callee := .value (.func f), args, .. } => CallP P f (args.toList.map (opV e)) st fun v st => k (setO e o.dst v) st
  | .call { callee := .value x, args, .. } => CallV P (opV e x) (args.toList.map (opV e)) st fun v st => k (setO e o.dst v) st
  | op => match valOp e T st op with
    | some r => B r fun v => k (setO e o.dst v) st
    | none => match stOp e T st op with
      | some r => B2 r fun v st => k (setO e o.dst v) st
      | none => False

/-- One operation that may be wanted. -/
def denG (P : Program) (T : Tab) (e : OEnv) (st : St) (o : Oper) (g : Value) (w : Bool) (k : OEnv → St → Prop) : Prop :=
  match o.op with
  | .move x => k (setO e o.dst (Gv g w (opV e x))) st
  | .assign x => k (setO e o.dst (Gv g w (opV e x))) st
  | .makeFunc (.func f) a b => k (setO e o.dst (Gv g w (.func (.func f) ⟨a.toList.map (opV e)⟩ ⟨b.toList.map (opV e)⟩))) st
  | .call { callee := .value (.func f), args, .. } => GC g w st (CallP P f (args.toList.map (opV e)) st) fun v st => k (setO e o.dst v) st
  | .call { callee := .value x, args, .. } => GC g w st (CallV P (opV e x) (args.toList.map (opV e)) st) fun v st => k (setO e o.dst v) st
  | op => match valOp e T st op with
    | some r => B (Gd g w r) fun v => k (setO e o.dst v) st
    | none => match stOp e T st op with
      | some r => B2 (G2 g w st r) fun v st => k (setO e o.dst v) st
      | none => False

/-- One operation. -/
def den1 (P : Program) (T : Tab) (ops : List Oper) (e : OEnv) (st : St) (o : Oper) (k : OEnv → St → Prop) : Prop :=
  match okOp o.op && okD e o.op.operands.toList with
  | false => False
  | true =>
  match guardOf e ops o with
  | none => False
  | some none => denC P T e st o k
  | some (some (g, w)) => denG P T e st o g w k

def denOps (P : Program) (T : Tab) (ops : List Oper) : List Oper → OEnv → St → (OEnv → St → Prop) → Prop
  | [], e, st, k => k e st
  | o :: l, e, st, k => den1 P T ops e st o fun e st => denOps P T ops l e st k

/-- One operation of a region whose order is open, wanted: it only reads. -/
def denCQ (P : Program) (T : Tab) (e : OEnv) (st : St) (o : Oper) (k : OEnv → St → Prop) : Prop :=
  match o.op with
  | .move x => k (setO e o.dst (opV e x)) st
  | .assign x => k (setO e o.dst (opV e x)) st
  | .makeFunc (.func f) a b => k (setO e o.dst (.func (.func f) ⟨a.toList.map (opV e)⟩ ⟨b.toList.map (opV e)⟩)) st
  | .call { callee := .value (.func f), args, .. } => CallQ P f (args.toList.map (opV e)) st fun v st => k (setO e o.dst v) st
  | .call { callee := .value x, args, .. } => CallQV P (opV e x) (args.toList.map (opV e)) st fun v st => k (setO e o.dst v) st
  | op => match valOp e T st op with
    | some r => B r fun v => k (setO e o.dst v) st
    | none => False

def denGQ (P : Program) (T : Tab) (e : OEnv) (st : St) (o : Oper) (g : Value) (w : Bool) (k : OEnv → St → Prop) : Prop :=
  match o.op with
  | .move x => k (setO e o.dst (Gv g w (opV e x))) st
  | .assign x => k (setO e o.dst (Gv g w (opV e x))) st
  | .makeFunc (.func f) a b => k (setO e o.dst (Gv g w (.func (.func f) ⟨a.toList.map (opV e)⟩ ⟨b.toList.map (opV e)⟩))) st
  | .call { callee := .value (.func f), args, .. } => GC g w st (CallQ P f (args.toList.map (opV e)) st) fun v st => k (setO e o.dst v) st
  | .call { callee := .value x, args, .. } => GC g w st (CallQV P (opV e x) (args.toList.map (opV e)) st) fun v st => k (setO e o.dst v) st
  | op => match valOp e T st op with
    | some r => B (Gd g w r) fun v => k (setO e o.dst v) st
    | none => False

def den1Q (P : Program) (T : Tab) (ops : List Oper) (e : OEnv) (st : St) (o : Oper) (k : OEnv → St → Prop) : Prop :=
  match okOp o.op && okD e o.op.operands.toList with
  | false => False
  | true =>
  match guardOf e ops o with
  | none => False
  | some none => denCQ P T e st o k
  | some (some (g, w)) => denGQ P T e st o g w k

def denOpsQ (P : Program) (T : Tab) (ops : List Oper) : List Oper → OEnv → St → (OEnv → St → Prop) → Prop
  | [], e, st, k => k e st
  | o :: l, e, st, k => den1Q P T ops e st o fun e st => denOpsQ P T ops l e st k

/-- May a region's operations be done in any order that it allows, as far as its places go? -/
def drawGo (ops : List Oper) : List Oper → List Nat → List (Nat × Oper) → Nat → Bool
  | o :: l, b :: bs, done, i => Nat.blt b (2 ^ i) && tmpsOk ops done i b o && drawGo ops l bs ((i, o) :: done) (i + 1)
  | [], [], _, _ => true
  | _, _, _, _ => false

/-! ### texts -/
abbrev Kt := OEnv → List Deferred → St → Prop

def look (id : Nat) : List (Nat × Kt) → Option Kt
  | [] => none
  | (i, k) :: l => cond (Nat.beq i id) (some k) (look id l)

def dstOps : List Oper → List Nat
  | [] => []
  | o :: l => match o.dst with | some d => d :: dstOps l | none => dstOps l

def dsts : Code → List Nat
  | .region _ ops _ => dstOps ops.toList
  | .seq a b => dsts a ++ dsts b
  | .cond _ a b => dsts a ++ dsts b
  | .block _ b => dsts b
  | .loop b => dsts b
  | .scope b => dsts b
  | .rangeFunc _ _ a b => dsts a ++ dsts b
  | _ => []

def Eqd (a b : List Deferred) (p : Prop) : Prop :=
  match a, b with
  | [], [] => p
  | a, b => a = b ∧ p

/-- What a loop's head knows: the places that its rounds turn and that are read again. -/
def headOf (ann : Nat → Option (List Nat)) : List (Nat × Kt) → Option (List Nat)
  | [] => none
  | (i, _) :: _ => ann i

structure EnvLe (e : OEnv) (t : List Value) : Prop where
  len : e.length = t.length
  at_ : ∀ i v, getO e i = some v → getN t i = some v

/-- Is there a loop over a function in a text? -/
def rfIn : Code → Bool
  | .seq a b => rfIn a || rfIn b
  | .cond _ a b => rfIn a || rfIn b
  | .block _ b => rfIn b
  | .loop b => rfIn b
  | .scope b => rfIn b
  | .rangeFunc _ _ _ _ => true
  | _ => false

/-- Numbers as what is deferred for loops over functions. -/
def decD : List Value → List Deferred
  | .int _ r :: l => { target := .collected r.toNat, args := #[] } :: decD l
  | _ => []

/-- A loop over a function has ended, without a jump. -/
inductive RfEnd (l : Nat) (st : St) (k : St → Prop) : Prop
  | mk (r : Loop) (h1 : hget st.heap l = some (.loop r)) (h2 : r.state ≠ .busy) (h3 : r.pending = none) (h4 : k (st.put l (.loop { r with state := .exhausted }))) : RfEnd l st k

/-- A loop over a function: what it asks for, whatever the frame's other places hold. -/
inductive RfGo (P : Program) (fv : Value) (params : Array Tmp) (assign body : Code) (e : OEnv) (st : St) (k : St → Prop) : Prop
  | mk (g : FuncId) (a c : Array Value) (hv : fv = .func (.func g) a c) (h : ∀ (fn : FuncId) (tmps : List Value), EnvLe e tmps →
      CallP P g (a.toList ++ [.func (.yield (st.nxt + 1)) #[] #[]] ++ c.toList) ((st.push (.deferred (some []))).push (.loop { state := .ready, pending := none, fn, tmps := ⟨tmps⟩, params, assign, body, defers := st.nxt })) fun _ st3 =>
        RfEnd (st.nxt + 1) st3 k) : RfGo P fv params assign body e st k

def den (P : Program) (T : Tab) (ann : Nat → Option (List Nat)) : Code → List (Nat × Kt) → Kt → (Nat → Kt) → Kt → Kt
  | .skip, _, _, _, k, e, df, st => k e df st
  | .label _, _, _, _, k, e, df, st => k e df st
  | .seq a b, ex, r, o, k, e, df, st => den P T ann a ex r o (fun e df st => den P T ann b ex r o k e df st) e df st
  | .cond c a b, ex, r, o, k, e, df, st => match okX c && okD e [c] with
    | true => If (opV e c) (den P T ann a ex r o k e df st) (den P T ann b ex r o k e df st)
    | false => False
  | .block id b, ex, r, o, k, e, df, st => den P T ann b ((id, k) :: ex) r o k e df st
  | .scope b, ex, r, o, k, e, df, st => den P T ann b ex r o k e df st
  | .loop b, ex, r, o, _, e, df, st => match headOf ann ex with
    | some ms => match readL e ms with
      | some vs => match rfIn b with
        | false => Lp (fun xs st next => den P T ann b ex r o (fun e' df' st' => Eqd df' df (match readL e' ms with | some vs' => next vs' st' | none => False)) (emb (junk e (dsts b)) xs ms 0) df st) vs st
        | true => Lp (fun xs st next => den P T ann b ex r o (fun e' df' st' => ∃ ds, df' = decD ds ++ df ∧ (match readL e' ms with | some vs' => next (vs' ++ ds) st' | none => False)) (emb (junk e (dsts b)) xs ms 0) (decD (xs.drop ms.length) ++ df) st) vs st
      | none => False
    | none => False
  | .ret, _, r, _, _, e, df, st => r e df st
  | .exit id, ex, _, o, _, e, df, st => match look id ex with
    | some k' => k' e df st
    | none => o id e df st
  | .region _ ops false, _, _, _, k, e, df, st => denOps P T ops.toList ops.toList e st fun e st => k e df st
  | .region _ ops true, _, _, _, k, e, df, st => match drawGo ops.toList ops.toList (befores [] ops.toList) [] 0 with
    | true => denOpsQ P T ops.toList ops.toList e st fun e st => k e df st
    | false => False
  | .rangeFunc f params assign body, _, _, _, k, e, df, st => match okX f && okD e [f] with
    | true => RfGo P (opV e f) params assign body e st fun st' => k e ({ target := .collected st.nxt, args := #[] } :: df) st'
    | false => False
  | _, _, _, _, _, _, _, _ => False

/-- What a function gives. -/
def resO (T : Tab) (e : OEnv) (st : St) : List ResultVar → List Value → (List Value → Prop) → Prop
  | [], acc, k => k acc.reverse
  | .tmp t :: l, acc, k => match getO e t with | some v => resO T e st l (v :: acc) k | none => False
  | .cell a t :: l, acc, k => match getO e a with | some p => B (evLoad T st t p) fun v => resO T e st l (v :: acc) k | none => False

def oneOf : List Value → Value
  | [v] => v
  | l => .tuple ⟨l⟩

/-- What is deferred when a function ends: nothing but ends of loops over functions. -/
def Dfs : List Deferred → St → (St → Prop) → Prop
  | [], st, k => k st
  | d :: ds, st, k => match d.target with
    | .collected r => hget st.heap r = some (.deferred (some [])) ∧ Dfs ds (st.put r (.deferred none)) k
    | _ => False

def retF (T : Tab) (rs : List ResultVar) (Q : Value → St → Prop) : Kt := fun e df st => Dfs df st fun st => resO T e st rs [] fun l => Q (oneOf l) st

def denF (P : Program) (T : Tab) (ann : Nat → Option (List Nat)) (r : FnRow) (args : List Value) (st : St) (Q : Value → St → Prop) : Prop :=
  den P T ann r.body [] (retF T r.results Q) (fun _ _ _ _ => False) (retF T r.results Q) (allSome args ++ nones (r.ntmps - args.length)) [] st
end Go.Ev

namespace Go.Ev

/-! ### places -/
theorem getO_putO (e : OEnv) (i : Nat) (x : Option Value) (j : Nat) : getO (putO e i x) j = if j = i ∧ i < e.length then x else getO e j := by
  induction e generalizing i j with
  | nil => simp [putO, getO]
  | cons a e ih =>
    cases i with
    | zero => cases j <;> simp [putO, getO]
    | succ i =>
      cases j with
      | zero => simp [putO, getO]
      | succ j => simp [putO, getO, ih]

theorem putO_len (e : OEnv) (i : Nat) (x : Option Value) : (putO e i x).length = e.length := by
  induction e generalizing i with
  | nil => rfl
  | cons a e ih => cases i <;> simp [putO, ih]

theorem putN_len (t : List Value) (i : Nat) (v : Value) : (putN t i v).length = t.length := by rw [putN_eq]; simp

theorem getN_putN (t : List Value) (i : Nat) (v : Value) (j : Nat) : getN (putN t i v) j = if j = i ∧ i < t.length then some v else getN t j := by
  rw [putN_eq, getN_eq, getN_eq, List.getElem?_set]
  by_cases h : i = j
  · subst h
    by_cases h2 : i < t.length <;> simp [h2]
  · have h' : ¬ j = i := fun e => h e.symm
    simp [h, h']

theorem EnvLe.set {e : OEnv} {t : List Value} (h : EnvLe e t) (d : Option Tmp) (v : Value) : EnvLe (setO e d v) (putT t d v) := by
  cases d with
  | none => exact h
  | some d =>
    refine ⟨by simp only [setO, putT, putO_len, putN_len]; exact h.len, fun i u hu => ?_⟩
    simp only [setO, getO_putO] at hu
    simp only [putT, getN_putN, ← h.len]
    split at hu
    · rename_i hc
      rw [if_pos hc]; exact hu
    · rename_i hc
      rw [if_neg hc]; exact h.at_ i u hu

theorem EnvLe.opd {e : OEnv} {t : List Value} (h : EnvLe e t) {x : Operand} {v : Value} (hx : opd e x = some v) : evalT t x = v := by
  cases x with
  | tmp i => simp only [Ev.opd] at hx; simp only [evalT, h.at_ i v hx]
  | const u => simpa [Ev.opd, evalT] using hx
  | global g => simp [Ev.opd] at hx
  | func f => simpa [Ev.opd, evalT] using hx

theorem okD_all {e : OEnv} {t : List Value} (h : EnvLe e t) : ∀ {l : List Operand}, okD e l = true → ∀ x ∈ l, evalT t x = opV e x := by
  intro l
  induction l with
  | nil => intro _ x hx; cases hx
  | cons a l ih =>
    intro hd x hx
    simp only [okD] at hd
    split at hd
    · rename_i v hv
      rcases List.mem_cons.1 hx with rfl | hx
      · rw [h.opd hv]; simp [opV, hv]
      · exact ih hd x hx
    · cases hd

/-- Places that are the same but for some. -/
structure AgreeN (ds : List Nat) (a b : List Value) : Prop where
  len : b.length = a.length
  at_ : ∀ i, i ∉ ds → getN b i = getN a i
theorem AgreeN.refl (ds : List Nat) (a : List Value) : AgreeN ds a a := ⟨rfl, fun _ _ => rfl⟩
theorem AgreeN.trans {d1 d2 ds : List Nat} {a b c : List Value} (h : AgreeN d1 a b) (h' : AgreeN d2 b c) (h1 : ∀ i ∈ d1, i ∈ ds) (h2 : ∀ i ∈ d2, i ∈ ds) : AgreeN ds a c :=
  ⟨by rw [h'.len, h.len], fun i hi => by rw [h'.at_ i (fun e => hi (h2 i e)), h.at_ i (fun e => hi (h1 i e))]⟩
theorem AgreeN.mono {d1 ds : List Nat} {a b : List Value} (h : AgreeN d1 a b) (h1 : ∀ i ∈ d1, i ∈ ds) : AgreeN ds a b := ⟨h.len, fun i hi => h.at_ i (fun e => hi (h1 i e))⟩

theorem AgreeN.put (t : List Value) (d : Option Tmp) (v : Value) (l : List Oper) (o : Oper) (ho : o.dst = d) : AgreeN (dstOps (o :: l)) t (putT t d v) := by
  refine ⟨?_, fun i hi => ?_⟩
  · cases d <;> simp [putT, putN_len]
  cases d with
  | none => rfl
  | some d =>
    simp only [putT, getN_putN]
    simp only [dstOps, ho, List.mem_cons, not_or] at hi
    rw [if_neg (fun h => hi.1 h.1)]

/-! ### one operation -/
section
variable {P : Program} {T : Tab}

structure OpLaw (P : Program) (o : Oper) (tm : List Value) (st : St) (v : Value) (st' : St) : Prop where
  abs : Abs st st'
  run : ∀ E w F ops i rest k, Fresh E st.nxt st'.nxt → Sim E (hget st.heap) w → VL E tm (Array.toList (Frame.tmps F)) → AtOp F ops i rest k o → Region.wanted o (yielded ops F.tmps) = true →
    (F.roundOf = none ∨ noDefer o.op = true) → ∃ E2 w2 v2, VR E2 v v2 ∧ Out E (hget st.heap) st.nxt w E2 (hget st'.heap) st'.nxt w2 ∧ Goes P F w (F.finish v2) w2

def noRun : Run := fun _ _ => none
theorem noRun_ok : RunOk P noRun := fun _ _ _ _ h => by cases h

theorem opLaw_ev (hT : TabOk P T) (hS : SumOk P T) {tm : List Value} {o : Oper} {st st' : St} {x : NextA} {v : Value} (hop : okOp o.op = true) (h : evOp (evalT tm) T st o.op = some x) (hd : doneA T noRun x = some (v, st')) (hl : Live st) :
    OpLaw P o tm st v st' :=
  let ⟨a, b⟩ := done_ok hT hS noRun_ok hop h hd hl
  ⟨a, b⟩

theorem opLaw_pure (hT : TabOk P T) {tm : List Value} {o : Oper} {st : St} {v : Value} (hop : okOp o.op = true) (h : pureOp (evalT tm) T o.op = some (some v)) : OpLaw P o tm st v st :=
  ⟨Abs.refl _, fun E w F ops i rest k h1 h2 h3 h4 h5 h6 => by
    obtain ⟨v', q1, q2⟩ := pureStep_ok (P := P) (w := w) hT hop h h3
    exact ⟨E, w, v', q1, Out.refl h2, Goes.one fun cs => step_valF h4 h5 h6 q2⟩⟩

theorem opLaw_call (hT : TabOk P T) {tm : List Value} {o : Oper} {c : Call} {x : Operand} {f : FuncId} {a d : Array Value} {st st' : St} {v : Value} (ho : o.op = .call c) (hc : c.callee = .value x) (hop : okOp o.op = true)
    (hx : evalT tm x = .func (.func f) a d) (hg : GoodCall P f (a.toList ++ c.args.toList.map (evalT tm) ++ d.toList) st v st') (hl : Live st) : OpLaw P o tm st v st' := by
  refine ⟨hg.abs, fun E w F ops i rest k h1 h2 h3 h4 h5 h6 => ?_⟩
  have hev : evOp (evalT tm) T st o.op = some (.enter f (a.toList ++ c.args.toList.map (evalT tm) ++ d.toList) st) := by
    rw [ho]
    simp only [evOp, hc, hx, evCallFn]
  have := op_ok (P := P) hT (ev := restr (evalT tm)) (ev' := restr F.eval) (restr_ok h3) o (x := _) (by rw [evOp_restr o.op hop]; exact hev) h2 hl (fun id x1 x2 => by simp only [stOf] at x2; omega)
    (fun f' a' s' e => by injection e with e; subst e; exact hg.callable)
  rw [exec_restr o hop] at this
  obtain ⟨E', w', y, q1, q2, q3⟩ := this
  cases q2 with
  | enter hv =>
    rename_i a'
    have hfr : Fresh E' st.nxt st'.nxt := fun id x1 x2 => by
      rw [q3.same id (.inr x1)]
      exact h1 id x1 x2
    obtain ⟨E2, w2, v2, r1, r2, r3⟩ := hg.run E' w' a' hfr q3.sim hv
    exact ⟨E2, w2, v2, r1, q3.trans r2 (Nat.le_refl _) hg.abs.nxt, Goes.enter (fun cs => step_enterF h4 h5 h6 q1) rfl r3⟩

theorem opLaw_round (hT : TabOk P T) {tm : List Value} {o : Oper} {c : Call} {x : Operand} {l : Nat} {a d : Array Value} {st st' : St} {v : Value} {r : Loop} {tmps : List Value} (ho : o.op = .call c) (hc : c.callee = .value x) (hop : okOp o.op = true)
    (hx : evalT tm x = .func (.yield l) a d) (hr : hget st.heap l = some (.loop r)) (hp : putAll r.tmps.toList r.params.toList (a.toList ++ c.args.toList.map (evalT tm)) = some tmps)
    (hg : GoodFrame P (roundA l r.fn tmps r.assign r.body) st v st') (hl : Live st) : OpLaw P o tm st v st' := by
  refine ⟨hg.abs, fun E w F ops i rest k h1 h2 h3 h4 h5 h6 => ?_⟩
  have hev : evOp (evalT tm) T st o.op = some (.round l r.fn tmps r.assign r.body st) := by
    rw [ho]
    simp only [evOp, hc, hx, evCallFn, hr, hp]
  have := op_ok (P := P) hT (ev := restr (evalT tm)) (ev' := restr F.eval) (restr_ok h3) o (x := _) (by rw [evOp_restr o.op hop]; exact hev) h2 hl (fun id x1 x2 => by simp only [stOf] at x2; omega)
    (fun f' a' s' e => by cases e)
  rw [exec_restr o hop] at this
  obtain ⟨E', w', y, q1, q2, q3⟩ := this
  cases q2 with
  | round hp' hp0 hv =>
    have hfr : Fresh E' st.nxt st'.nxt := fun id x1 x2 => by
      rw [q3.same id (.inr x1)]
      exact h1 id x1 x2
    obtain ⟨E2, w2, v2, r1, r2, r3⟩ := hg.run E' w' _ hfr q3.sim (round_FR hp' hp0 hv _ _)
    exact ⟨E2, w2, v2, r1, q3.trans r2 (Nat.le_refl _) hg.abs.nxt, Goes.enter (fun cs => step_roundF h4 h5 h6 q1) rfl r3⟩

/-! ### what the words say -/
theorem valOp_spec {e : OEnv} {st : St} {o : Op} {v : Value} (h : valOp e T st o = some (some v)) : pureOp (opV e) T o = some (some v) ∨ evOp (opV e) T st o = some (.val v st) := by
  unfold valOp at h
  split at h
  all_goals first
    | (left; exact h)
    | skip
  · right; injection h with h; simp only [evOp, h]
  · right; injection h with h; simp only [evOp, h]
  · right; injection h with h; simp only [evOp, h]
  · split at h
    case h_2 => cases h
    rename_i t x h1 h2
    injection h with h
    unfold evLenM at h
    split at h
    · rename_i s hs
      left
      simp only [pureOp, h1, h2, hs]
      exact congrArg some h
    · rename_i a n c hs
      left
      simp only [pureOp, h1, h2, hs]
      exact congrArg some h
    · rename_i a n c hs
      left
      simp only [pureOp, h1, h2, hs]
      exact congrArg some h
    · rename_i r hs
      right
      simp only [evOp, h2, List.map_cons, List.map_nil, hs, h1, evBuiltin]
      split at h
      · rename_i q1 q2
        injection h with h
        subst h
        simp only [q1, q2]
      · cases h
    · rename_i hs
      right
      simp only [evOp, h2, List.map_cons, List.map_nil, hs, h1, evBuiltin]
      split at h
      · rename_i q1
        injection h with h
        subst h
        simp only [q1]
      · cases h
    · cases h
  · right
    injection h with h
    unfold evMaxL at h
    split at h
    · rename_i x l hx
      simp only [evOp, hx, evBuiltin, h]
    · cases h
  · right
    injection h with h
    unfold evMinL at h
    split at h
    · rename_i x l hx
      simp only [evOp, hx, evBuiltin, h]
    · cases h
  · cases h

theorem stOp_spec {e : OEnv} {st st' : St} {o : Op} {v : Value} (h : stOp e T st o = some (some (v, st'))) :
    evOp (opV e) T st o = some (.val v st') ∨ (v = undef ∧ evOp (opV e) T st o = some (.skip st')) := by
  have hbox : ∀ t x, evBox st t x = some (v, st') → evAlloc st t x = some (.val v st') := fun t x hx => by
    unfold evBox at hx
    unfold evAlloc
    rw [cond_bool] at hx ⊢
    split at hx
    · rename_i hc
      simp only [Option.some.injEq, Prod.mk.injEq] at hx
      rw [if_pos hc, hx.1, hx.2]
    · cases hx
  unfold stOp at h
  split at h
  · injection h with h
    left
    unfold evNew at h
    split at h
    · rename_i r hr
      simp only [evOp, hr]
      exact hbox _ _ h
    · cases h
  · injection h with h
    left
    simp only [evOp]
    exact hbox _ _ h
  · injection h with h; left; simp only [evOp, h]
  · injection h with h
    right
    unfold evStoreU at h
    split at h
    · rename_i s hs
      simp only [Option.some.injEq, Prod.mk.injEq] at h
      exact ⟨h.1.symm, by simp only [evOp, hs, h.2]⟩
    · cases h
  · injection h with h
    left
    unfold evMakeMapU at h
    simp only [Option.some.injEq, Prod.mk.injEq] at h
    simp only [evOp, h.1, h.2]
  · injection h with h; left; simp only [evOp, h]
  · injection h with h
    right
    unfold evMapUpdateU at h
    split at h
    · rename_i s hs
      simp only [Option.some.injEq, Prod.mk.injEq] at h
      exact ⟨h.1.symm, by simp only [evOp, hs, h.2]⟩
    · cases h
  · injection h with h
    right
    unfold evMapUpdateU at h
    split at h
    · rename_i s hs
      simp only [Option.some.injEq, Prod.mk.injEq] at h
      exact ⟨h.1.symm, by simp only [evOp, hs, h.2]⟩
    · cases h
  · injection h with h; left; simp only [evOp, h]
  · injection h with h; left; simp only [evOp, h]
  · split at h
    case h_2 => cases h
    rename_i t t' s x h1 h2
    injection h with h
    left
    unfold evAppendU at h
    rw [cond_bool] at h
    split at h
    · rename_i hc
      simp only [evOp, h1, h2, List.map_cons, List.map_nil, evBuiltin, hc, cond_true, h]
    · cases h
  · split at h
    case h_2 => cases h
    rename_i t ts d s h1 h2
    injection h with h
    left
    simp only [evOp, h1, h2, List.map_cons, List.map_nil, evBuiltin, h]
  · cases h

/-- An operation is done, or it is not wanted. -/
inductive OpDid (P : Program) (ops : List Oper) (o : Oper) (tm : List Value) (st : St) : Value → St → Prop
  | law {v : Value} {st' : St} (hw : wantedA ops tm o = true) (hn : noDefer o.op = true) (h : OpLaw P o tm st v st') : OpDid P ops o tm st v st'
  | not (hw : wantedA ops tm o = false) : OpDid P ops o tm st undef st

theorem OpDid.abs {ops : List Oper} {o : Oper} {tm : List Value} {st st' : St} {v : Value} (h : OpDid P ops o tm st v st') : Abs st st' := by
  cases h with
  | law _ _ h => exact h.abs
  | not _ => exact Abs.refl _

theorem guard_want {e : OEnv} {tm : List Value} (he : EnvLe e tm) {ops : List Oper} {o : Oper} :
    (guardOf e ops o = some none → wantedA ops tm o = true) ∧ ∀ g w, guardOf e ops o = some (some (g, w)) → wantedA ops tm o = want g w := by
  unfold guardOf wantedA
  cases hg : o.guard with
  | none => exact ⟨fun _ => rfl, fun g w h => by simp at h⟩
  | some jw =>
    obtain ⟨j, w0⟩ := jw
    simp only [yieldedA]
    cases hj : ops[j]? with
    | none => exact ⟨fun h => by simp at h, fun g w h => by simp at h⟩
    | some p =>
      simp only
      cases hd : p.dst with
      | none => exact ⟨fun h => by simp at h, fun g w h => by simp at h⟩
      | some d =>
        simp only
        cases hv : getO e d with
        | none => exact ⟨fun h => by simp at h, fun g w h => by simp at h⟩
        | some v =>
          refine ⟨fun h => by simp at h, fun g w h => ?_⟩
          simp only [Option.some.injEq, Prod.mk.injEq] at h
          obtain ⟨rfl, rfl⟩ := h
          rw [he.at_ d v hv]
          unfold want
          cases v <;> rfl

theorem callV_law (hT : TabOk P T) {e : OEnv} {tm : List Value} (he : EnvLe e tm) {o : Oper} {c : Call} {x : Operand} (ho : o.op = .call c) (hc : c.callee = .value x) (hop : okOp o.op = true)
    (hx : evalT tm x = opV e x) (ha : c.args.toList.map (evalT tm) = c.args.toList.map (opV e)) {st : St} (hl : Live st) {Q : Value → St → Prop} (h : CallV P (opV e x) (c.args.toList.map (opV e)) st Q) :
    ∃ v st', Q v st' ∧ OpLaw P o tm st v st' := by
  cases h with
  | fn f a d hf hcall =>
    obtain ⟨hcall⟩ := hcall
    obtain ⟨v, st', hg, hq⟩ := hcall hl
    exact ⟨v, st', hq, opLaw_call hT ho hc hop (by rw [hx, hf]) (by rw [ha]; exact hg) hl⟩
  | yield l a d hf hcall =>
    obtain ⟨hcall⟩ := hcall
    obtain ⟨r, tmps, v, st', h1, h2, h3, hq⟩ := hcall hl
    exact ⟨v, st', hq, opLaw_round hT ho hc hop (by rw [hx, hf]) h1 (by rw [ha]; exact h2) h3 hl⟩

theorem CallV.of_func {f : FuncId} {args : List Value} {st : St} {Q : Value → St → Prop} (h : CallP P f args st Q) : CallV P (.func (.func f) #[] #[]) args st Q :=
  .fn f #[] #[] rfl (by simpa using h)

theorem CallP.of_Q {f : FuncId} {args : List Value} {st : St} {Q : Value → St → Prop} (h : CallQ P f args st Q) : CallP P f args st Q := by
  obtain ⟨h⟩ := h
  exact ⟨fun hl => let ⟨v, m, h1, h2⟩ := h hl; ⟨v, _, h1, h2⟩⟩

theorem CallV.of_QV {fv : Value} {args : List Value} {st : St} {Q : Value → St → Prop} (h : CallQV P fv args st Q) : CallV P fv args st Q := by
  cases h with
  | fn f a c hf hc => exact .fn f a c hf (CallP.of_Q hc)

theorem mem_operands_call {c : Call} {x : Operand} (hc : c.callee = .value x) : x ∈ (Op.call c).operands.toList ∧ ∀ y ∈ c.args.toList, y ∈ (Op.call c).operands.toList := by
  simp only [Op.operands, Call.operands, hc]
  exact ⟨by simp, fun y hy => by simp only [Array.toList_append]; exact List.mem_append_right _ hy⟩

/-- An operation that is no move, no function and no call of a function. -/
theorem plain_law (hT : TabOk P T) (hS : SumOk P T) {e : OEnv} {tm : List Value} {o : Oper} (hop : okOp o.op = true) (hall : ∀ x ∈ o.op.operands.toList, evalT tm x = opV e x) {st : St} (hl : Live st) :
    (∀ v, valOp e T st o.op = some (some v) → OpLaw P o tm st v st) ∧ (∀ v st', stOp e T st o.op = some (some (v, st')) → OpLaw P o tm st v st') := by
  refine ⟨fun v h => ?_, fun v st' h => ?_⟩
  · rcases valOp_spec h with h | h
    · exact opLaw_pure hT hop (by rw [pureOp_congr o.op hall]; exact h)
    · exact opLaw_ev hT hS hop (by rw [evOp_congr o.op hall]; exact h) rfl hl
  · rcases stOp_spec h with h | ⟨rfl, h2⟩
    · exact opLaw_ev hT hS hop (by rw [evOp_congr o.op hall]; exact h) rfl hl
    · exact opLaw_ev hT hS hop (by rw [evOp_congr o.op hall]; exact h2) rfl hl

end
end Go.Ev

namespace Go.Ev

section
variable {P : Program} {T : Tab}

theorem want_not {g : Value} {w : Bool} (h : want g w = false) (x : Value) (y : Option Value) (st : St) (z : Option (Value × St)) : Gv g w x = undef ∧ Gd g w y = some undef ∧ G2 g w st z = some (undef, st) := by
  simp [Gv, Gd, G2, h]
theorem want_yes {g : Value} {w : Bool} (h : want g w = true) (x : Value) (y : Option Value) (st : St) (z : Option (Value × St)) : Gv g w x = x ∧ Gd g w y = y ∧ G2 g w st z = z := by
  simp [Gv, Gd, G2, h]

theorem denC_nd {e : OEnv} {st : St} {o : Oper} {k : OEnv → St → Prop} (h : denC P T e st o k) : noDefer o.op = true := by
  unfold denC at h
  cases hoo : o.op <;> first
    | rfl
    | (rw [hoo] at h; simp [valOp, stOp] at h; done)

theorem denG_yes {e : OEnv} {st : St} {o : Oper} {g : Value} {w : Bool} {k : OEnv → St → Prop} (h : denG P T e st o g w k) (hw : want g w = true) : denC P T e st o k := by
  unfold denG at h
  unfold denC
  split at h
  · rw [(want_yes hw _ none st none).1] at h; exact h
  · rw [(want_yes hw _ none st none).1] at h; exact h
  · rw [(want_yes hw _ none st none).1] at h; exact h
  · obtain ⟨h1, _⟩ := h; exact h1 hw
  · obtain ⟨h1, _⟩ := h; exact h1 hw
  · split at h
    · rename_i r hr
      rw [(want_yes hw undef r st none).2.1] at h
      exact h
    · rename_i hr
      split at h
      · rename_i r hr2
        rw [(want_yes hw undef none st r).2.2] at h
        exact h
      · exact h.elim

theorem denG_no {e : OEnv} {st : St} {o : Oper} {g : Value} {w : Bool} {k : OEnv → St → Prop} (h : denG P T e st o g w k) (hw : want g w = false) : k (setO e o.dst undef) st := by
  unfold denG at h
  split at h
  · rw [(want_not hw _ none st none).1] at h; exact h
  · rw [(want_not hw _ none st none).1] at h; exact h
  · rw [(want_not hw _ none st none).1] at h; exact h
  · obtain ⟨_, h1⟩ := h; exact h1 hw
  · obtain ⟨_, h1⟩ := h; exact h1 hw
  · split at h
    · rename_i r hr
      rw [(want_not hw undef r st none).2.1] at h
      obtain ⟨v, h1, h2⟩ := h
      injection h1 with h1
      subst h1
      exact h2
    · rename_i hr
      split at h
      · rename_i r hr2
        rw [(want_not hw undef none st r).2.2] at h
        obtain ⟨v, s, h1, h2⟩ := h
        simp only [Option.some.injEq, Prod.mk.injEq] at h1
        obtain ⟨rfl, rfl⟩ := h1
        exact h2
      · exact h.elim

theorem denC_sound (hT : TabOk P T) (hS : SumOk P T) {e : OEnv} {tm : List Value} {st : St} {o : Oper} {k : OEnv → St → Prop} (h : denC P T e st o k) (he : EnvLe e tm) (hl : Live st) (hop : okOp o.op = true)
    (hd : okD e o.op.operands.toList = true) : ∃ v st', k (setO e o.dst v) st' ∧ OpLaw P o tm st v st' := by
  have hall := okD_all he hd
  unfold denC at h
  split at h
  · rename_i x hx
    refine ⟨_, st, h, opLaw_pure hT hop ?_⟩
    rw [pureOp_congr o.op hall, hx]; rfl
  · rename_i x hx
    refine ⟨_, st, h, opLaw_pure hT hop ?_⟩
    rw [pureOp_congr o.op hall, hx]; rfl
  · rename_i f a b hx
    refine ⟨_, st, h, opLaw_pure hT hop ?_⟩
    rw [pureOp_congr o.op hall, hx]; rfl
  · rename_i f args ts hx
    have hm := mem_operands_call (c := { callee := .value (.func f), args, argTypes := ts }) (x := .func f) rfl
    rw [hx] at hall
    obtain ⟨v, st', h1, h2⟩ := callV_law hT he hx rfl hop (hall _ hm.1) (List.map_congr_left fun y hy => hall y (hm.2 y hy)) hl (Q := fun v st => k (setO e o.dst v) st) (CallV.of_func h)
    exact ⟨v, st', h1, h2⟩
  · rename_i x args ts hnf hx
    have hm := mem_operands_call (c := { callee := .value x, args, argTypes := ts }) (x := x) rfl
    rw [hx] at hall
    obtain ⟨v, st', h1, h2⟩ := callV_law hT he hx rfl hop (hall _ hm.1) (List.map_congr_left fun y hy => hall y (hm.2 y hy)) hl (Q := fun v st => k (setO e o.dst v) st) h
    exact ⟨v, st', h1, h2⟩
  · obtain ⟨p1, p2⟩ := plain_law (st := st) hT hS hop hall hl
    split at h
    · rename_i r hr
      obtain ⟨v, h1, h2⟩ := h
      subst h1
      exact ⟨v, st, h2, p1 v hr⟩
    · split at h
      · rename_i r hr
        obtain ⟨v, s, h1, h2⟩ := h
        subst h1
        exact ⟨v, s, h2, p2 v s hr⟩
      · exact h.elim

theorem den1_sound (hT : TabOk P T) (hS : SumOk P T) {ops : List Oper} {e : OEnv} {tm : List Value} {st : St} {o : Oper} {k : OEnv → St → Prop} (h : den1 P T ops e st o k) (he : EnvLe e tm) (hl : Live st) :
    ∃ v st', k (setO e o.dst v) st' ∧ OpDid P ops o tm st v st' := by
  unfold den1 at h
  split at h
  · exact h.elim
  rename_i hok
  rw [Bool.and_eq_true] at hok
  obtain ⟨hop, hd⟩ := hok
  split at h
  · exact h.elim
  · rename_i hg
    obtain ⟨v, st', h1, h2⟩ := denC_sound hT hS h he hl hop hd
    exact ⟨v, st', h1, .law ((guard_want he).1 hg) (denC_nd h) h2⟩
  · rename_i g w hg
    have hw := (guard_want he).2 g w hg
    cases hwt : want g w with
    | true =>
      have hc := denG_yes h hwt
      obtain ⟨v, st', h1, h2⟩ := denC_sound hT hS hc he hl hop hd
      exact ⟨v, st', h1, .law (by rw [hw, hwt]) (denC_nd hc) h2⟩
    | false => exact ⟨undef, st, denG_no h hwt, .not (by rw [hw, hwt])⟩

/-- The operations of a region, in the text's order. -/
structure SeqDid (P : Program) (ops : Array Oper) (i n : Nat) (tm : List Value) (st : St) (tm' : List Value) (st' : St) : Prop where
  abs : Abs st st'
  run : ∀ E w F k, Fresh E st.nxt st'.nxt → Sim E (hget st.heap) w → VL E tm (Array.toList (Frame.tmps F)) → F.mode = .run → F.todo = .inRegion ops (List.range' i n) :: k →
    ∃ E2 w2 F2, Out E (hget st.heap) st.nxt w E2 (hget st'.heap) st'.nxt w2 ∧ VL E2 tm' (Array.toList (Frame.tmps F2)) ∧ Goes P F w F2 w2 ∧ F2 = { F with tmps := F2.tmps, todo := k }

theorem OpDid.goes {ops : Array Oper} {o : Oper} {tm : List Value} {st st' : St} {v : Value} (h : OpDid P ops.toList o tm st v st') : ∀ E w F i rest k, Fresh E st.nxt st'.nxt → Sim E (hget st.heap) w → VL E tm (Array.toList (Frame.tmps F)) →
    AtOp F ops i rest k o → ∃ E2 w2 F2, Out E (hget st.heap) st.nxt w E2 (hget st'.heap) st'.nxt w2 ∧ VL E2 (putT tm o.dst v) (Array.toList (Frame.tmps F2)) ∧ Goes P F w F2 w2 ∧ F2 = { F with tmps := F2.tmps, todo := .inRegion ops rest :: k } := by
  intro E w F i rest k h1 h2 h3 h4
  cases h with
  | law hw hn h =>
    obtain ⟨E2, w2, v2, q1, q2, q3⟩ := h.run E w F ops i rest k h1 h2 h3 h4 (by rw [← wanted_ok h3 o]; exact hw) (.inr hn)
    have hf := finish_at h4.todo h4.at_ v2
    refine ⟨E2, w2, F.finish v2, q2, ?_, q3, ?_⟩
    · rw [hf]; exact put_ok (h3.mono q2.le) o.dst q1
    · rw [hf]
  | not hw =>
    have hw' : Region.wanted o (yielded ops F.tmps) = false := by rw [← wanted_ok h3 o]; exact hw
    have hf := finish_at h4.todo h4.at_ undef
    refine ⟨E, w, F.finish undef, Out.refl h2, ?_, Goes.one fun cs => step_skipOp h4 hw', ?_⟩
    · rw [hf]; exact put_ok h3 o.dst (VR.undef E)
    · rw [hf]

theorem denOps_sound (hT : TabOk P T) (hS : SumOk P T) {ops : Array Oper} : ∀ (l : List Oper) (i : Nat) (e : OEnv) (tm : List Value) (st : St) (k : OEnv → St → Prop), denOps P T ops.toList l e st k → EnvLe e tm → Live st → l = ops.toList.drop i →
    i + l.length = ops.size → ∃ e' tm' st', k e' st' ∧ EnvLe e' tm' ∧ AgreeN (dstOps l) tm tm' ∧ SeqDid P ops i l.length tm st tm' st' := by
  intro l
  induction l with
  | nil =>
    intro i e tm st k h he hl hd hsz
    exact ⟨e, tm, st, h, he, AgreeN.refl _ _, Abs.refl _, fun E w F k h1 h2 h3 h4 h5 => ⟨E, w, { F with todo := k }, Out.refl h2, h3, Goes.one fun cs => step_inRegionEndF h4 (by simpa using h5), rfl⟩⟩
  | cons o l ih =>
    intro i e tm st k h he hl hd hsz
    simp only [denOps] at h
    obtain ⟨v, st1, h1, h2⟩ := den1_sound hT hS h he hl
    have hd' : l = ops.toList.drop (i + 1) := by
      have : (o :: l).drop 1 = (ops.toList.drop i).drop 1 := by rw [hd]
      simpa [List.drop_drop, Nat.add_comm] using this
    have hat : ops[i]? = some o := by
      have : (ops.toList.drop i)[0]? = some o := by rw [← hd]; rfl
      simpa using this
    obtain ⟨e', tm', st', q1, q2, q3, q4⟩ := ih (i + 1) _ (putT tm o.dst v) st1 k h1 (he.set o.dst v) (h2.abs.live hl) hd' (by simp at hsz; omega)
    refine ⟨e', tm', st', q1, q2, ?_, h2.abs.trans q4.abs, fun E w F k f1 f2 f3 f4 f5 => ?_⟩
    · refine (AgreeN.put tm o.dst v l o rfl).trans q3 (fun _ hi => hi) (fun x hx => ?_)
      simp only [dstOps]
      cases o.dst <;> first | exact hx | exact List.mem_cons_of_mem _ hx
    · have f5' : F.todo = .inRegion ops (i :: List.range' (i + 1) l.length) :: k := by
        rw [f5]; simp [List.range'_succ]
      obtain ⟨E1, w1, F1, o1, v1, g1, e1⟩ := h2.goes E w F i (List.range' (i + 1) l.length) k (fun id x1 x2 => f1 id x1 (Nat.lt_of_lt_of_le x2 q4.abs.nxt)) f2 f3 ⟨f4, f5', hat⟩
      have hm1 : F1.mode = .run := by rw [e1]; exact f4
      have ht1 : F1.todo = .inRegion ops (List.range' (i + 1) l.length) :: k := by rw [e1]
      obtain ⟨E2, w2, F2, o2, v2, g2, e2⟩ := q4.run E1 w1 F1 k (fun id x1 x2 => by rw [o1.same id (.inr x1)]; exact f1 id (Nat.le_trans h2.abs.nxt x1) x2) o1.sim v1 hm1 ht1
      refine ⟨E2, w2, F2, o1.trans o2 h2.abs.nxt q4.abs.nxt, v2, g1.trans g2, ?_⟩
      rw [e2, e1]

end
end Go.Ev

namespace Go.Ev

section
variable {P : Program} {T : Tab}

theorem denCQ_nd {e : OEnv} {st : St} {o : Oper} {k : OEnv → St → Prop} (h : denCQ P T e st o k) : noDefer o.op = true := by
  unfold denCQ at h
  cases hoo : o.op <;> first
    | rfl
    | (rw [hoo] at h; simp [valOp] at h; done)

theorem denGQ_yes {e : OEnv} {st : St} {o : Oper} {g : Value} {w : Bool} {k : OEnv → St → Prop} (h : denGQ P T e st o g w k) (hw : want g w = true) : denCQ P T e st o k := by
  unfold denGQ at h
  unfold denCQ
  split at h
  · rw [(want_yes hw _ none st none).1] at h; exact h
  · rw [(want_yes hw _ none st none).1] at h; exact h
  · rw [(want_yes hw _ none st none).1] at h; exact h
  · obtain ⟨h1, _⟩ := h; exact h1 hw
  · obtain ⟨h1, _⟩ := h; exact h1 hw
  · split at h
    · rename_i r hr
      rw [(want_yes hw undef r st none).2.1] at h
      exact h
    · exact h.elim

theorem denGQ_no {e : OEnv} {st : St} {o : Oper} {g : Value} {w : Bool} {k : OEnv → St → Prop} (h : denGQ P T e st o g w k) (hw : want g w = false) : k (setO e o.dst undef) st := by
  unfold denGQ at h
  split at h
  · rw [(want_not hw _ none st none).1] at h; exact h
  · rw [(want_not hw _ none st none).1] at h; exact h
  · rw [(want_not hw _ none st none).1] at h; exact h
  · obtain ⟨_, h1⟩ := h; exact h1 hw
  · obtain ⟨_, h1⟩ := h; exact h1 hw
  · split at h
    · rename_i r hr
      rw [(want_not hw undef r st none).2.1] at h
      obtain ⟨v, h1, h2⟩ := h
      injection h1 with h1
      subst h1
      exact h2
    · exact h.elim

def St.upto (st : St) (m : Nat) : St := { heap := st.heap, nxt := m, wr := st.wr }

theorem callQV_law (hT : TabOk P T) {e : OEnv} {o : Oper} {c : Call} {x : Operand} (ho : o.op = .call c) (hc : c.callee = .value x) (hop : okOp o.op = true)
    {st : St} (hl : Live st) {Q : Value → St → Prop} (h : CallQV P (opV e x) (c.args.toList.map (opV e)) st Q) :
    ∃ v m, Q v (st.upto m) ∧ ∀ tm, evalT tm x = opV e x → c.args.toList.map (evalT tm) = c.args.toList.map (opV e) → OpLaw P o tm st v (st.upto m) := by
  cases h with
  | fn f a d hf hcall =>
    obtain ⟨hcall⟩ := hcall
    obtain ⟨v, m, hg, hq⟩ := hcall hl
    exact ⟨v, m, hq, fun tm hx ha => opLaw_call hT ho hc hop (by rw [hx, hf]) (by rw [ha]; exact hg) hl⟩

theorem CallQV.of_func {f : FuncId} {args : List Value} {st : St} {Q : Value → St → Prop} (h : CallQ P f args st Q) : CallQV P (.func (.func f) #[] #[]) args st Q :=
  .fn f #[] #[] rfl (by simpa using h)

theorem denCQ_sound (hT : TabOk P T) (hS : SumOk P T) {e : OEnv} {st : St} {o : Oper} {k : OEnv → St → Prop} (h : denCQ P T e st o k) (hl : Live st) (hop : okOp o.op = true) :
    ∃ v m, k (setO e o.dst v) (st.upto m) ∧ ∀ tm, (∀ x ∈ o.op.operands.toList, evalT tm x = opV e x) → OpLaw P o tm st v (st.upto m) := by
  unfold denCQ at h
  split at h
  · rename_i x hx
    refine ⟨_, st.nxt, h, fun tm hall => opLaw_pure hT hop ?_⟩
    rw [pureOp_congr o.op hall, hx]; rfl
  · rename_i x hx
    refine ⟨_, st.nxt, h, fun tm hall => opLaw_pure hT hop ?_⟩
    rw [pureOp_congr o.op hall, hx]; rfl
  · rename_i f a b hx
    refine ⟨_, st.nxt, h, fun tm hall => opLaw_pure hT hop ?_⟩
    rw [pureOp_congr o.op hall, hx]; rfl
  · rename_i f args ts hx
    have hm := mem_operands_call (c := { callee := .value (.func f), args, argTypes := ts }) (x := .func f) rfl
    obtain ⟨v, m, h1, h2⟩ := callQV_law (e := e) hT hx rfl hop hl (Q := fun v st => k (setO e o.dst v) st) (CallQV.of_func h)
    refine ⟨v, m, h1, fun tm hall => ?_⟩
    rw [hx] at hall
    exact h2 tm (hall _ hm.1) (List.map_congr_left fun y hy => hall y (hm.2 y hy))
  · rename_i x args ts hnf hx
    have hm := mem_operands_call (c := { callee := .value x, args, argTypes := ts }) (x := x) rfl
    obtain ⟨v, m, h1, h2⟩ := callQV_law (e := e) hT hx rfl hop hl (Q := fun v st => k (setO e o.dst v) st) h
    refine ⟨v, m, h1, fun tm hall => ?_⟩
    rw [hx] at hall
    exact h2 tm (hall _ hm.1) (List.map_congr_left fun y hy => hall y (hm.2 y hy))
  · split at h
    · rename_i r hr
      obtain ⟨v, h1, h2⟩ := h
      subst h1
      exact ⟨v, st.nxt, h2, fun tm hall => (plain_law hT hS hop hall hl).1 v hr⟩
    · exact h.elim

variable {ops : Array Oper} {st0 : St} {tm0 : List Value}

theorem OpDid.inv {ops : List Oper} {o : Oper} {tm : List Value} {st st' : St} {v : Value} (h : OpDid P ops o tm st v st') : (wantedA ops tm o = true ∧ OpLaw P o tm st v st' ∧ noDefer o.op = true) ∨ (wantedA ops tm o = false ∧ v = undef) := by
  cases h with
  | law hw hn h => exact .inl ⟨hw, h, hn⟩
  | not hw => exact .inr ⟨hw, rfl⟩

/-- All records only read. -/
def Reads (st0 : St) (R : List Rec) : Prop := ∀ (n : Nat) (a : Rec), R[n]? = some a → a.writes = false ∧ ∀ id, (a.small id).isSome = true → id < st0.nxt

theorem quiet_snoc (hl0 : Live st0) {R : List Rec} {r : RS} {done : List (Nat × Oper)} (h : Pre P ops (befores [] ops.toList) st0 tm0 R r done) (hq : Reads st0 R) (hh : r.st.heap = st0.heap) {o : Oper} {b : Nat} {v : Value} {m : Nat}
    (hat_ : ops[R.length]? = some o) (hb : (befores [] ops.toList)[R.length]? = some b) (hb2 : b < 2 ^ R.length) (ht : tmpsOk ops.toList done R.length b o = true) (hm : Abs r.st (r.st.upto m))
    (hlaw : ∀ tm, (∀ t, t ∈ looks ops o → getN tm t = getN r.tmps t) → OpDid P ops.toList o tm r.st v (r.st.upto m)) :
    ∃ a nt, a.o = o ∧ Pre P ops (befores [] ops.toList) st0 tm0 (R ++ [a]) { tmps := putT r.tmps o.dst v, st := r.st.upto m, notes := nt :: r.notes } ((R.length, o) :: done) ∧ Reads st0 (R ++ [a]) := by
  have hnx : st0.nxt ≤ r.st.nxt := h.abs.nxt
  have hnm : r.st.nxt ≤ m := hm.nxt
  let a : Rec := { o, b, v, tm := r.tmps, small := hget st0.heap, res := hget st0.heap, writes := false, lo := r.st.nxt, hi := m }
  have haff : ∀ id, a.aff id = true → r.st.nxt ≤ id := fun id hid => by
    simp only [Rec.aff, a, Bool.false_and, Bool.or_false, Bool.and_eq_true, decide_eq_true_eq] at hid
    exact hid.1
  have hreads : Reads st0 (R ++ [a]) := fun n x hx => by
    rcases snoc_get hx with ⟨e1, e2⟩ | ⟨e1, e2⟩
    · exact hq n x e2
    · subst e2; exact ⟨rfl, fun id hid => hl0 id hid⟩
  refine ⟨a, { i := R.length, foot := keysOf st0.heap, writes := false, lo := r.st.nxt, hi := m }, rfl, ?_, hreads⟩
  refine h.snoc (a := a) ⟨hat_, hnm, fun id hid => Nat.lt_of_lt_of_le (hl0 id hid) hnx, fun id _ hid => hid, fun _ _ _ => rfl, fun id hid => Nat.lt_of_lt_of_le (hl0 id hid) (Nat.le_trans hnx hnm), fun E w F rest k tmps h1 h2 h3 h4 h5 => ?_⟩
    rfl rfl (fun id o' ho' => by rw [hh]; exact ho') hb hb2 ht (fun n x hx => .inr ⟨fun id h1 h2 => ?_, fun id h1 h2 => ?_⟩) (fun id => ?_) rfl hm rfl
    (.inr ⟨_, rfl, rfl, rfl, rfl, rfl, fun id => mem_keysOf _ _⟩)
  · have hsim : Sim E (hget r.st.heap) w := by rw [hh]; exact h2
    have hd := hlaw tmps h4
    rcases hd.inv with ⟨hw, hol, hn⟩ | ⟨hw, hv⟩
    · obtain ⟨E2, w2, v2, q1, q2, q3⟩ := hol.run E w F ops _ rest k h1 hsim h3 h5 (by rw [← wanted_ok h3 o]; exact hw) (.inr hn)
      refine ⟨E2, w2, v2, q1, ?_, q3⟩
      have : (r.st.upto m).heap = st0.heap := hh
      rw [this, hh] at q2
      exact q2
    · have hw' : Region.wanted o (yielded ops F.tmps) = false := by rw [← wanted_ok h3 o]; exact hw
      subst hv
      exact ⟨E, w, undef, VR.undef E, (Out.refl h2).widen (Nat.le_refl _) hnm, Goes.one fun cs => step_skipOp h5 hw'⟩
  · have hlow := h.recs.low n x hx
    have hw := (hq n x hx).1
    simp only [Rec.aff, hw, Bool.false_and, Bool.or_false, Bool.and_eq_true, decide_eq_true_eq] at h1
    have := hl0 id h2
    omega
  · have := (hq n x hx).2 id h2
    have := haff id h1
    omega
  · simp only [St.upto, hh]
    split <;> rfl

theorem den1Q_sound (hT : TabOk P T) (hS : SumOk P T) {e : OEnv} {tm : List Value} {st : St} {o : Oper} {k : OEnv → St → Prop} (h : den1Q P T ops.toList e st o k) (he : EnvLe e tm) (hl : Live st) :
    ∃ v m, k (setO e o.dst v) (st.upto m) ∧ ∀ tm', (∀ t, t ∈ looks ops o → getN tm' t = getN tm t) → OpDid P ops.toList o tm' st v (st.upto m) := by
  unfold den1Q at h
  split at h
  · exact h.elim
  rename_i hok
  rw [Bool.and_eq_true] at hok
  obtain ⟨hop, hd⟩ := hok
  have hall : ∀ tm', (∀ t, t ∈ looks ops o → getN tm' t = getN tm t) → ∀ x ∈ o.op.operands.toList, evalT tm' x = opV e x := fun tm' h4 x hx => by
    rw [evalT_names (looks_names h4) x hx]
    exact okD_all he hd x hx
  split at h
  · exact h.elim
  · rename_i hg
    obtain ⟨v, m, h1, h2⟩ := denCQ_sound hT hS h hl hop
    exact ⟨v, m, h1, fun tm' h4 => .law (by rw [wantedA_congr h4]; exact (guard_want he).1 hg) (denCQ_nd h) (h2 tm' (hall tm' h4))⟩
  · rename_i g w hg
    have hw := (guard_want he).2 g w hg
    cases hwt : want g w with
    | true =>
      have hc := denGQ_yes h hwt
      obtain ⟨v, m, h1, h2⟩ := denCQ_sound hT hS hc hl hop
      exact ⟨v, m, h1, fun tm' h4 => .law (by rw [wantedA_congr h4, hw, hwt]) (denCQ_nd hc) (h2 tm' (hall tm' h4))⟩
    | false => exact ⟨undef, st.nxt, denGQ_no h hwt, fun tm' h4 => .not (by rw [wantedA_congr h4, hw, hwt])⟩

theorem denOpsQ_sound (hT : TabOk P T) (hS : SumOk P T) (hl0 : Live st0) : ∀ (l : List Oper) (R : List Rec) (bs : List Nat) (done : List (Nat × Oper)) (r : RS) (e : OEnv) (k : OEnv → St → Prop),
    Pre P ops (befores [] ops.toList) st0 tm0 R r done → Reads st0 R → r.st.heap = st0.heap → l = ops.toList.drop R.length → bs = (befores [] ops.toList).drop R.length → drawGo ops.toList l bs done R.length = true →
    denOpsQ P T ops.toList l e r.st k → EnvLe e r.tmps →
    ∃ R' r' done' e', Pre P ops (befores [] ops.toList) st0 tm0 R' r' done' ∧ R'.length = R.length + l.length ∧ k e' r'.st ∧ EnvLe e' r'.tmps ∧ AgreeN (dstOps l) r.tmps r'.tmps := by
  intro l
  induction l with
  | nil =>
    intro R bs done r e k h hq hh hl hb hg hd he
    exact ⟨R, r, done, e, h, by simp, hd, he, AgreeN.refl _ _⟩
  | cons o l ih =>
    intro R bs done r e k h hq hh hl hb hg hd he
    cases bs with
    | nil => simp [drawGo] at hg
    | cons b bs =>
      simp only [drawGo, Bool.and_eq_true, Nat.blt_eq] at hg
      obtain ⟨⟨hg1, hg2⟩, hg3⟩ := hg
      simp only [denOpsQ] at hd
      obtain ⟨v, m, h1, h2⟩ := den1Q_sound hT hS hd he (h.abs.live hl0)
      have hat_ : ops[R.length]? = some o := by
        have : (ops.toList.drop R.length)[0]? = some o := by rw [← hl]; rfl
        simpa using this
      have hb0 : (befores [] ops.toList)[R.length]? = some b := by
        have : ((befores [] ops.toList).drop R.length)[0]? = some b := by rw [← hb]; rfl
        simpa using this
      have hlen : ∀ a : Rec, (R ++ [a]).length = R.length + 1 := by simp
      obtain ⟨a, nt, ha0, ha, hqa⟩ := quiet_snoc hl0 h hq hh hat_ hb0 hg1 hg2 (h2 r.tmps (fun _ _ => rfl)).abs h2
      obtain ⟨R', r', done', e', q1, q2, q3, q4, q5⟩ := ih (R ++ [a]) bs ((R.length, o) :: done) _ (setO e o.dst v) k ha hqa hh (by
          rw [hlen]
          have : (o :: l).drop 1 = (ops.toList.drop R.length).drop 1 := by rw [hl]
          simpa [List.drop_drop, Nat.add_comm] using this) (by
          rw [hlen]
          have : (b :: bs).drop 1 = ((befores [] ops.toList).drop R.length).drop 1 := by rw [hb]
          simpa [List.drop_drop, Nat.add_comm] using this) (by rw [hlen]; exact hg3) h1 (he.set o.dst v)
      refine ⟨R', r', done', e', q1, by rw [q2, hlen]; simp; omega, q3, q4, ?_⟩
      refine (AgreeN.put r.tmps o.dst v l o rfl).trans q5 (fun _ hi => hi) (fun x hx => ?_)
      simp only [dstOps]
      cases o.dst <;> first | exact hx | exact List.mem_cons_of_mem _ hx

/-- A region whose order is open, and that only reads. -/
theorem drawn_sound (hT : TabOk P T) (hS : SumOk P T) (hl0 : Live st0) {e : OEnv} {k : OEnv → St → Prop} (hg : drawGo ops.toList ops.toList (befores [] ops.toList) [] 0 = true) (hd : denOpsQ P T ops.toList ops.toList e st0 k)
    (he : EnvLe e tm0) : ∃ e' tm' st', k e' st' ∧ EnvLe e' tm' ∧ AgreeN (dstOps ops.toList) tm0 tm' ∧ Abs st0 st' ∧
    ∀ E w F k i, Fresh E st0.nxt st'.nxt → Sim E (hget st0.heap) w → VL E tm0 (Array.toList (Frame.tmps F)) → F.mode = .run → F.todo = .code (.region i ops true) :: k →
      ∃ E2 w2 F2, Out E (hget st0.heap) st0.nxt w E2 (hget st'.heap) st'.nxt w2 ∧ VL E2 tm' (Array.toList (Frame.tmps F2)) ∧ Goes P F w F2 w2 ∧ F2 = { F with tmps := F2.tmps, todo := k } := by
  have h0 : Pre P ops (befores [] ops.toList) st0 tm0 [] { tmps := tm0, st := st0, notes := [] } [] := by
    refine ⟨⟨fun n a h => by simp at h, fun n a h => by simp at h, fun n a h => by simp at h, fun n a h => by simp at h, fun m n a b _ h => by simp at h⟩, fun id => rfl, rfl, Abs.refl _, fun n a h => by simp at h, fun n a h => by simp at h, fun n a h => by simp at h, fun n a h => by simp at h⟩
  obtain ⟨R, r, done, e', hp, hlen, q3, q4, q5⟩ := denOpsQ_sound hT hS hl0 ops.toList [] (befores [] ops.toList) [] _ e k h0 (fun n a h => by simp at h) rfl (by simp) (by simp) hg hd he
  have hsz : R.length = ops.size := by rw [hlen]; simp
  have hB : Bits ops R := bits_of hsz (fun n a ha => (hp.recs.each n a ha).at_) hp.bits
  refine ⟨e', r.tmps, r.st, q3, q4, q5, hp.abs, fun E w F k i hf hs ht hm htodo => ?_⟩
  obtain ⟨E2, w2, F2, q1, q2, q3, q4⟩ := region_all hT.mixed hp.recs hp.hi hB hf hs ht hm htodo
  have hH : (fun id => hat all id R 0 (hget st0.heap id)) = hget r.st.heap := by
    funext id
    rw [← hp.heap]
  rw [hH] at q1
  exact ⟨E2, w2, F2, q1, by rw [hp.tmps]; exact q2, q3, q4⟩
end
end Go.Ev

namespace Go.Ev

section
variable {P : Program} {T : Tab}

def RunsTo (P : Program) (fr : AF) (st : St) (K : AF → St → Prop) : Prop := Live st → ∃ fr2 st2, Did P fr st fr2 st2 ∧ Final fr2 ∧ K fr2 st2

theorem RunsTo.of_did {fr fr1 : AF} {st st1 : St} {K : AF → St → Prop} (h : Did P fr st fr1 st1) (h' : RunsTo P fr1 st1 K) : RunsTo P fr st K := fun hl => by
  obtain ⟨fr2, st2, a, b, c⟩ := h' (h.abs.live hl)
  exact ⟨fr2, st2, h.andThen a, b, c⟩

theorem RunsTo.go (hT : TabOk P T) (hS : SumOk P T) {fr fr1 : AF} {st st1 : St} {K : AF → St → Prop} (hs : stepA T noRun fr st = .go fr1 st1) (h' : RunsTo P fr1 st1 K) : RunsTo P fr st K := fun hl =>
  RunsTo.of_did (stepA_go hT hS noRun_ok hs hl) h' hl

def mkF (fn : FuncId) (kind : CallKind) (round : Option Nat) (tmps : List Value) (todo : List AItem) (df : List Deferred) : AF :=
  { fn, tmps, todo, defers := df, ret := false, kind, round }

theorem getO_ge {e : OEnv} {i : Nat} (h : e.length ≤ i) : getO e i = none := by
  induction e generalizing i with
  | nil => rfl
  | cons a e ih =>
    cases i with
    | zero => simp at h
    | succ i => simp only [getO]; exact ih (by simpa using h)

theorem junk_len (e : OEnv) (ds : List Nat) : (junk e ds).length = e.length := by
  induction ds generalizing e with
  | nil => rfl
  | cons d ds ih => simp only [junk, ih, putO_len]

theorem junk_get {ds : List Nat} : ∀ {e : OEnv} {i : Nat} {v : Value}, getO (junk e ds) i = some v → getO e i = some v ∧ i ∉ ds := by
  induction ds with
  | nil => intro e i v h; exact ⟨h, by simp⟩
  | cons d ds ih =>
    intro e i v h
    simp only [junk] at h
    obtain ⟨h1, h2⟩ := ih h
    rw [getO_putO] at h1
    by_cases hc : i = d ∧ d < e.length
    · rw [if_pos hc] at h1; cases h1
    · rw [if_neg hc] at h1
      refine ⟨h1, fun hm => ?_⟩
      rcases List.mem_cons.1 hm with hm | hm
      · subst hm
        by_cases hlt : i < e.length
        · exact hc ⟨rfl, hlt⟩
        · rw [getO_ge (by omega)] at h1; cases h1
      · exact h2 hm

theorem nth_append (pre l : List Value) (v : Value) : nth (pre ++ v :: l) pre.length = v := by
  induction pre with
  | nil => rfl
  | cons a pre ih => simpa [nth] using ih

theorem emb_le {e1 : OEnv} {t : List Value} (h1 : EnvLe e1 t) : ∀ (ms : List Nat) (e0 : OEnv) (pre vs : List Value), readL e1 ms = some vs → e0.length = t.length → (∀ i v, getO e0 i = some v → getN t i = some v ∨ i ∈ ms) →
    EnvLe (emb e0 (pre ++ vs) ms pre.length) t := by
  intro ms
  induction ms with
  | nil =>
    intro e0 pre vs _ hl h
    exact ⟨hl, fun i v hv => by rcases h i v hv with h | h; · exact h
                                · cases h⟩
  | cons m ms ih =>
    intro e0 pre vs hr hl h
    simp only [readL] at hr
    split at hr
    case h_2 => cases hr
    rename_i v hv
    split at hr
    case h_2 => cases hr
    rename_i vs' hvs
    injection hr with hr
    subst hr
    simp only [emb]
    have hn : nth (pre ++ v :: vs') pre.length = v := nth_append pre vs' v
    rw [hn]
    have := ih (putO e0 m (some v)) (pre ++ [v]) vs' hvs (by rw [putO_len]; exact hl) (fun i u hu => by
      rw [getO_putO] at hu
      by_cases hc : i = m ∧ m < e0.length
      · rw [if_pos hc] at hu
        obtain ⟨rfl, _⟩ := hc
        injection hu with hu
        subst hu
        exact .inl (h1.at_ i _ hv)
      · rw [if_neg hc] at hu
        rcases h i u hu with h | h
        · exact .inl h
        · rcases List.mem_cons.1 h with h | h
          · subst h
            by_cases hlt : i < e0.length
            · exact (hc ⟨rfl, hlt⟩).elim
            · rw [getO_ge (by omega)] at hu; cases hu
          · exact .inr h)
    simpa using this

theorem eqd_iff {a b : List Deferred} {p : Prop} (h : Eqd a b p) : a = b ∧ p := by
  unfold Eqd at h
  split at h
  · exact ⟨rfl, h⟩
  · exact h

theorem exit_code {id : Nat} {c : Code} {rest : List AItem} : exitToA id (.code c :: rest) = exitToA id rest := rfl
theorem exit_loop {id : Nat} {c : Code} {rest : List AItem} : exitToA id (.inLoop c :: rest) = exitToA id rest := rfl
theorem exit_scope {id : Nat} {c : Code} {rest : List AItem} : exitToA id (.inScope c :: rest) = exitToA id rest := rfl

/-- A loop over a function whose call comes back. -/
theorem rangeFunc_did {fr : AF} {params : Array Tmp} {assign body : Code} {f : Operand} {k : List AItem} {g : FuncId} {first captured : Array Value} {st st' : St} {v : Value} (hret : fr.ret = false) (hn : fr.round = none)
    (htodo : fr.todo = .code (.rangeFunc f params assign body) :: k) (hx : okX f = true) (hv : evalT fr.tmps f = .func (.func g) first captured)
    (hc : GoodCall P g (first.toList ++ [.func (.yield (st.nxt + 1)) #[] #[]] ++ captured.toList) ((st.push (.deferred (some []))).push (.loop { state := .ready, pending := none, fn := fr.fn, tmps := ⟨fr.tmps⟩, params, assign, body, defers := st.nxt })) v st') (hl : Live st) :
    Did P fr st { fr with todo := .endRangeFunc (st.nxt + 1) :: k, defers := { target := .collected st.nxt, args := #[] } :: fr.defers } st' := by
  let o1 : Obj := .deferred (some [])
  let o2 : Obj := .loop { state := .ready, pending := none, fn := fr.fn, tmps := ⟨fr.tmps⟩, params, assign, body, defers := st.nxt }
  have b1 : Abs st (st.push o1) := Abs.push _ _
  have b2 : Abs (st.push o1) ((st.push o1).push o2) := Abs.push _ _
  obtain ⟨c1, c2, c3⟩ := hc
  have hnx : ((st.push o1).push o2).nxt = st.nxt + 2 := rfl
  have hle : st.nxt + 2 ≤ st'.nxt := c2.nxt
  refine ⟨(b1.trans b2).trans c2, rfl, hn.symm ▸ rfl, fun E w F hf hs hF => ?_⟩
  have hno : ∀ id, st.nxt ≤ id → hget st.heap id = none := fun id hid => by
    cases hh : hget st.heap id with
    | none => rfl
    | some o => have := hl id (by rw [hh]; rfl); omega
  have ht := hF.todo
  rw [htodo] at ht
  obtain ⟨k', e1, e2⟩ := ht.code_inv
  let E1 := upE E st.nxt ⟨w.heap.size, 0, 0⟩
  let w1 := w.alloc (.deferred (some []))
  have hE1 : Out E (hget st.heap) st.nxt w E1 (hget (st.push o1).heap) (st.nxt + 1) w1 :=
    Out.push (o := o1) hs (hf _ (Nat.le_refl _) (by omega)) (hno _ (Nat.le_refl _)) (.deferred rfl (.inl rfl)) (fun id => by simp [St.push, hget_cons, o1])
  have hw1 : w1.heap.size = w.heap.size + 1 := by simp [w1]
  let E2 := upE E1 (st.nxt + 1) ⟨w1.heap.size, 0, 0⟩
  let w2 := w1.alloc (.loop { state := .ready, pending := none, fn := F.fn, tmps := F.tmps, params, assign, body, defers := w.heap.size })
  have hE1n : E1 (st.nxt + 1) = none := by
    rw [hE1.same _ (.inr (Nat.le_refl _))]
    exact hf _ (by omega) (by omega)
  have hle12 : Le E1 E2 := upE_le _ hE1n
  have hle2 : Le E E2 := hE1.le.trans hle12
  have hE1at : E1 st.nxt = some ⟨w.heap.size, 0, 0⟩ := by simp [E1, upE]
  have hE2 : Out E1 (hget (st.push o1).heap) (st.nxt + 1) w1 E2 (hget ((st.push o1).push o2).heap) (st.nxt + 2) w2 :=
    Out.push (o := o2) hE1.sim hE1n (by simp [St.push, hget_cons, hno (st.nxt + 1) (by omega)])
      (.loop rfl ⟨rfl, rfl, hF.fn, hF.tmps.mono hle2, rfl, rfl, rfl, ⟨_, hle12 _ _ hE1at, rfl, rfl⟩⟩) (fun id => by simp [St.push, hget_cons, o2])
  have hE2at : E2 (st.nxt + 1) = some ⟨w1.heap.size, 0, 0⟩ := by simp [E2, upE]
  have ho := hE1.trans hE2 (by omega) (by omega)
  have hev := evalT_ok hF.tmps hx
  rw [hv] at hev
  generalize hfe : F.eval f = fv at hev
  cases hev with
  | @fn _ _ a' _ c' q1 q2 q3 q4 =>
    have v1 : VL E2 first.toList a'.toList := VL.mono hle2 ⟨q1, q3⟩
    have v2 : VL E2 captured.toList c'.toList := VL.mono hle2 ⟨q2, q4⟩
    have vy : VR E2 (.func (.yield (st.nxt + 1)) #[] #[]) (.func (.yield (w.heap.size + 1)) #[] #[]) := by
      have := VR.yield (E := E2) hE2at rfl
      simp only [hw1] at this
      exact this
    obtain ⟨E3, w3, v3, r1, r2, r3⟩ := c3 E2 w2 (a' ++ #[.func (.yield (w.heap.size + 1)) #[] #[]] ++ c')
      (fun id x1 x2 => by
        rw [ho.same id (.inr (by rw [hnx] at x1; exact x1))]
        exact hf id (by rw [hnx] at x1; omega) x2) hE2.sim (by
        simp only [Array.toList_append]
        exact (v1.append (VL.cons vy (VL.nil E2))).append v2)
    refine ⟨E3, w3, { F with todo := .endRangeFunc (w.heap.size + 1) :: k', defers := ⟨.collected w.heap.size, #[]⟩ :: F.defers }, ho.trans r2 (by omega) c2.nxt, ?_, ?_⟩
    · have hle3 := hle2.trans r2.le
      have hd3 : E3 st.nxt = some ⟨w.heap.size, 0, 0⟩ := r2.le _ _ (hle12 _ _ hE1at)
      have hl3 : E3 (st.nxt + 1) = some ⟨w1.heap.size, 0, 0⟩ := r2.le _ _ hE2at
      refine ⟨hF.fn, hF.tmps.mono hle3, .cons ?_ (e2.mono hle3), .cons ?_ (hF.defers.mono hle3), hF.mode, hF.kind, hF.round.mono hle3⟩
      · have := IR.endRangeFunc (E := E3) hl3 rfl
        simp only [hw1] at this
        exact this
      · have := DR.collected (E := E3) hd3 rfl
        exact this
    · intro cs
      have := step_rangeFuncF (P := P) (w := w) (cs := cs) (hF.run hret) (hF.none hn) e1 hfe c1
      exact Steps.head this ((r3 _ cs).1 rfl)

theorem readL_len {e : OEnv} : ∀ {ms : List Nat} {vs : List Value}, readL e ms = some vs → vs.length = ms.length := by
  intro ms
  induction ms with
  | nil => intro vs h; simp [readL] at h; subst h; rfl
  | cons m ms ih =>
    intro vs h
    simp only [readL] at h
    split at h
    · split at h
      · rename_i h2
        injection h with h
        subst h
        simp [ih h2]
      · cases h
    · cases h

theorem nth_left (vs ds : List Value) : ∀ k, k < vs.length → nth (vs ++ ds) k = nth vs k := by
  induction vs with
  | nil => intro k h; simp at h
  | cons v vs ih =>
    intro k h
    cases k with
    | zero => rfl
    | succ k => simp only [List.cons_append, nth]; exact ih k (by simpa using h)

theorem emb_left (vs ds : List Value) : ∀ (ms : List Nat) (e : OEnv) (k : Nat), k + ms.length ≤ vs.length → emb e (vs ++ ds) ms k = emb e vs ms k := by
  intro ms
  induction ms with
  | nil => intro e k _; rfl
  | cons m ms ih =>
    intro e k h
    simp only [List.length_cons] at h
    simp only [emb, nth_left vs ds k (by omega)]
    exact ih _ _ (by omega)

theorem den_sound (hT : TabOk P T) (hS : SumOk P T) {ann : Nat → Option (List Nat)} {fn : FuncId} {kind : CallKind} {round : Option Nat} {K : AF → St → Prop} :
    ∀ (c : Code) (ex : List (Nat × Kt)) (r : Kt) (o : Nat → Kt) (k : Kt) (e : OEnv) (df : List Deferred) (st : St) (tmps : List Value) (rest : List AItem), (round = none ∨ rfIn c = false) →
    den P T ann c ex r o k e df st → EnvLe e tmps →
    (∀ e' df' st' tmps', EnvLe e' tmps' → AgreeN (dsts c) tmps tmps' → k e' df' st' → RunsTo P (mkF fn kind round tmps' rest df') st' K) →
    (∀ id k', look id ex = some k' → ∃ rest', exitToA id rest = some rest' ∧ ∀ e' df' st' tmps', EnvLe e' tmps' → AgreeN (dsts c) tmps tmps' → k' e' df' st' → RunsTo P (mkF fn kind round tmps' rest' df') st' K) →
    (∀ id, look id ex = none → exitToA id rest = none) →
    (∀ e' df' st' tmps' rest', EnvLe e' tmps' → r e' df' st' → RunsTo P (mkF fn kind round tmps' (.code .ret :: rest') df') st' K) →
    (∀ id e' df' st' tmps' rest', EnvLe e' tmps' → exitToA id rest' = none → o id e' df' st' → RunsTo P (mkF fn kind round tmps' (.code (.exit id) :: rest') df') st' K) →
    RunsTo P (mkF fn kind round tmps (.code c :: rest) df) st K := by
  intro c
  induction c with
  | skip =>
    intro ex r o k e df st tmps rest hrf h he hk hex hno hr ho
    exact RunsTo.go hT hS rfl (hk e df st tmps he (AgreeN.refl _ _) h)
  | label l =>
    intro ex r o k e df st tmps rest hrf h he hk hex hno hr ho
    exact RunsTo.go hT hS rfl (hk e df st tmps he (AgreeN.refl _ _) h)
  | seq a b iha ihb =>
    intro ex r o k e df st tmps rest hrf h he hk hex hno hr ho
    refine RunsTo.go hT hS (fr1 := mkF fn kind round tmps (.code a :: .code b :: rest) df) rfl ?_
    have ha : ∀ i ∈ dsts a, i ∈ dsts (.seq a b) := fun i hi => List.mem_append_left _ hi
    have hb : ∀ i ∈ dsts b, i ∈ dsts (.seq a b) := fun i hi => List.mem_append_right _ hi
    refine iha ex r o _ e df st tmps (.code b :: rest) (hrf.imp id fun q => (Bool.or_eq_false_iff.1 q).1) h he (fun e' df' st' tmps' he' hag h' => ?_) (fun id k' hl => ?_) (fun id hl => ?_) hr ho
    · refine ihb ex r o k e' df' st' tmps' rest (hrf.imp id fun q => (Bool.or_eq_false_iff.1 q).2) h' he' (fun e2 df2 st2 t2 he2 hag2 h2 => hk e2 df2 st2 t2 he2 (hag.trans hag2 ha hb) h2) (fun id k' hl => ?_) hno hr ho
      obtain ⟨rest', q1, q2⟩ := hex id k' hl
      exact ⟨rest', q1, fun e2 df2 st2 t2 he2 hag2 h2 => q2 e2 df2 st2 t2 he2 (hag.trans hag2 ha hb) h2⟩
    · obtain ⟨rest', q1, q2⟩ := hex id k' hl
      exact ⟨rest', by rw [exit_code]; exact q1, fun e2 df2 st2 t2 he2 hag2 h2 => q2 e2 df2 st2 t2 he2 (hag2.mono ha) h2⟩
    · rw [exit_code]; exact hno id hl
  | cond c a b iha ihb =>
    intro ex r o k e df st tmps rest hrf h he hk hex hno hr ho
    simp only [den] at h
    split at h
    case h_2 => exact h.elim
    rename_i hok
    rw [Bool.and_eq_true] at hok
    obtain ⟨hx, hd⟩ := hok
    obtain ⟨t, ht, h1, h2⟩ := h
    have hev : evalT tmps c = .bool t := by rw [okD_all he hd c (by simp), ht]
    have ha : ∀ i ∈ dsts a, i ∈ dsts (.cond c a b) := fun i hi => List.mem_append_left _ hi
    have hb : ∀ i ∈ dsts b, i ∈ dsts (.cond c a b) := fun i hi => List.mem_append_right _ hi
    refine RunsTo.go hT hS (fr1 := mkF fn kind round tmps (.code (cond t a b) :: rest) df) (st1 := st) (by simp only [stepA, mkF, hx, hev]) ?_
    cases t with
    | true =>
      refine iha ex r o k e df st tmps rest (hrf.imp id fun q => (Bool.or_eq_false_iff.1 q).1) (h1 rfl) he (fun e2 df2 st2 t2 he2 hag2 h2 => hk e2 df2 st2 t2 he2 (hag2.mono ha) h2) (fun id k' hl => ?_) hno hr ho
      obtain ⟨rest', q1, q2⟩ := hex id k' hl
      exact ⟨rest', q1, fun e2 df2 st2 t2 he2 hag2 h2 => q2 e2 df2 st2 t2 he2 (hag2.mono ha) h2⟩
    | false =>
      refine ihb ex r o k e df st tmps rest (hrf.imp id fun q => (Bool.or_eq_false_iff.1 q).2) (h2 rfl) he (fun e2 df2 st2 t2 he2 hag2 h2 => hk e2 df2 st2 t2 he2 (hag2.mono hb) h2) (fun id k' hl => ?_) hno hr ho
      obtain ⟨rest', q1, q2⟩ := hex id k' hl
      exact ⟨rest', q1, fun e2 df2 st2 t2 he2 hag2 h2 => q2 e2 df2 st2 t2 he2 (hag2.mono hb) h2⟩
  | block id b ih =>
    intro ex r o k e df st tmps rest hrf h he hk hex hno hr ho
    refine RunsTo.go hT hS (fr1 := mkF fn kind round tmps (.code b :: .inBlock id :: rest) df) rfl ?_
    refine ih ((id, k) :: ex) r o k e df st tmps (.inBlock id :: rest) hrf h he (fun e' df' st' tmps' he' hag h' => RunsTo.go hT hS rfl (hk e' df' st' tmps' he' hag h')) (fun i k' hl => ?_) (fun i hl => ?_) hr ho
    · simp only [look, exitToA] at hl ⊢
      cases hi : Nat.beq id i with
      | true =>
        rw [hi, cond_true] at hl
        injection hl with hl
        subst hl
        exact ⟨rest, rfl, hk⟩
      | false =>
        rw [hi, cond_false] at hl
        exact hex i k' hl
    · simp only [look, exitToA] at hl ⊢
      cases hi : Nat.beq id i with
      | true => rw [hi, cond_true] at hl; cases hl
      | false => rw [hi, cond_false] at hl; exact hno i hl
  | scope b ih =>
    intro ex r o k e df st tmps rest hrf h he hk hex hno hr ho
    refine RunsTo.go hT hS (fr1 := mkF fn kind round tmps (.code b :: .inScope b :: rest) df) rfl ?_
    exact ih ex r o k e df st tmps (.inScope b :: rest) hrf h he (fun e' df' st' tmps' he' hag h' => RunsTo.go hT hS rfl (hk e' df' st' tmps' he' hag h')) (fun i k' hl => by rw [exit_scope]; exact hex i k' hl) (fun i hl => by rw [exit_scope]; exact hno i hl) hr ho
  | loop b ih =>
    intro ex r o k e df st tmps rest hrf h he hk hex hno hr ho
    simp only [den] at h
    split at h
    case h_2 => exact h.elim
    rename_i ms hms
    split at h
    case h_2 => exact h.elim
    rename_i vs hvs
    refine RunsTo.go hT hS (fr1 := mkF fn kind round tmps (.code b :: .inLoop b :: rest) df) rfl ?_
    have hjunk : ∀ t, AgreeN (dsts b) tmps t → ∀ i v, getO (junk e (dsts b)) i = some v → getN t i = some v := fun t hag i v hv => by
      obtain ⟨q1, q2⟩ := junk_get hv
      rw [hag.at_ i q2]
      exact he.at_ i v q1
    split at h
    · obtain ⟨hlp⟩ := h
      have key := hlp (fun xs st => ∀ tmps', EnvLe (emb (junk e (dsts b)) xs ms 0) tmps' → AgreeN (dsts b) tmps tmps' → RunsTo P (mkF fn kind round tmps' (.code b :: .inLoop b :: rest) df) st K)
        (fun xs st1 Y hY hb t1 he1 hag1 => by
          refine ih ex r o _ _ df st1 t1 (.inLoop b :: rest) hrf hb he1 (fun e2 df2 st2 t2 he2 hag2 h2 => ?_) (fun id k' hl => ?_) (fun id hl => by rw [exit_loop]; exact hno id hl) hr ho
          · obtain ⟨hdf, h3⟩ := eqd_iff h2
            clear h2
            subst hdf
            split at h3
            case h_2 => exact h3.elim
            rename_i vs' hvs'
            have hag := hag1.trans hag2 (fun _ h => h) (fun _ h => h)
            refine RunsTo.go hT hS (fr1 := mkF fn kind round t2 (.code b :: .inLoop b :: rest) df2) rfl (hY vs' st2 h3 t2 ?_ hag)
            exact emb_le he2 ms _ [] vs' hvs' (by rw [junk_len, he.len, hag.len]) (fun i v hv => .inl (hjunk t2 hag i v hv))
          · obtain ⟨rest', q1, q2⟩ := hex id k' hl
            exact ⟨rest', by rw [exit_loop]; exact q1, fun e2 df2 st2 t2 he2 hag2 h2 => q2 e2 df2 st2 t2 he2 (hag1.trans hag2 (fun _ h => h) (fun _ h => h)) h2⟩)
      exact key tmps (emb_le he ms _ [] vs hvs (by rw [junk_len]; exact he.len) (fun i v hv => .inl (hjunk tmps (AgreeN.refl _ _) i v hv))) (AgreeN.refl _ _)
    · obtain ⟨hlp⟩ := h
      have key := hlp (fun xs st => ∀ tmps', EnvLe (emb (junk e (dsts b)) xs ms 0) tmps' → AgreeN (dsts b) tmps tmps' → RunsTo P (mkF fn kind round tmps' (.code b :: .inLoop b :: rest) (decD (xs.drop ms.length) ++ df)) st K)
        (fun xs st1 Y hY hb t1 he1 hag1 => by
          refine ih ex r o _ _ (decD (xs.drop ms.length) ++ df) st1 t1 (.inLoop b :: rest) hrf hb he1 (fun e2 df2 st2 t2 he2 hag2 h2 => ?_) (fun id k' hl => ?_) (fun id hl => by rw [exit_loop]; exact hno id hl) hr ho
          · obtain ⟨ds, hdf, h3⟩ := h2
            subst hdf
            split at h3
            case h_2 => exact h3.elim
            rename_i vs' hvs'
            have hag := hag1.trans hag2 (fun _ h => h) (fun _ h => h)
            refine RunsTo.go hT hS (fr1 := mkF fn kind round t2 (.code b :: .inLoop b :: rest) (decD ds ++ df)) rfl ?_
            have h4 := hY (vs' ++ ds) st2 h3 t2 ?_ hag
            · rw [← readL_len hvs', List.drop_left] at h4
              exact h4
            rw [emb_left vs' ds ms _ 0 (by rw [readL_len hvs']; omega)]
            exact emb_le he2 ms _ [] vs' hvs' (by rw [junk_len, he.len, hag.len]) (fun i v hv => .inl (hjunk t2 hag i v hv))
          · obtain ⟨rest', q1, q2⟩ := hex id k' hl
            exact ⟨rest', by rw [exit_loop]; exact q1, fun e2 df2 st2 t2 he2 hag2 h2 => q2 e2 df2 st2 t2 he2 (hag1.trans hag2 (fun _ h => h) (fun _ h => h)) h2⟩)
      have h4 := key tmps (emb_le he ms _ [] vs hvs (by rw [junk_len]; exact he.len) (fun i v hv => .inl (hjunk tmps (AgreeN.refl _ _) i v hv))) (AgreeN.refl _ _)
      rw [← readL_len hvs, List.drop_length] at h4
      exact h4
  | ret =>
    intro ex r o k e df st tmps rest hrf h he hk hex hno hr ho
    exact hr e df st tmps rest he h
  | exit id =>
    intro ex r o k e df st tmps rest hrf h he hk hex hno hr ho
    simp only [den] at h
    split at h
    · rename_i k' hl
      obtain ⟨rest', q1, q2⟩ := hex id k' hl
      exact RunsTo.go hT hS (fr1 := mkF fn kind round tmps rest' df) (by simp only [stepA, mkF, q1]) (q2 e df st tmps he (AgreeN.refl _ _) h)
    · rename_i hl
      exact ho id e df st tmps rest he (hno id hl) h
  | region i ops d =>
    intro ex r o k e df st tmps rest hrf h he hk hex hno hr ho
    have inv : ∀ {E F}, FR E (mkF fn kind round tmps (.code (.region i ops d) :: rest) df) F → ∃ k', F.todo = .code (.region i ops d) :: k' ∧ TR E rest k' := fun hF => hF.todo.code_inv
    cases d with
    | false =>
      simp only [den] at h
      intro hl
      obtain ⟨e', tm', st', q1, q2, q3, q4⟩ := denOps_sound hT hS ops.toList 0 e tmps st _ h he hl (by simp) (by simp)
      refine RunsTo.of_did (fr1 := mkF fn kind round tm' rest df) (st1 := st') ⟨q4.abs, rfl, rfl, fun E w F hf hs hF => ?_⟩ (hk e' df st' tm' q2 q3 q1) hl
      obtain ⟨k', e1, e2⟩ := inv hF
      have hm := hF.run rfl
      obtain ⟨E2, w2, F2, o1, o2, o3, o4⟩ := q4.run E w { F with todo := .inRegion ops (List.range ops.size) :: k' } k' hf hs hF.tmps hm (by simp [List.range_eq_range'])
      refine ⟨E2, w2, F2, o1, ?_, (Goes.one fun cs => step_regionF hm e1).trans o3⟩
      rw [o4]
      exact ⟨hF.fn, o2, e2.mono o1.le, hF.defers.mono o1.le, hm, hF.kind, hF.round.mono o1.le⟩
    | true =>
      simp only [den] at h
      split at h
      case h_2 => exact h.elim
      rename_i hg
      intro hl
      obtain ⟨e', tm', st', q1, q2, q3, q4, q5⟩ := drawn_sound hT hS hl hg h he
      refine RunsTo.of_did (fr1 := mkF fn kind round tm' rest df) (st1 := st') ⟨q4, rfl, rfl, fun E w F hf hs hF => ?_⟩ (hk e' df st' tm' q2 q3 q1) hl
      obtain ⟨k', e1, e2⟩ := inv hF
      have hm := hF.run rfl
      obtain ⟨E2, w2, F2, o1, o2, o3, o4⟩ := q5 E w F k' i hf hs hF.tmps hm e1
      refine ⟨E2, w2, F2, o1, ?_, o3⟩
      rw [o4]
      exact ⟨hF.fn, o2, e2.mono o1.le, hF.defers.mono o1.le, hm, hF.kind, hF.round.mono o1.le⟩
  | rangeFunc f params assign body _ _ =>
    intro ex r o k e df st tmps rest hrf h he hk hex hno hr ho
    have hro : round = none := hrf.resolve_right (by simp [rfIn])
    simp only [den] at h
    split at h
    case h_2 => exact h.elim
    rename_i hok
    rw [Bool.and_eq_true] at hok
    obtain ⟨hx, hd⟩ := hok
    obtain ⟨g, a, c, hf, h⟩ := h
    have hev : evalT tmps f = opV e f := okD_all he hd f (by simp)
    have b2 : Abs st ((st.push (.deferred (some []))).push (.loop { state := .ready, pending := none, fn, tmps := ⟨tmps⟩, params, assign, body, defers := st.nxt })) := (Abs.push _ _).trans (Abs.push _ _)
    intro hl
    · obtain ⟨hc⟩ := h fn tmps he
      obtain ⟨v, st3, hgood, hend⟩ := hc (b2.live hl)
      obtain ⟨lr, g1, g2, g3, g4⟩ := hend
      have did := rangeFunc_did (P := P) (fr := mkF fn kind round tmps (.code (.rangeFunc f params assign body) :: rest) df) (k := rest) rfl hro rfl hx (by rw [← hf]; exact hev) hgood hl
      refine RunsTo.of_did did (RunsTo.go hT hS (fr1 := mkF fn kind round tmps rest ({ target := .collected st.nxt, args := #[] } :: df)) (st1 := st3.put (st.nxt + 1) (.loop { lr with state := .exhausted })) ?_ (hk e _ _ tmps he (AgreeN.refl _ _) g4)) hl
      simp only [stepA, mkF, g1, g3]
  | _ => intro ex r o k e df st tmps rest _ h; exact h.elim

/-! ### functions -/
theorem resO_spec {e : OEnv} {tm : List Value} (he : EnvLe e tm) {st : St} : ∀ (rs : List ResultVar) (acc : List Value) (k : List Value → Prop), resO T e st rs acc k → ∃ l, evResults T st tm rs = some l ∧ k (acc.reverse ++ l) := by
  intro rs
  induction rs with
  | nil => intro acc k h; exact ⟨[], rfl, by simpa [resO] using h⟩
  | cons a rs ih =>
    intro acc k h
    cases a with
    | tmp t =>
      simp only [resO] at h
      split at h
      case h_2 => exact h.elim
      rename_i v hv
      obtain ⟨l, h1, h2⟩ := ih _ _ h
      refine ⟨v :: l, ?_, by simpa using h2⟩
      simp only [evResults, h1, evalT, he.at_ t v hv]
    | cell a t =>
      simp only [resO] at h
      split at h
      case h_2 => exact h.elim
      rename_i p hp
      obtain ⟨v, h0, h⟩ := h
      obtain ⟨l, h1, h2⟩ := ih _ _ h
      refine ⟨v :: l, ?_, by simpa using h2⟩
      simp only [evResults, h1, evalT, he.at_ a p hp, h0]

theorem Dfs_runs (hT : TabOk P T) (hS : SumOk P T) {fr : AF} {K : AF → St → Prop} (hret : fr.ret = true) (hro : fr.round = none) : ∀ (df : List Deferred) (st : St) (k : St → Prop), Dfs df st k → fr.defers = df →
    (∀ st', k st' → K { fr with defers := [] } st') → RunsTo P fr st K := by
  intro df
  induction df generalizing fr with
  | nil =>
    intro st k h hdf hk hl
    refine ⟨fr, st, ⟨Abs.refl _, rfl, rfl, fun E w F _ hs hF => ⟨E, w, F, Out.refl hs, hF, Goes.refl F w⟩⟩, ?_, ?_⟩
    · unfold Final
      rw [hro]
      exact ⟨hret, hdf⟩
    · have := hk st h
      have e : ({ fr with defers := [] } : AF) = fr := by rw [← hdf]
      rwa [e] at this
  | cons d ds ih =>
    intro st k h hdf hk
    simp only [Dfs] at h
    split at h
    case h_2 => exact h.elim
    rename_i r hr
    obtain ⟨h1, h2⟩ := h
    refine RunsTo.go hT hS (fr1 := { fr with defers := ds }) (st1 := st.put r (.deferred none)) ?_ (ih (fr := { fr with defers := ds }) hret hro _ k h2 rfl hk)
    unfold stepA
    rw [hret]
    simp only [hro, hdf, hr, h1]

theorem nones_get : ∀ n i, getO (nones n) i = none := fun n => by
  induction n with
  | zero => intro i; rfl
  | succ n ih => intro i; cases i <;> simp [nones, getO, ih]

theorem nones_len : ∀ n, (nones n).length = n := fun n => by
  induction n with
  | zero => rfl
  | succ n ih => simp [nones, ih]

theorem entry_le (args : List Value) (n : Nat) : EnvLe (allSome args ++ nones n) (args ++ undefs n) := by
  induction args with
  | nil => exact ⟨by simp [allSome, nones_len, undefs_len], fun i v hv => by simp [allSome, nones_get] at hv⟩
  | cons a l ih =>
    refine ⟨by simpa [allSome] using ih.len, fun i v hv => ?_⟩
    cases i with
    | zero => simpa [allSome, getO, getN] using hv
    | succ i =>
      simp only [allSome, List.cons_append, getO] at hv
      simp only [List.cons_append, getN]
      exact ih.at_ i v hv

theorem fun_sound (hT : TabOk P T) (hS : SumOk P T) {ann : Nat → Option (List Nat)} {f : FuncId} {r : FnRow} (hr : T.fn f = some r) {args : List Value} {st : St} {Q : Value → St → Prop} (h : denF P T ann r args st Q) : CallP P f args st Q := by
  refine ⟨fun hl => ?_⟩
  have hrow := hT.fn _ _ hr
  let K : AF → St → Prop := fun fe se => fe.fn = f ∧ ∃ l, evResults T se fe.tmps r.results = some l ∧ Q (oneOf l) se
  have hle := entry_le args (r.ntmps - args.length)
  have hret : ∀ (e' : OEnv) (df' : List Deferred) (st' : St) (tmps' : List Value) (rest' : List AItem), EnvLe e' tmps' → retF T r.results Q e' df' st' → RunsTo P { mkF f .normal none tmps' rest' df' with ret := true } st' K := fun e' df' st' tmps' rest' he' hq => by
    refine Dfs_runs hT hS rfl rfl df' st' _ hq rfl fun st2 h2 => ?_
    obtain ⟨l, h3, h4⟩ := resO_spec he' _ _ _ h2
    exact ⟨rfl, l, h3, by simpa using h4⟩
  obtain ⟨fe, se, d1, d2, d3, l, d4, d5⟩ := den_sound (round := none) (kind := .normal) (fn := f) (K := K) hT hS r.body [] _ _ _ _ [] st _ [] (.inl rfl) h hle
    (fun e' df' st' tmps' he' _ hq => RunsTo.go hT hS (fr1 := { mkF f .normal none tmps' [] df' with ret := true }) rfl (hret e' df' st' tmps' [] he' hq))
    (fun id k' hl => by simp [look] at hl) (fun id _ => rfl)
    (fun e' df' st' tmps' rest' he' hq => RunsTo.go hT hS (fr1 := { mkF f .normal none tmps' (.code .ret :: rest') df' with ret := true }) rfl (hret e' df' st' tmps' _ he' hq))
    (fun id e' df' st' tmps' rest' _ _ h => h.elim) hl
  have hround : fe.round = none := d1.round
  have hkind : fe.kind = .normal := d1.kind
  have hres : resultA T fe se = some (oneOf l, se) := by
    unfold resultA
    simp only [hround, d3, hr, d4]
    match l with
    | [] => rfl
    | [v] => rfl
    | _ :: _ :: _ => rfl
  refine ⟨oneOf l, se, ⟨hrow.callable, d1.abs, fun E w args' hf hs hv => ?_⟩, d5⟩
  obtain ⟨E2, w2, F2, q1, q2, q3⟩ := d1.run E w (Frame.enter P f args' .normal) hf hs (enter_FR hrow hv .normal)
  obtain ⟨v2, w3, r1, r2, r3⟩ := result_ok (P := P) hT hres d2 q2 q1.sim (fun hn => absurd hround hn)
  refine ⟨E2, w3, v2, r1, q1.trans r2 d1.abs.nxt (Nat.le_refl _), Returns.of_goes q3 ?_ r3⟩
  rw [q2.kind, hkind, (enter_FR hrow hv .normal).kind]
  rfl
end
end Go.Ev

namespace Go.Ev

/-- A round begins. -/
inductive RdBegin (l : Nat) (st : St) (k : St → Prop) : Prop
  | mk (r : Loop) (h1 : hget st.heap l = some (.loop r)) (h2 : r.state = .ready) (h3 : k (st.put l (.loop { r with state := .busy }))) : RdBegin l st k

/-- A round has ended, without a jump. -/
inductive RdEnd (l : Nat) (st : St) (Q : Value → St → Prop) : Prop
  | mk (r : Loop) (h1 : hget st.heap l = some (.loop r)) (h2 : Q (.bool true) (st.put l (.loop { r with state := .ready, pending := none }))) : RdEnd l st Q

/-- The first loop over a function of a text. -/
def rfOf : Code → Option (Array Tmp × Code × Code)
  | .rangeFunc _ p a b => some (p, a, b)
  | .seq a b => match rfOf a with | some x => some x | none => rfOf b
  | .cond _ a b => match rfOf a with | some x => some x | none => rfOf b
  | .block _ b => rfOf b
  | .loop b => rfOf b
  | .scope b => rfOf b
  | _ => none
def rfP (c : Code) : Array Tmp := match rfOf c with | some x => x.1 | none => #[]
def rfA (c : Code) : Code := match rfOf c with | some x => x.2.1 | none => .skip
def rfB (c : Code) : Code := match rfOf c with | some x => x.2.2 | none => .skip

/-- What is known of places, some set anew. -/
def setAll : OEnv → List Tmp → List Value → OEnv
  | e, t :: ts, v :: vs => setAll (putO e t (some v)) ts vs
  | e, _, _ => e

theorem setAll_le : ∀ (ts : List Tmp) (vs : List Value) (e : OEnv) (t t' : List Value), EnvLe e t → putAll t ts vs = some t' → EnvLe (setAll e ts vs) t' := by
  intro ts
  induction ts with
  | nil => intro vs e t t' he h; cases vs <;> simp [putAll] at h; subst h; exact he
  | cons a ts ih =>
    intro vs e t t' he h
    cases vs with
    | nil => simp [putAll] at h
    | cons v vs =>
      simp only [putAll] at h
      exact ih vs _ _ _ (he.set (some a) v) h

theorem putAll_some : ∀ (ts : List Tmp) (vs t : List Value), ts.length = vs.length → ∃ t', putAll t ts vs = some t' := by
  intro ts
  induction ts with
  | nil => intro vs t h; cases vs <;> simp at h; exact ⟨t, rfl⟩
  | cons a ts ih =>
    intro vs t h
    cases vs with
    | nil => simp at h
    | cons v vs => exact ih vs _ (by simpa using h)

def denR (P : Program) (T : Tab) (ann : Nat → Option (List Nat)) (l : Nat) (assign body : Code) (tmps : OEnv) (st : St) (Q : Value → St → Prop) : Prop :=
  den P T ann assign [] (fun _ _ _ => False) (fun _ _ _ _ => False) (fun e df st1 => df = [] ∧ RdBegin l st1 fun st2 =>
    den P T ann body [] (fun _ _ _ => False) (fun _ _ _ _ => False) (fun _ df' st3 => df' = [] ∧ RdEnd l st3 Q) e [] st2) tmps [] st

theorem allSome_le : ∀ (t : List Value), EnvLe (allSome t) t := by
  intro t
  have := entry_le t 0
  simpa [nones, undefs] using this

section
variable {P : Program} {T : Tab}

theorem round_sound (hT : TabOk P T) (hS : SumOk P T) {ann : Nat → Option (List Nat)} {l : Nat} {r : Loop} {args tmps : List Value} {e : OEnv} {st : St} {Q : Value → St → Prop} (hl : hget st.heap l = some (.loop r))
    (ht : putAll r.tmps.toList r.params.toList args = some tmps) (he : EnvLe e tmps) (ha : rfIn r.assign = false) (hb : rfIn r.body = false) (h : denR P T ann l r.assign r.body e st Q) : YieldP P l args st Q := by
  refine ⟨fun hlive => ?_⟩
  let K : AF → St → Prop := fun fe se => fe.todo = [] ∧ RdEnd l se Q
  obtain ⟨fe, se, d1, d2, d3, d4⟩ := den_sound (round := some l) (kind := .normal) (fn := r.fn) (K := K) hT hS r.assign [] _ _ _ _ [] st _ [.beginRound, .code r.body] (.inr ha) h he
    (fun e' df' st' tmps' he' _ hq => by
      obtain ⟨hdf, lr, g1, g2, g3⟩ := hq
      subst hdf
      refine RunsTo.go hT hS (fr1 := mkF r.fn .normal (some l) tmps' [.code r.body] []) (st1 := st'.put l (.loop { lr with state := .busy })) (by simp only [stepA, mkF, g1, g2]) ?_
      refine den_sound (round := some l) (kind := .normal) (fn := r.fn) (K := K) hT hS r.body [] _ _ _ _ [] _ tmps' [] (.inr hb) g3 he'
        (fun e2 df2 st2 t2 _ _ hq2 _ => ?_) (fun id k' hk => by simp [look] at hk) (fun id _ => rfl) (fun _ _ _ _ _ _ h => h.elim) (fun _ _ _ _ _ _ _ _ h => h.elim)
      obtain ⟨hdf2, hend⟩ := hq2
      subst hdf2
      exact ⟨mkF r.fn .normal (some l) t2 [] [], st2, ⟨Abs.refl _, rfl, rfl, fun E w F _ hs hF => ⟨E, w, F, Out.refl hs, hF, Goes.refl F w⟩⟩, ⟨rfl, none, rfl⟩, rfl, hend⟩)
    (fun id k' hk => by simp [look] at hk) (fun id _ => rfl) (fun _ _ _ _ _ _ h => h.elim) (fun _ _ _ _ _ _ _ _ h => h.elim) hlive
  obtain ⟨lr, g1, g2⟩ := d4
  have hround : fe.round = some l := d1.round
  have hkind : fe.kind = .normal := d1.kind
  have hres : resultA T fe se = some (.bool true, se.put l (.loop { lr with state := .ready, pending := none })) := by
    unfold resultA
    rw [hround, d3]
    simp only [leaves, g1]
    rfl
  refine ⟨r, tmps, .bool true, _, hl, ht, ⟨d1.abs.trans (Abs.put _ _ _ g1), fun E w F hf hs hF => ?_⟩, g2⟩
  obtain ⟨E2, w2, F2, q1, q2, q3⟩ := d1.run E w F hf hs hF
  obtain ⟨v2, w3, r1, r2, r3⟩ := result_ok (P := P) hT hres d2 q2 q1.sim (fun _ => hkind)
  refine ⟨E2, w3, v2, r1, q1.trans r2 d1.abs.nxt (Nat.le_refl _), Returns.of_goes q3 ?_ r3⟩
  rw [q2.kind, hF.kind, hkind]
  rfl
end
end Go.Ev
