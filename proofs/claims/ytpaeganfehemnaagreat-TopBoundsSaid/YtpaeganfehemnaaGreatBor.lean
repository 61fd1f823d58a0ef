/- What the functions of the law of bounds compute. -/
import Derived.Test.YtpaeganfehemnaaGreatSyb

namespace Go.Ev
open Go.Proofs

/-- trestle/trestlekit.Pick -/
def R30 (a0 a1 : Value) (st : St) (Q : Value → St → Prop) : Prop :=
 B (evBin oT .rem 3 a0 a1) fun v1 =>
 B (evBin oT .lss 3 v1 (.int .i64 0)) fun v2 =>
 If v2 (B (evBin oT .add 3 v1 a1) fun v3 =>
  Q v3 st)
 (Q v1 st)
theorem r30 {a0 a1 : Value} {st : St} {Q : Value → St → Prop} (h : R30 a0 a1 st Q) : CallP Tryz.prog 30 [a0, a1] st Q :=
  fun_sound oT_ok oS_ok (ann := annL []) fr30 ((show R30 a0 a1 st Q = denF Tryz.prog oT (annL []) (rowF Tryz.f30) [a0, a1] st Q by kernel_rfl).mp h)

def L31_1 (a0 : Value) (a1 : Value) (a2 : Value) (v11 : Value) (Q : Value → St → Prop) : List Value → St → (List Value → St → Prop) → Prop :=
 fun x3 s3 n3 =>
  B (evBin oT .lss 3 (nth x3 0) v11) fun v12 =>
  If v12 (B (evIndexAddr oT 67 a2 (nth x3 0)) fun v13 =>
  B (evLoad oT s3 36 v13) fun v14 =>
  CallP Tryz.prog 91 [a0, a1, v14] s3 fun v15 s4 =>
  B (evBin oT .neq 33 v15 (.int .i64 0)) fun v16 =>
  If v16 (Q (.tuple ⟨[(nth x3 0), v15]⟩) s4)
  (B (evBin oT .add 3 (nth x3 0) (.int .i64 1)) fun v17 =>
  n3 [v17] s4))
  (Q (.tuple ⟨[(.int .i64 0), (.int .i64 0)]⟩) s3)

/-- trestle/evening.Check -/
def R31 (a0 a1 a2 : Value) (st : St) (Q : Value → St → Prop) : Prop :=
 CallP Tryz.prog 89 [a0] st fun v1 s1 =>
 B (evUn .not v1) fun v2 =>
 B (Gd v2 false (evLenM oT s1 25 (Gv v2 false a1))) fun v3 =>
 B (Gd v2 false (evBin oT .gtr 3 v3 (.int .i64 0))) fun v4 =>
 GC (Gv v2 false v4) true s1 (CallP Tryz.prog 90 [(Gv (Gv v2 false v4) true a0), (Gv (Gv v2 false v4) true a1)] s1) fun v5 s2 =>
 B (Gd (Gv v2 false v4) true (evUn .not v5)) fun v6 =>
 B (Gd v2 false (evPick (Gv v2 false v4) v6 (.bool false))) fun v7 =>
 B (evPick v2 (.bool true) v7) fun v8 =>
 If v8 (Q (.tuple ⟨[(.int .i64 0), (.int .i64 90)]⟩) s2)
 (B (evLenM oT s2 67 a2) fun v9 =>
  B (evBin oT .gtr 3 v9 (.int .i64 64)) fun v10 =>
  If v10 (Q (.tuple ⟨[(.int .i64 0), (.int .i64 7)]⟩) s2)
  (B (evLenM oT s2 67 a2) fun v11 =>
 Lp (L31_1 a0 a1 a2 v11 Q) [(.int .i64 0)] s2))
theorem r31 {a0 a1 a2 : Value} {st : St} {Q : Value → St → Prop} (h : R31 a0 a1 a2 st Q) : CallP Tryz.prog 31 [a0, a1, a2] st Q :=
  fun_sound oT_ok oS_ok (ann := annL [(1, [32])]) fr31 ((show R31 a0 a1 a2 st Q = denF Tryz.prog oT (annL [(1, [32])]) (rowF Tryz.f31) [a0, a1, a2] st Q by kernel_rfl).mp h)

def L32_4 (a0 : Value) (v3 : Value) (v24 : Value) (v25 : Value) (x3 : List Value) (n3 : List Value → St → Prop) (Q : Value → St → Prop) : List Value → St → (List Value → St → Prop) → Prop :=
 fun x4 s4 n4 =>
    B (evBin oT .lss 3 (nth x4 0) v25) fun v26 =>
    If v26 (B (evIndexAddr oT 25 v24 (nth x4 0)) fun v27 =>
    B (evLoad oT s4 3 v27) fun v28 =>
    B (evBin oT .lss 3 v28 (.int .i64 0)) fun v29 =>
    B (Gd v29 false (evBin oT .geq 3 (Gv v29 false v28) (Gv v29 false a0))) fun v30 =>
    B (evPick v29 (.bool true) v30) fun v31 =>
    If v31 (Q (.bool false) s4)
    (B (evIndexAddr oT 25 v3 v28) fun v32 =>
    B (evLoad oT s4 3 v32) fun v33 =>
    B (evBin oT .add 3 v33 (.int .i64 1)) fun v34 =>
    B (evIndexAddr oT 25 v3 v28) fun v35 =>
    B2 (evStoreU oT s4 3 v35 v34) fun _ s5 =>
    B (evBin oT .add 3 (nth x4 0) (.int .i64 1)) fun v37 =>
    n4 [v37] s5))
    (B (evBin oT .add 3 (nth x3 0) (.int .i64 1)) fun v38 =>
   n3 [v38] s4)

def L32_6 (a0 : Value) (v3 : Value) (x1 : List Value) (n1 : List Value → St → Prop) (Q : Value → St → Prop) : List Value → St → (List Value → St → Prop) → Prop :=
 fun x6 s6 n6 =>
   B (evBin oT .lss 3 (nth x6 0) a0) fun v39 =>
   If v39 (B (evIndexAddr oT 25 v3 (nth x6 0)) fun v40 =>
   B (evLoad oT s6 3 v40) fun v41 =>
   B (evBin oT .neq 3 v41 (.int .i64 1)) fun v42 =>
   If v42 (Q (.bool false) s6)
   (B (evBin oT .add 3 (nth x6 0) (.int .i64 1)) fun v43 =>
   n6 [v43] s6))
   (B (evBin oT .add 3 (nth x1 0) (.int .i64 1)) fun v44 =>
  n1 [v44] s6)

def L32_2 (a0 : Value) (a1 : Value) (a2 : Value) (v3 : Value) (x1 : List Value) (n1 : List Value → St → Prop) (Q : Value → St → Prop) : List Value → St → (List Value → St → Prop) → Prop :=
 fun x3 s3 n3 =>
   B (evIndexAddr oT 67 a2 (nth x1 0)) fun v9 =>
   B (evLoad oT s3 36 v9) fun v10 =>
   B (evLenM oT s3 36 v10) fun v11 =>
   B (evBin oT .lss 3 (nth x3 0) v11) fun v12 =>
   If v12 (B (evIndexAddr oT 67 a2 (nth x1 0)) fun v13 =>
   B (evLoad oT s3 36 v13) fun v14 =>
   B (evIndexAddr oT 36 v14 (nth x3 0)) fun v15 =>
   B (evLoad oT s3 25 v15) fun v16 =>
   B (evLenM oT s3 25 v16) fun v17 =>
   B (evIndexAddr oT 25 a1 (nth x3 0)) fun v18 =>
   B (evLoad oT s3 3 v18) fun v19 =>
   B (evBin oT .neq 3 v17 v19) fun v20 =>
   If v20 (Q (.bool false) s3)
   (B (evIndexAddr oT 67 a2 (nth x1 0)) fun v21 =>
   B (evLoad oT s3 36 v21) fun v22 =>
   B (evIndexAddr oT 36 v22 (nth x3 0)) fun v23 =>
   B (evLoad oT s3 25 v23) fun v24 =>
   B (evLenM oT s3 25 v24) fun v25 =>
   Lp (L32_4 a0 v3 v24 v25 x3 n3 Q) [(.int .i64 0)] s3))
   (Lp (L32_6 a0 v3 x1 n1 Q) [(.int .i64 0)] s3)

def L32_0 (a0 : Value) (a1 : Value) (a2 : Value) (Q : Value → St → Prop) : List Value → St → (List Value → St → Prop) → Prop :=
 fun x1 s1 n1 =>
  B (evLenM oT s1 67 a2) fun v1 =>
  B (evBin oT .lss 3 (nth x1 0) v1) fun v2 =>
  If v2 (B2 (evMakeSlice oT s1 25 a0 a0) fun v3 s2 =>
  B (evIndexAddr oT 67 a2 (nth x1 0)) fun v4 =>
  B (evLoad oT s2 36 v4) fun v5 =>
  B (evLenM oT s2 36 v5) fun v6 =>
  B (evLenM oT s2 25 a1) fun v7 =>
  B (evBin oT .neq 3 v6 v7) fun v8 =>
  If v8 (Q (.bool false) s2)
  (Lp (L32_2 a0 a1 a2 v3 x1 n1 Q) [(.int .i64 0)] s2))
  (Q (.bool true) s1)

/-- trestle/trestletop.seated -/
def R32 (a0 a1 a2 : Value) (st : St) (Q : Value → St → Prop) : Prop :=
 Lp (L32_0 a0 a1 a2 Q) [(.int .i64 0)] st
theorem r32 {a0 a1 a2 : Value} {st : St} {Q : Value → St → Prop} (h : R32 a0 a1 a2 st Q) : CallP Tryz.prog 32 [a0, a1, a2] st Q :=
  fun_sound oT_ok oS_ok (ann := annL [(0, [7]), (2, [9]), (4, [59]), (6, [12])]) fr32 ((show R32 a0 a1 a2 st Q = denF Tryz.prog oT (annL [(0, [7]), (2, [9]), (4, [59]), (6, [12])]) (rowF Tryz.f32) [a0, a1, a2] st Q by kernel_rfl).mp h)

def L33_8 (v1 : Value) (v20 : Value) (v24 : Value) (v25 : Value) (x7 : List Value) (n7 : List Value → St → Prop) : List Value → St → (List Value → St → Prop) → Prop :=
 fun x8 s8 n8 =>
     B (evBin oT .lss 3 (nth x8 0) v25) fun v26 =>
     If v26 (B (evIndexAddr oT 25 v24 (nth x8 0)) fun v27 =>
     B (evLoad oT s8 3 v27) fun v28 =>
     B (evBin oT .neq 3 v20 v28) fun v29 =>
     If v29 (B (evIndexAddr oT 36 v1 v20) fun v30 =>
      B (evLoad oT s8 25 v30) fun v31 =>
      B (evIndexAddr oT 25 v31 v28) fun v32 =>
      B (evLoad oT s8 3 v32) fun v33 =>
      B (evBin oT .add 3 v33 (.int .i64 1)) fun v34 =>
      B (evIndexAddr oT 25 v31 v28) fun v35 =>
      B2 (evStoreU oT s8 3 v35 v34) fun _ s9 =>
      B (evBin oT .add 3 (nth x8 0) (.int .i64 1)) fun v37 =>
     n8 [v37] s9)
     (B (evBin oT .add 3 (nth x8 0) (.int .i64 1)) fun v38 =>
     n8 [v38] s8))
     (B (evBin oT .add 3 (nth x7 0) (.int .i64 1)) fun v39 =>
    n7 [v39] s8)

def L33_6 (a1 : Value) (v1 : Value) (v16 : Value) (v17 : Value) (x5 : List Value) (x6 : List Value) (n6 : List Value → St → Prop) : List Value → St → (List Value → St → Prop) → Prop :=
 fun x7 s7 n7 =>
    B (evBin oT .lss 3 (nth x7 0) v17) fun v18 =>
    If v18 (B (evIndexAddr oT 25 v16 (nth x7 0)) fun v19 =>
    B (evLoad oT s7 3 v19) fun v20 =>
    B (evIndexAddr oT 67 a1 (nth x5 0)) fun v21 =>
    B (evLoad oT s7 36 v21) fun v22 =>
    B (evIndexAddr oT 36 v22 (nth x6 0)) fun v23 =>
    B (evLoad oT s7 25 v23) fun v24 =>
    B (evLenM oT s7 25 v24) fun v25 =>
    Lp (L33_8 v1 v20 v24 v25 x7 n7) [(.int .i64 0)] s7)
    (B (evBin oT .add 3 (nth x6 0) (.int .i64 1)) fun v40 =>
   n6 [v40] s7)

def L33_4 (a1 : Value) (v1 : Value) (x5 : List Value) (n5 : List Value → St → Prop) : List Value → St → (List Value → St → Prop) → Prop :=
 fun x6 s6 n6 =>
   B (evIndexAddr oT 67 a1 (nth x5 0)) fun v9 =>
   B (evLoad oT s6 36 v9) fun v10 =>
   B (evLenM oT s6 36 v10) fun v11 =>
   B (evBin oT .lss 3 (nth x6 0) v11) fun v12 =>
   If v12 (B (evIndexAddr oT 67 a1 (nth x5 0)) fun v13 =>
   B (evLoad oT s6 36 v13) fun v14 =>
   B (evIndexAddr oT 36 v14 (nth x6 0)) fun v15 =>
   B (evLoad oT s6 25 v15) fun v16 =>
   B (evLenM oT s6 25 v16) fun v17 =>
   Lp (L33_6 a1 v1 v16 v17 x5 x6 n6) [(.int .i64 0)] s6)
   (B (evBin oT .add 3 (nth x5 0) (.int .i64 1)) fun v41 =>
  n5 [v41] s6)

def L33_2 (a1 : Value) (v1 : Value) (Q : Value → St → Prop) : List Value → St → (List Value → St → Prop) → Prop :=
 fun x5 s5 n5 =>
  B (evLenM oT s5 67 a1) fun v7 =>
  B (evBin oT .lss 3 (nth x5 0) v7) fun v8 =>
  If v8 (Lp (L33_4 a1 v1 x5 n5) [(.int .i64 0)] s5)
  (Q v1 s5)

def L33_0 (a0 : Value) (a1 : Value) (v1 : Value) (Q : Value → St → Prop) : List Value → St → (List Value → St → Prop) → Prop :=
 fun x2 s2 n2 =>
  B (evBin oT .lss 3 (nth x2 0) a0) fun v2 =>
  If v2 (B2 (evMakeSlice oT s2 25 a0 a0) fun v3 s3 =>
  B (evIndexAddr oT 36 v1 (nth x2 0)) fun v4 =>
  B2 (evStoreU oT s3 25 v4 v3) fun _ s4 =>
  B (evBin oT .add 3 (nth x2 0) (.int .i64 1)) fun v6 =>
  n2 [v6] s4)
  (Lp (L33_2 a1 v1 Q) [(.int .i64 0)] s2)

/-- trestle/trestletop.meets -/
def R33 (a0 a1 : Value) (st : St) (Q : Value → St → Prop) : Prop :=
 B2 (evMakeSlice oT st 36 a0 a0) fun v1 s1 =>
 Lp (L33_0 a0 a1 v1 Q) [(.int .i64 0)] s1
theorem r33 {a0 a1 : Value} {st : St} {Q : Value → St → Prop} (h : R33 a0 a1 st Q) : CallP Tryz.prog 33 [a0, a1] st Q :=
  fun_sound oT_ok oS_ok (ann := annL [(0, [6]), (2, [7]), (4, [8]), (6, [48]), (8, [60])]) fr33 ((show R33 a0 a1 st Q = denF Tryz.prog oT (annL [(0, [6]), (2, [7]), (4, [8]), (6, [48]), (8, [60])]) (rowF Tryz.f33) [a0, a1] st Q by kernel_rfl).mp h)

/-- trestle/evening.Meet -/
def R34 (a0 a1 : Value) (st : St) (Q : Value → St → Prop) : Prop :=
 CallP Tryz.prog 92 [a0, a1] st fun v1 s1 =>
 B (evUn .not v1) fun v2 =>
 If v2 (Q (.slice none 0 0) s1)
 (CallP Tryz.prog 93 [a0, a1] s1 fun v3 s2 =>
 CallP Tryz.prog 94 [v3] s2 fun v4 s3 =>
 Q v4 s3)
theorem r34 {a0 a1 : Value} {st : St} {Q : Value → St → Prop} (h : R34 a0 a1 st Q) : CallP Tryz.prog 34 [a0, a1] st Q :=
  fun_sound oT_ok oS_ok (ann := annL []) fr34 ((show R34 a0 a1 st Q = denF Tryz.prog oT (annL []) (rowF Tryz.f34) [a0, a1] st Q by kernel_rfl).mp h)

/-- trestle/evening.Most -/
def R35 (a0 a1 : Value) (st : St) (Q : Value → St → Prop) : Prop :=
 CallP Tryz.prog 92 [a0, a1] st fun v1 s1 =>
 B (evUn .not v1) fun v2 =>
 If v2 (Q (.int .i64 0) s1)
 (CallP Tryz.prog 95 [a0, a1] s1 fun v3 s2 =>
 B (evExtract v3 0) fun v4 =>
 B (evExtract v3 1) fun v5 =>
 Q v5 s2)
theorem r35 {a0 a1 : Value} {st : St} {Q : Value → St → Prop} (h : R35 a0 a1 st Q) : CallP Tryz.prog 35 [a0, a1] st Q :=
  fun_sound oT_ok oS_ok (ann := annL []) fr35 ((show R35 a0 a1 st Q = denF Tryz.prog oT (annL []) (rowF Tryz.f35) [a0, a1] st Q by kernel_rfl).mp h)

/-- trestle/evening.LeastMost -/
def R36 (a0 a1 a2 : Value) (st : St) (Q : Value → St → Prop) : Prop :=
 CallP Tryz.prog 90 [a0, a1] st fun v1 s1 =>
 B (evUn .not v1) fun v2 =>
 B (Gd v2 false (evBin oT .lss 3 (Gv v2 false a2) (.int .i64 1))) fun v3 =>
 B (evPick v2 (.bool true) v3) fun v4 =>
 GC v4 false s1 (CallP Tryz.prog 96 [(Gv v4 false a1)] s1) fun v5 s2 =>
 B (Gd v4 false (evBin oT .eql 3 v5 (.int .i64 0))) fun v6 =>
 B (evPick v4 (.bool true) v6) fun v7 =>
 If v7 (Q (.int .i64 0) s2)
 (B (evBin oT .sub 3 a0 (.int .i64 1)) fun v8 =>
 B (evBin oT .mul 3 a0 v8) fun v9 =>
 B (evBin oT .quo 3 v9 (.int .i64 2)) fun v10 =>
 B (evMinL [a2, (.int .i64 64)]) fun v11 =>
 CallP Tryz.prog 96 [a1] s2 fun v12 s3 =>
 B (evBin oT .mul 3 v11 v12) fun v13 =>
 B (evBin oT .add 3 v13 v10) fun v14 =>
 B (evBin oT .sub 3 v14 (.int .i64 1)) fun v15 =>
 B (evBin oT .quo 3 v15 v10) fun v16 =>
 Q v16 s3)
theorem r36 {a0 a1 a2 : Value} {st : St} {Q : Value → St → Prop} (h : R36 a0 a1 a2 st Q) : CallP Tryz.prog 36 [a0, a1, a2] st Q :=
  fun_sound oT_ok oS_ok (ann := annL []) fr36 ((show R36 a0 a1 a2 st Q = denF Tryz.prog oT (annL []) (rowF Tryz.f36) [a0, a1, a2] st Q by kernel_rfl).mp h)

/-- trestle/evening.MostEvenings -/
def R37 (a0 a1 a2 : Value) (st : St) (Q : Value → St → Prop) : Prop :=
 CallP Tryz.prog 90 [a0, a1] st fun v1 s1 =>
 B (evUn .not v1) fun v2 =>
 B (Gd v2 false (evBin oT .lss 3 (Gv v2 false a2) (.int .i64 0))) fun v3 =>
 B (evPick v2 (.bool true) v3) fun v4 =>
 If v4 (Q (.int .i64 0) s1)
 (CallP Tryz.prog 96 [a1] s1 fun v5 s2 =>
 B (evBin oT .eql 3 v5 (.int .i64 0)) fun v6 =>
 If v6 (Q (.int .i64 64) s2)
 (B (evMinL [a2, (.int .i64 64)]) fun v7 =>
 B (evBin oT .sub 3 a0 (.int .i64 1)) fun v8 =>
 B (evBin oT .mul 3 a0 v8) fun v9 =>
 B (evBin oT .quo 3 v9 (.int .i64 2)) fun v10 =>
 B (evBin oT .mul 3 v7 v10) fun v11 =>
 CallP Tryz.prog 96 [a1] s2 fun v12 s3 =>
 B (evBin oT .quo 3 v11 v12) fun v13 =>
 B (evMinL [(.int .i64 64), v13]) fun v14 =>
 Q v14 s3))
theorem r37 {a0 a1 a2 : Value} {st : St} {Q : Value → St → Prop} (h : R37 a0 a1 a2 st Q) : CallP Tryz.prog 37 [a0, a1, a2] st Q :=
  fun_sound oT_ok oS_ok (ann := annL []) fr37 ((show R37 a0 a1 a2 st Q = denF Tryz.prog oT (annL []) (rowF Tryz.f37) [a0, a1, a2] st Q by kernel_rfl).mp h)

/-- slices.Clone[[]int,int] -/
def R58 (a0 : Value) (st : St) (Q : Value → St → Prop) : Prop :=
 B (evBin oT .eql 25 a0 (.slice none 0 0)) fun v1 =>
 If v1 (Q (.slice none 0 0) st)
 (B2 (evBuildSlice oT st 25 0 []) fun v2 s1 =>
 B2 (evAppendU oT s1 25 25 v2 a0) fun v3 s2 =>
 Q v3 s2)
theorem r58 {a0 : Value} {st : St} {Q : Value → St → Prop} (h : R58 a0 st Q) : CallP Tryz.prog 58 [a0] st Q :=
  fun_sound oT_ok oS_ok (ann := annL []) fr58 ((show R58 a0 st Q = denF Tryz.prog oT (annL []) (rowF Tryz.f58) [a0] st Q by kernel_rfl).mp h)

/-- trestle/evening.guests -/
def R89 (a0 : Value) (st : St) (Q : Value → St → Prop) : Prop :=
 B (evBin oT .geq 3 a0 (.int .i64 1)) fun v1 =>
 B (Gd v1 true (evBin oT .leq 3 (Gv v1 true a0) (.int .i64 64))) fun v2 =>
 B (evPick v1 v2 (.bool false)) fun v3 =>
 Q v3 st
theorem r89 {a0 : Value} {st : St} {Q : Value → St → Prop} (h : R89 a0 st Q) : CallP Tryz.prog 89 [a0] st Q :=
  fun_sound oT_ok oS_ok (ann := annL []) fr89 ((show R89 a0 st Q = denF Tryz.prog oT (annL []) (rowF Tryz.f89) [a0] st Q by kernel_rfl).mp h)

def L90_0 (a0 : Value) (a1 : Value) (v1 : Value) (Q : Value → St → Prop) : List Value → St → (List Value → St → Prop) → Prop :=
 fun x1 s1 n1 =>
  B (evBin oT .lss 3 (nth x1 1) v1) fun v2 =>
  If v2 (B (evIndexAddr oT 25 a1 (nth x1 1)) fun v3 =>
  B (evLoad oT s1 3 v3) fun v4 =>
  B (evBin oT .lss 3 v4 (.int .i64 1)) fun v5 =>
  B (Gd v5 false (evBin oT .gtr 3 (Gv v5 false v4) (Gv v5 false (nth x1 0)))) fun v6 =>
  B (evPick v5 (.bool true) v6) fun v7 =>
  If v7 (Q (.bool false) s1)
  (B (evBin oT .sub 3 (nth x1 0) v4) fun v8 =>
  B (evBin oT .add 3 (nth x1 1) (.int .i64 1)) fun v9 =>
  n1 [v8, v9] s1))
  (CallP Tryz.prog 89 [a0] s1 fun v10 s2 =>
 B (Gd v10 true (evBin oT .eql 3 (Gv v10 true (nth x1 0)) (.int .i64 0))) fun v11 =>
 B (evPick v10 v11 (.bool false)) fun v12 =>
 Q v12 s2)

/-- trestle/evening.fit -/
def R90 (a0 a1 : Value) (st : St) (Q : Value → St → Prop) : Prop :=
 B (evLenM oT st 25 a1) fun v1 =>
 Lp (L90_0 a0 a1 v1 Q) [a0, (.int .i64 0)] st
theorem r90 {a0 a1 : Value} {st : St} {Q : Value → St → Prop} (h : R90 a0 a1 st Q) : CallP Tryz.prog 90 [a0, a1] st Q :=
  fun_sound oT_ok oS_ok (ann := annL [(0, [5, 11])]) fr90 ((show R90 a0 a1 st Q = denF Tryz.prog oT (annL [(0, [5, 11])]) (rowF Tryz.f90) [a0, a1] st Q by kernel_rfl).mp h)

def L91_2 (a0 : Value) (v7 : Value) (v11 : Value) (v22 : Value) (x2 : List Value) (n2 : List Value → St → Prop) : List Value → St → (List Value → St → Prop) → Prop :=
 fun x3 s3 n3 =>
   B (evBin oT .lss 3 (nth x3 3) v22) fun v23 =>
   If v23 (B (evIndexAddr oT 25 v11 (nth x3 3)) fun v24 =>
   B (evLoad oT s3 3 v24) fun v25 =>
   B (evBin oT .lss 3 v25 (.int .i64 0)) fun v26 =>
   B (Gd v26 false (evBin oT .geq 3 (Gv v26 false v25) (Gv v26 false a0))) fun v27 =>
   B (evPick v26 (.bool true) v27) fun v28 =>
   If v28 (B (evBin oT .add 3 (nth x3 3) (.int .i64 1)) fun v29 =>
   n3 [(nth x3 0), (nth x3 1), (.bool true), v29] s3)
   (B (Gd (nth x3 1) false (evIndexAddr oT 46 (Gv (nth x3 1) false v7) (Gv (nth x3 1) false v25))) fun v30 =>
   B (Gd (nth x3 1) false (evLoad oT s3 4 v30)) fun v31 =>
   B (evPick (nth x3 1) (.bool true) v31) fun v32 =>
   B (evIndexAddr oT 46 v7 v25) fun v33 =>
   B (evLoad oT s3 4 v33) fun v34 =>
   B (evUn .not v34) fun v35 =>
   If v35 (B (evBin oT .add 3 (nth x3 0) (.int .i64 1)) fun v36 =>
    B (evIndexAddr oT 46 v7 v25) fun v37 =>
   B2 (evStoreU oT s3 4 v37 (.bool true)) fun _ s4 =>
   B (evBin oT .add 3 (nth x3 3) (.int .i64 1)) fun v39 =>
   n3 [v36, v32, (nth x3 2), v39] s4)
   (B (evIndexAddr oT 46 v7 v25) fun v40 =>
   B2 (evStoreU oT s3 4 v40 (.bool true)) fun _ s5 =>
   B (evBin oT .add 3 (nth x3 3) (.int .i64 1)) fun v42 =>
   n3 [(nth x3 0), v32, (nth x3 2), v42] s5)))
   (B (evBin oT .add 3 (nth x2 3) (.int .i64 1)) fun v43 =>
  n2 [(nth x3 0), (nth x3 1), (nth x3 2), v43] s3)

def L91_0 (a0 : Value) (a1 : Value) (a2 : Value) (v7 : Value) (v8 : Value) (Q : Value → St → Prop) : List Value → St → (List Value → St → Prop) → Prop :=
 fun x2 s2 n2 =>
  B (evBin oT .lss 3 (nth x2 3) v8) fun v9 =>
  If v9 (B (evIndexAddr oT 36 a2 (nth x2 3)) fun v10 =>
  B (evLoad oT s2 25 v10) fun v11 =>
  B (evLenM oT s2 25 v11) fun v12 =>
  B (evBin oT .eql 3 v12 (.int .i64 0)) fun v13 =>
  B (Gd v13 false (evLenM oT s2 25 (Gv v13 false a1))) fun v14 =>
  B (Gd v13 false (evBin oT .gtr 3 v14 (.int .i64 0))) fun v15 =>
  B (Gd (Gv v13 false v15) true (evLenM oT s2 25 (Gv (Gv v13 false v15) true v11))) fun v16 =>
  B (Gd (Gv v13 false v15) true (evIndexAddr oT 25 (Gv (Gv v13 false v15) true a1) (Gv (Gv v13 false v15) true (nth x2 3)))) fun v17 =>
  B (Gd (Gv v13 false v15) true (evLoad oT s2 3 v17)) fun v18 =>
  B (Gd (Gv v13 false v15) true (evBin oT .neq 3 v16 v18)) fun v19 =>
  B (Gd v13 false (evPick (Gv v13 false v15) v19 (.bool false))) fun v20 =>
  B (evPick v13 (.bool true) v20) fun v21 =>
  If v21 (Q (.int .i64 2) s2)
  (B (evLenM oT s2 25 v11) fun v22 =>
  Lp (L91_2 a0 v7 v11 v22 x2 n2) [(nth x2 0), (nth x2 1), (nth x2 2), (.int .i64 0)] s2))
  (If (nth x2 2) (Q (.int .i64 6) s2)
 (If (nth x2 1) (Q (.int .i64 5) s2)
  (B (evBin oT .lss 3 (nth x2 0) a0) fun v44 =>
   If v44 (Q (.int .i64 2) s2)
   (Q (.int .i64 0) s2))))

/-- trestle/evening.check -/
def R91 (a0 a1 a2 : Value) (st : St) (Q : Value → St → Prop) : Prop :=
 B (evLenM oT st 25 a1) fun v1 =>
 B (evBin oT .gtr 3 v1 (.int .i64 0)) fun v2 =>
 B (Gd v2 true (evLenM oT st 25 (Gv v2 true a1))) fun v3 =>
 B (Gd v2 true (evLenM oT st 36 (Gv v2 true a2))) fun v4 =>
 B (Gd v2 true (evBin oT .neq 3 v3 v4)) fun v5 =>
 B (evPick v2 v5 (.bool false)) fun v6 =>
 If v6 (Q (.int .i64 2) st)
 (B2 (evMakeSlice oT st 46 a0 a0) fun v7 s1 =>
 B (evLenM oT s1 36 a2) fun v8 =>
 Lp (L91_0 a0 a1 a2 v7 v8 Q) [(.int .i64 0), (.bool false), (.bool false), (.int .i64 0)] s1)
theorem r91 {a0 a1 a2 : Value} {st : St} {Q : Value → St → Prop} (h : R91 a0 a1 a2 st Q) : CallP Tryz.prog 91 [a0, a1, a2] st Q :=
  fun_sound oT_ok oS_ok (ann := annL [(0, [7, 8, 9, 29]), (2, [7, 8, 9, 53])]) fr91 ((show R91 a0 a1 a2 st Q = denF Tryz.prog oT (annL [(0, [7, 8, 9, 29]), (2, [7, 8, 9, 53])]) (rowF Tryz.f91) [a0, a1, a2] st Q by kernel_rfl).mp h)

/-- trestle/evening.valid -/
def R92 (a0 a1 : Value) (st : St) (Q : Value → St → Prop) : Prop :=
 CallP Tryz.prog 31 [a0, (.slice none 0 0), a1] st fun v1 s1 =>
 B (evExtract v1 0) fun v2 =>
 B (evExtract v1 1) fun v3 =>
 B (evBin oT .eql 33 v3 (.int .i64 0)) fun v4 =>
 Q v4 s1
theorem r92 {a0 a1 : Value} {st : St} {Q : Value → St → Prop} (h : R92 a0 a1 st Q) : CallP Tryz.prog 92 [a0, a1] st Q :=
  fun_sound oT_ok oS_ok (ann := annL []) fr92 ((show R92 a0 a1 st Q = denF Tryz.prog oT (annL []) (rowF Tryz.f92) [a0, a1] st Q by kernel_rfl).mp h)

def L93_0 (a0 : Value) (a1 : Value) (v1 : Value) (v2 : Value) (v3 : Value) (v5 : Value) (Q : Value → St → Prop) : List Value → St → (List Value → St → Prop) → Prop :=
 fun x5 s5 n5 =>
  B (evBin oT .lss 3 (nth x5 0) v5) fun v6 =>
  If v6 (B (evIndexAddr oT 67 a1 (nth x5 0)) fun v7 =>
  B (evLoad oT s5 36 v7) fun v8 =>
  CallP Tryz.prog 171 [v8] s5 fun v9 s6 =>
  RfGo Tryz.prog v9 (rfP (rowF Tryz.f93).body) (rfA (rowF Tryz.f93).body) (rfB (rowF Tryz.f93).body) [some a0, some a1, none, none, some v1, some v3, none, some v8, none, none, some a0, some v2, some a1, some v5, some (nth x5 0), some v6, some v7, some v8, some v8, some v9, none, none, none, none, none, none, none, none, none, none, none, none] s6 fun s7 =>
  B (evBin oT .add 3 (nth x5 0) (.int .i64 1)) fun v10 =>
  ∃ ds, ({ target := .collected s6.nxt, args := #[] } :: (decD (x5.drop 1) ++ [])) = decD ds ++ [] ∧ n5 ([v10] ++ ds) s7)
  (B (evLoad oT s5 164 v3) fun v11 =>
 B2 (evStoreU oT s5 164 v1 v11) fun _ s8 =>
 Dfs (decD (x5.drop 1) ++ []) s8 fun s9 => B (evLoad oT s9 164 v1) fun v13 => Q v13 s9)

/-- trestle/evening.meetings -/
def R93 (a0 a1 : Value) (st : St) (Q : Value → St → Prop) : Prop :=
 B2 (evNew oT st 164) fun v1 s1 =>
 CallP Tryz.prog 170 [a0] s1 fun v2 s2 =>
 B2 (evNew oT s2 164) fun v3 s3 =>
 B2 (evStoreU oT s3 164 v3 v2) fun _ s4 =>
 B (evLenM oT s4 67 a1) fun v5 =>
 Lp (L93_0 a0 a1 v1 v2 v3 v5 Q) [(.int .i64 0)] s4
theorem r93 {a0 a1 : Value} {st : St} {Q : Value → St → Prop} (h : R93 a0 a1 st Q) : CallP Tryz.prog 93 [a0, a1] st Q :=
  fun_sound oT_ok oS_ok (ann := annL [(0, [14])]) fr93 ((show R93 a0 a1 st Q = denF Tryz.prog oT (annL [(0, [14])]) (rowF Tryz.f93) [a0, a1] st Q by kernel_rfl).mp h)

def L94_0 (v1 : Value) (v3 : Value) (Q : Value → St → Prop) : List Value → St → (List Value → St → Prop) → Prop :=
 fun x2 s2 n2 =>
  B (evBin oT .lss 3 (nth x2 1) v3) fun v4 =>
  If v4 (B (evFieldAddr oT 164 v1 1) fun v5 =>
  B (evLoad oT s2 25 v5) fun v6 =>
  B (evFieldAddr oT 164 v1 0) fun v7 =>
  B (evLoad oT s2 3 v7) fun v8 =>
  B (evBin oT .mul 3 (nth x2 1) v8) fun v9 =>
  B (evBin oT .add 3 (nth x2 1) (.int .i64 1)) fun v10 =>
  B (evFieldAddr oT 164 v1 0) fun v11 =>
  B (evLoad oT s2 3 v11) fun v12 =>
  B (evBin oT .mul 3 v10 v12) fun v13 =>
  B (evSlice oT 25 v6 (some v9) (some v13) none) fun v14 =>
  CallP Tryz.prog 58 [v14] s2 fun v15 s3 =>
  B2 (evBuildSlice oT s3 36 1 [(0, v15)]) fun v16 s4 =>
  B2 (evAppendU oT s4 36 36 (nth x2 0) v16) fun v17 s5 =>
  B (evBin oT .add 3 (nth x2 1) (.int .i64 1)) fun v18 =>
  n2 [v17, v18] s5)
  (Q (nth x2 0) s2)

/-- (trestle/evening.square[int]).rows -/
def R94 (a0 : Value) (st : St) (Q : Value → St → Prop) : Prop :=
 B2 (evBox st 164 a0) fun v1 s1 =>
 B (evFieldAddr oT 164 v1 0) fun v2 =>
 B (evLoad oT s1 3 v2) fun v3 =>
 Lp (L94_0 v1 v3 Q) [(.slice none 0 0), (.int .i64 0)] s1
theorem r94 {a0 : Value} {st : St} {Q : Value → St → Prop} (h : R94 a0 st Q) : CallP Tryz.prog 94 [a0] st Q :=
  fun_sound oT_ok oS_ok (ann := annL [(0, [3, 7])]) fr94 ((show R94 a0 st Q = denF Tryz.prog oT (annL [(0, [3, 7])]) (rowF Tryz.f94) [a0] st Q by kernel_rfl).mp h)

def L95_2 (v2 : Value) (x4 : List Value) (n4 : List Value → St → Prop) : List Value → St → (List Value → St → Prop) → Prop :=
 fun x5 s5 n5 =>
   B (evBin oT .lss 3 (nth x5 2) (nth x4 2)) fun v5 =>
   If v5 (B (evLoad oT s5 164 v2) fun v6 =>
   CallQ Tryz.prog 172 [v6, (nth x4 2), (nth x5 2)] s5 fun v7 s6 =>
   B (evNil v7) fun v8 =>
   B (evLoad oT s6 3 v8) fun v9 =>
   B (evMinL [(nth x5 0), v9]) fun v10 =>
   B (evLoad oT s6 164 v2) fun v11 =>
   CallQ Tryz.prog 172 [v11, (nth x4 2), (nth x5 2)] s6 fun v12 s7 =>
   B (evNil v12) fun v13 =>
   B (evLoad oT s7 3 v13) fun v14 =>
   B (evMaxL [(nth x5 1), v14]) fun v15 =>
   B (evBin oT .add 3 (nth x5 2) (.int .i64 1)) fun v16 =>
   n5 [v10, v15, v16] s7)
   (B (evBin oT .add 3 (nth x4 2) (.int .i64 1)) fun v17 =>
  n4 [(nth x5 0), (nth x5 1), v17] s5)

def L95_0 (a0 : Value) (v2 : Value) (Q : Value → St → Prop) : List Value → St → (List Value → St → Prop) → Prop :=
 fun x4 s4 n4 =>
  B (evBin oT .lss 3 (nth x4 2) a0) fun v4 =>
  If v4 (Lp (L95_2 v2 x4 n4) [(nth x4 0), (nth x4 1), (.int .i64 0)] s4)
  (B (evBin oT .eql 3 a0 (.int .i64 1)) fun v18 =>
 If v18 (Q (.tuple ⟨[(.int .i64 0), (nth x4 1)]⟩) s4)
 (Q (.tuple ⟨[(nth x4 0), (nth x4 1)]⟩) s4))

/-- trestle/evening.extremes -/
def R95 (a0 a1 : Value) (st : St) (Q : Value → St → Prop) : Prop :=
 CallP Tryz.prog 93 [a0, a1] st fun v1 s1 =>
 B2 (evNew oT s1 164) fun v2 s2 =>
 B2 (evStoreU oT s2 164 v2 v1) fun _ s3 =>
 Lp (L95_0 a0 v2 Q) [(.int .i64 64), (.int .i64 0), (.int .i64 0)] s3
theorem r95 {a0 a1 : Value} {st : St} {Q : Value → St → Prop} (h : R95 a0 a1 st Q) : CallP Tryz.prog 95 [a0, a1] st Q :=
  fun_sound oT_ok oS_ok (ann := annL [(0, [7, 8, 15]), (2, [7, 8, 19])]) fr95 ((show R95 a0 a1 st Q = denF Tryz.prog oT (annL [(0, [7, 8, 15]), (2, [7, 8, 19])]) (rowF Tryz.f95) [a0, a1] st Q by kernel_rfl).mp h)

def L96_0 (a0 : Value) (v1 : Value) (Q : Value → St → Prop) : List Value → St → (List Value → St → Prop) → Prop :=
 fun x1 s1 n1 =>
  B (evBin oT .lss 3 (nth x1 1) v1) fun v2 =>
  If v2 (B (evIndexAddr oT 25 a0 (nth x1 1)) fun v3 =>
  B (evLoad oT s1 3 v3) fun v4 =>
  B (evBin oT .sub 3 v4 (.int .i64 1)) fun v5 =>
  B (evBin oT .mul 3 v4 v5) fun v6 =>
  B (evBin oT .quo 3 v6 (.int .i64 2)) fun v7 =>
  B (evBin oT .add 3 (nth x1 0) v7) fun v8 =>
  B (evBin oT .add 3 (nth x1 1) (.int .i64 1)) fun v9 =>
  n1 [v8, v9] s1)
  (Q (nth x1 0) s1)

/-- trestle/evening.met -/
def R96 (a0 : Value) (st : St) (Q : Value → St → Prop) : Prop :=
 B (evLenM oT st 25 a0) fun v1 =>
 Lp (L96_0 a0 v1 Q) [(.int .i64 0), (.int .i64 0)] st
theorem r96 {a0 : Value} {st : St} {Q : Value → St → Prop} (h : R96 a0 st Q) : CallP Tryz.prog 96 [a0] st Q :=
  fun_sound oT_ok oS_ok (ann := annL [(0, [3, 8])]) fr96 ((show R96 a0 st Q = denF Tryz.prog oT (annL [(0, [3, 8])]) (rowF Tryz.f96) [a0] st Q by kernel_rfl).mp h)

/-- trestle/evening.newSquare[int] -/
def R170 (a0 : Value) (st : St) (Q : Value → St → Prop) : Prop :=
 B2 (evNew oT st 164) fun v1 s1 =>
 B (evBin oT .mul 3 a0 a0) fun v2 =>
 B2 (evMakeSlice oT s1 25 v2 v2) fun v3 s2 =>
 B (evBuild oT 164 [(0, a0), (1, v3)]) fun v4 =>
 B2 (evStoreU oT s2 164 v1 v4) fun _ s3 =>
 B (evLoad oT s3 164 v1) fun v6 => Q v6 s3
theorem r170 {a0 : Value} {st : St} {Q : Value → St → Prop} (h : R170 a0 st Q) : CallP Tryz.prog 170 [a0] st Q :=
  fun_sound oT_ok oS_ok (ann := annL []) fr170 ((show R170 a0 st Q = denF Tryz.prog oT (annL []) (rowF Tryz.f170) [a0] st Q by kernel_rfl).mp h)

/-- trestle/evening.pairs -/
def R171 (a0 : Value) (st : St) (Q : Value → St → Prop) : Prop :=
 B2 (evBox st 36 a0) fun v1 s1 =>
 Q (.func (.func 255) ⟨[]⟩ ⟨[v1]⟩) s1
theorem r171 {a0 : Value} {st : St} {Q : Value → St → Prop} (h : R171 a0 st Q) : CallP Tryz.prog 171 [a0] st Q :=
  fun_sound oT_ok oS_ok (ann := annL []) fr171 ((show R171 a0 st Q = denF Tryz.prog oT (annL []) (rowF Tryz.f171) [a0] st Q by kernel_rfl).mp h)

/-- (trestle/evening.square[int]).at -/
def R172 (a0 a1 a2 : Value) (st : St) (Q : Value → St → Prop) : Prop :=
 B2 (evBox st 164 a0) fun v1 s1 =>
 B (evFieldAddr oT 164 v1 1) fun v2 =>
 B (evLoad oT s1 25 v2) fun v3 =>
 B (evFieldAddr oT 164 v1 0) fun v4 =>
 B (evLoad oT s1 3 v4) fun v5 =>
 B (evBin oT .mul 3 a1 v5) fun v6 =>
 B (evBin oT .add 3 v6 a2) fun v7 =>
 B (evIndexAddr oT 25 v3 v7) fun v8 =>
 Q v8 s1
theorem r172 {a0 a1 a2 : Value} {st : St} {Q : Value → St → Prop} (h : R172 a0 a1 a2 st Q) : CallP Tryz.prog 172 [a0, a1, a2] st Q :=
  fun_sound oT_ok oS_ok (ann := annL []) fr172 ((show R172 a0 a1 a2 st Q = denF Tryz.prog oT (annL []) (rowF Tryz.f172) [a0, a1, a2] st Q by kernel_rfl).mp h)

def L255_4 (a0 : Value) (v5 : Value) (v9 : Value) (v10 : Value) (x2 : List Value) (n2 : List Value → St → Prop) (Q : Value → St → Prop) : List Value → St → (List Value → St → Prop) → Prop :=
 fun x3 s3 n3 =>
    B (evBin oT .lss 3 (nth x3 0) v10) fun v11 =>
    If v11 (B (evIndexAddr oT 25 v5 (nth x3 0)) fun v12 =>
    B (evLoad oT s3 3 v12) fun v13 =>
    B (evBin oT .neq 3 (nth x2 0) (nth x3 0)) fun v14 =>
    GC v14 true s3 (CallV Tryz.prog (Gv v14 true a0) [(Gv v14 true v9), (Gv v14 true v13)] s3) fun v15 s4 =>
    B (Gd v14 true (evUn .not v15)) fun v16 =>
    B (evPick v14 v16 (.bool false)) fun v17 =>
    If v17 (Q (.tuple ⟨[]⟩) s4)
    (B (evBin oT .add 3 (nth x3 0) (.int .i64 1)) fun v18 =>
    n3 [v18] s4))
    (B (evBin oT .add 3 (nth x2 0) (.int .i64 1)) fun v19 =>
   n2 [v19] s3)

def L255_2 (a0 : Value) (v5 : Value) (v6 : Value) (x1 : List Value) (n1 : List Value → St → Prop) (Q : Value → St → Prop) : List Value → St → (List Value → St → Prop) → Prop :=
 fun x2 s2 n2 =>
   B (evBin oT .lss 3 (nth x2 0) v6) fun v7 =>
   If v7 (B (evIndexAddr oT 25 v5 (nth x2 0)) fun v8 =>
   B (evLoad oT s2 3 v8) fun v9 =>
   B (evLenM oT s2 25 v5) fun v10 =>
   Lp (L255_4 a0 v5 v9 v10 x2 n2 Q) [(.int .i64 0)] s2)
   (B (evBin oT .add 3 (nth x1 0) (.int .i64 1)) fun v20 =>
  n1 [v20] s2)

def L255_0 (a0 : Value) (v1 : Value) (v2 : Value) (Q : Value → St → Prop) : List Value → St → (List Value → St → Prop) → Prop :=
 fun x1 s1 n1 =>
  B (evBin oT .lss 3 (nth x1 0) v2) fun v3 =>
  If v3 (B (evIndexAddr oT 36 v1 (nth x1 0)) fun v4 =>
  B (evLoad oT s1 25 v4) fun v5 =>
  B (evLenM oT s1 25 v5) fun v6 =>
  Lp (L255_2 a0 v5 v6 x1 n1 Q) [(.int .i64 0)] s1)
  (Q (.tuple ⟨[]⟩) s1)

/-- trestle/evening.pairs$1 -/
def R255 (a0 a1 : Value) (st : St) (Q : Value → St → Prop) : Prop :=
 B (evLoad oT st 36 a1) fun v1 =>
 B (evLenM oT st 36 v1) fun v2 =>
 Lp (L255_0 a0 v1 v2 Q) [(.int .i64 0)] st
theorem r255 {a0 a1 : Value} {st : St} {Q : Value → St → Prop} (h : R255 a0 a1 st Q) : CallP Tryz.prog 255 [a0, a1] st Q :=
  fun_sound oT_ok oS_ok (ann := annL [(0, [11]), (2, [17]), (4, [24])]) fr255 ((show R255 a0 a1 st Q = denF Tryz.prog oT (annL [(0, [11]), (2, [17]), (4, [24])]) (rowF Tryz.f255) [a0, a1] st Q by kernel_rfl).mp h)

def L5_4 (v1 : Value) (v36 : Value) (x9 : List Value) (n9 : List Value → St → Prop) : List Value → St → (List Value → St → Prop) → Prop :=
 fun x10 s10 n10 =>
   B (evBin oT .lss 3 (nth x10 1) v1) fun v38 =>
   If v38 (B (evIndexAddr oT 36 v36 (nth x9 1)) fun v39 =>
   B (evLoad oT s10 25 v39) fun v40 =>
   B (evIndexAddr oT 25 v40 (nth x10 1)) fun v41 =>
   B (evLoad oT s10 3 v41) fun v42 =>
   B (evMaxL [(nth x10 0), v42]) fun v43 =>
   B (evBin oT .add 3 (nth x10 1) (.int .i64 1)) fun v44 =>
   n10 [v43, v44] s10)
   (B (evBin oT .add 3 (nth x9 1) (.int .i64 1)) fun v45 =>
  n9 [(nth x10 0), v45] s10)

def L5_8 (v1 : Value) (v36 : Value) (v46 : Value) (x12 : List Value) (n12 : List Value → St → Prop) (Q : Value → St → Prop) : List Value → St → (List Value → St → Prop) → Prop :=
 fun x13 s13 n13 =>
   B (evBin oT .lss 3 (nth x13 0) v1) fun v51 =>
   If v51 (B (evBin oT .neq 3 (nth x13 0) (nth x12 0)) fun v52 =>
   B (Gd v52 true (evIndexAddr oT 36 (Gv v52 true v46) (Gv v52 true (nth x12 0)))) fun v53 =>
   B (Gd v52 true (evLoad oT s13 25 v53)) fun v54 =>
   B (Gd v52 true (evIndexAddr oT 25 v54 (Gv v52 true (nth x13 0)))) fun v55 =>
   B (Gd v52 true (evLoad oT s13 3 v55)) fun v56 =>
   B (Gd v52 true (evIndexAddr oT 36 (Gv v52 true v36) (Gv v52 true (nth x12 0)))) fun v57 =>
   B (Gd v52 true (evLoad oT s13 25 v57)) fun v58 =>
   B (Gd v52 true (evIndexAddr oT 25 v58 (Gv v52 true (nth x13 0)))) fun v59 =>
   B (Gd v52 true (evLoad oT s13 3 v59)) fun v60 =>
   B (Gd v52 true (evBin oT .neq 3 v56 v60)) fun v61 =>
   B (evPick v52 v61 (.bool false)) fun v62 =>
   If v62 (Q (.bool false) s13)
   (B (evBin oT .add 3 (nth x13 0) (.int .i64 1)) fun v63 =>
   n13 [v63] s13))
   (B (evBin oT .add 3 (nth x12 0) (.int .i64 1)) fun v64 =>
  n12 [v64] s13)

def L5_6 (a1 : Value) (a2 : Value) (v1 : Value) (v36 : Value) (v46 : Value) (x9 : List Value) (Q : Value → St → Prop) : List Value → St → (List Value → St → Prop) → Prop :=
 fun x12 s12 n12 =>
  B (evBin oT .lss 3 (nth x12 0) v1) fun v47 =>
  B (Gd v47 true (evLenM oT s12 36 (Gv v47 true v46))) fun v48 =>
  B (Gd v47 true (evBin oT .lss 3 (Gv v47 true (nth x12 0)) v48)) fun v49 =>
  B (evPick v47 v49 (.bool false)) fun v50 =>
  If v50 (Lp (L5_8 v1 v36 v46 x12 n12 Q) [(.int .i64 0)] s12)
  (B (evLenM oT s12 36 v46) fun v65 =>
 B (evBin oT .eql 3 v65 v1) fun v66 =>
 GC v66 true s12 (CallP Tryz.prog 35 [(Gv v66 true v1), (Gv v66 true a2)] s12) fun v67 s14 =>
 B (Gd v66 true (evBin oT .eql 3 v67 (Gv v66 true (nth x9 0)))) fun v68 =>
 B (evPick v66 v68 (.bool false)) fun v69 =>
 B (Gd v69 true (evLenM oT s14 67 (Gv v69 true a2))) fun v70 =>
 GC v69 true s14 (CallP Tryz.prog 36 [(Gv v69 true v1), (Gv v69 true a1), v70] s14) fun v71 s15 =>
 B (Gd v69 true (evBin oT .leq 3 v71 (Gv v69 true (nth x9 0)))) fun v72 =>
 B (evPick v69 v72 (.bool false)) fun v73 =>
 B (Gd v73 true (evBin oT .eql 3 (Gv v73 true (nth x9 0)) (.int .i64 0))) fun v74 =>
 GC (Gv v73 true v74) false s15 (CallP Tryz.prog 37 [(Gv (Gv v73 true v74) false v1), (Gv (Gv v73 true v74) false a1), (Gv (Gv v73 true v74) false (nth x9 0))] s15) fun v75 s16 =>
 B (Gd (Gv v73 true v74) false (evLenM oT s16 67 (Gv (Gv v73 true v74) false a2))) fun v76 =>
 B (Gd (Gv v73 true v74) false (evBin oT .geq 3 v75 v76)) fun v77 =>
 B (Gd v73 true (evPick (Gv v73 true v74) (.bool true) v77)) fun v78 =>
 B (evPick v73 v78 (.bool false)) fun v79 =>
 GC v79 true s16 (CallP Tryz.prog 8 [] s16) fun v80 s17 =>
 B (evPick v79 v80 (.bool false)) fun v81 =>
 Q v81 s17)

def L5_2 (a1 : Value) (a2 : Value) (v1 : Value) (v36 : Value) (Q : Value → St → Prop) : List Value → St → (List Value → St → Prop) → Prop :=
 fun x9 s9 n9 =>
  B (evBin oT .lss 3 (nth x9 1) v1) fun v37 =>
  If v37 (Lp (L5_4 v1 v36 x9 n9) [(nth x9 0), (.int .i64 0)] s9)
  (CallP Tryz.prog 34 [v1, a2] s9 fun v46 s11 =>
 Lp (L5_6 a1 a2 v1 v36 v46 x9 Q) [(.int .i64 0)] s11)

def L5_0 (a1 : Value) (a2 : Value) (v1 : Value) (Q : Value → St → Prop) : List Value → St → (List Value → St → Prop) → Prop :=
 fun x3 s3 n3 =>
  B (evLenM oT s3 25 a1) fun v11 =>
  B (evBin oT .lss 3 (nth x3 0) v11) fun v12 =>
  If v12 (B (evIndexAddr oT 25 a1 (nth x3 0)) fun v13 =>
  B (evLoad oT s3 3 v13) fun v14 =>
  B (evBin oT .lss 3 v14 (.int .i64 1)) fun v15 =>
  B (Gd v15 false (evIndexAddr oT 25 (Gv v15 false a1) (Gv v15 false (nth x3 0)))) fun v16 =>
  B (Gd v15 false (evLoad oT s3 3 v16)) fun v17 =>
  B (Gd v15 false (evBin oT .gtr 3 v17 (.int .i64 24))) fun v18 =>
  B (evPick v15 (.bool true) v18) fun v19 =>
  If v19 (CallP Tryz.prog 8 [] s3 fun v20 s4 =>
   Q v20 s4)
  (B (evBin oT .add 3 (nth x3 0) (.int .i64 1)) fun v21 =>
  n3 [v21] s3))
  (CallP Tryz.prog 31 [v1, a1, a2] s3 fun v22 s5 =>
 B (evExtract v22 0) fun v23 =>
 B (evExtract v22 1) fun v24 =>
 B (evBin oT .eql 3 v23 (.int .i64 0)) fun v25 =>
 B (Gd v25 true (evBin oT .eql 33 (Gv v25 true v24) (.int .i64 0))) fun v26 =>
 B (evPick v25 v26 (.bool false)) fun v27 =>
 GC v27 true s5 (CallP Tryz.prog 32 [(Gv v27 true v1), (Gv v27 true a1), (Gv v27 true a2)] s5) fun v28 s6 =>
 B (Gd v27 true (evUn .not v28)) fun v29 =>
 B (evPick v27 v29 (.bool false)) fun v30 =>
 If v30 (Q (.bool false) s6)
 (B (evBin oT .neq 33 v24 (.int .i64 0)) fun v31 =>
  B (Gd v31 false (evLenM oT s6 67 (Gv v31 false a2))) fun v32 =>
  B (Gd v31 false (evBin oT .eql 3 v32 (.int .i64 0))) fun v33 =>
  B (evPick v31 (.bool true) v33) fun v34 =>
  If v34 (CallP Tryz.prog 8 [] s6 fun v35 s7 =>
   Q v35 s7)
  (CallP Tryz.prog 33 [v1, a2] s6 fun v36 s8 =>
 Lp (L5_2 a1 a2 v1 v36 Q) [(.int .i64 0), (.int .i64 0)] s8)))

/-- trestle/trestletop.TopBounds -/
def R5 (a0 a1 a2 : Value) (st : St) (Q : Value → St → Prop) : Prop :=
 CallP Tryz.prog 30 [a0, (.int .i64 41)] st fun v1 s1 =>
 B (evLenM oT s1 25 a1) fun v2 =>
 B (evBin oT .eql 3 v2 (.int .i64 0)) fun v3 =>
 B (Gd v3 false (evLenM oT s1 25 (Gv v3 false a1))) fun v4 =>
 B (Gd v3 false (evBin oT .gtr 3 v4 (.int .i64 20))) fun v5 =>
 B (evPick v3 (.bool true) v5) fun v6 =>
 B (Gd v6 false (evLenM oT s1 67 (Gv v6 false a2))) fun v7 =>
 B (Gd v6 false (evBin oT .gtr 3 v7 (.int .i64 20))) fun v8 =>
 B (evPick v6 (.bool true) v8) fun v9 =>
 If v9 (CallP Tryz.prog 8 [] s1 fun v10 s2 =>
  Q v10 s2)
 (Lp (L5_0 a1 a2 v1 Q) [(.int .i64 0)] s1)
theorem r5 {a0 a1 a2 : Value} {st : St} {Q : Value → St → Prop} (h : R5 a0 a1 a2 st Q) : CallP Tryz.prog 5 [a0, a1, a2] st Q :=
  fun_sound oT_ok oS_ok (ann := annL [(0, [7]), (2, [11, 12]), (4, [11, 13]), (6, [15]), (8, [16])]) fr5 ((show R5 a0 a1 a2 st Q = denF Tryz.prog oT (annL [(0, [7]), (2, [11, 12]), (4, [11, 13]), (6, [15]), (8, [16])]) (rowF Tryz.f5) [a0, a1, a2] st Q by kernel_rfl).mp h)

/-- A round of the loop of evening.meetings. -/
def RR93 (v3 x y : Value) (l : Nat) (st : St) (Q : Value → St → Prop) : Prop :=
 ([] : List Deferred) = [] ∧ RdBegin l st fun s1 =>
 B (evLoad oT s1 164 v3) fun v22 =>
 CallP Tryz.prog 172 [v22, x, y] s1 fun v25 s2 =>
 B (evNil v25) fun v26 =>
 B (evLoad oT s2 3 v26) fun v27 =>
 B (evBin oT .add 3 v27 (.int .i64 1)) fun v28 =>
 B (evNil v25) fun v29 =>
 B2 (evStoreU oT s2 3 v29 v28) fun _ s3 =>
 ([] : List Deferred) = [] ∧ RdEnd l s3 Q
/-- What is known of the frame's places when evening.meetings loops over pairs. -/
def E93 (a0 a1 v1 v2 v3 v5 v6 v7 v8 v9 i : Value) : OEnv :=
 [some a0, some a1, none, none, some v1, some v3, none, some v8, none, none, some a0, some v2, some a1, some v5, some i, some v6, some v7, some v8, some v8, some v9, none, none, none, none, none, none, none, none, none, none, none, none]
theorem rr93 {a0 a1 v1 v2 v3 v5 v6 v7 v8 v9 i x y : Value} {l : Nat} {st : St} {Q : Value → St → Prop} (h : RR93 v3 x y l st Q) :
    denR Tryz.prog oT (fun _ => none) l (rfA (rowF Tryz.f93).body) (rfB (rowF Tryz.f93).body) (setAll (E93 a0 a1 v1 v2 v3 v5 v6 v7 v8 v9 i) (rfP (rowF Tryz.f93).body).toList [x, y]) st Q :=
  (show RR93 v3 x y l st Q = denR Tryz.prog oT (fun _ => none) l (rfA (rowF Tryz.f93).body) (rfB (rowF Tryz.f93).body) (setAll (E93 a0 a1 v1 v2 v3 v5 v6 v7 v8 v9 i) (rfP (rowF Tryz.f93).body).toList [x, y]) st Q by kernel_rfl).mp h
theorem rf93_plain : rfIn (rfA (rowF Tryz.f93).body) = false ∧ rfIn (rfB (rowF Tryz.f93).body) = false ∧ (rfP (rowF Tryz.f93).body).toList.length = 2 := ⟨by kernel_rfl, by kernel_rfl, by kernel_rfl⟩

end Go.Ev
