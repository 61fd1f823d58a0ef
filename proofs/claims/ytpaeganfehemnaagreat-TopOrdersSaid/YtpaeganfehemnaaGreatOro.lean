/- What the functions of the law of orders compute. -/
import Derived.Test.YtpaeganfehemnaaGreatSyb

namespace Go.Ev
open Go.Proofs

def L6_2 (a0 : Value) (v1 : Value) (v2 : Value) (v16 : Value) (x9 : List Value) (n9 : List Value → St → Prop) (Q : Value → St → Prop) : List Value → St → (List Value → St → Prop) → Prop :=
 fun x10 s10 n10 =>
   B (evBin oT .lss 3 (nth x10 0) (.int .i64 3)) fun v18 =>
   If v18 (B (evIndexAddr oT 79 v2 (nth x9 0)) fun v19 =>
   B (evLoad oT s10 3 v19) fun v20 =>
   B (evBin oT .and 3 v20 (.int .i64 63)) fun v21 =>
   B (evIndexAddr oT 79 v2 (nth x10 0)) fun v22 =>
   B (evLoad oT s10 3 v22) fun v23 =>
   B (evBin oT .and 3 v23 (.int .i64 63)) fun v24 =>
   B (evIndexAddr oT 78 v1 (nth x9 0)) fun v25 =>
   B (evLoad oT s10 77 v25) fun v26 =>
   B (evIndexAddr oT 78 v1 (nth x10 0)) fun v27 =>
   B (evLoad oT s10 77 v27) fun v28 =>
   CallQ Tryz.prog 41 [a0, v26, v28, v21, v24] s10 fun v29 s11 =>
   B (evExtract v29 0) fun v30 =>
   B (evExtract v29 1) fun v31 =>
   B (evIndexAddr oT 78 v1 (nth x9 0)) fun v32 =>
   B (evLoad oT s11 77 v32) fun v33 =>
   B (evIndexAddr oT 78 v1 (nth x10 0)) fun v34 =>
   B (evLoad oT s11 77 v34) fun v35 =>
   CallQ Tryz.prog 42 [a0, v33, v35, v21, v24] s11 fun v36 s12 =>
   B (evExtract v36 0) fun v37 =>
   B (evExtract v36 1) fun v38 =>
   B (evBin oT .neq 3 v30 v37) fun v39 =>
   B (Gd v39 false (evBin oT .neq 3 (Gv v39 false v31) (Gv v39 false v38))) fun v40 =>
   B (evPick v39 (.bool true) v40) fun v41 =>
   B (Gd v41 false (evIndexAddr oT 78 v1 (Gv v41 false (nth x9 0)))) fun v42 =>
   B (Gd v41 false (evLoad oT s12 77 v42)) fun v43 =>
   B (Gd v41 false (evIndexAddr oT 78 v1 (Gv v41 false (nth x10 0)))) fun v44 =>
   B (Gd v41 false (evLoad oT s12 77 v44)) fun v45 =>
   GC v41 false s12 (CallQ Tryz.prog 43 [(Gv v41 false a0), v43, v45, (Gv v41 false v21), (Gv v41 false v24)] s12) fun v46 s13 =>
   B (Gd v41 false (evBin oT .neq 3 v46 (Gv v41 false v38))) fun v47 =>
   B (evPick v41 (.bool true) v47) fun v48 =>
   B (Gd v48 false (evBin oT .lss 3 (Gv v48 false v30) (.int .i64 0))) fun v49 =>
   B (Gd v48 false (evBin oT .eql 3 (Gv v48 false v31) (.int .i64 0))) fun v50 =>
   B (Gd v48 false (evBin oT .neq 4 v49 v50)) fun v51 =>
   B (evPick v48 (.bool true) v51) fun v52 =>
   B (Gd v52 false (evLenM oT s13 74 (Gv v52 false a0))) fun v53 =>
   B (Gd v52 false (evBin oT .geq 3 (Gv v52 false v30) v53)) fun v54 =>
   B (evPick v52 (.bool true) v54) fun v55 =>
   If v55 (Q (.bool false) s13)
   (B (evBin oT .geq 3 v30 (.int .i64 0)) fun v56 =>
   B (Gd v56 true (evSlice oT 74 (Gv v56 true a0) none (some (Gv v56 true v30)) none)) fun v57 =>
   B (Gd v56 true (evIndexAddr oT 78 v1 (Gv v56 true (nth x9 0)))) fun v58 =>
   B (Gd v56 true (evLoad oT s13 77 v58)) fun v59 =>
   B (Gd v56 true (evIndexAddr oT 78 v1 (Gv v56 true (nth x10 0)))) fun v60 =>
   B (Gd v56 true (evLoad oT s13 77 v60)) fun v61 =>
   GC v56 true s13 (CallQ Tryz.prog 43 [v57, v59, v61, (Gv v56 true v21), (Gv v56 true v24)] s13) fun v62 s14 =>
   B (Gd v56 true (evBin oT .neq 3 v62 (.int .i64 0))) fun v63 =>
   B (Gd (Gv v56 true v63) false (evBin oT .add 3 (Gv (Gv v56 true v63) false v30) (.int .i64 1))) fun v64 =>
   B (Gd (Gv v56 true v63) false (evSlice oT 74 (Gv (Gv v56 true v63) false a0) none (some v64) none)) fun v65 =>
   B (Gd (Gv v56 true v63) false (evIndexAddr oT 78 v1 (Gv (Gv v56 true v63) false (nth x9 0)))) fun v66 =>
   B (Gd (Gv v56 true v63) false (evLoad oT s14 77 v66)) fun v67 =>
   B (Gd (Gv v56 true v63) false (evIndexAddr oT 78 v1 (Gv (Gv v56 true v63) false (nth x10 0)))) fun v68 =>
   B (Gd (Gv v56 true v63) false (evLoad oT s14 77 v68)) fun v69 =>
   GC (Gv v56 true v63) false s14 (CallQ Tryz.prog 43 [v65, v67, v69, (Gv (Gv v56 true v63) false v21), (Gv (Gv v56 true v63) false v24)] s14) fun v70 s15 =>
   B (Gd (Gv v56 true v63) false (evBin oT .neq 3 v70 (Gv (Gv v56 true v63) false v31))) fun v71 =>
   B (Gd v56 true (evPick (Gv v56 true v63) (.bool true) v71)) fun v72 =>
   B (evPick v56 v72 (.bool false)) fun v73 =>
   If v73 (Q (.bool false) s15)
   (B (evIndexAddr oT 82 v16 (nth x9 0)) fun v74 =>
   B (evIndexAddr oT 79 v74 (nth x10 0)) fun v75 =>
   B2 (evStoreU oT s15 3 v75 v31) fun _ s16 =>
   B (evBin oT .add 3 (nth x10 0) (.int .i64 1)) fun v77 =>
   n10 [v77] s16)))
   (B (evBin oT .add 3 (nth x9 0) (.int .i64 1)) fun v78 =>
  n9 [v78] s10)

def L6_8 (v16 : Value) (x17 : List Value) (x18 : List Value) (n18 : List Value → St → Prop) (Q : Value → St → Prop) : List Value → St → (List Value → St → Prop) → Prop :=
 fun x19 s19 n19 =>
    B (evBin oT .lss 3 (nth x19 0) (.int .i64 3)) fun v89 =>
    If v89 (B (evIndexAddr oT 82 v16 (nth x17 0)) fun v90 =>
    B (evIndexAddr oT 79 v90 (nth x18 0)) fun v91 =>
    B (evLoad oT s19 3 v91) fun v92 =>
    B (evBin oT .leq 3 v92 (.int .i64 0)) fun v93 =>
    B (Gd v93 true (evIndexAddr oT 82 v16 (Gv v93 true (nth x18 0)))) fun v94 =>
    B (Gd v93 true (evIndexAddr oT 79 v94 (Gv v93 true (nth x19 0)))) fun v95 =>
    B (Gd v93 true (evLoad oT s19 3 v95)) fun v96 =>
    B (Gd v93 true (evBin oT .leq 3 v96 (.int .i64 0))) fun v97 =>
    B (evPick v93 v97 (.bool false)) fun v98 =>
    B (Gd v98 true (evIndexAddr oT 82 v16 (Gv v98 true (nth x17 0)))) fun v99 =>
    B (Gd v98 true (evIndexAddr oT 79 v99 (Gv v98 true (nth x19 0)))) fun v100 =>
    B (Gd v98 true (evLoad oT s19 3 v100)) fun v101 =>
    B (Gd v98 true (evIndexAddr oT 82 v16 (Gv v98 true (nth x17 0)))) fun v102 =>
    B (Gd v98 true (evIndexAddr oT 79 v102 (Gv v98 true (nth x18 0)))) fun v103 =>
    B (Gd v98 true (evLoad oT s19 3 v103)) fun v104 =>
    B (Gd v98 true (evIndexAddr oT 82 v16 (Gv v98 true (nth x18 0)))) fun v105 =>
    B (Gd v98 true (evIndexAddr oT 79 v105 (Gv v98 true (nth x19 0)))) fun v106 =>
    B (Gd v98 true (evLoad oT s19 3 v106)) fun v107 =>
    B (Gd v98 true (evMinL [v104, v107])) fun v108 =>
    B (Gd v98 true (evBin oT .neq 3 v101 v108)) fun v109 =>
    B (evPick v98 v109 (.bool false)) fun v110 =>
    If v110 (Q (.bool false) s19)
    (B (evBin oT .add 3 (nth x19 0) (.int .i64 1)) fun v111 =>
    n19 [v111] s19))
    (B (evBin oT .add 3 (nth x18 0) (.int .i64 1)) fun v112 =>
   n18 [v112] s19)

def L6_6 (v16 : Value) (x17 : List Value) (n17 : List Value → St → Prop) (Q : Value → St → Prop) : List Value → St → (List Value → St → Prop) → Prop :=
 fun x18 s18 n18 =>
   B (evBin oT .lss 3 (nth x18 0) (.int .i64 3)) fun v80 =>
   If v80 (B (evIndexAddr oT 82 v16 (nth x17 0)) fun v81 =>
   B (evIndexAddr oT 79 v81 (nth x18 0)) fun v82 =>
   B (evLoad oT s18 3 v82) fun v83 =>
   B (evIndexAddr oT 82 v16 (nth x18 0)) fun v84 =>
   B (evIndexAddr oT 79 v84 (nth x17 0)) fun v85 =>
   B (evLoad oT s18 3 v85) fun v86 =>
   B (evUn .neg v86) fun v87 =>
   B (evBin oT .neq 3 v83 v87) fun v88 =>
   If v88 (Q (.bool false) s18)
   (Lp (L6_8 v16 x17 x18 n18 Q) [(.int .i64 0)] s18))
   (B (evBin oT .add 3 (nth x17 0) (.int .i64 1)) fun v113 =>
  n17 [v113] s18)

def L6_4 (v16 : Value) (Q : Value → St → Prop) : List Value → St → (List Value → St → Prop) → Prop :=
 fun x17 s17 n17 =>
  B (evBin oT .lss 3 (nth x17 0) (.int .i64 3)) fun v79 =>
  If v79 (Lp (L6_6 v16 x17 n17 Q) [(.int .i64 0)] s17)
  (Q (.bool true) s17)

def L6_0 (a0 : Value) (v1 : Value) (v2 : Value) (v16 : Value) (Q : Value → St → Prop) : List Value → St → (List Value → St → Prop) → Prop :=
 fun x9 s9 n9 =>
  B (evBin oT .lss 3 (nth x9 0) (.int .i64 3)) fun v17 =>
  If v17 (Lp (L6_2 a0 v1 v2 v16 x9 n9 Q) [(.int .i64 0)] s9)
  (Lp (L6_4 v16 Q) [(.int .i64 0)] s9)

/-- trestle/trestletop.TopOrders -/
def R6 (a0 a1 a2 : Value) (st : St) (Q : Value → St → Prop) : Prop :=
 B2 (evBox st 78 a1) fun v1 s1 =>
 B2 (evBox s1 79 a2) fun v2 s2 =>
 CallP Tryz.prog 38 [a0] s2 fun v3 s3 =>
 B (evUn .not v3) fun v4 =>
 B (Gd v4 false (evSlice oT 78 v1 none none none)) fun v5 =>
 GC v4 false s3 (CallP Tryz.prog 39 [v5, (.int .i64 3)] s3) fun v6 s4 =>
 B (Gd v4 false (evUn .not v6)) fun v7 =>
 B (evPick v4 (.bool true) v7) fun v8 =>
 GC v8 false s4 (CallP Tryz.prog 40 [(Gv v8 false a0)] s4) fun v9 s5 =>
 B (Gd v8 false (evUn .not v9)) fun v10 =>
 B (evPick v8 (.bool true) v10) fun v11 =>
 GC v11 false s5 (CallP Tryz.prog 8 [] s5) fun v12 s6 =>
 B (Gd v11 false (evUn .not v12)) fun v13 =>
 B (evPick v11 (.bool true) v13) fun v14 =>
 If v14 (CallP Tryz.prog 8 [] s6 fun v15 s7 =>
  Q v15 s7)
 (B2 (evNew oT s6 82) fun v16 s8 =>
 Lp (L6_0 a0 v1 v2 v16 Q) [(.int .i64 0)] s8)
theorem r6 {a0 a1 a2 : Value} {st : St} {Q : Value → St → Prop} (h : R6 a0 a1 a2 st Q) : CallP Tryz.prog 6 [a0, a1, a2] st Q :=
  fun_sound oT_ok oS_ok (ann := annL [(0, [8]), (2, [9]), (4, [16]), (6, [17]), (8, [18])]) fr6 ((show R6 a0 a1 a2 st Q = denF Tryz.prog oT (annL [(0, [8]), (2, [9]), (4, [16]), (6, [17]), (8, [18])]) (rowF Tryz.f6) [a0, a1, a2] st Q by kernel_rfl).mp h)

/-- trestle/trestlelaw03.Few -/
def R38 (a0 : Value) (st : St) (Q : Value → St → Prop) : Prop :=
 B (evLenM oT st 74 a0) fun v1 =>
 B (evBin oT .leq 3 v1 (.int .i64 40)) fun v2 =>
 GC v2 true st (CallP Tryz.prog 97 [(Gv v2 true a0), (.func (.func 98) #[] #[])] st) fun v3 s1 =>
 B (Gd v2 true (evUn .not v3)) fun v4 =>
 B (evPick v2 v4 (.bool false)) fun v5 =>
 Q v5 s1
theorem r38 {a0 : Value} {st : St} {Q : Value → St → Prop} (h : R38 a0 st Q) : CallP Tryz.prog 38 [a0] st Q :=
  fun_sound oT_ok oS_ok (ann := annL []) fr38 ((show R38 a0 st Q = denF Tryz.prog oT (annL []) (rowF Tryz.f38) [a0] st Q by kernel_rfl).mp h)

/-- trestle/trestlelaw03.FewGuests -/
def R39 (a0 a1 : Value) (st : St) (Q : Value → St → Prop) : Prop :=
 B (evLenM oT st 23 a0) fun v1 =>
 B (evBin oT .leq 3 v1 a1) fun v2 =>
 GC v2 true st (CallP Tryz.prog 101 [(Gv v2 true a0), (.func (.func 102) #[] #[])] st) fun v3 s1 =>
 B (Gd v2 true (evUn .not v3)) fun v4 =>
 B (evPick v2 v4 (.bool false)) fun v5 =>
 Q v5 s1
theorem r39 {a0 a1 : Value} {st : St} {Q : Value → St → Prop} (h : R39 a0 a1 st Q) : CallP Tryz.prog 39 [a0, a1] st Q :=
  fun_sound oT_ok oS_ok (ann := annL []) fr39 ((show R39 a0 a1 st Q = denF Tryz.prog oT (annL []) (rowF Tryz.f39) [a0, a1] st Q by kernel_rfl).mp h)

/-- trestle/trestleref03.Valid -/
def R40 (a0 : Value) (st : St) (Q : Value → St → Prop) : Prop :=
 CallP Tryz.prog 104 [a0] st fun v1 s1 =>
 B (evExtract v1 0) fun v2 =>
 B (evExtract v1 1) fun v3 =>
 B (evBin oT .eql 3 v3 (.int .i64 0)) fun v4 =>
 Q v4 s1
theorem r40 {a0 : Value} {st : St} {Q : Value → St → Prop} (h : R40 a0 st Q) : CallP Tryz.prog 40 [a0] st Q :=
  fun_sound oT_ok oS_ok (ann := annL []) fr40 ((show R40 a0 st Q = denF Tryz.prog oT (annL []) (rowF Tryz.f40) [a0] st Q by kernel_rfl).mp h)

/-- trestle/court.Reason -/
def R41 (a0 a1 a2 a3 a4 : Value) (st : St) (Q : Value → St → Prop) : Prop :=
 B2 (evBox st 77 a1) fun v1 s1 =>
 B2 (evBox s1 77 a2) fun v2 s2 =>
 CallP Tryz.prog 105 [a0] s2 fun v3 s3 =>
 B (evExtract v3 0) fun v4 =>
 B (evExtract v3 1) fun v5 =>
 B (evUn .not v5) fun v6 =>
 If v6 (Q (.tuple ⟨[(.int .i64 0), (.int .i64 0)]⟩) s3)
 (B (evLoad oT s3 77 v1) fun v7 =>
 B (evBuild oT 183 [(0, v7), (1, a3)]) fun v8 =>
 B (evLoad oT s3 77 v2) fun v9 =>
 B (evBuild oT 183 [(0, v9), (1, a4)]) fun v10 =>
 CallP Tryz.prog 106 [v4, v8, v10] s3 fun v11 s4 =>
 B (evExtract v11 0) fun v12 =>
 B (evExtract v11 1) fun v13 =>
 Q (.tuple ⟨[v12, v13]⟩) s4)
theorem r41 {a0 a1 a2 a3 a4 : Value} {st : St} {Q : Value → St → Prop} (h : R41 a0 a1 a2 a3 a4 st Q) : CallP Tryz.prog 41 [a0, a1, a2, a3, a4] st Q :=
  fun_sound oT_ok oS_ok (ann := annL []) fr41 ((show R41 a0 a1 a2 a3 a4 st Q = denF Tryz.prog oT (annL []) (rowF Tryz.f41) [a0, a1, a2, a3, a4] st Q by kernel_rfl).mp h)

def L42_0 (a0 : Value) (a3 : Value) (a4 : Value) (v1 : Value) (v2 : Value) (Q : Value → St → Prop) : List Value → St → (List Value → St → Prop) → Prop :=
 fun x3 s3 n3 =>
  B (evLenM oT s3 74 a0) fun v3 =>
  B (evBin oT .lss 3 (nth x3 0) v3) fun v4 =>
  If v4 (B (evIndexAddr oT 74 a0 (nth x3 0)) fun v5 =>
  B (evFieldAddr oT 171 v5 1) fun v6 =>
  B (evLoad oT s3 9 v6) fun v7 =>
  B (evBin oT .neq 9 v7 (.string ⟨⟨[]⟩⟩)) fun v8 =>
  B (Gd v8 true (evFieldAddr oT 77 v1 1)) fun v9 =>
  B (Gd v8 true (evLoad oT s3 9 v9)) fun v10 =>
  B (Gd v8 true (evIndexAddr oT 74 (Gv v8 true a0) (Gv v8 true (nth x3 0)))) fun v11 =>
  B (Gd v8 true (evFieldAddr oT 171 v11 1)) fun v12 =>
  B (Gd v8 true (evLoad oT s3 9 v12)) fun v13 =>
  B (Gd v8 true (evBin oT .neq 9 v10 v13)) fun v14 =>
  B (Gd (Gv v8 true v14) false (evFieldAddr oT 77 v2 1)) fun v15 =>
  B (Gd (Gv v8 true v14) false (evLoad oT s3 9 v15)) fun v16 =>
  B (Gd (Gv v8 true v14) false (evIndexAddr oT 74 (Gv (Gv v8 true v14) false a0) (Gv (Gv v8 true v14) false (nth x3 0)))) fun v17 =>
  B (Gd (Gv v8 true v14) false (evFieldAddr oT 171 v17 1)) fun v18 =>
  B (Gd (Gv v8 true v14) false (evLoad oT s3 9 v18)) fun v19 =>
  B (Gd (Gv v8 true v14) false (evBin oT .neq 9 v16 v19)) fun v20 =>
  B (Gd v8 true (evPick (Gv v8 true v14) (.bool true) v20)) fun v21 =>
  B (evPick v8 v21 (.bool false)) fun v22 =>
  If v22 (B (evBin oT .add 3 (nth x3 0) (.int .i64 1)) fun v23 =>
  n3 [v23] s3)
  (B (evIndexAddr oT 74 a0 (nth x3 0)) fun v24 =>
  B (evLoad oT s3 171 v24) fun v25 =>
  B (evLoad oT s3 77 v1) fun v26 =>
  B (evLoad oT s3 77 v2) fun v27 =>
  CallQ Tryz.prog 107 [v25, v26, v27, a3, a4] s3 fun v28 s4 =>
  If v28 (Q (.tuple ⟨[(nth x3 0), (.int .i64 (-1))]⟩) s4)
  (B (evIndexAddr oT 74 a0 (nth x3 0)) fun v29 =>
  B (evLoad oT s4 171 v29) fun v30 =>
  B (evLoad oT s4 77 v2) fun v31 =>
  B (evLoad oT s4 77 v1) fun v32 =>
  CallQ Tryz.prog 107 [v30, v31, v32, a4, a3] s4 fun v33 s5 =>
  If v33 (Q (.tuple ⟨[(nth x3 0), (.int .i64 1)]⟩) s5)
  (B (evBin oT .add 3 (nth x3 0) (.int .i64 1)) fun v34 =>
  n3 [v34] s5))))
  (Q (.tuple ⟨[(.int .i64 (-1)), (.int .i64 0)]⟩) s3)

/-- trestle/trestleref03.Reason -/
def R42 (a0 a1 a2 a3 a4 : Value) (st : St) (Q : Value → St → Prop) : Prop :=
 B2 (evBox st 77 a1) fun v1 s1 =>
 B2 (evBox s1 77 a2) fun v2 s2 =>
 Lp (L42_0 a0 a3 a4 v1 v2 Q) [(.int .i64 0)] s2
theorem r42 {a0 a1 a2 a3 a4 : Value} {st : St} {Q : Value → St → Prop} (h : R42 a0 a1 a2 a3 a4 st Q) : CallP Tryz.prog 42 [a0, a1, a2, a3, a4] st Q :=
  fun_sound oT_ok oS_ok (ann := annL [(0, [12])]) fr42 ((show R42 a0 a1 a2 a3 a4 st Q = denF Tryz.prog oT (annL [(0, [12])]) (rowF Tryz.f42) [a0, a1, a2, a3, a4] st Q by kernel_rfl).mp h)

/-- trestle/court.Compare -/
def R43 (a0 a1 a2 a3 a4 : Value) (st : St) (Q : Value → St → Prop) : Prop :=
 B2 (evBox st 77 a1) fun v1 s1 =>
 B2 (evBox s1 77 a2) fun v2 s2 =>
 B (evLoad oT s2 77 v1) fun v3 =>
 B (evLoad oT s2 77 v2) fun v4 =>
 CallP Tryz.prog 41 [a0, v3, v4, a3, a4] s2 fun v5 s3 =>
 B (evExtract v5 0) fun v6 =>
 B (evExtract v5 1) fun v7 =>
 Q v7 s3
theorem r43 {a0 a1 a2 a3 a4 : Value} {st : St} {Q : Value → St → Prop} (h : R43 a0 a1 a2 a3 a4 st Q) : CallP Tryz.prog 43 [a0, a1, a2, a3, a4] st Q :=
  fun_sound oT_ok oS_ok (ann := annL []) fr43 ((show R43 a0 a1 a2 a3 a4 st Q = denF Tryz.prog oT (annL []) (rowF Tryz.f43) [a0, a1, a2, a3, a4] st Q by kernel_rfl).mp h)

/-- slices.ContainsFunc[[]trestle/api.Clause,trestle/api.Clause] -/
def R97 (a0 a1 : Value) (st : St) (Q : Value → St → Prop) : Prop :=
 CallP Tryz.prog 173 [a0, a1] st fun v1 s1 =>
 B (evBin oT .geq 3 v1 (.int .i64 0)) fun v2 =>
 Q v2 s1
theorem r97 {a0 a1 : Value} {st : St} {Q : Value → St → Prop} (h : R97 a0 a1 st Q) : CallP Tryz.prog 97 [a0, a1] st Q :=
  fun_sound oT_ok oS_ok (ann := annL []) fr97 ((show R97 a0 a1 st Q = denF Tryz.prog oT (annL []) (rowF Tryz.f97) [a0, a1] st Q by kernel_rfl).mp h)

/-- trestle/trestlelaw03.Few$1 -/
def R98 (a0 : Value) (st : St) (Q : Value → St → Prop) : Prop :=
 B2 (evBox st 171 a0) fun v1 s1 =>
 B (evFieldAddr oT 171 v1 1) fun v2 =>
 B (evLoad oT s1 9 v2) fun v3 =>
 B (evLenM oT s1 9 v3) fun v4 =>
 B (evBin oT .gtr 3 v4 (.int .i64 40)) fun v5 =>
 B (Gd v5 false (evFieldAddr oT 171 v1 3)) fun v6 =>
 B (Gd v5 false (evLoad oT s1 75 v6)) fun v7 =>
 B (Gd v5 false (evLenM oT s1 75 v7)) fun v8 =>
 B (Gd v5 false (evBin oT .gtr 3 v8 (.int .i64 20))) fun v9 =>
 B (evPick v5 (.bool true) v9) fun v10 =>
 B (Gd v10 false (evFieldAddr oT 171 v1 3)) fun v11 =>
 B (Gd v10 false (evLoad oT s1 75 v11)) fun v12 =>
 GC v10 false s1 (CallP Tryz.prog 99 [v12, (.func (.func 100) #[] #[])] s1) fun v13 s2 =>
 B (evPick v10 (.bool true) v13) fun v14 =>
 Q v14 s2
theorem r98 {a0 : Value} {st : St} {Q : Value → St → Prop} (h : R98 a0 st Q) : CallP Tryz.prog 98 [a0] st Q :=
  fun_sound oT_ok oS_ok (ann := annL []) fr98 ((show R98 a0 st Q = denF Tryz.prog oT (annL []) (rowF Tryz.f98) [a0] st Q by kernel_rfl).mp h)

/-- slices.ContainsFunc[[]string,string] -/
def R99 (a0 a1 : Value) (st : St) (Q : Value → St → Prop) : Prop :=
 CallP Tryz.prog 174 [a0, a1] st fun v1 s1 =>
 B (evBin oT .geq 3 v1 (.int .i64 0)) fun v2 =>
 Q v2 s1
theorem r99 {a0 a1 : Value} {st : St} {Q : Value → St → Prop} (h : R99 a0 a1 st Q) : CallP Tryz.prog 99 [a0, a1] st Q :=
  fun_sound oT_ok oS_ok (ann := annL []) fr99 ((show R99 a0 a1 st Q = denF Tryz.prog oT (annL []) (rowF Tryz.f99) [a0, a1] st Q by kernel_rfl).mp h)

/-- trestle/trestlelaw03.Few$1$1 -/
def R100 (a0 : Value) (st : St) (Q : Value → St → Prop) : Prop :=
 B (evLenM oT st 9 a0) fun v1 =>
 B (evBin oT .gtr 3 v1 (.int .i64 40)) fun v2 =>
 Q v2 st
theorem r100 {a0 : Value} {st : St} {Q : Value → St → Prop} (h : R100 a0 st Q) : CallP Tryz.prog 100 [a0] st Q :=
  fun_sound oT_ok oS_ok (ann := annL []) fr100 ((show R100 a0 st Q = denF Tryz.prog oT (annL []) (rowF Tryz.f100) [a0] st Q by kernel_rfl).mp h)

/-- slices.ContainsFunc[[]trestle/api.Guest,trestle/api.Guest] -/
def R101 (a0 a1 : Value) (st : St) (Q : Value → St → Prop) : Prop :=
 CallP Tryz.prog 175 [a0, a1] st fun v1 s1 =>
 B (evBin oT .geq 3 v1 (.int .i64 0)) fun v2 =>
 Q v2 s1
theorem r101 {a0 a1 : Value} {st : St} {Q : Value → St → Prop} (h : R101 a0 a1 st Q) : CallP Tryz.prog 101 [a0, a1] st Q :=
  fun_sound oT_ok oS_ok (ann := annL []) fr101 ((show R101 a0 a1 st Q = denF Tryz.prog oT (annL []) (rowF Tryz.f101) [a0, a1] st Q by kernel_rfl).mp h)

/-- trestle/trestlelaw03.FewGuests$1 -/
def R102 (a0 : Value) (st : St) (Q : Value → St → Prop) : Prop :=
 B2 (evBox st 77 a0) fun v1 s1 =>
 B (evFieldAddr oT 77 v1 0) fun v2 =>
 B (evLoad oT s1 9 v2) fun v3 =>
 B (evLenM oT s1 9 v3) fun v4 =>
 B (evFieldAddr oT 77 v1 1) fun v5 =>
 B (evLoad oT s1 9 v5) fun v6 =>
 B (evLenM oT s1 9 v6) fun v7 =>
 B (evFieldAddr oT 77 v1 2) fun v8 =>
 B (evLoad oT s1 9 v8) fun v9 =>
 B (evLenM oT s1 9 v9) fun v10 =>
 B (evMaxL [v4, v7, v10]) fun v11 =>
 B (evBin oT .gtr 3 v11 (.int .i64 40)) fun v12 =>
 B (Gd v12 false (evFieldAddr oT 77 v1 8)) fun v13 =>
 B (Gd v12 false (evLoad oT s1 75 v13)) fun v14 =>
 B (Gd v12 false (evLenM oT s1 75 v14)) fun v15 =>
 B (Gd v12 false (evBin oT .gtr 3 v15 (.int .i64 10))) fun v16 =>
 B (evPick v12 (.bool true) v16) fun v17 =>
 B (Gd v17 false (evFieldAddr oT 77 v1 8)) fun v18 =>
 B (Gd v17 false (evLoad oT s1 75 v18)) fun v19 =>
 GC v17 false s1 (CallP Tryz.prog 99 [v19, (.func (.func 103) #[] #[])] s1) fun v20 s2 =>
 B (evPick v17 (.bool true) v20) fun v21 =>
 Q v21 s2
theorem r102 {a0 : Value} {st : St} {Q : Value → St → Prop} (h : R102 a0 st Q) : CallP Tryz.prog 102 [a0] st Q :=
  fun_sound oT_ok oS_ok (ann := annL []) fr102 ((show R102 a0 st Q = denF Tryz.prog oT (annL []) (rowF Tryz.f102) [a0] st Q by kernel_rfl).mp h)

/-- trestle/trestlelaw03.FewGuests$1$1 -/
def R103 (a0 : Value) (st : St) (Q : Value → St → Prop) : Prop :=
 B (evLenM oT st 9 a0) fun v1 =>
 B (evBin oT .gtr 3 v1 (.int .i64 40)) fun v2 =>
 Q v2 st
theorem r103 {a0 : Value} {st : St} {Q : Value → St → Prop} (h : R103 a0 st Q) : CallP Tryz.prog 103 [a0] st Q :=
  fun_sound oT_ok oS_ok (ann := annL []) fr103 ((show R103 a0 st Q = denF Tryz.prog oT (annL []) (rowF Tryz.f103) [a0] st Q by kernel_rfl).mp h)

def L104_0 (a0 : Value) (Q : Value → St → Prop) : List Value → St → (List Value → St → Prop) → Prop :=
 fun x1 s1 n1 =>
  B (evLenM oT s1 74 a0) fun v3 =>
  B (evBin oT .lss 3 (nth x1 0) v3) fun v4 =>
  If v4 (CallP Tryz.prog 176 [a0, (nth x1 0)] s1 fun v5 s2 =>
  B (evBin oT .neq 3 v5 (.int .i64 0)) fun v6 =>
  If v6 (Q (.tuple ⟨[(nth x1 0), v5]⟩) s2)
  (B (evBin oT .add 3 (nth x1 0) (.int .i64 1)) fun v7 =>
  n1 [v7] s2))
  (Q (.tuple ⟨[(.int .i64 0), (.int .i64 0)]⟩) s1)

/-- trestle/trestleref03.Check -/
def R104 (a0 : Value) (st : St) (Q : Value → St → Prop) : Prop :=
 B (evLenM oT st 74 a0) fun v1 =>
 B (evBin oT .gtr 3 v1 (.int .i64 32)) fun v2 =>
 If v2 (Q (.tuple ⟨[(.int .i64 0), (.int .i64 7)]⟩) st)
 (Lp (L104_0 a0 Q) [(.int .i64 0)] st)
theorem r104 {a0 : Value} {st : St} {Q : Value → St → Prop} (h : R104 a0 st Q) : CallP Tryz.prog 104 [a0] st Q :=
  fun_sound oT_ok oS_ok (ann := annL [(0, [4])]) fr104 ((show R104 a0 st Q = denF Tryz.prog oT (annL [(0, [4])]) (rowF Tryz.f104) [a0] st Q by kernel_rfl).mp h)

def L105_0 (a0 : Value) (v5 : Value) (Q : Value → St → Prop) : List Value → St → (List Value → St → Prop) → Prop :=
 fun x2 s2 n2 =>
  B (evBin oT .lss 3 (nth x2 1) v5) fun v6 =>
  If v6 (B (evIndexAddr oT 74 a0 (nth x2 1)) fun v7 =>
  B (evLoad oT s2 171 v7) fun v8 =>
  B2 (evNew oT s2 171) fun v9 s3 =>
  B2 (evStoreU oT s3 171 v9 v8) fun _ s4 =>
  B (evLoad oT s4 171 v9) fun v11 =>
  CallP Tryz.prog 178 [v11] s4 fun v12 s5 =>
  B2 (evBuildSlice oT s5 178 1 [(0, v12)]) fun v13 s6 =>
  B2 (evAppendU oT s6 178 178 (nth x2 0) v13) fun v14 s7 =>
  B (evBin oT .add 3 (nth x2 1) (.int .i64 1)) fun v15 =>
  n2 [v14, v15] s7)
  (Q (.tuple ⟨[(nth x2 0), (.bool true)]⟩) s2)

/-- trestle/court.orders -/
def R105 (a0 : Value) (st : St) (Q : Value → St → Prop) : Prop :=
 CallP Tryz.prog 177 [a0] st fun v1 s1 =>
 B (evExtract v1 0) fun v2 =>
 B (evExtract v1 1) fun v3 =>
 B (evBin oT .neq 33 v3 (.int .i64 0)) fun v4 =>
 If v4 (Q (.tuple ⟨[(.slice none 0 0), (.bool false)]⟩) s1)
 (B (evLenM oT s1 74 a0) fun v5 =>
 Lp (L105_0 a0 v5 Q) [(.slice none 0 0), (.int .i64 0)] s1)
theorem r105 {a0 : Value} {st : St} {Q : Value → St → Prop} (h : R105 a0 st Q) : CallP Tryz.prog 105 [a0] st Q :=
  fun_sound oT_ok oS_ok (ann := annL [(0, [6, 18])]) fr105 ((show R105 a0 st Q = denF Tryz.prog oT (annL [(0, [6, 18])]) (rowF Tryz.f105) [a0] st Q by kernel_rfl).mp h)

def L106_0 (a0 : Value) (v1 : Value) (v2 : Value) (v3 : Value) (Q : Value → St → Prop) : List Value → St → (List Value → St → Prop) → Prop :=
 fun x3 s3 n3 =>
  B (evBin oT .lss 3 (nth x3 0) v3) fun v4 =>
  If v4 (B (evIndexAddr oT 178 a0 (nth x3 0)) fun v5 =>
  B (evLoad oT s3 185 v5) fun v6 =>
  B (evLoad oT s3 183 v1) fun v7 =>
  B (evLoad oT s3 183 v2) fun v8 =>
  CallV Tryz.prog v6 [v7, v8] s3 fun v9 s4 =>
  B (evBin oT .neq 3 v9 (.int .i64 0)) fun v10 =>
  If v10 (Q (.tuple ⟨[(nth x3 0), v9]⟩) s4)
  (B (evBin oT .add 3 (nth x3 0) (.int .i64 1)) fun v11 =>
  n3 [v11] s4))
  (Q (.tuple ⟨[(.int .i64 (-1)), (.int .i64 0)]⟩) s3)

/-- trestle/court.first[trestle/court.seated,trestle/court.order] -/
def R106 (a0 a1 a2 : Value) (st : St) (Q : Value → St → Prop) : Prop :=
 B2 (evBox st 183 a1) fun v1 s1 =>
 B2 (evBox s1 183 a2) fun v2 s2 =>
 B (evLenM oT s2 178 a0) fun v3 =>
 Lp (L106_0 a0 v1 v2 v3 Q) [(.int .i64 0)] s2
theorem r106 {a0 a1 a2 : Value} {st : St} {Q : Value → St → Prop} (h : R106 a0 a1 a2 st Q) : CallP Tryz.prog 106 [a0, a1, a2] st Q :=
  fun_sound oT_ok oS_ok (ann := annL [(0, [13])]) fr106 ((show R106 a0 a1 a2 st Q = denF Tryz.prog oT (annL [(0, [13])]) (rowF Tryz.f106) [a0, a1, a2] st Q by kernel_rfl).mp h)

/-- trestle/trestleref03.before -/
def R107 (a0 a1 a2 a3 a4 : Value) (st : St) (Q : Value → St → Prop) : Prop :=
 B2 (evBox st 171 a0) fun v1 s1 =>
 B2 (evBox s1 77 a1) fun v2 s2 =>
 B2 (evBox s2 77 a2) fun v3 s3 =>
 B (evFieldAddr oT 171 v1 0) fun v4 =>
 B (evLoad oT s3 169 v4) fun v5 =>
 B (evBin oT .eql 169 v5 (.int .u8 1)) fun v6 =>
 If v6 (B (evFieldAddr oT 171 v1 3) fun v7 =>
  B (evLoad oT s3 75 v7) fun v8 =>
  B (evFieldAddr oT 77 v2 1) fun v9 =>
  B (evLoad oT s3 9 v9) fun v10 =>
  CallQ Tryz.prog 179 [v8, v10] s3 fun v11 s4 =>
  B (evFieldAddr oT 171 v1 3) fun v12 =>
  B (evLoad oT s4 75 v12) fun v13 =>
  B (evFieldAddr oT 77 v3 1) fun v14 =>
  B (evLoad oT s4 9 v14) fun v15 =>
  CallQ Tryz.prog 179 [v13, v15] s4 fun v16 s5 =>
  B (evBin oT .lss 3 v11 v16) fun v17 =>
  Q v17 s5)
 (B (evBin oT .eql 169 v5 (.int .u8 2)) fun v18 =>
  If v18 (B (evFieldAddr oT 77 v2 3) fun v19 =>
   B (evLoad oT s3 3 v19) fun v20 =>
   B (evBin oT .neq 3 v20 (.int .i64 0)) fun v21 =>
   B (Gd v21 true (evFieldAddr oT 77 v3 3)) fun v22 =>
   B (Gd v21 true (evLoad oT s3 3 v22)) fun v23 =>
   B (Gd v21 true (evBin oT .eql 3 v23 (.int .i64 0))) fun v24 =>
   B (Gd (Gv v21 true v24) false (evFieldAddr oT 77 v2 3)) fun v25 =>
   B (Gd (Gv v21 true v24) false (evLoad oT s3 3 v25)) fun v26 =>
   B (Gd (Gv v21 true v24) false (evFieldAddr oT 77 v3 3)) fun v27 =>
   B (Gd (Gv v21 true v24) false (evLoad oT s3 3 v27)) fun v28 =>
   B (Gd (Gv v21 true v24) false (evBin oT .lss 3 v26 v28)) fun v29 =>
   B (Gd v21 true (evPick (Gv v21 true v24) (.bool true) v29)) fun v30 =>
   B (evPick v21 v30 (.bool false)) fun v31 =>
   Q v31 s3)
  (B (evBin oT .eql 169 v5 (.int .u8 3)) fun v32 =>
   If v32 (B (evFieldAddr oT 77 v2 3) fun v33 =>
    B (evLoad oT s3 3 v33) fun v34 =>
    B (evBin oT .neq 3 v34 (.int .i64 0)) fun v35 =>
    B (Gd v35 true (evFieldAddr oT 77 v3 3)) fun v36 =>
    B (Gd v35 true (evLoad oT s3 3 v36)) fun v37 =>
    B (Gd v35 true (evBin oT .eql 3 v37 (.int .i64 0))) fun v38 =>
    B (Gd (Gv v35 true v38) false (evFieldAddr oT 77 v2 3)) fun v39 =>
    B (Gd (Gv v35 true v38) false (evLoad oT s3 3 v39)) fun v40 =>
    B (Gd (Gv v35 true v38) false (evFieldAddr oT 77 v3 3)) fun v41 =>
    B (Gd (Gv v35 true v38) false (evLoad oT s3 3 v41)) fun v42 =>
    B (Gd (Gv v35 true v38) false (evBin oT .gtr 3 v40 v42)) fun v43 =>
    B (Gd v35 true (evPick (Gv v35 true v38) (.bool true) v43)) fun v44 =>
    B (evPick v35 v44 (.bool false)) fun v45 =>
    Q v45 s3)
   (B (evBin oT .eql 169 v5 (.int .u8 8)) fun v46 =>
    If v46 (B (evFieldAddr oT 77 v2 0) fun v47 =>
     B (evLoad oT s3 9 v47) fun v48 =>
     B (evFieldAddr oT 77 v3 0) fun v49 =>
     B (evLoad oT s3 9 v49) fun v50 =>
     B (evBin oT .lss 9 v48 v50) fun v51 =>
     Q v51 s3)
    (B (evBin oT .eql 169 v5 (.int .u8 9)) fun v52 =>
     If v52 (CallP Tryz.prog 180 [a3, (.int .i64 0), (.int .i64 63)] s3 fun v53 s6 =>
      GC v53 true s6 (CallP Tryz.prog 180 [(Gv v53 true a4), (.int .i64 0), (.int .i64 63)] s6) fun v54 s7 =>
      B (evPick v53 v54 (.bool false)) fun v55 =>
      B (Gd v55 true (evBin oT .lss 3 (Gv v55 true a3) (Gv v55 true a4))) fun v56 =>
      B (evPick v55 v56 (.bool false)) fun v57 =>
      Q v57 s7)
     (B (evBin oT .eql 169 v5 (.int .u8 10)) fun v58 =>
      If v58 (CallQ Tryz.prog 180 [a3, (.int .i64 0), (.int .i64 63)] s3 fun v59 s8 =>
       GC v59 true s8 (CallQ Tryz.prog 180 [(Gv v59 true a4), (.int .i64 0), (.int .i64 63)] s8) fun v60 s9 =>
       B (evPick v59 v60 (.bool false)) fun v61 =>
       B (Gd v61 true (evFieldAddr oT 171 v1 4)) fun v62 =>
       B (Gd v61 true (evLoad oT s9 3 v62)) fun v63 =>
       GC v61 true s9 (CallQ Tryz.prog 181 [(Gv v61 true a3), v63] s9) fun v64 s10 =>
       B (Gd v61 true (evFieldAddr oT 171 v1 4)) fun v65 =>
       B (Gd v61 true (evLoad oT s10 3 v65)) fun v66 =>
       GC v61 true s10 (CallQ Tryz.prog 181 [(Gv v61 true a4), v66] s10) fun v67 s11 =>
       B (Gd v61 true (evBin oT .lss 3 v64 v67)) fun v68 =>
       B (evPick v61 v68 (.bool false)) fun v69 =>
       Q v69 s11)
      (B (evFieldAddr oT 171 v1 2) fun v70 =>
 B (evLoad oT s3 4 v70) fun v71 =>
 If v71 (B (evLoad oT s3 171 v1) fun v72 =>
  B (evLoad oT s3 77 v2) fun v73 =>
  CallP Tryz.prog 182 [v72, v73] s3 fun v74 s12 =>
  B (evUn .not v74) fun v75 =>
  B (Gd v75 true (evLoad oT s12 171 v1)) fun v76 =>
  B (Gd v75 true (evLoad oT s12 77 v3)) fun v77 =>
  GC v75 true s12 (CallP Tryz.prog 182 [v76, v77] s12) fun v78 s13 =>
  B (evPick v75 v78 (.bool false)) fun v79 =>
  Q v79 s13)
 (B (evLoad oT s3 171 v1) fun v80 =>
 B (evLoad oT s3 77 v2) fun v81 =>
 CallP Tryz.prog 182 [v80, v81] s3 fun v82 s14 =>
 B (Gd v82 true (evLoad oT s14 171 v1)) fun v83 =>
 B (Gd v82 true (evLoad oT s14 77 v3)) fun v84 =>
 GC v82 true s14 (CallP Tryz.prog 182 [v83, v84] s14) fun v85 s15 =>
 B (Gd v82 true (evUn .not v85)) fun v86 =>
 B (evPick v82 v86 (.bool false)) fun v87 =>
 Q v87 s15)))))))
theorem r107 {a0 a1 a2 a3 a4 : Value} {st : St} {Q : Value → St → Prop} (h : R107 a0 a1 a2 a3 a4 st Q) : CallP Tryz.prog 107 [a0, a1, a2, a3, a4] st Q :=
  fun_sound oT_ok oS_ok (ann := annL []) fr107 ((show R107 a0 a1 a2 a3 a4 st Q = denF Tryz.prog oT (annL []) (rowF Tryz.f107) [a0, a1, a2, a3, a4] st Q by kernel_rfl).mp h)

def L138_0 (a0 : Value) (Q : Value → St → Prop) : List Value → St → (List Value → St → Prop) → Prop :=
 fun x1 s1 n1 =>
  B (evLenM oT s1 9 a0) fun v6 =>
  B (evBin oT .lss 3 (nth x1 0) v6) fun v7 =>
  If v7 (B (evIndex oT 9 a0 (nth x1 0)) fun v8 =>
  B (evBin oT .lss 5 v8 (.int .u8 97)) fun v9 =>
  B (Gd v9 false (evIndex oT 9 (Gv v9 false a0) (Gv v9 false (nth x1 0)))) fun v10 =>
  B (Gd v9 false (evBin oT .gtr 5 v10 (.int .u8 122))) fun v11 =>
  B (evPick v9 (.bool true) v11) fun v12 =>
  If v12 (Q (.bool false) s1)
  (B (evBin oT .add 3 (nth x1 0) (.int .i64 1)) fun v13 =>
  n1 [v13] s1))
  (Q (.bool true) s1)

/-- trestle/trestlekit.Name -/
def R138 (a0 : Value) (st : St) (Q : Value → St → Prop) : Prop :=
 B (evLenM oT st 9 a0) fun v1 =>
 B (evBin oT .lss 3 v1 (.int .i64 1)) fun v2 =>
 B (Gd v2 false (evLenM oT st 9 (Gv v2 false a0))) fun v3 =>
 B (Gd v2 false (evBin oT .gtr 3 v3 (.int .i64 12))) fun v4 =>
 B (evPick v2 (.bool true) v4) fun v5 =>
 If v5 (Q (.bool false) st)
 (Lp (L138_0 a0 Q) [(.int .i64 0)] st)
theorem r138 {a0 : Value} {st : St} {Q : Value → St → Prop} (h : R138 a0 st Q) : CallP Tryz.prog 138 [a0] st Q :=
  fun_sound oT_ok oS_ok (ann := annL [(0, [3])]) fr138 ((show R138 a0 st Q = denF Tryz.prog oT (annL [(0, [3])]) (rowF Tryz.f138) [a0] st Q by kernel_rfl).mp h)

def L173_0 (a0 : Value) (a1 : Value) (v1 : Value) (Q : Value → St → Prop) : List Value → St → (List Value → St → Prop) → Prop :=
 fun x1 s1 n1 =>
  B (evBin oT .lss 3 (nth x1 0) v1) fun v2 =>
  If v2 (B (evIndexAddr oT 74 a0 (nth x1 0)) fun v3 =>
  B (evLoad oT s1 171 v3) fun v4 =>
  CallV Tryz.prog a1 [v4] s1 fun v5 s2 =>
  If v5 (Q (nth x1 0) s2)
  (B (evBin oT .add 3 (nth x1 0) (.int .i64 1)) fun v6 =>
  n1 [v6] s2))
  (Q (.int .i64 (-1)) s1)

/-- slices.IndexFunc[[]trestle/api.Clause,trestle/api.Clause] -/
def R173 (a0 a1 : Value) (st : St) (Q : Value → St → Prop) : Prop :=
 B (evLenM oT st 74 a0) fun v1 =>
 Lp (L173_0 a0 a1 v1 Q) [(.int .i64 0)] st
theorem r173 {a0 a1 : Value} {st : St} {Q : Value → St → Prop} (h : R173 a0 a1 st Q) : CallP Tryz.prog 173 [a0, a1] st Q :=
  fun_sound oT_ok oS_ok (ann := annL [(0, [8])]) fr173 ((show R173 a0 a1 st Q = denF Tryz.prog oT (annL [(0, [8])]) (rowF Tryz.f173) [a0, a1] st Q by kernel_rfl).mp h)

def L174_0 (a0 : Value) (a1 : Value) (v1 : Value) (Q : Value → St → Prop) : List Value → St → (List Value → St → Prop) → Prop :=
 fun x1 s1 n1 =>
  B (evBin oT .lss 3 (nth x1 0) v1) fun v2 =>
  If v2 (B (evIndexAddr oT 75 a0 (nth x1 0)) fun v3 =>
  B (evLoad oT s1 9 v3) fun v4 =>
  CallV Tryz.prog a1 [v4] s1 fun v5 s2 =>
  If v5 (Q (nth x1 0) s2)
  (B (evBin oT .add 3 (nth x1 0) (.int .i64 1)) fun v6 =>
  n1 [v6] s2))
  (Q (.int .i64 (-1)) s1)

/-- slices.IndexFunc[[]string,string] -/
def R174 (a0 a1 : Value) (st : St) (Q : Value → St → Prop) : Prop :=
 B (evLenM oT st 75 a0) fun v1 =>
 Lp (L174_0 a0 a1 v1 Q) [(.int .i64 0)] st
theorem r174 {a0 a1 : Value} {st : St} {Q : Value → St → Prop} (h : R174 a0 a1 st Q) : CallP Tryz.prog 174 [a0, a1] st Q :=
  fun_sound oT_ok oS_ok (ann := annL [(0, [8])]) fr174 ((show R174 a0 a1 st Q = denF Tryz.prog oT (annL [(0, [8])]) (rowF Tryz.f174) [a0, a1] st Q by kernel_rfl).mp h)

def L175_0 (a0 : Value) (a1 : Value) (v1 : Value) (Q : Value → St → Prop) : List Value → St → (List Value → St → Prop) → Prop :=
 fun x1 s1 n1 =>
  B (evBin oT .lss 3 (nth x1 0) v1) fun v2 =>
  If v2 (B (evIndexAddr oT 23 a0 (nth x1 0)) fun v3 =>
  B (evLoad oT s1 77 v3) fun v4 =>
  CallV Tryz.prog a1 [v4] s1 fun v5 s2 =>
  If v5 (Q (nth x1 0) s2)
  (B (evBin oT .add 3 (nth x1 0) (.int .i64 1)) fun v6 =>
  n1 [v6] s2))
  (Q (.int .i64 (-1)) s1)

/-- slices.IndexFunc[[]trestle/api.Guest,trestle/api.Guest] -/
def R175 (a0 a1 : Value) (st : St) (Q : Value → St → Prop) : Prop :=
 B (evLenM oT st 23 a0) fun v1 =>
 Lp (L175_0 a0 a1 v1 Q) [(.int .i64 0)] st
theorem r175 {a0 a1 : Value} {st : St} {Q : Value → St → Prop} (h : R175 a0 a1 st Q) : CallP Tryz.prog 175 [a0, a1] st Q :=
  fun_sound oT_ok oS_ok (ann := annL [(0, [8])]) fr175 ((show R175 a0 a1 st Q = denF Tryz.prog oT (annL [(0, [8])]) (rowF Tryz.f175) [a0, a1] st Q by kernel_rfl).mp h)

def L176_4 (a0 : Value) (a1 : Value) (Q : Value → St → Prop) : List Value → St → (List Value → St → Prop) → Prop :=
 fun x7 s7 n7 =>
  B (evBin oT .lss 3 (nth x7 0) a1) fun v48 =>
  If v48 (B (evIndexAddr oT 74 a0 (nth x7 0)) fun v49 =>
  B (evFieldAddr oT 171 v49 0) fun v50 =>
  B (evLoad oT s7 169 v50) fun v51 =>
  B (evBin oT .eql 169 v51 (.int .u8 1)) fun v52 =>
  B (Gd v52 true (evIndexAddr oT 74 (Gv v52 true a0) (Gv v52 true (nth x7 0)))) fun v53 =>
  B (Gd v52 true (evFieldAddr oT 171 v53 3)) fun v54 =>
  B (Gd v52 true (evLoad oT s7 75 v54)) fun v55 =>
  B (Gd v52 true (evIndexAddr oT 74 (Gv v52 true a0) (Gv v52 true a1))) fun v56 =>
  B (Gd v52 true (evFieldAddr oT 171 v56 1)) fun v57 =>
  B (Gd v52 true (evLoad oT s7 9 v57)) fun v58 =>
  GC v52 true s7 (CallQ Tryz.prog 257 [v55, v58] s7) fun v59 s8 =>
  B (evPick v52 v59 (.bool false)) fun v60 =>
  If v60 (Q (.int .i64 0) s8)
  (B (evBin oT .add 3 (nth x7 0) (.int .i64 1)) fun v61 =>
  n7 [v61] s8))
  (Q (.int .i64 31) s7)

def L176_2 (a0 : Value) (a1 : Value) (Q : Value → St → Prop) : List Value → St → (List Value → St → Prop) → Prop :=
 fun x5 s5 n5 =>
  B (evIndexAddr oT 74 a0 a1) fun v28 =>
  B (evFieldAddr oT 171 v28 3) fun v29 =>
  B (evLoad oT s5 75 v29) fun v30 =>
  B (evLenM oT s5 75 v30) fun v31 =>
  B (evBin oT .lss 3 (nth x5 0) v31) fun v32 =>
  If v32 (B (evIndexAddr oT 74 a0 a1) fun v33 =>
  B (evFieldAddr oT 171 v33 3) fun v34 =>
  B (evLoad oT s5 75 v34) fun v35 =>
  B (evSlice oT 75 v35 none (some (nth x5 0)) none) fun v36 =>
  B (evIndexAddr oT 74 a0 a1) fun v37 =>
  B (evFieldAddr oT 171 v37 3) fun v38 =>
  B (evLoad oT s5 75 v38) fun v39 =>
  B (evIndexAddr oT 75 v39 (nth x5 0)) fun v40 =>
  B (evLoad oT s5 9 v40) fun v41 =>
  CallQ Tryz.prog 257 [v36, v41] s5 fun v42 s6 =>
  If v42 (Q (.int .i64 5) s6)
  (B (evBin oT .add 3 (nth x5 0) (.int .i64 1)) fun v43 =>
  n5 [v43] s6))
  (B (evIndexAddr oT 74 a0 a1) fun v44 =>
 B (evFieldAddr oT 171 v44 1) fun v45 =>
 B (evLoad oT s5 9 v45) fun v46 =>
 B (evBin oT .eql 9 v46 (.string ⟨⟨[]⟩⟩)) fun v47 =>
 If v47 (Q (.int .i64 0) s5)
 (Lp (L176_4 a0 a1 Q) [(.int .i64 0)] s5))

def L176_0 (a0 : Value) (a1 : Value) (Q : Value → St → Prop) : List Value → St → (List Value → St → Prop) → Prop :=
 fun x3 s3 n3 =>
  B (evIndexAddr oT 74 a0 a1) fun v15 =>
  B (evFieldAddr oT 171 v15 3) fun v16 =>
  B (evLoad oT s3 75 v16) fun v17 =>
  B (evLenM oT s3 75 v17) fun v18 =>
  B (evBin oT .lss 3 (nth x3 0) v18) fun v19 =>
  If v19 (B (evIndexAddr oT 74 a0 a1) fun v20 =>
  B (evFieldAddr oT 171 v20 3) fun v21 =>
  B (evLoad oT s3 75 v21) fun v22 =>
  B (evIndexAddr oT 75 v22 (nth x3 0)) fun v23 =>
  B (evLoad oT s3 9 v23) fun v24 =>
  CallP Tryz.prog 138 [v24] s3 fun v25 s4 =>
  B (evUn .not v25) fun v26 =>
  If v26 (Q (.int .i64 4) s4)
  (B (evBin oT .add 3 (nth x3 0) (.int .i64 1)) fun v27 =>
  n3 [v27] s4))
  (Lp (L176_2 a0 a1 Q) [(.int .i64 0)] s3)

/-- trestle/trestleref03.CheckOne -/
def R176 (a0 a1 : Value) (st : St) (Q : Value → St → Prop) : Prop :=
 B (evIndexAddr oT 74 a0 a1) fun v1 =>
 B (evLoad oT st 171 v1) fun v2 =>
 CallP Tryz.prog 256 [v2] st fun v3 s1 =>
 B (evUn .not v3) fun v4 =>
 If v4 (Q (.int .i64 30) s1)
 (B (evIndexAddr oT 74 a0 a1) fun v5 =>
 B (evFieldAddr oT 171 v5 1) fun v6 =>
 B (evLoad oT s1 9 v6) fun v7 =>
 B (evBin oT .neq 9 v7 (.string ⟨⟨[]⟩⟩)) fun v8 =>
 B (Gd v8 true (evIndexAddr oT 74 (Gv v8 true a0) (Gv v8 true a1))) fun v9 =>
 B (Gd v8 true (evFieldAddr oT 171 v9 1)) fun v10 =>
 B (Gd v8 true (evLoad oT s1 9 v10)) fun v11 =>
 GC v8 true s1 (CallP Tryz.prog 138 [v11] s1) fun v12 s2 =>
 B (Gd v8 true (evUn .not v12)) fun v13 =>
 B (evPick v8 v13 (.bool false)) fun v14 =>
 If v14 (Q (.int .i64 4) s2)
 (Lp (L176_0 a0 a1 Q) [(.int .i64 0)] s2))
theorem r176 {a0 a1 : Value} {st : St} {Q : Value → St → Prop} (h : R176 a0 a1 st Q) : CallP Tryz.prog 176 [a0, a1] st Q :=
  fun_sound oT_ok oS_ok (ann := annL [(0, [5]), (2, [6]), (4, [7])]) fr176 ((show R176 a0 a1 st Q = denF Tryz.prog oT (annL [(0, [5]), (2, [6]), (4, [7])]) (rowF Tryz.f176) [a0, a1] st Q by kernel_rfl).mp h)

def L177_0 (a0 : Value) (v3 : Value) (Q : Value → St → Prop) : List Value → St → (List Value → St → Prop) → Prop :=
 fun x1 s1 n1 =>
  B (evBin oT .lss 3 (nth x1 0) v3) fun v4 =>
  If v4 (B (evIndexAddr oT 74 a0 (nth x1 0)) fun v5 =>
  B (evLoad oT s1 171 v5) fun v6 =>
  B2 (evNew oT s1 171) fun v7 s2 =>
  B2 (evStoreU oT s2 171 v7 v6) fun _ s3 =>
  B (evSlice oT 74 a0 none (some (nth x1 0)) none) fun v9 =>
  B (evLoad oT s3 171 v7) fun v10 =>
  CallQ Tryz.prog 258 [v9, v10] s3 fun v11 s4 =>
  B (evBin oT .neq 33 v11 (.int .i64 0)) fun v12 =>
  If v12 (Q (.tuple ⟨[(nth x1 0), v11]⟩) s4)
  (B (evBin oT .add 3 (nth x1 0) (.int .i64 1)) fun v13 =>
  n1 [v13] s4))
  (Q (.tuple ⟨[(.int .i64 0), (.int .i64 0)]⟩) s1)

/-- trestle/court.Check -/
def R177 (a0 : Value) (st : St) (Q : Value → St → Prop) : Prop :=
 B (evLenM oT st 74 a0) fun v1 =>
 B (evBin oT .gtr 3 v1 (.int .i64 32)) fun v2 =>
 If v2 (Q (.tuple ⟨[(.int .i64 0), (.int .i64 7)]⟩) st)
 (B (evLenM oT st 74 a0) fun v3 =>
 Lp (L177_0 a0 v3 Q) [(.int .i64 0)] st)
theorem r177 {a0 : Value} {st : St} {Q : Value → St → Prop} (h : R177 a0 st Q) : CallP Tryz.prog 177 [a0] st Q :=
  fun_sound oT_ok oS_ok (ann := annL [(0, [12])]) fr177 ((show R177 a0 st Q = denF Tryz.prog oT (annL [(0, [12])]) (rowF Tryz.f177) [a0] st Q by kernel_rfl).mp h)

/-- trestle/court.orderOf -/
def R178 (a0 : Value) (st : St) (Q : Value → St → Prop) : Prop :=
 B2 (evBox st 171 a0) fun v1 s1 =>
 B (evLoad oT s1 171 v1) fun v2 =>
 CallP Tryz.prog 259 [v2] s1 fun v3 s2 =>
 B2 (evNew oT s2 185) fun v4 s3 =>
 B2 (evStoreU oT s3 185 v4 v3) fun _ s4 =>
 Q (.func (.func 260) ⟨[]⟩ ⟨[v1, v4]⟩) s4
theorem r178 {a0 : Value} {st : St} {Q : Value → St → Prop} (h : R178 a0 st Q) : CallP Tryz.prog 178 [a0] st Q :=
  fun_sound oT_ok oS_ok (ann := annL []) fr178 ((show R178 a0 st Q = denF Tryz.prog oT (annL []) (rowF Tryz.f178) [a0] st Q by kernel_rfl).mp h)

def L179_0 (a0 : Value) (a1 : Value) (Q : Value → St → Prop) : List Value → St → (List Value → St → Prop) → Prop :=
 fun x1 s1 n1 =>
  B (evLenM oT s1 75 a0) fun v1 =>
  B (evBin oT .lss 3 (nth x1 0) v1) fun v2 =>
  If v2 (B (evIndexAddr oT 75 a0 (nth x1 0)) fun v3 =>
  B (evLoad oT s1 9 v3) fun v4 =>
  B (evBin oT .eql 9 v4 a1) fun v5 =>
  If v5 (Q (nth x1 0) s1)
  (B (evBin oT .add 3 (nth x1 0) (.int .i64 1)) fun v6 =>
  n1 [v6] s1))
  (B (evLenM oT s1 75 a0) fun v7 =>
 Q v7 s1)

/-- trestle/trestleref03.rank -/
def R179 (a0 a1 : Value) (st : St) (Q : Value → St → Prop) : Prop :=
 Lp (L179_0 a0 a1 Q) [(.int .i64 0)] st
theorem r179 {a0 a1 : Value} {st : St} {Q : Value → St → Prop} (h : R179 a0 a1 st Q) : CallP Tryz.prog 179 [a0, a1] st Q :=
  fun_sound oT_ok oS_ok (ann := annL [(0, [5])]) fr179 ((show R179 a0 a1 st Q = denF Tryz.prog oT (annL [(0, [5])]) (rowF Tryz.f179) [a0, a1] st Q by kernel_rfl).mp h)

/-- trestle/trestleref03.between -/
def R180 (a0 a1 a2 : Value) (st : St) (Q : Value → St → Prop) : Prop :=
 B (evBin oT .leq 3 a1 a0) fun v1 =>
 B (Gd v1 true (evBin oT .leq 3 (Gv v1 true a0) (Gv v1 true a2))) fun v2 =>
 B (evPick v1 v2 (.bool false)) fun v3 =>
 Q v3 st
theorem r180 {a0 a1 a2 : Value} {st : St} {Q : Value → St → Prop} (h : R180 a0 a1 a2 st Q) : CallP Tryz.prog 180 [a0, a1, a2] st Q :=
  fun_sound oT_ok oS_ok (ann := annL []) fr180 ((show R180 a0 a1 a2 st Q = denF Tryz.prog oT (annL []) (rowF Tryz.f180) [a0, a1, a2] st Q by kernel_rfl).mp h)

/-- trestle/trestleref03.key -/
def R181 (a0 a1 : Value) (st : St) (Q : Value → St → Prop) : Prop :=
 B (evBin oT .add 3 a1 a1) fun v1 =>
 B (evBin oT .add 3 v1 (.int .i64 1)) fun v2 =>
 B (evBin oT .mul 3 a0 v2) fun v3 =>
 B (evBin oT .add 3 v3 a1) fun v4 =>
 B (evBin oT .rem 3 v4 (.int .i64 64)) fun v5 =>
 Q v5 st
theorem r181 {a0 a1 : Value} {st : St} {Q : Value → St → Prop} (h : R181 a0 a1 st Q) : CallP Tryz.prog 181 [a0, a1] st Q :=
  fun_sound oT_ok oS_ok (ann := annL []) fr181 ((show R181 a0 a1 st Q = denF Tryz.prog oT (annL []) (rowF Tryz.f181) [a0, a1] st Q by kernel_rfl).mp h)

def L182_1 (v1 : Value) (v2 : Value) (Q : Value → St → Prop) : List Value → St → (List Value → St → Prop) → Prop :=
 fun x4 s4 n4 =>
  B (evFieldAddr oT 77 v2 8) fun v20 =>
  B (evLoad oT s4 75 v20) fun v21 =>
  B (evLenM oT s4 75 v21) fun v22 =>
  B (evBin oT .lss 3 (nth x4 0) v22) fun v23 =>
  If v23 (B (evFieldAddr oT 171 v1 3) fun v24 =>
  B (evLoad oT s4 75 v24) fun v25 =>
  B (evFieldAddr oT 77 v2 8) fun v26 =>
  B (evLoad oT s4 75 v26) fun v27 =>
  B (evIndexAddr oT 75 v27 (nth x4 0)) fun v28 =>
  B (evLoad oT s4 9 v28) fun v29 =>
  CallQ Tryz.prog 257 [v25, v29] s4 fun v30 s5 =>
  If v30 (Q (.bool true) s5)
  (B (evBin oT .add 3 (nth x4 0) (.int .i64 1)) fun v31 =>
  n4 [v31] s5))
  (Q (.bool false) s4)

/-- trestle/trestleref03.named -/
def R182 (a0 a1 : Value) (st : St) (Q : Value → St → Prop) : Prop :=
 B2 (evBox st 171 a0) fun v1 s1 =>
 B2 (evBox s1 77 a1) fun v2 s2 =>
 B (evFieldAddr oT 171 v1 0) fun v3 =>
 B (evLoad oT s2 169 v3) fun v4 =>
 B (evBin oT .eql 169 v4 (.int .u8 4)) fun v5 =>
 If v5 (B (evFieldAddr oT 77 v2 4) fun v6 =>
  B (evLoad oT s2 3 v6) fun v7 =>
  B (evFieldAddr oT 171 v1 4) fun v8 =>
  B (evLoad oT s2 3 v8) fun v9 =>
  B (evBin oT .eql 3 v7 v9) fun v10 =>
  Q v10 s2)
 (B (evBin oT .eql 169 v4 (.int .u8 5)) fun v11 =>
  If v11 (B (evFieldAddr oT 77 v2 6) fun v12 =>
   B (evLoad oT s2 4 v12) fun v13 =>
   Q v13 s2)
  (B (evBin oT .eql 169 v4 (.int .u8 7)) fun v14 =>
   If v14 (B (evFieldAddr oT 171 v1 3) fun v15 =>
    B (evLoad oT s2 75 v15) fun v16 =>
    B (evFieldAddr oT 77 v2 2) fun v17 =>
    B (evLoad oT s2 9 v17) fun v18 =>
    CallP Tryz.prog 257 [v16, v18] s2 fun v19 s3 =>
    Q v19 s3)
   (Lp (L182_1 v1 v2 Q) [(.int .i64 0)] s2)))
theorem r182 {a0 a1 : Value} {st : St} {Q : Value → St → Prop} (h : R182 a0 a1 st Q) : CallP Tryz.prog 182 [a0, a1] st Q :=
  fun_sound oT_ok oS_ok (ann := annL [(1, [5])]) fr182 ((show R182 a0 a1 st Q = denF Tryz.prog oT (annL [(1, [5])]) (rowF Tryz.f182) [a0, a1] st Q by kernel_rfl).mp h)

/-- trestle/trestleref03.formed -/
def R256 (a0 : Value) (st : St) (Q : Value → St → Prop) : Prop :=
 B2 (evBox st 171 a0) fun v1 s1 =>
 B (evFieldAddr oT 171 v1 3) fun v2 =>
 B (evLoad oT s1 75 v2) fun v3 =>
 B (evLenM oT s1 75 v3) fun v4 =>
 B (evFieldAddr oT 171 v1 0) fun v5 =>
 B (evLoad oT s1 169 v5) fun v6 =>
 B (evBin oT .eql 169 v6 (.int .u8 1)) fun v7 =>
 If v7 (CallP Tryz.prog 180 [v4, (.int .i64 1), (.int .i64 16)] s1 fun v8 s2 =>
  B (Gd v8 true (evFieldAddr oT 171 v1 4)) fun v9 =>
  B (Gd v8 true (evLoad oT s2 3 v9)) fun v10 =>
  B (Gd v8 true (evBin oT .eql 3 v10 (.int .i64 0))) fun v11 =>
  B (evPick v8 v11 (.bool false)) fun v12 =>
  B (Gd v12 true (evFieldAddr oT 171 v1 2)) fun v13 =>
  B (Gd v12 true (evLoad oT s2 4 v13)) fun v14 =>
  B (Gd v12 true (evUn .not v14)) fun v15 =>
  B (evPick v12 v15 (.bool false)) fun v16 =>
  B (Gd v16 true (evFieldAddr oT 171 v1 1)) fun v17 =>
  B (Gd v16 true (evLoad oT s2 9 v17)) fun v18 =>
  B (Gd v16 true (evBin oT .eql 9 v18 (.string ⟨⟨[]⟩⟩))) fun v19 =>
  B (evPick v16 v19 (.bool false)) fun v20 =>
  Q v20 s2)
 (B (evBin oT .eql 169 v6 (.int .u8 2)) fun v21 =>
  If v21 (If v21 (B (evBin oT .eql 3 v4 (.int .i64 0)) fun v22 =>
   B (Gd v22 true (evFieldAddr oT 171 v1 4)) fun v23 =>
   B (Gd v22 true (evLoad oT s1 3 v23)) fun v24 =>
   B (Gd v22 true (evBin oT .eql 3 v24 (.int .i64 0))) fun v25 =>
   B (evPick v22 v25 (.bool false)) fun v26 =>
   B (Gd v26 true (evFieldAddr oT 171 v1 2)) fun v27 =>
   B (Gd v26 true (evLoad oT s1 4 v27)) fun v28 =>
   B (Gd v26 true (evUn .not v28)) fun v29 =>
   B (evPick v26 v29 (.bool false)) fun v30 =>
   Q v30 s1)
  (B (evBin oT .eql 169 v6 (.int .u8 4)) fun v31 =>
   If v31 (B (evBin oT .eql 3 v4 (.int .i64 0)) fun v32 =>
    B (Gd v32 true (evFieldAddr oT 171 v1 4)) fun v33 =>
    B (Gd v32 true (evLoad oT s1 3 v33)) fun v34 =>
    GC v32 true s1 (CallP Tryz.prog 180 [v34, (.int .i64 1), (.int .i64 2)] s1) fun v35 s3 =>
    B (evPick v32 v35 (.bool false)) fun v36 =>
    Q v36 s3)
   (B (evBin oT .eql 169 v6 (.int .u8 5)) fun v37 =>
    If v37 (B (evBin oT .eql 3 v4 (.int .i64 0)) fun v38 =>
     B (Gd v38 true (evFieldAddr oT 171 v1 4)) fun v39 =>
     B (Gd v38 true (evLoad oT s1 3 v39)) fun v40 =>
     B (Gd v38 true (evBin oT .eql 3 v40 (.int .i64 0))) fun v41 =>
     B (evPick v38 v41 (.bool false)) fun v42 =>
     Q v42 s1)
    (B (evBin oT .eql 169 v6 (.int .u8 6)) fun v43 =>
     If v43 (If v43 (CallP Tryz.prog 180 [v4, (.int .i64 1), (.int .i64 16)] s1 fun v44 s4 =>
      B (Gd v44 true (evFieldAddr oT 171 v1 4)) fun v45 =>
      B (Gd v44 true (evLoad oT s4 3 v45)) fun v46 =>
      B (Gd v44 true (evBin oT .eql 3 v46 (.int .i64 0))) fun v47 =>
      B (evPick v44 v47 (.bool false)) fun v48 =>
      Q v48 s4)
     (B (evBin oT .eql 169 v6 (.int .u8 10)) fun v49 =>
      If v49 (B (evBin oT .eql 3 v4 (.int .i64 0)) fun v50 =>
       B (Gd v50 true (evFieldAddr oT 171 v1 4)) fun v51 =>
       B (Gd v50 true (evLoad oT s1 3 v51)) fun v52 =>
       GC v50 true s1 (CallP Tryz.prog 180 [v52, (.int .i64 0), (.int .i64 63)] s1) fun v53 s5 =>
       B (evPick v50 v53 (.bool false)) fun v54 =>
       B (Gd v54 true (evFieldAddr oT 171 v1 2)) fun v55 =>
       B (Gd v54 true (evLoad oT s5 4 v55)) fun v56 =>
       B (Gd v54 true (evUn .not v56)) fun v57 =>
       B (evPick v54 v57 (.bool false)) fun v58 =>
       Q v58 s5)
      (Q (.bool false) s1)))
     (B (evBin oT .eql 169 v6 (.int .u8 7)) fun v59 =>
      If v59 (CallP Tryz.prog 180 [v4, (.int .i64 1), (.int .i64 16)] s1 fun v60 s6 =>
      B (Gd v60 true (evFieldAddr oT 171 v1 4)) fun v61 =>
      B (Gd v60 true (evLoad oT s6 3 v61)) fun v62 =>
      B (Gd v60 true (evBin oT .eql 3 v62 (.int .i64 0))) fun v63 =>
      B (evPick v60 v63 (.bool false)) fun v64 =>
      Q v64 s6)
     (B (evBin oT .eql 169 v6 (.int .u8 10)) fun v65 =>
      If v65 (B (evBin oT .eql 3 v4 (.int .i64 0)) fun v66 =>
       B (Gd v66 true (evFieldAddr oT 171 v1 4)) fun v67 =>
       B (Gd v66 true (evLoad oT s1 3 v67)) fun v68 =>
       GC v66 true s1 (CallP Tryz.prog 180 [v68, (.int .i64 0), (.int .i64 63)] s1) fun v69 s7 =>
       B (evPick v66 v69 (.bool false)) fun v70 =>
       B (Gd v70 true (evFieldAddr oT 171 v1 2)) fun v71 =>
       B (Gd v70 true (evLoad oT s7 4 v71)) fun v72 =>
       B (Gd v70 true (evUn .not v72)) fun v73 =>
       B (evPick v70 v73 (.bool false)) fun v74 =>
       Q v74 s7)
      (Q (.bool false) s1)))))))
  (B (evBin oT .eql 169 v6 (.int .u8 3)) fun v75 =>
   If v75 (If v75 (B (evBin oT .eql 3 v4 (.int .i64 0)) fun v76 =>
   B (Gd v76 true (evFieldAddr oT 171 v1 4)) fun v77 =>
   B (Gd v76 true (evLoad oT s1 3 v77)) fun v78 =>
   B (Gd v76 true (evBin oT .eql 3 v78 (.int .i64 0))) fun v79 =>
   B (evPick v76 v79 (.bool false)) fun v80 =>
   B (Gd v80 true (evFieldAddr oT 171 v1 2)) fun v81 =>
   B (Gd v80 true (evLoad oT s1 4 v81)) fun v82 =>
   B (Gd v80 true (evUn .not v82)) fun v83 =>
   B (evPick v80 v83 (.bool false)) fun v84 =>
   Q v84 s1)
  (B (evBin oT .eql 169 v6 (.int .u8 4)) fun v85 =>
   If v85 (B (evBin oT .eql 3 v4 (.int .i64 0)) fun v86 =>
    B (Gd v86 true (evFieldAddr oT 171 v1 4)) fun v87 =>
    B (Gd v86 true (evLoad oT s1 3 v87)) fun v88 =>
    GC v86 true s1 (CallP Tryz.prog 180 [v88, (.int .i64 1), (.int .i64 2)] s1) fun v89 s8 =>
    B (evPick v86 v89 (.bool false)) fun v90 =>
    Q v90 s8)
   (B (evBin oT .eql 169 v6 (.int .u8 5)) fun v91 =>
    If v91 (B (evBin oT .eql 3 v4 (.int .i64 0)) fun v92 =>
     B (Gd v92 true (evFieldAddr oT 171 v1 4)) fun v93 =>
     B (Gd v92 true (evLoad oT s1 3 v93)) fun v94 =>
     B (Gd v92 true (evBin oT .eql 3 v94 (.int .i64 0))) fun v95 =>
     B (evPick v92 v95 (.bool false)) fun v96 =>
     Q v96 s1)
    (B (evBin oT .eql 169 v6 (.int .u8 6)) fun v97 =>
     If v97 (If v97 (CallP Tryz.prog 180 [v4, (.int .i64 1), (.int .i64 16)] s1 fun v98 s9 =>
      B (Gd v98 true (evFieldAddr oT 171 v1 4)) fun v99 =>
      B (Gd v98 true (evLoad oT s9 3 v99)) fun v100 =>
      B (Gd v98 true (evBin oT .eql 3 v100 (.int .i64 0))) fun v101 =>
      B (evPick v98 v101 (.bool false)) fun v102 =>
      Q v102 s9)
     (B (evBin oT .eql 169 v6 (.int .u8 10)) fun v103 =>
      If v103 (B (evBin oT .eql 3 v4 (.int .i64 0)) fun v104 =>
       B (Gd v104 true (evFieldAddr oT 171 v1 4)) fun v105 =>
       B (Gd v104 true (evLoad oT s1 3 v105)) fun v106 =>
       GC v104 true s1 (CallP Tryz.prog 180 [v106, (.int .i64 0), (.int .i64 63)] s1) fun v107 s10 =>
       B (evPick v104 v107 (.bool false)) fun v108 =>
       B (Gd v108 true (evFieldAddr oT 171 v1 2)) fun v109 =>
       B (Gd v108 true (evLoad oT s10 4 v109)) fun v110 =>
       B (Gd v108 true (evUn .not v110)) fun v111 =>
       B (evPick v108 v111 (.bool false)) fun v112 =>
       Q v112 s10)
      (Q (.bool false) s1)))
     (B (evBin oT .eql 169 v6 (.int .u8 7)) fun v113 =>
      If v113 (CallP Tryz.prog 180 [v4, (.int .i64 1), (.int .i64 16)] s1 fun v114 s11 =>
      B (Gd v114 true (evFieldAddr oT 171 v1 4)) fun v115 =>
      B (Gd v114 true (evLoad oT s11 3 v115)) fun v116 =>
      B (Gd v114 true (evBin oT .eql 3 v116 (.int .i64 0))) fun v117 =>
      B (evPick v114 v117 (.bool false)) fun v118 =>
      Q v118 s11)
     (B (evBin oT .eql 169 v6 (.int .u8 10)) fun v119 =>
      If v119 (B (evBin oT .eql 3 v4 (.int .i64 0)) fun v120 =>
       B (Gd v120 true (evFieldAddr oT 171 v1 4)) fun v121 =>
       B (Gd v120 true (evLoad oT s1 3 v121)) fun v122 =>
       GC v120 true s1 (CallP Tryz.prog 180 [v122, (.int .i64 0), (.int .i64 63)] s1) fun v123 s12 =>
       B (evPick v120 v123 (.bool false)) fun v124 =>
       B (Gd v124 true (evFieldAddr oT 171 v1 2)) fun v125 =>
       B (Gd v124 true (evLoad oT s12 4 v125)) fun v126 =>
       B (Gd v124 true (evUn .not v126)) fun v127 =>
       B (evPick v124 v127 (.bool false)) fun v128 =>
       Q v128 s12)
      (Q (.bool false) s1)))))))
   (B (evBin oT .eql 169 v6 (.int .u8 8)) fun v129 =>
    If v129 (If v129 (B (evBin oT .eql 3 v4 (.int .i64 0)) fun v130 =>
   B (Gd v130 true (evFieldAddr oT 171 v1 4)) fun v131 =>
   B (Gd v130 true (evLoad oT s1 3 v131)) fun v132 =>
   B (Gd v130 true (evBin oT .eql 3 v132 (.int .i64 0))) fun v133 =>
   B (evPick v130 v133 (.bool false)) fun v134 =>
   B (Gd v134 true (evFieldAddr oT 171 v1 2)) fun v135 =>
   B (Gd v134 true (evLoad oT s1 4 v135)) fun v136 =>
   B (Gd v134 true (evUn .not v136)) fun v137 =>
   B (evPick v134 v137 (.bool false)) fun v138 =>
   Q v138 s1)
  (B (evBin oT .eql 169 v6 (.int .u8 4)) fun v139 =>
   If v139 (B (evBin oT .eql 3 v4 (.int .i64 0)) fun v140 =>
    B (Gd v140 true (evFieldAddr oT 171 v1 4)) fun v141 =>
    B (Gd v140 true (evLoad oT s1 3 v141)) fun v142 =>
    GC v140 true s1 (CallP Tryz.prog 180 [v142, (.int .i64 1), (.int .i64 2)] s1) fun v143 s13 =>
    B (evPick v140 v143 (.bool false)) fun v144 =>
    Q v144 s13)
   (B (evBin oT .eql 169 v6 (.int .u8 5)) fun v145 =>
    If v145 (B (evBin oT .eql 3 v4 (.int .i64 0)) fun v146 =>
     B (Gd v146 true (evFieldAddr oT 171 v1 4)) fun v147 =>
     B (Gd v146 true (evLoad oT s1 3 v147)) fun v148 =>
     B (Gd v146 true (evBin oT .eql 3 v148 (.int .i64 0))) fun v149 =>
     B (evPick v146 v149 (.bool false)) fun v150 =>
     Q v150 s1)
    (B (evBin oT .eql 169 v6 (.int .u8 6)) fun v151 =>
     If v151 (If v151 (CallP Tryz.prog 180 [v4, (.int .i64 1), (.int .i64 16)] s1 fun v152 s14 =>
      B (Gd v152 true (evFieldAddr oT 171 v1 4)) fun v153 =>
      B (Gd v152 true (evLoad oT s14 3 v153)) fun v154 =>
      B (Gd v152 true (evBin oT .eql 3 v154 (.int .i64 0))) fun v155 =>
      B (evPick v152 v155 (.bool false)) fun v156 =>
      Q v156 s14)
     (B (evBin oT .eql 169 v6 (.int .u8 10)) fun v157 =>
      If v157 (B (evBin oT .eql 3 v4 (.int .i64 0)) fun v158 =>
       B (Gd v158 true (evFieldAddr oT 171 v1 4)) fun v159 =>
       B (Gd v158 true (evLoad oT s1 3 v159)) fun v160 =>
       GC v158 true s1 (CallP Tryz.prog 180 [v160, (.int .i64 0), (.int .i64 63)] s1) fun v161 s15 =>
       B (evPick v158 v161 (.bool false)) fun v162 =>
       B (Gd v162 true (evFieldAddr oT 171 v1 2)) fun v163 =>
       B (Gd v162 true (evLoad oT s15 4 v163)) fun v164 =>
       B (Gd v162 true (evUn .not v164)) fun v165 =>
       B (evPick v162 v165 (.bool false)) fun v166 =>
       Q v166 s15)
      (Q (.bool false) s1)))
     (B (evBin oT .eql 169 v6 (.int .u8 7)) fun v167 =>
      If v167 (CallP Tryz.prog 180 [v4, (.int .i64 1), (.int .i64 16)] s1 fun v168 s16 =>
      B (Gd v168 true (evFieldAddr oT 171 v1 4)) fun v169 =>
      B (Gd v168 true (evLoad oT s16 3 v169)) fun v170 =>
      B (Gd v168 true (evBin oT .eql 3 v170 (.int .i64 0))) fun v171 =>
      B (evPick v168 v171 (.bool false)) fun v172 =>
      Q v172 s16)
     (B (evBin oT .eql 169 v6 (.int .u8 10)) fun v173 =>
      If v173 (B (evBin oT .eql 3 v4 (.int .i64 0)) fun v174 =>
       B (Gd v174 true (evFieldAddr oT 171 v1 4)) fun v175 =>
       B (Gd v174 true (evLoad oT s1 3 v175)) fun v176 =>
       GC v174 true s1 (CallP Tryz.prog 180 [v176, (.int .i64 0), (.int .i64 63)] s1) fun v177 s17 =>
       B (evPick v174 v177 (.bool false)) fun v178 =>
       B (Gd v178 true (evFieldAddr oT 171 v1 2)) fun v179 =>
       B (Gd v178 true (evLoad oT s17 4 v179)) fun v180 =>
       B (Gd v178 true (evUn .not v180)) fun v181 =>
       B (evPick v178 v181 (.bool false)) fun v182 =>
       Q v182 s17)
      (Q (.bool false) s1)))))))
    (B (evBin oT .eql 169 v6 (.int .u8 9)) fun v183 =>
     If v183 (B (evBin oT .eql 3 v4 (.int .i64 0)) fun v184 =>
   B (Gd v184 true (evFieldAddr oT 171 v1 4)) fun v185 =>
   B (Gd v184 true (evLoad oT s1 3 v185)) fun v186 =>
   B (Gd v184 true (evBin oT .eql 3 v186 (.int .i64 0))) fun v187 =>
   B (evPick v184 v187 (.bool false)) fun v188 =>
   B (Gd v188 true (evFieldAddr oT 171 v1 2)) fun v189 =>
   B (Gd v188 true (evLoad oT s1 4 v189)) fun v190 =>
   B (Gd v188 true (evUn .not v190)) fun v191 =>
   B (evPick v188 v191 (.bool false)) fun v192 =>
   Q v192 s1)
  (B (evBin oT .eql 169 v6 (.int .u8 4)) fun v193 =>
   If v193 (B (evBin oT .eql 3 v4 (.int .i64 0)) fun v194 =>
    B (Gd v194 true (evFieldAddr oT 171 v1 4)) fun v195 =>
    B (Gd v194 true (evLoad oT s1 3 v195)) fun v196 =>
    GC v194 true s1 (CallP Tryz.prog 180 [v196, (.int .i64 1), (.int .i64 2)] s1) fun v197 s18 =>
    B (evPick v194 v197 (.bool false)) fun v198 =>
    Q v198 s18)
   (B (evBin oT .eql 169 v6 (.int .u8 5)) fun v199 =>
    If v199 (B (evBin oT .eql 3 v4 (.int .i64 0)) fun v200 =>
     B (Gd v200 true (evFieldAddr oT 171 v1 4)) fun v201 =>
     B (Gd v200 true (evLoad oT s1 3 v201)) fun v202 =>
     B (Gd v200 true (evBin oT .eql 3 v202 (.int .i64 0))) fun v203 =>
     B (evPick v200 v203 (.bool false)) fun v204 =>
     Q v204 s1)
    (B (evBin oT .eql 169 v6 (.int .u8 6)) fun v205 =>
     If v205 (If v205 (CallP Tryz.prog 180 [v4, (.int .i64 1), (.int .i64 16)] s1 fun v206 s19 =>
      B (Gd v206 true (evFieldAddr oT 171 v1 4)) fun v207 =>
      B (Gd v206 true (evLoad oT s19 3 v207)) fun v208 =>
      B (Gd v206 true (evBin oT .eql 3 v208 (.int .i64 0))) fun v209 =>
      B (evPick v206 v209 (.bool false)) fun v210 =>
      Q v210 s19)
     (B (evBin oT .eql 169 v6 (.int .u8 10)) fun v211 =>
      If v211 (B (evBin oT .eql 3 v4 (.int .i64 0)) fun v212 =>
       B (Gd v212 true (evFieldAddr oT 171 v1 4)) fun v213 =>
       B (Gd v212 true (evLoad oT s1 3 v213)) fun v214 =>
       GC v212 true s1 (CallP Tryz.prog 180 [v214, (.int .i64 0), (.int .i64 63)] s1) fun v215 s20 =>
       B (evPick v212 v215 (.bool false)) fun v216 =>
       B (Gd v216 true (evFieldAddr oT 171 v1 2)) fun v217 =>
       B (Gd v216 true (evLoad oT s20 4 v217)) fun v218 =>
       B (Gd v216 true (evUn .not v218)) fun v219 =>
       B (evPick v216 v219 (.bool false)) fun v220 =>
       Q v220 s20)
      (Q (.bool false) s1)))
     (B (evBin oT .eql 169 v6 (.int .u8 7)) fun v221 =>
      If v221 (CallP Tryz.prog 180 [v4, (.int .i64 1), (.int .i64 16)] s1 fun v222 s21 =>
      B (Gd v222 true (evFieldAddr oT 171 v1 4)) fun v223 =>
      B (Gd v222 true (evLoad oT s21 3 v223)) fun v224 =>
      B (Gd v222 true (evBin oT .eql 3 v224 (.int .i64 0))) fun v225 =>
      B (evPick v222 v225 (.bool false)) fun v226 =>
      Q v226 s21)
     (B (evBin oT .eql 169 v6 (.int .u8 10)) fun v227 =>
      If v227 (B (evBin oT .eql 3 v4 (.int .i64 0)) fun v228 =>
       B (Gd v228 true (evFieldAddr oT 171 v1 4)) fun v229 =>
       B (Gd v228 true (evLoad oT s1 3 v229)) fun v230 =>
       GC v228 true s1 (CallP Tryz.prog 180 [v230, (.int .i64 0), (.int .i64 63)] s1) fun v231 s22 =>
       B (evPick v228 v231 (.bool false)) fun v232 =>
       B (Gd v232 true (evFieldAddr oT 171 v1 2)) fun v233 =>
       B (Gd v232 true (evLoad oT s22 4 v233)) fun v234 =>
       B (Gd v232 true (evUn .not v234)) fun v235 =>
       B (evPick v232 v235 (.bool false)) fun v236 =>
       Q v236 s22)
      (Q (.bool false) s1))))))))))
theorem r256 {a0 : Value} {st : St} {Q : Value → St → Prop} (h : R256 a0 st Q) : CallP Tryz.prog 256 [a0] st Q :=
  fun_sound oT_ok oS_ok (ann := annL []) fr256 ((show R256 a0 st Q = denF Tryz.prog oT (annL []) (rowF Tryz.f256) [a0] st Q by kernel_rfl).mp h)

def L257_0 (a0 : Value) (a1 : Value) (Q : Value → St → Prop) : List Value → St → (List Value → St → Prop) → Prop :=
 fun x1 s1 n1 =>
  B (evLenM oT s1 75 a0) fun v1 =>
  B (evBin oT .lss 3 (nth x1 0) v1) fun v2 =>
  If v2 (B (evIndexAddr oT 75 a0 (nth x1 0)) fun v3 =>
  B (evLoad oT s1 9 v3) fun v4 =>
  B (evBin oT .eql 9 v4 a1) fun v5 =>
  If v5 (Q (.bool true) s1)
  (B (evBin oT .add 3 (nth x1 0) (.int .i64 1)) fun v6 =>
  n1 [v6] s1))
  (Q (.bool false) s1)

/-- trestle/trestleref03.has -/
def R257 (a0 a1 : Value) (st : St) (Q : Value → St → Prop) : Prop :=
 Lp (L257_0 a0 a1 Q) [(.int .i64 0)] st
theorem r257 {a0 a1 : Value} {st : St} {Q : Value → St → Prop} (h : R257 a0 a1 st Q) : CallP Tryz.prog 257 [a0, a1] st Q :=
  fun_sound oT_ok oS_ok (ann := annL [(0, [5])]) fr257 ((show R257 a0 a1 st Q = denF Tryz.prog oT (annL [(0, [5])]) (rowF Tryz.f257) [a0, a1] st Q by kernel_rfl).mp h)

def L258_0 (a0 : Value) (v1 : Value) (v18 : Value) (v19 : Value) (Q : Value → St → Prop) : List Value → St → (List Value → St → Prop) → Prop :=
 fun x5 s5 n5 =>
  B (evBin oT .lss 3 (nth x5 0) v19) fun v20 =>
  If v20 (B (evIndexAddr oT 75 v18 (nth x5 0)) fun v21 =>
  B (evLoad oT s5 9 v21) fun v22 =>
  B (evFieldAddr oT 171 v1 3) fun v23 =>
  B (evLoad oT s5 75 v23) fun v24 =>
  B (evSlice oT 75 v24 none (some (nth x5 0)) none) fun v25 =>
  CallP Tryz.prog 323 [v25, v22] s5 fun v26 s6 =>
  If v26 (Q (.int .i64 5) s6)
  (B (evBin oT .add 3 (nth x5 0) (.int .i64 1)) fun v27 =>
  n5 [v27] s6))
  (B (evFieldAddr oT 171 v1 1) fun v28 =>
 B (evLoad oT s5 9 v28) fun v29 =>
 B (evBin oT .eql 9 v29 (.string ⟨⟨[]⟩⟩)) fun v30 =>
 GC v30 false s5 (CallP Tryz.prog 97 [(Gv v30 false a0), (Gv v30 false (.func (.func 332) ⟨[]⟩ ⟨[v1]⟩))] s5) fun v31 s7 =>
 B (evPick v30 (.bool true) v31) fun v32 =>
 If v32 (Q (.int .i64 0) s7)
 (Q (.int .i64 31) s7))

/-- trestle/court.check -/
def R258 (a0 a1 : Value) (st : St) (Q : Value → St → Prop) : Prop :=
 B2 (evBox st 171 a1) fun v1 s1 =>
 B (evLoad oT s1 171 v1) fun v2 =>
 CallP Tryz.prog 329 [v2] s1 fun v3 s2 =>
 B (evUn .not v3) fun v4 =>
 If v4 (Q (.int .i64 30) s2)
 (B (evFieldAddr oT 171 v1 1) fun v5 =>
 B (evLoad oT s2 9 v5) fun v6 =>
 B (evBin oT .neq 9 v6 (.string ⟨⟨[]⟩⟩)) fun v7 =>
 B (Gd v7 true (evFieldAddr oT 171 v1 1)) fun v8 =>
 B (Gd v7 true (evLoad oT s2 9 v8)) fun v9 =>
 GC v7 true s2 (CallP Tryz.prog 330 [v9] s2) fun v10 s3 =>
 B (Gd v7 true (evUn .not v10)) fun v11 =>
 B (evPick v7 v11 (.bool false)) fun v12 =>
 B (Gd v12 false (evFieldAddr oT 171 v1 3)) fun v13 =>
 B (Gd v12 false (evLoad oT s3 75 v13)) fun v14 =>
 GC v12 false s3 (CallP Tryz.prog 99 [v14, (.func (.func 331) #[] #[])] s3) fun v15 s4 =>
 B (evPick v12 (.bool true) v15) fun v16 =>
 If v16 (Q (.int .i64 4) s4)
 (B (evFieldAddr oT 171 v1 3) fun v17 =>
 B (evLoad oT s4 75 v17) fun v18 =>
 B (evLenM oT s4 75 v18) fun v19 =>
 Lp (L258_0 a0 v1 v18 v19 Q) [(.int .i64 0)] s4))
theorem r258 {a0 a1 : Value} {st : St} {Q : Value → St → Prop} (h : R258 a0 a1 st Q) : CallP Tryz.prog 258 [a0, a1] st Q :=
  fun_sound oT_ok oS_ok (ann := annL [(0, [27])]) fr258 ((show R258 a0 a1 st Q = denF Tryz.prog oT (annL [(0, [27])]) (rowF Tryz.f258) [a0, a1] st Q by kernel_rfl).mp h)

/-- trestle/court.plain -/
def R259 (a0 : Value) (st : St) (Q : Value → St → Prop) : Prop :=
 B2 (evBox st 171 a0) fun v1 s1 =>
 B (evFieldAddr oT 171 v1 0) fun v2 =>
 B (evLoad oT s1 169 v2) fun v3 =>
 B (evBin oT .eql 169 v3 (.int .u8 1)) fun v4 =>
 If v4 (CallP Tryz.prog 333 [(.func (.func 334) ⟨[]⟩ ⟨[v1]⟩)] s1 fun v5 s2 =>
  Q v5 s2)
 (B (evBin oT .eql 169 v3 (.int .u8 2)) fun v6 =>
  If v6 (If v6 (Q (.func (.func 336) ⟨[]⟩ ⟨[v1]⟩) s1)
  (B (evBin oT .eql 169 v3 (.int .u8 4)) fun v7 =>
   If v7 (B (evLoad oT s1 171 v1) fun v8 =>
    CallP Tryz.prog 339 [v8, (.func (.func 340) ⟨[]⟩ ⟨[v1]⟩)] s1 fun v9 s3 =>
    Q v9 s3)
   (B (evBin oT .eql 169 v3 (.int .u8 5)) fun v10 =>
    If v10 (B (evLoad oT s1 171 v1) fun v11 =>
     CallP Tryz.prog 339 [v11, (.func (.func 341) #[] #[])] s1 fun v12 s4 =>
     Q v12 s4)
    (B (evBin oT .eql 169 v3 (.int .u8 6)) fun v13 =>
     If v13 (B (evLoad oT s1 171 v1) fun v14 =>
      CallP Tryz.prog 339 [v14, (.func (.func 342) ⟨[]⟩ ⟨[v1]⟩)] s1 fun v15 s5 =>
      Q v15 s5)
     (B (evBin oT .eql 169 v3 (.int .u8 7)) fun v16 =>
      If v16 (B (evLoad oT s1 171 v1) fun v17 =>
       CallP Tryz.prog 339 [v17, (.func (.func 344) ⟨[]⟩ ⟨[v1]⟩)] s1 fun v18 s6 =>
       Q v18 s6)
      (B (evBin oT .eql 169 v3 (.int .u8 8)) fun v19 =>
       If v19 (Q (.func (.func 345) #[] #[]) s1)
       (B (evBin oT .eql 169 v3 (.int .u8 10)) fun v20 =>
        If v20 (CallP Tryz.prog 347 [(.func (.func 348) ⟨[]⟩ ⟨[v1]⟩)] s1 fun v21 s7 =>
         Q v21 s7)
        (CallP Tryz.prog 347 [(.func (.func 349) #[] #[])] s1 fun v22 s8 =>
 Q v22 s8))))))))
  (B (evBin oT .eql 169 v3 (.int .u8 3)) fun v23 =>
   If v23 (Q (.func (.func 336) ⟨[]⟩ ⟨[v1]⟩) s1)
  (B (evBin oT .eql 169 v3 (.int .u8 4)) fun v24 =>
   If v24 (B (evLoad oT s1 171 v1) fun v25 =>
    CallP Tryz.prog 339 [v25, (.func (.func 340) ⟨[]⟩ ⟨[v1]⟩)] s1 fun v26 s9 =>
    Q v26 s9)
   (B (evBin oT .eql 169 v3 (.int .u8 5)) fun v27 =>
    If v27 (B (evLoad oT s1 171 v1) fun v28 =>
     CallP Tryz.prog 339 [v28, (.func (.func 341) #[] #[])] s1 fun v29 s10 =>
     Q v29 s10)
    (B (evBin oT .eql 169 v3 (.int .u8 6)) fun v30 =>
     If v30 (B (evLoad oT s1 171 v1) fun v31 =>
      CallP Tryz.prog 339 [v31, (.func (.func 342) ⟨[]⟩ ⟨[v1]⟩)] s1 fun v32 s11 =>
      Q v32 s11)
     (B (evBin oT .eql 169 v3 (.int .u8 7)) fun v33 =>
      If v33 (B (evLoad oT s1 171 v1) fun v34 =>
       CallP Tryz.prog 339 [v34, (.func (.func 344) ⟨[]⟩ ⟨[v1]⟩)] s1 fun v35 s12 =>
       Q v35 s12)
      (B (evBin oT .eql 169 v3 (.int .u8 8)) fun v36 =>
       If v36 (Q (.func (.func 345) #[] #[]) s1)
       (B (evBin oT .eql 169 v3 (.int .u8 10)) fun v37 =>
        If v37 (CallP Tryz.prog 347 [(.func (.func 348) ⟨[]⟩ ⟨[v1]⟩)] s1 fun v38 s13 =>
         Q v38 s13)
        (CallP Tryz.prog 347 [(.func (.func 349) #[] #[])] s1 fun v39 s14 =>
 Q v39 s14)))))))))
theorem r259 {a0 : Value} {st : St} {Q : Value → St → Prop} (h : R259 a0 st Q) : CallP Tryz.prog 259 [a0] st Q :=
  fun_sound oT_ok oS_ok (ann := annL []) fr259 ((show R259 a0 st Q = denF Tryz.prog oT (annL []) (rowF Tryz.f259) [a0] st Q by kernel_rfl).mp h)

/-- trestle/court.orderOf$1 -/
def R260 (a0 a1 a2 a3 : Value) (st : St) (Q : Value → St → Prop) : Prop :=
 B2 (evBox st 183 a0) fun v1 s1 =>
 B2 (evBox s1 183 a1) fun v2 s2 =>
 B (evFieldAddr oT 171 a2 1) fun v3 =>
 B (evLoad oT s2 9 v3) fun v4 =>
 B (evBin oT .neq 9 v4 (.string ⟨⟨[]⟩⟩)) fun v5 =>
 B (Gd v5 true (evFieldAddr oT 183 v1 0)) fun v6 =>
 B (Gd v5 true (evFieldAddr oT 77 v6 1)) fun v7 =>
 B (Gd v5 true (evLoad oT s2 9 v7)) fun v8 =>
 B (Gd v5 true (evFieldAddr oT 171 a2 1)) fun v9 =>
 B (Gd v5 true (evLoad oT s2 9 v9)) fun v10 =>
 B (Gd v5 true (evBin oT .neq 9 v8 v10)) fun v11 =>
 B (Gd (Gv v5 true v11) false (evFieldAddr oT 183 v2 0)) fun v12 =>
 B (Gd (Gv v5 true v11) false (evFieldAddr oT 77 v12 1)) fun v13 =>
 B (Gd (Gv v5 true v11) false (evLoad oT s2 9 v13)) fun v14 =>
 B (Gd (Gv v5 true v11) false (evFieldAddr oT 171 a2 1)) fun v15 =>
 B (Gd (Gv v5 true v11) false (evLoad oT s2 9 v15)) fun v16 =>
 B (Gd (Gv v5 true v11) false (evBin oT .neq 9 v14 v16)) fun v17 =>
 B (Gd v5 true (evPick (Gv v5 true v11) (.bool true) v17)) fun v18 =>
 B (evPick v5 v18 (.bool false)) fun v19 =>
 If v19 (Q (.int .i64 0) s2)
 (B (evLoad oT s2 185 a3) fun v20 =>
 B (evLoad oT s2 183 v1) fun v21 =>
 B (evLoad oT s2 183 v2) fun v22 =>
 CallV Tryz.prog v20 [v21, v22] s2 fun v23 s3 =>
 Q v23 s3)
theorem r260 {a0 a1 a2 a3 : Value} {st : St} {Q : Value → St → Prop} (h : R260 a0 a1 a2 a3 st Q) : CallP Tryz.prog 260 [a0, a1, a2, a3] st Q :=
  fun_sound oT_ok oS_ok (ann := annL []) fr260 ((show R260 a0 a1 a2 a3 st Q = denF Tryz.prog oT (annL []) (rowF Tryz.f260) [a0, a1, a2, a3] st Q by kernel_rfl).mp h)

/-- slices.Contains[[]string,string] -/
def R323 (a0 a1 : Value) (st : St) (Q : Value → St → Prop) : Prop :=
 CallP Tryz.prog 335 [a0, a1] st fun v1 s1 =>
 B (evBin oT .geq 3 v1 (.int .i64 0)) fun v2 =>
 Q v2 s1
theorem r323 {a0 a1 : Value} {st : St} {Q : Value → St → Prop} (h : R323 a0 a1 st Q) : CallP Tryz.prog 323 [a0, a1] st Q :=
  fun_sound oT_ok oS_ok (ann := annL []) fr323 ((show R323 a0 a1 st Q = denF Tryz.prog oT (annL []) (rowF Tryz.f323) [a0, a1] st Q by kernel_rfl).mp h)

/-- trestle/court.formed -/
def R329 (a0 : Value) (st : St) (Q : Value → St → Prop) : Prop :=
 B2 (evBox st 171 a0) fun v1 s1 =>
 B (evFieldAddr oT 171 v1 0) fun v2 =>
 B (evLoad oT s1 169 v2) fun v3 =>
 B (evBin oT .eql 169 v3 (.int .u8 1)) fun v4 =>
 If v4 (B (evFieldAddr oT 171 v1 1) fun v5 =>
  B (evLoad oT s1 9 v5) fun v6 =>
  B (evBin oT .neq 9 v6 (.string ⟨⟨[]⟩⟩)) fun v7 =>
  If v7 (Q (.bool false) s1)
  (B (evFieldAddr oT 171 v1 3) fun v8 =>
 B (evLoad oT s1 75 v8) fun v9 =>
 B (evLenM oT s1 75 v9) fun v10 =>
 B (evBin oT .leq 3 v10 (.int .i64 16)) fun v11 =>
 B (Gd v11 true (evBin oT .eql 3 (Gv v11 true (.int .i64 16)) (.int .i64 0))) fun v12 =>
 B (Gd (Gv v11 true v12) false (evFieldAddr oT 171 v1 3)) fun v13 =>
 B (Gd (Gv v11 true v12) false (evLoad oT s1 75 v13)) fun v14 =>
 B (Gd (Gv v11 true v12) false (evLenM oT s1 75 v14)) fun v15 =>
 B (Gd (Gv v11 true v12) false (evBin oT .gtr 3 v15 (.int .i64 0))) fun v16 =>
 B (Gd v11 true (evPick (Gv v11 true v12) (.bool true) v16)) fun v17 =>
 B (evPick v11 v17 (.bool false)) fun v18 =>
 B (Gd v18 true (evFieldAddr oT 171 v1 4)) fun v19 =>
 B (Gd v18 true (evLoad oT s1 3 v19)) fun v20 =>
 B (Gd v18 true (evBin oT .geq 3 v20 (Gv v18 true (.int .i64 0)))) fun v21 =>
 B (evPick v18 v21 (.bool false)) fun v22 =>
 B (Gd v22 true (evFieldAddr oT 171 v1 4)) fun v23 =>
 B (Gd v22 true (evLoad oT s1 3 v23)) fun v24 =>
 B (Gd v22 true (evBin oT .leq 3 v24 (Gv v22 true (.int .i64 0)))) fun v25 =>
 B (evPick v22 v25 (.bool false)) fun v26 =>
 B (Gd (Gv v26 true (Gv v26 true (.bool false))) false (evFieldAddr oT 171 v1 2)) fun v27 =>
 B (Gd (Gv v26 true (Gv v26 true (.bool false))) false (evLoad oT s1 4 v27)) fun v28 =>
 B (Gd (Gv v26 true (Gv v26 true (.bool false))) false (evUn .not v28)) fun v29 =>
 B (Gd v26 true (evPick (Gv v26 true (Gv v26 true (.bool false))) (.bool true) v29)) fun v30 =>
 B (evPick v26 v30 (.bool false)) fun v31 =>
 Q v31 s1))
 (B (evBin oT .eql 169 v3 (.int .u8 2)) fun v32 =>
  If v32 (If v32 (B (evFieldAddr oT 171 v1 3) fun v33 =>
 B (evLoad oT s1 75 v33) fun v34 =>
 B (evLenM oT s1 75 v34) fun v35 =>
 B (evBin oT .leq 3 v35 (.int .i64 0)) fun v36 =>
 B (Gd v36 true (evBin oT .eql 3 (Gv v36 true (.int .i64 0)) (.int .i64 0))) fun v37 =>
 B (Gd (Gv v36 true v37) false (evFieldAddr oT 171 v1 3)) fun v38 =>
 B (Gd (Gv v36 true v37) false (evLoad oT s1 75 v38)) fun v39 =>
 B (Gd (Gv v36 true v37) false (evLenM oT s1 75 v39)) fun v40 =>
 B (Gd (Gv v36 true v37) false (evBin oT .gtr 3 v40 (.int .i64 0))) fun v41 =>
 B (Gd v36 true (evPick (Gv v36 true v37) (.bool true) v41)) fun v42 =>
 B (evPick v36 v42 (.bool false)) fun v43 =>
 B (Gd v43 true (evFieldAddr oT 171 v1 4)) fun v44 =>
 B (Gd v43 true (evLoad oT s1 3 v44)) fun v45 =>
 B (Gd v43 true (evBin oT .geq 3 v45 (Gv v43 true (.int .i64 0)))) fun v46 =>
 B (evPick v43 v46 (.bool false)) fun v47 =>
 B (Gd v47 true (evFieldAddr oT 171 v1 4)) fun v48 =>
 B (Gd v47 true (evLoad oT s1 3 v48)) fun v49 =>
 B (Gd v47 true (evBin oT .leq 3 v49 (Gv v47 true (.int .i64 0)))) fun v50 =>
 B (evPick v47 v50 (.bool false)) fun v51 =>
 B (Gd (Gv v51 true (Gv v51 true (.bool false))) false (evFieldAddr oT 171 v1 2)) fun v52 =>
 B (Gd (Gv v51 true (Gv v51 true (.bool false))) false (evLoad oT s1 4 v52)) fun v53 =>
 B (Gd (Gv v51 true (Gv v51 true (.bool false))) false (evUn .not v53)) fun v54 =>
 B (Gd v51 true (evPick (Gv v51 true (Gv v51 true (.bool false))) (.bool true) v54)) fun v55 =>
 B (evPick v51 v55 (.bool false)) fun v56 =>
 Q v56 s1)
  (B (evBin oT .eql 169 v3 (.int .u8 4)) fun v57 =>
   If v57 (B (evFieldAddr oT 171 v1 3) fun v58 =>
 B (evLoad oT s1 75 v58) fun v59 =>
 B (evLenM oT s1 75 v59) fun v60 =>
 B (evBin oT .leq 3 v60 (.int .i64 0)) fun v61 =>
 B (Gd v61 true (evBin oT .eql 3 (Gv v61 true (.int .i64 0)) (.int .i64 0))) fun v62 =>
 B (Gd (Gv v61 true v62) false (evFieldAddr oT 171 v1 3)) fun v63 =>
 B (Gd (Gv v61 true v62) false (evLoad oT s1 75 v63)) fun v64 =>
 B (Gd (Gv v61 true v62) false (evLenM oT s1 75 v64)) fun v65 =>
 B (Gd (Gv v61 true v62) false (evBin oT .gtr 3 v65 (.int .i64 0))) fun v66 =>
 B (Gd v61 true (evPick (Gv v61 true v62) (.bool true) v66)) fun v67 =>
 B (evPick v61 v67 (.bool false)) fun v68 =>
 B (Gd v68 true (evFieldAddr oT 171 v1 4)) fun v69 =>
 B (Gd v68 true (evLoad oT s1 3 v69)) fun v70 =>
 B (Gd v68 true (evBin oT .geq 3 v70 (Gv v68 true (.int .i64 1)))) fun v71 =>
 B (evPick v68 v71 (.bool false)) fun v72 =>
 B (Gd v72 true (evFieldAddr oT 171 v1 4)) fun v73 =>
 B (Gd v72 true (evLoad oT s1 3 v73)) fun v74 =>
 B (Gd v72 true (evBin oT .leq 3 v74 (Gv v72 true (.int .i64 2)))) fun v75 =>
 B (evPick v72 v75 (.bool false)) fun v76 =>
 B (Gd (Gv v76 true (Gv v76 true (.bool true))) false (evFieldAddr oT 171 v1 2)) fun v77 =>
 B (Gd (Gv v76 true (Gv v76 true (.bool true))) false (evLoad oT s1 4 v77)) fun v78 =>
 B (Gd (Gv v76 true (Gv v76 true (.bool true))) false (evUn .not v78)) fun v79 =>
 B (Gd v76 true (evPick (Gv v76 true (Gv v76 true (.bool true))) (.bool true) v79)) fun v80 =>
 B (evPick v76 v80 (.bool false)) fun v81 =>
 Q v81 s1)
   (B (evBin oT .eql 169 v3 (.int .u8 5)) fun v82 =>
    If v82 (B (evFieldAddr oT 171 v1 3) fun v83 =>
 B (evLoad oT s1 75 v83) fun v84 =>
 B (evLenM oT s1 75 v84) fun v85 =>
 B (evBin oT .leq 3 v85 (.int .i64 0)) fun v86 =>
 B (Gd v86 true (evBin oT .eql 3 (Gv v86 true (.int .i64 0)) (.int .i64 0))) fun v87 =>
 B (Gd (Gv v86 true v87) false (evFieldAddr oT 171 v1 3)) fun v88 =>
 B (Gd (Gv v86 true v87) false (evLoad oT s1 75 v88)) fun v89 =>
 B (Gd (Gv v86 true v87) false (evLenM oT s1 75 v89)) fun v90 =>
 B (Gd (Gv v86 true v87) false (evBin oT .gtr 3 v90 (.int .i64 0))) fun v91 =>
 B (Gd v86 true (evPick (Gv v86 true v87) (.bool true) v91)) fun v92 =>
 B (evPick v86 v92 (.bool false)) fun v93 =>
 B (Gd v93 true (evFieldAddr oT 171 v1 4)) fun v94 =>
 B (Gd v93 true (evLoad oT s1 3 v94)) fun v95 =>
 B (Gd v93 true (evBin oT .geq 3 v95 (Gv v93 true (.int .i64 0)))) fun v96 =>
 B (evPick v93 v96 (.bool false)) fun v97 =>
 B (Gd v97 true (evFieldAddr oT 171 v1 4)) fun v98 =>
 B (Gd v97 true (evLoad oT s1 3 v98)) fun v99 =>
 B (Gd v97 true (evBin oT .leq 3 v99 (Gv v97 true (.int .i64 0)))) fun v100 =>
 B (evPick v97 v100 (.bool false)) fun v101 =>
 B (Gd (Gv v101 true (Gv v101 true (.bool true))) false (evFieldAddr oT 171 v1 2)) fun v102 =>
 B (Gd (Gv v101 true (Gv v101 true (.bool true))) false (evLoad oT s1 4 v102)) fun v103 =>
 B (Gd (Gv v101 true (Gv v101 true (.bool true))) false (evUn .not v103)) fun v104 =>
 B (Gd v101 true (evPick (Gv v101 true (Gv v101 true (.bool true))) (.bool true) v104)) fun v105 =>
 B (evPick v101 v105 (.bool false)) fun v106 =>
 Q v106 s1)
    (B (evBin oT .eql 169 v3 (.int .u8 6)) fun v107 =>
     If v107 (If v107 (B (evFieldAddr oT 171 v1 3) fun v108 =>
 B (evLoad oT s1 75 v108) fun v109 =>
 B (evLenM oT s1 75 v109) fun v110 =>
 B (evBin oT .leq 3 v110 (.int .i64 16)) fun v111 =>
 B (Gd v111 true (evBin oT .eql 3 (Gv v111 true (.int .i64 16)) (.int .i64 0))) fun v112 =>
 B (Gd (Gv v111 true v112) false (evFieldAddr oT 171 v1 3)) fun v113 =>
 B (Gd (Gv v111 true v112) false (evLoad oT s1 75 v113)) fun v114 =>
 B (Gd (Gv v111 true v112) false (evLenM oT s1 75 v114)) fun v115 =>
 B (Gd (Gv v111 true v112) false (evBin oT .gtr 3 v115 (.int .i64 0))) fun v116 =>
 B (Gd v111 true (evPick (Gv v111 true v112) (.bool true) v116)) fun v117 =>
 B (evPick v111 v117 (.bool false)) fun v118 =>
 B (Gd v118 true (evFieldAddr oT 171 v1 4)) fun v119 =>
 B (Gd v118 true (evLoad oT s1 3 v119)) fun v120 =>
 B (Gd v118 true (evBin oT .geq 3 v120 (Gv v118 true (.int .i64 0)))) fun v121 =>
 B (evPick v118 v121 (.bool false)) fun v122 =>
 B (Gd v122 true (evFieldAddr oT 171 v1 4)) fun v123 =>
 B (Gd v122 true (evLoad oT s1 3 v123)) fun v124 =>
 B (Gd v122 true (evBin oT .leq 3 v124 (Gv v122 true (.int .i64 0)))) fun v125 =>
 B (evPick v122 v125 (.bool false)) fun v126 =>
 B (Gd (Gv v126 true (Gv v126 true (.bool true))) false (evFieldAddr oT 171 v1 2)) fun v127 =>
 B (Gd (Gv v126 true (Gv v126 true (.bool true))) false (evLoad oT s1 4 v127)) fun v128 =>
 B (Gd (Gv v126 true (Gv v126 true (.bool true))) false (evUn .not v128)) fun v129 =>
 B (Gd v126 true (evPick (Gv v126 true (Gv v126 true (.bool true))) (.bool true) v129)) fun v130 =>
 B (evPick v126 v130 (.bool false)) fun v131 =>
 Q v131 s1)
     (B (evBin oT .eql 169 v3 (.int .u8 10)) fun v132 =>
      If v132 (B (evFieldAddr oT 171 v1 3) fun v133 =>
 B (evLoad oT s1 75 v133) fun v134 =>
 B (evLenM oT s1 75 v134) fun v135 =>
 B (evBin oT .leq 3 v135 (.int .i64 0)) fun v136 =>
 B (Gd v136 true (evBin oT .eql 3 (Gv v136 true (.int .i64 0)) (.int .i64 0))) fun v137 =>
 B (Gd (Gv v136 true v137) false (evFieldAddr oT 171 v1 3)) fun v138 =>
 B (Gd (Gv v136 true v137) false (evLoad oT s1 75 v138)) fun v139 =>
 B (Gd (Gv v136 true v137) false (evLenM oT s1 75 v139)) fun v140 =>
 B (Gd (Gv v136 true v137) false (evBin oT .gtr 3 v140 (.int .i64 0))) fun v141 =>
 B (Gd v136 true (evPick (Gv v136 true v137) (.bool true) v141)) fun v142 =>
 B (evPick v136 v142 (.bool false)) fun v143 =>
 B (Gd v143 true (evFieldAddr oT 171 v1 4)) fun v144 =>
 B (Gd v143 true (evLoad oT s1 3 v144)) fun v145 =>
 B (Gd v143 true (evBin oT .geq 3 v145 (Gv v143 true (.int .i64 0)))) fun v146 =>
 B (evPick v143 v146 (.bool false)) fun v147 =>
 B (Gd v147 true (evFieldAddr oT 171 v1 4)) fun v148 =>
 B (Gd v147 true (evLoad oT s1 3 v148)) fun v149 =>
 B (Gd v147 true (evBin oT .leq 3 v149 (Gv v147 true (.int .i64 63)))) fun v150 =>
 B (evPick v147 v150 (.bool false)) fun v151 =>
 B (Gd (Gv v151 true (Gv v151 true (.bool false))) false (evFieldAddr oT 171 v1 2)) fun v152 =>
 B (Gd (Gv v151 true (Gv v151 true (.bool false))) false (evLoad oT s1 4 v152)) fun v153 =>
 B (Gd (Gv v151 true (Gv v151 true (.bool false))) false (evUn .not v153)) fun v154 =>
 B (Gd v151 true (evPick (Gv v151 true (Gv v151 true (.bool false))) (.bool true) v154)) fun v155 =>
 B (evPick v151 v155 (.bool false)) fun v156 =>
 Q v156 s1)
      (Q (.bool false) s1)))
     (B (evBin oT .eql 169 v3 (.int .u8 7)) fun v157 =>
      If v157 (B (evFieldAddr oT 171 v1 3) fun v158 =>
 B (evLoad oT s1 75 v158) fun v159 =>
 B (evLenM oT s1 75 v159) fun v160 =>
 B (evBin oT .leq 3 v160 (.int .i64 16)) fun v161 =>
 B (Gd v161 true (evBin oT .eql 3 (Gv v161 true (.int .i64 16)) (.int .i64 0))) fun v162 =>
 B (Gd (Gv v161 true v162) false (evFieldAddr oT 171 v1 3)) fun v163 =>
 B (Gd (Gv v161 true v162) false (evLoad oT s1 75 v163)) fun v164 =>
 B (Gd (Gv v161 true v162) false (evLenM oT s1 75 v164)) fun v165 =>
 B (Gd (Gv v161 true v162) false (evBin oT .gtr 3 v165 (.int .i64 0))) fun v166 =>
 B (Gd v161 true (evPick (Gv v161 true v162) (.bool true) v166)) fun v167 =>
 B (evPick v161 v167 (.bool false)) fun v168 =>
 B (Gd v168 true (evFieldAddr oT 171 v1 4)) fun v169 =>
 B (Gd v168 true (evLoad oT s1 3 v169)) fun v170 =>
 B (Gd v168 true (evBin oT .geq 3 v170 (Gv v168 true (.int .i64 0)))) fun v171 =>
 B (evPick v168 v171 (.bool false)) fun v172 =>
 B (Gd v172 true (evFieldAddr oT 171 v1 4)) fun v173 =>
 B (Gd v172 true (evLoad oT s1 3 v173)) fun v174 =>
 B (Gd v172 true (evBin oT .leq 3 v174 (Gv v172 true (.int .i64 0)))) fun v175 =>
 B (evPick v172 v175 (.bool false)) fun v176 =>
 B (Gd (Gv v176 true (Gv v176 true (.bool true))) false (evFieldAddr oT 171 v1 2)) fun v177 =>
 B (Gd (Gv v176 true (Gv v176 true (.bool true))) false (evLoad oT s1 4 v177)) fun v178 =>
 B (Gd (Gv v176 true (Gv v176 true (.bool true))) false (evUn .not v178)) fun v179 =>
 B (Gd v176 true (evPick (Gv v176 true (Gv v176 true (.bool true))) (.bool true) v179)) fun v180 =>
 B (evPick v176 v180 (.bool false)) fun v181 =>
 Q v181 s1)
     (B (evBin oT .eql 169 v3 (.int .u8 10)) fun v182 =>
      If v182 (B (evFieldAddr oT 171 v1 3) fun v183 =>
 B (evLoad oT s1 75 v183) fun v184 =>
 B (evLenM oT s1 75 v184) fun v185 =>
 B (evBin oT .leq 3 v185 (.int .i64 0)) fun v186 =>
 B (Gd v186 true (evBin oT .eql 3 (Gv v186 true (.int .i64 0)) (.int .i64 0))) fun v187 =>
 B (Gd (Gv v186 true v187) false (evFieldAddr oT 171 v1 3)) fun v188 =>
 B (Gd (Gv v186 true v187) false (evLoad oT s1 75 v188)) fun v189 =>
 B (Gd (Gv v186 true v187) false (evLenM oT s1 75 v189)) fun v190 =>
 B (Gd (Gv v186 true v187) false (evBin oT .gtr 3 v190 (.int .i64 0))) fun v191 =>
 B (Gd v186 true (evPick (Gv v186 true v187) (.bool true) v191)) fun v192 =>
 B (evPick v186 v192 (.bool false)) fun v193 =>
 B (Gd v193 true (evFieldAddr oT 171 v1 4)) fun v194 =>
 B (Gd v193 true (evLoad oT s1 3 v194)) fun v195 =>
 B (Gd v193 true (evBin oT .geq 3 v195 (Gv v193 true (.int .i64 0)))) fun v196 =>
 B (evPick v193 v196 (.bool false)) fun v197 =>
 B (Gd v197 true (evFieldAddr oT 171 v1 4)) fun v198 =>
 B (Gd v197 true (evLoad oT s1 3 v198)) fun v199 =>
 B (Gd v197 true (evBin oT .leq 3 v199 (Gv v197 true (.int .i64 63)))) fun v200 =>
 B (evPick v197 v200 (.bool false)) fun v201 =>
 B (Gd (Gv v201 true (Gv v201 true (.bool false))) false (evFieldAddr oT 171 v1 2)) fun v202 =>
 B (Gd (Gv v201 true (Gv v201 true (.bool false))) false (evLoad oT s1 4 v202)) fun v203 =>
 B (Gd (Gv v201 true (Gv v201 true (.bool false))) false (evUn .not v203)) fun v204 =>
 B (Gd v201 true (evPick (Gv v201 true (Gv v201 true (.bool false))) (.bool true) v204)) fun v205 =>
 B (evPick v201 v205 (.bool false)) fun v206 =>
 Q v206 s1)
      (Q (.bool false) s1)))))))
  (B (evBin oT .eql 169 v3 (.int .u8 3)) fun v207 =>
   If v207 (If v207 (B (evFieldAddr oT 171 v1 3) fun v208 =>
 B (evLoad oT s1 75 v208) fun v209 =>
 B (evLenM oT s1 75 v209) fun v210 =>
 B (evBin oT .leq 3 v210 (.int .i64 0)) fun v211 =>
 B (Gd v211 true (evBin oT .eql 3 (Gv v211 true (.int .i64 0)) (.int .i64 0))) fun v212 =>
 B (Gd (Gv v211 true v212) false (evFieldAddr oT 171 v1 3)) fun v213 =>
 B (Gd (Gv v211 true v212) false (evLoad oT s1 75 v213)) fun v214 =>
 B (Gd (Gv v211 true v212) false (evLenM oT s1 75 v214)) fun v215 =>
 B (Gd (Gv v211 true v212) false (evBin oT .gtr 3 v215 (.int .i64 0))) fun v216 =>
 B (Gd v211 true (evPick (Gv v211 true v212) (.bool true) v216)) fun v217 =>
 B (evPick v211 v217 (.bool false)) fun v218 =>
 B (Gd v218 true (evFieldAddr oT 171 v1 4)) fun v219 =>
 B (Gd v218 true (evLoad oT s1 3 v219)) fun v220 =>
 B (Gd v218 true (evBin oT .geq 3 v220 (Gv v218 true (.int .i64 0)))) fun v221 =>
 B (evPick v218 v221 (.bool false)) fun v222 =>
 B (Gd v222 true (evFieldAddr oT 171 v1 4)) fun v223 =>
 B (Gd v222 true (evLoad oT s1 3 v223)) fun v224 =>
 B (Gd v222 true (evBin oT .leq 3 v224 (Gv v222 true (.int .i64 0)))) fun v225 =>
 B (evPick v222 v225 (.bool false)) fun v226 =>
 B (Gd (Gv v226 true (Gv v226 true (.bool false))) false (evFieldAddr oT 171 v1 2)) fun v227 =>
 B (Gd (Gv v226 true (Gv v226 true (.bool false))) false (evLoad oT s1 4 v227)) fun v228 =>
 B (Gd (Gv v226 true (Gv v226 true (.bool false))) false (evUn .not v228)) fun v229 =>
 B (Gd v226 true (evPick (Gv v226 true (Gv v226 true (.bool false))) (.bool true) v229)) fun v230 =>
 B (evPick v226 v230 (.bool false)) fun v231 =>
 Q v231 s1)
  (B (evBin oT .eql 169 v3 (.int .u8 4)) fun v232 =>
   If v232 (B (evFieldAddr oT 171 v1 3) fun v233 =>
 B (evLoad oT s1 75 v233) fun v234 =>
 B (evLenM oT s1 75 v234) fun v235 =>
 B (evBin oT .leq 3 v235 (.int .i64 0)) fun v236 =>
 B (Gd v236 true (evBin oT .eql 3 (Gv v236 true (.int .i64 0)) (.int .i64 0))) fun v237 =>
 B (Gd (Gv v236 true v237) false (evFieldAddr oT 171 v1 3)) fun v238 =>
 B (Gd (Gv v236 true v237) false (evLoad oT s1 75 v238)) fun v239 =>
 B (Gd (Gv v236 true v237) false (evLenM oT s1 75 v239)) fun v240 =>
 B (Gd (Gv v236 true v237) false (evBin oT .gtr 3 v240 (.int .i64 0))) fun v241 =>
 B (Gd v236 true (evPick (Gv v236 true v237) (.bool true) v241)) fun v242 =>
 B (evPick v236 v242 (.bool false)) fun v243 =>
 B (Gd v243 true (evFieldAddr oT 171 v1 4)) fun v244 =>
 B (Gd v243 true (evLoad oT s1 3 v244)) fun v245 =>
 B (Gd v243 true (evBin oT .geq 3 v245 (Gv v243 true (.int .i64 1)))) fun v246 =>
 B (evPick v243 v246 (.bool false)) fun v247 =>
 B (Gd v247 true (evFieldAddr oT 171 v1 4)) fun v248 =>
 B (Gd v247 true (evLoad oT s1 3 v248)) fun v249 =>
 B (Gd v247 true (evBin oT .leq 3 v249 (Gv v247 true (.int .i64 2)))) fun v250 =>
 B (evPick v247 v250 (.bool false)) fun v251 =>
 B (Gd (Gv v251 true (Gv v251 true (.bool true))) false (evFieldAddr oT 171 v1 2)) fun v252 =>
 B (Gd (Gv v251 true (Gv v251 true (.bool true))) false (evLoad oT s1 4 v252)) fun v253 =>
 B (Gd (Gv v251 true (Gv v251 true (.bool true))) false (evUn .not v253)) fun v254 =>
 B (Gd v251 true (evPick (Gv v251 true (Gv v251 true (.bool true))) (.bool true) v254)) fun v255 =>
 B (evPick v251 v255 (.bool false)) fun v256 =>
 Q v256 s1)
   (B (evBin oT .eql 169 v3 (.int .u8 5)) fun v257 =>
    If v257 (B (evFieldAddr oT 171 v1 3) fun v258 =>
 B (evLoad oT s1 75 v258) fun v259 =>
 B (evLenM oT s1 75 v259) fun v260 =>
 B (evBin oT .leq 3 v260 (.int .i64 0)) fun v261 =>
 B (Gd v261 true (evBin oT .eql 3 (Gv v261 true (.int .i64 0)) (.int .i64 0))) fun v262 =>
 B (Gd (Gv v261 true v262) false (evFieldAddr oT 171 v1 3)) fun v263 =>
 B (Gd (Gv v261 true v262) false (evLoad oT s1 75 v263)) fun v264 =>
 B (Gd (Gv v261 true v262) false (evLenM oT s1 75 v264)) fun v265 =>
 B (Gd (Gv v261 true v262) false (evBin oT .gtr 3 v265 (.int .i64 0))) fun v266 =>
 B (Gd v261 true (evPick (Gv v261 true v262) (.bool true) v266)) fun v267 =>
 B (evPick v261 v267 (.bool false)) fun v268 =>
 B (Gd v268 true (evFieldAddr oT 171 v1 4)) fun v269 =>
 B (Gd v268 true (evLoad oT s1 3 v269)) fun v270 =>
 B (Gd v268 true (evBin oT .geq 3 v270 (Gv v268 true (.int .i64 0)))) fun v271 =>
 B (evPick v268 v271 (.bool false)) fun v272 =>
 B (Gd v272 true (evFieldAddr oT 171 v1 4)) fun v273 =>
 B (Gd v272 true (evLoad oT s1 3 v273)) fun v274 =>
 B (Gd v272 true (evBin oT .leq 3 v274 (Gv v272 true (.int .i64 0)))) fun v275 =>
 B (evPick v272 v275 (.bool false)) fun v276 =>
 B (Gd (Gv v276 true (Gv v276 true (.bool true))) false (evFieldAddr oT 171 v1 2)) fun v277 =>
 B (Gd (Gv v276 true (Gv v276 true (.bool true))) false (evLoad oT s1 4 v277)) fun v278 =>
 B (Gd (Gv v276 true (Gv v276 true (.bool true))) false (evUn .not v278)) fun v279 =>
 B (Gd v276 true (evPick (Gv v276 true (Gv v276 true (.bool true))) (.bool true) v279)) fun v280 =>
 B (evPick v276 v280 (.bool false)) fun v281 =>
 Q v281 s1)
    (B (evBin oT .eql 169 v3 (.int .u8 6)) fun v282 =>
     If v282 (If v282 (B (evFieldAddr oT 171 v1 3) fun v283 =>
 B (evLoad oT s1 75 v283) fun v284 =>
 B (evLenM oT s1 75 v284) fun v285 =>
 B (evBin oT .leq 3 v285 (.int .i64 16)) fun v286 =>
 B (Gd v286 true (evBin oT .eql 3 (Gv v286 true (.int .i64 16)) (.int .i64 0))) fun v287 =>
 B (Gd (Gv v286 true v287) false (evFieldAddr oT 171 v1 3)) fun v288 =>
 B (Gd (Gv v286 true v287) false (evLoad oT s1 75 v288)) fun v289 =>
 B (Gd (Gv v286 true v287) false (evLenM oT s1 75 v289)) fun v290 =>
 B (Gd (Gv v286 true v287) false (evBin oT .gtr 3 v290 (.int .i64 0))) fun v291 =>
 B (Gd v286 true (evPick (Gv v286 true v287) (.bool true) v291)) fun v292 =>
 B (evPick v286 v292 (.bool false)) fun v293 =>
 B (Gd v293 true (evFieldAddr oT 171 v1 4)) fun v294 =>
 B (Gd v293 true (evLoad oT s1 3 v294)) fun v295 =>
 B (Gd v293 true (evBin oT .geq 3 v295 (Gv v293 true (.int .i64 0)))) fun v296 =>
 B (evPick v293 v296 (.bool false)) fun v297 =>
 B (Gd v297 true (evFieldAddr oT 171 v1 4)) fun v298 =>
 B (Gd v297 true (evLoad oT s1 3 v298)) fun v299 =>
 B (Gd v297 true (evBin oT .leq 3 v299 (Gv v297 true (.int .i64 0)))) fun v300 =>
 B (evPick v297 v300 (.bool false)) fun v301 =>
 B (Gd (Gv v301 true (Gv v301 true (.bool true))) false (evFieldAddr oT 171 v1 2)) fun v302 =>
 B (Gd (Gv v301 true (Gv v301 true (.bool true))) false (evLoad oT s1 4 v302)) fun v303 =>
 B (Gd (Gv v301 true (Gv v301 true (.bool true))) false (evUn .not v303)) fun v304 =>
 B (Gd v301 true (evPick (Gv v301 true (Gv v301 true (.bool true))) (.bool true) v304)) fun v305 =>
 B (evPick v301 v305 (.bool false)) fun v306 =>
 Q v306 s1)
     (B (evBin oT .eql 169 v3 (.int .u8 10)) fun v307 =>
      If v307 (B (evFieldAddr oT 171 v1 3) fun v308 =>
 B (evLoad oT s1 75 v308) fun v309 =>
 B (evLenM oT s1 75 v309) fun v310 =>
 B (evBin oT .leq 3 v310 (.int .i64 0)) fun v311 =>
 B (Gd v311 true (evBin oT .eql 3 (Gv v311 true (.int .i64 0)) (.int .i64 0))) fun v312 =>
 B (Gd (Gv v311 true v312) false (evFieldAddr oT 171 v1 3)) fun v313 =>
 B (Gd (Gv v311 true v312) false (evLoad oT s1 75 v313)) fun v314 =>
 B (Gd (Gv v311 true v312) false (evLenM oT s1 75 v314)) fun v315 =>
 B (Gd (Gv v311 true v312) false (evBin oT .gtr 3 v315 (.int .i64 0))) fun v316 =>
 B (Gd v311 true (evPick (Gv v311 true v312) (.bool true) v316)) fun v317 =>
 B (evPick v311 v317 (.bool false)) fun v318 =>
 B (Gd v318 true (evFieldAddr oT 171 v1 4)) fun v319 =>
 B (Gd v318 true (evLoad oT s1 3 v319)) fun v320 =>
 B (Gd v318 true (evBin oT .geq 3 v320 (Gv v318 true (.int .i64 0)))) fun v321 =>
 B (evPick v318 v321 (.bool false)) fun v322 =>
 B (Gd v322 true (evFieldAddr oT 171 v1 4)) fun v323 =>
 B (Gd v322 true (evLoad oT s1 3 v323)) fun v324 =>
 B (Gd v322 true (evBin oT .leq 3 v324 (Gv v322 true (.int .i64 63)))) fun v325 =>
 B (evPick v322 v325 (.bool false)) fun v326 =>
 B (Gd (Gv v326 true (Gv v326 true (.bool false))) false (evFieldAddr oT 171 v1 2)) fun v327 =>
 B (Gd (Gv v326 true (Gv v326 true (.bool false))) false (evLoad oT s1 4 v327)) fun v328 =>
 B (Gd (Gv v326 true (Gv v326 true (.bool false))) false (evUn .not v328)) fun v329 =>
 B (Gd v326 true (evPick (Gv v326 true (Gv v326 true (.bool false))) (.bool true) v329)) fun v330 =>
 B (evPick v326 v330 (.bool false)) fun v331 =>
 Q v331 s1)
      (Q (.bool false) s1)))
     (B (evBin oT .eql 169 v3 (.int .u8 7)) fun v332 =>
      If v332 (B (evFieldAddr oT 171 v1 3) fun v333 =>
 B (evLoad oT s1 75 v333) fun v334 =>
 B (evLenM oT s1 75 v334) fun v335 =>
 B (evBin oT .leq 3 v335 (.int .i64 16)) fun v336 =>
 B (Gd v336 true (evBin oT .eql 3 (Gv v336 true (.int .i64 16)) (.int .i64 0))) fun v337 =>
 B (Gd (Gv v336 true v337) false (evFieldAddr oT 171 v1 3)) fun v338 =>
 B (Gd (Gv v336 true v337) false (evLoad oT s1 75 v338)) fun v339 =>
 B (Gd (Gv v336 true v337) false (evLenM oT s1 75 v339)) fun v340 =>
 B (Gd (Gv v336 true v337) false (evBin oT .gtr 3 v340 (.int .i64 0))) fun v341 =>
 B (Gd v336 true (evPick (Gv v336 true v337) (.bool true) v341)) fun v342 =>
 B (evPick v336 v342 (.bool false)) fun v343 =>
 B (Gd v343 true (evFieldAddr oT 171 v1 4)) fun v344 =>
 B (Gd v343 true (evLoad oT s1 3 v344)) fun v345 =>
 B (Gd v343 true (evBin oT .geq 3 v345 (Gv v343 true (.int .i64 0)))) fun v346 =>
 B (evPick v343 v346 (.bool false)) fun v347 =>
 B (Gd v347 true (evFieldAddr oT 171 v1 4)) fun v348 =>
 B (Gd v347 true (evLoad oT s1 3 v348)) fun v349 =>
 B (Gd v347 true (evBin oT .leq 3 v349 (Gv v347 true (.int .i64 0)))) fun v350 =>
 B (evPick v347 v350 (.bool false)) fun v351 =>
 B (Gd (Gv v351 true (Gv v351 true (.bool true))) false (evFieldAddr oT 171 v1 2)) fun v352 =>
 B (Gd (Gv v351 true (Gv v351 true (.bool true))) false (evLoad oT s1 4 v352)) fun v353 =>
 B (Gd (Gv v351 true (Gv v351 true (.bool true))) false (evUn .not v353)) fun v354 =>
 B (Gd v351 true (evPick (Gv v351 true (Gv v351 true (.bool true))) (.bool true) v354)) fun v355 =>
 B (evPick v351 v355 (.bool false)) fun v356 =>
 Q v356 s1)
     (B (evBin oT .eql 169 v3 (.int .u8 10)) fun v357 =>
      If v357 (B (evFieldAddr oT 171 v1 3) fun v358 =>
 B (evLoad oT s1 75 v358) fun v359 =>
 B (evLenM oT s1 75 v359) fun v360 =>
 B (evBin oT .leq 3 v360 (.int .i64 0)) fun v361 =>
 B (Gd v361 true (evBin oT .eql 3 (Gv v361 true (.int .i64 0)) (.int .i64 0))) fun v362 =>
 B (Gd (Gv v361 true v362) false (evFieldAddr oT 171 v1 3)) fun v363 =>
 B (Gd (Gv v361 true v362) false (evLoad oT s1 75 v363)) fun v364 =>
 B (Gd (Gv v361 true v362) false (evLenM oT s1 75 v364)) fun v365 =>
 B (Gd (Gv v361 true v362) false (evBin oT .gtr 3 v365 (.int .i64 0))) fun v366 =>
 B (Gd v361 true (evPick (Gv v361 true v362) (.bool true) v366)) fun v367 =>
 B (evPick v361 v367 (.bool false)) fun v368 =>
 B (Gd v368 true (evFieldAddr oT 171 v1 4)) fun v369 =>
 B (Gd v368 true (evLoad oT s1 3 v369)) fun v370 =>
 B (Gd v368 true (evBin oT .geq 3 v370 (Gv v368 true (.int .i64 0)))) fun v371 =>
 B (evPick v368 v371 (.bool false)) fun v372 =>
 B (Gd v372 true (evFieldAddr oT 171 v1 4)) fun v373 =>
 B (Gd v372 true (evLoad oT s1 3 v373)) fun v374 =>
 B (Gd v372 true (evBin oT .leq 3 v374 (Gv v372 true (.int .i64 63)))) fun v375 =>
 B (evPick v372 v375 (.bool false)) fun v376 =>
 B (Gd (Gv v376 true (Gv v376 true (.bool false))) false (evFieldAddr oT 171 v1 2)) fun v377 =>
 B (Gd (Gv v376 true (Gv v376 true (.bool false))) false (evLoad oT s1 4 v377)) fun v378 =>
 B (Gd (Gv v376 true (Gv v376 true (.bool false))) false (evUn .not v378)) fun v379 =>
 B (Gd v376 true (evPick (Gv v376 true (Gv v376 true (.bool false))) (.bool true) v379)) fun v380 =>
 B (evPick v376 v380 (.bool false)) fun v381 =>
 Q v381 s1)
      (Q (.bool false) s1)))))))
   (B (evBin oT .eql 169 v3 (.int .u8 8)) fun v382 =>
    If v382 (If v382 (B (evFieldAddr oT 171 v1 3) fun v383 =>
 B (evLoad oT s1 75 v383) fun v384 =>
 B (evLenM oT s1 75 v384) fun v385 =>
 B (evBin oT .leq 3 v385 (.int .i64 0)) fun v386 =>
 B (Gd v386 true (evBin oT .eql 3 (Gv v386 true (.int .i64 0)) (.int .i64 0))) fun v387 =>
 B (Gd (Gv v386 true v387) false (evFieldAddr oT 171 v1 3)) fun v388 =>
 B (Gd (Gv v386 true v387) false (evLoad oT s1 75 v388)) fun v389 =>
 B (Gd (Gv v386 true v387) false (evLenM oT s1 75 v389)) fun v390 =>
 B (Gd (Gv v386 true v387) false (evBin oT .gtr 3 v390 (.int .i64 0))) fun v391 =>
 B (Gd v386 true (evPick (Gv v386 true v387) (.bool true) v391)) fun v392 =>
 B (evPick v386 v392 (.bool false)) fun v393 =>
 B (Gd v393 true (evFieldAddr oT 171 v1 4)) fun v394 =>
 B (Gd v393 true (evLoad oT s1 3 v394)) fun v395 =>
 B (Gd v393 true (evBin oT .geq 3 v395 (Gv v393 true (.int .i64 0)))) fun v396 =>
 B (evPick v393 v396 (.bool false)) fun v397 =>
 B (Gd v397 true (evFieldAddr oT 171 v1 4)) fun v398 =>
 B (Gd v397 true (evLoad oT s1 3 v398)) fun v399 =>
 B (Gd v397 true (evBin oT .leq 3 v399 (Gv v397 true (.int .i64 0)))) fun v400 =>
 B (evPick v397 v400 (.bool false)) fun v401 =>
 B (Gd (Gv v401 true (Gv v401 true (.bool false))) false (evFieldAddr oT 171 v1 2)) fun v402 =>
 B (Gd (Gv v401 true (Gv v401 true (.bool false))) false (evLoad oT s1 4 v402)) fun v403 =>
 B (Gd (Gv v401 true (Gv v401 true (.bool false))) false (evUn .not v403)) fun v404 =>
 B (Gd v401 true (evPick (Gv v401 true (Gv v401 true (.bool false))) (.bool true) v404)) fun v405 =>
 B (evPick v401 v405 (.bool false)) fun v406 =>
 Q v406 s1)
  (B (evBin oT .eql 169 v3 (.int .u8 4)) fun v407 =>
   If v407 (B (evFieldAddr oT 171 v1 3) fun v408 =>
 B (evLoad oT s1 75 v408) fun v409 =>
 B (evLenM oT s1 75 v409) fun v410 =>
 B (evBin oT .leq 3 v410 (.int .i64 0)) fun v411 =>
 B (Gd v411 true (evBin oT .eql 3 (Gv v411 true (.int .i64 0)) (.int .i64 0))) fun v412 =>
 B (Gd (Gv v411 true v412) false (evFieldAddr oT 171 v1 3)) fun v413 =>
 B (Gd (Gv v411 true v412) false (evLoad oT s1 75 v413)) fun v414 =>
 B (Gd (Gv v411 true v412) false (evLenM oT s1 75 v414)) fun v415 =>
 B (Gd (Gv v411 true v412) false (evBin oT .gtr 3 v415 (.int .i64 0))) fun v416 =>
 B (Gd v411 true (evPick (Gv v411 true v412) (.bool true) v416)) fun v417 =>
 B (evPick v411 v417 (.bool false)) fun v418 =>
 B (Gd v418 true (evFieldAddr oT 171 v1 4)) fun v419 =>
 B (Gd v418 true (evLoad oT s1 3 v419)) fun v420 =>
 B (Gd v418 true (evBin oT .geq 3 v420 (Gv v418 true (.int .i64 1)))) fun v421 =>
 B (evPick v418 v421 (.bool false)) fun v422 =>
 B (Gd v422 true (evFieldAddr oT 171 v1 4)) fun v423 =>
 B (Gd v422 true (evLoad oT s1 3 v423)) fun v424 =>
 B (Gd v422 true (evBin oT .leq 3 v424 (Gv v422 true (.int .i64 2)))) fun v425 =>
 B (evPick v422 v425 (.bool false)) fun v426 =>
 B (Gd (Gv v426 true (Gv v426 true (.bool true))) false (evFieldAddr oT 171 v1 2)) fun v427 =>
 B (Gd (Gv v426 true (Gv v426 true (.bool true))) false (evLoad oT s1 4 v427)) fun v428 =>
 B (Gd (Gv v426 true (Gv v426 true (.bool true))) false (evUn .not v428)) fun v429 =>
 B (Gd v426 true (evPick (Gv v426 true (Gv v426 true (.bool true))) (.bool true) v429)) fun v430 =>
 B (evPick v426 v430 (.bool false)) fun v431 =>
 Q v431 s1)
   (B (evBin oT .eql 169 v3 (.int .u8 5)) fun v432 =>
    If v432 (B (evFieldAddr oT 171 v1 3) fun v433 =>
 B (evLoad oT s1 75 v433) fun v434 =>
 B (evLenM oT s1 75 v434) fun v435 =>
 B (evBin oT .leq 3 v435 (.int .i64 0)) fun v436 =>
 B (Gd v436 true (evBin oT .eql 3 (Gv v436 true (.int .i64 0)) (.int .i64 0))) fun v437 =>
 B (Gd (Gv v436 true v437) false (evFieldAddr oT 171 v1 3)) fun v438 =>
 B (Gd (Gv v436 true v437) false (evLoad oT s1 75 v438)) fun v439 =>
 B (Gd (Gv v436 true v437) false (evLenM oT s1 75 v439)) fun v440 =>
 B (Gd (Gv v436 true v437) false (evBin oT .gtr 3 v440 (.int .i64 0))) fun v441 =>
 B (Gd v436 true (evPick (Gv v436 true v437) (.bool true) v441)) fun v442 =>
 B (evPick v436 v442 (.bool false)) fun v443 =>
 B (Gd v443 true (evFieldAddr oT 171 v1 4)) fun v444 =>
 B (Gd v443 true (evLoad oT s1 3 v444)) fun v445 =>
 B (Gd v443 true (evBin oT .geq 3 v445 (Gv v443 true (.int .i64 0)))) fun v446 =>
 B (evPick v443 v446 (.bool false)) fun v447 =>
 B (Gd v447 true (evFieldAddr oT 171 v1 4)) fun v448 =>
 B (Gd v447 true (evLoad oT s1 3 v448)) fun v449 =>
 B (Gd v447 true (evBin oT .leq 3 v449 (Gv v447 true (.int .i64 0)))) fun v450 =>
 B (evPick v447 v450 (.bool false)) fun v451 =>
 B (Gd (Gv v451 true (Gv v451 true (.bool true))) false (evFieldAddr oT 171 v1 2)) fun v452 =>
 B (Gd (Gv v451 true (Gv v451 true (.bool true))) false (evLoad oT s1 4 v452)) fun v453 =>
 B (Gd (Gv v451 true (Gv v451 true (.bool true))) false (evUn .not v453)) fun v454 =>
 B (Gd v451 true (evPick (Gv v451 true (Gv v451 true (.bool true))) (.bool true) v454)) fun v455 =>
 B (evPick v451 v455 (.bool false)) fun v456 =>
 Q v456 s1)
    (B (evBin oT .eql 169 v3 (.int .u8 6)) fun v457 =>
     If v457 (If v457 (B (evFieldAddr oT 171 v1 3) fun v458 =>
 B (evLoad oT s1 75 v458) fun v459 =>
 B (evLenM oT s1 75 v459) fun v460 =>
 B (evBin oT .leq 3 v460 (.int .i64 16)) fun v461 =>
 B (Gd v461 true (evBin oT .eql 3 (Gv v461 true (.int .i64 16)) (.int .i64 0))) fun v462 =>
 B (Gd (Gv v461 true v462) false (evFieldAddr oT 171 v1 3)) fun v463 =>
 B (Gd (Gv v461 true v462) false (evLoad oT s1 75 v463)) fun v464 =>
 B (Gd (Gv v461 true v462) false (evLenM oT s1 75 v464)) fun v465 =>
 B (Gd (Gv v461 true v462) false (evBin oT .gtr 3 v465 (.int .i64 0))) fun v466 =>
 B (Gd v461 true (evPick (Gv v461 true v462) (.bool true) v466)) fun v467 =>
 B (evPick v461 v467 (.bool false)) fun v468 =>
 B (Gd v468 true (evFieldAddr oT 171 v1 4)) fun v469 =>
 B (Gd v468 true (evLoad oT s1 3 v469)) fun v470 =>
 B (Gd v468 true (evBin oT .geq 3 v470 (Gv v468 true (.int .i64 0)))) fun v471 =>
 B (evPick v468 v471 (.bool false)) fun v472 =>
 B (Gd v472 true (evFieldAddr oT 171 v1 4)) fun v473 =>
 B (Gd v472 true (evLoad oT s1 3 v473)) fun v474 =>
 B (Gd v472 true (evBin oT .leq 3 v474 (Gv v472 true (.int .i64 0)))) fun v475 =>
 B (evPick v472 v475 (.bool false)) fun v476 =>
 B (Gd (Gv v476 true (Gv v476 true (.bool true))) false (evFieldAddr oT 171 v1 2)) fun v477 =>
 B (Gd (Gv v476 true (Gv v476 true (.bool true))) false (evLoad oT s1 4 v477)) fun v478 =>
 B (Gd (Gv v476 true (Gv v476 true (.bool true))) false (evUn .not v478)) fun v479 =>
 B (Gd v476 true (evPick (Gv v476 true (Gv v476 true (.bool true))) (.bool true) v479)) fun v480 =>
 B (evPick v476 v480 (.bool false)) fun v481 =>
 Q v481 s1)
     (B (evBin oT .eql 169 v3 (.int .u8 10)) fun v482 =>
      If v482 (B (evFieldAddr oT 171 v1 3) fun v483 =>
 B (evLoad oT s1 75 v483) fun v484 =>
 B (evLenM oT s1 75 v484) fun v485 =>
 B (evBin oT .leq 3 v485 (.int .i64 0)) fun v486 =>
 B (Gd v486 true (evBin oT .eql 3 (Gv v486 true (.int .i64 0)) (.int .i64 0))) fun v487 =>
 B (Gd (Gv v486 true v487) false (evFieldAddr oT 171 v1 3)) fun v488 =>
 B (Gd (Gv v486 true v487) false (evLoad oT s1 75 v488)) fun v489 =>
 B (Gd (Gv v486 true v487) false (evLenM oT s1 75 v489)) fun v490 =>
 B (Gd (Gv v486 true v487) false (evBin oT .gtr 3 v490 (.int .i64 0))) fun v491 =>
 B (Gd v486 true (evPick (Gv v486 true v487) (.bool true) v491)) fun v492 =>
 B (evPick v486 v492 (.bool false)) fun v493 =>
 B (Gd v493 true (evFieldAddr oT 171 v1 4)) fun v494 =>
 B (Gd v493 true (evLoad oT s1 3 v494)) fun v495 =>
 B (Gd v493 true (evBin oT .geq 3 v495 (Gv v493 true (.int .i64 0)))) fun v496 =>
 B (evPick v493 v496 (.bool false)) fun v497 =>
 B (Gd v497 true (evFieldAddr oT 171 v1 4)) fun v498 =>
 B (Gd v497 true (evLoad oT s1 3 v498)) fun v499 =>
 B (Gd v497 true (evBin oT .leq 3 v499 (Gv v497 true (.int .i64 63)))) fun v500 =>
 B (evPick v497 v500 (.bool false)) fun v501 =>
 B (Gd (Gv v501 true (Gv v501 true (.bool false))) false (evFieldAddr oT 171 v1 2)) fun v502 =>
 B (Gd (Gv v501 true (Gv v501 true (.bool false))) false (evLoad oT s1 4 v502)) fun v503 =>
 B (Gd (Gv v501 true (Gv v501 true (.bool false))) false (evUn .not v503)) fun v504 =>
 B (Gd v501 true (evPick (Gv v501 true (Gv v501 true (.bool false))) (.bool true) v504)) fun v505 =>
 B (evPick v501 v505 (.bool false)) fun v506 =>
 Q v506 s1)
      (Q (.bool false) s1)))
     (B (evBin oT .eql 169 v3 (.int .u8 7)) fun v507 =>
      If v507 (B (evFieldAddr oT 171 v1 3) fun v508 =>
 B (evLoad oT s1 75 v508) fun v509 =>
 B (evLenM oT s1 75 v509) fun v510 =>
 B (evBin oT .leq 3 v510 (.int .i64 16)) fun v511 =>
 B (Gd v511 true (evBin oT .eql 3 (Gv v511 true (.int .i64 16)) (.int .i64 0))) fun v512 =>
 B (Gd (Gv v511 true v512) false (evFieldAddr oT 171 v1 3)) fun v513 =>
 B (Gd (Gv v511 true v512) false (evLoad oT s1 75 v513)) fun v514 =>
 B (Gd (Gv v511 true v512) false (evLenM oT s1 75 v514)) fun v515 =>
 B (Gd (Gv v511 true v512) false (evBin oT .gtr 3 v515 (.int .i64 0))) fun v516 =>
 B (Gd v511 true (evPick (Gv v511 true v512) (.bool true) v516)) fun v517 =>
 B (evPick v511 v517 (.bool false)) fun v518 =>
 B (Gd v518 true (evFieldAddr oT 171 v1 4)) fun v519 =>
 B (Gd v518 true (evLoad oT s1 3 v519)) fun v520 =>
 B (Gd v518 true (evBin oT .geq 3 v520 (Gv v518 true (.int .i64 0)))) fun v521 =>
 B (evPick v518 v521 (.bool false)) fun v522 =>
 B (Gd v522 true (evFieldAddr oT 171 v1 4)) fun v523 =>
 B (Gd v522 true (evLoad oT s1 3 v523)) fun v524 =>
 B (Gd v522 true (evBin oT .leq 3 v524 (Gv v522 true (.int .i64 0)))) fun v525 =>
 B (evPick v522 v525 (.bool false)) fun v526 =>
 B (Gd (Gv v526 true (Gv v526 true (.bool true))) false (evFieldAddr oT 171 v1 2)) fun v527 =>
 B (Gd (Gv v526 true (Gv v526 true (.bool true))) false (evLoad oT s1 4 v527)) fun v528 =>
 B (Gd (Gv v526 true (Gv v526 true (.bool true))) false (evUn .not v528)) fun v529 =>
 B (Gd v526 true (evPick (Gv v526 true (Gv v526 true (.bool true))) (.bool true) v529)) fun v530 =>
 B (evPick v526 v530 (.bool false)) fun v531 =>
 Q v531 s1)
     (B (evBin oT .eql 169 v3 (.int .u8 10)) fun v532 =>
      If v532 (B (evFieldAddr oT 171 v1 3) fun v533 =>
 B (evLoad oT s1 75 v533) fun v534 =>
 B (evLenM oT s1 75 v534) fun v535 =>
 B (evBin oT .leq 3 v535 (.int .i64 0)) fun v536 =>
 B (Gd v536 true (evBin oT .eql 3 (Gv v536 true (.int .i64 0)) (.int .i64 0))) fun v537 =>
 B (Gd (Gv v536 true v537) false (evFieldAddr oT 171 v1 3)) fun v538 =>
 B (Gd (Gv v536 true v537) false (evLoad oT s1 75 v538)) fun v539 =>
 B (Gd (Gv v536 true v537) false (evLenM oT s1 75 v539)) fun v540 =>
 B (Gd (Gv v536 true v537) false (evBin oT .gtr 3 v540 (.int .i64 0))) fun v541 =>
 B (Gd v536 true (evPick (Gv v536 true v537) (.bool true) v541)) fun v542 =>
 B (evPick v536 v542 (.bool false)) fun v543 =>
 B (Gd v543 true (evFieldAddr oT 171 v1 4)) fun v544 =>
 B (Gd v543 true (evLoad oT s1 3 v544)) fun v545 =>
 B (Gd v543 true (evBin oT .geq 3 v545 (Gv v543 true (.int .i64 0)))) fun v546 =>
 B (evPick v543 v546 (.bool false)) fun v547 =>
 B (Gd v547 true (evFieldAddr oT 171 v1 4)) fun v548 =>
 B (Gd v547 true (evLoad oT s1 3 v548)) fun v549 =>
 B (Gd v547 true (evBin oT .leq 3 v549 (Gv v547 true (.int .i64 63)))) fun v550 =>
 B (evPick v547 v550 (.bool false)) fun v551 =>
 B (Gd (Gv v551 true (Gv v551 true (.bool false))) false (evFieldAddr oT 171 v1 2)) fun v552 =>
 B (Gd (Gv v551 true (Gv v551 true (.bool false))) false (evLoad oT s1 4 v552)) fun v553 =>
 B (Gd (Gv v551 true (Gv v551 true (.bool false))) false (evUn .not v553)) fun v554 =>
 B (Gd v551 true (evPick (Gv v551 true (Gv v551 true (.bool false))) (.bool true) v554)) fun v555 =>
 B (evPick v551 v555 (.bool false)) fun v556 =>
 Q v556 s1)
      (Q (.bool false) s1)))))))
    (B (evBin oT .eql 169 v3 (.int .u8 9)) fun v557 =>
     If v557 (B (evFieldAddr oT 171 v1 3) fun v558 =>
 B (evLoad oT s1 75 v558) fun v559 =>
 B (evLenM oT s1 75 v559) fun v560 =>
 B (evBin oT .leq 3 v560 (.int .i64 0)) fun v561 =>
 B (Gd v561 true (evBin oT .eql 3 (Gv v561 true (.int .i64 0)) (.int .i64 0))) fun v562 =>
 B (Gd (Gv v561 true v562) false (evFieldAddr oT 171 v1 3)) fun v563 =>
 B (Gd (Gv v561 true v562) false (evLoad oT s1 75 v563)) fun v564 =>
 B (Gd (Gv v561 true v562) false (evLenM oT s1 75 v564)) fun v565 =>
 B (Gd (Gv v561 true v562) false (evBin oT .gtr 3 v565 (.int .i64 0))) fun v566 =>
 B (Gd v561 true (evPick (Gv v561 true v562) (.bool true) v566)) fun v567 =>
 B (evPick v561 v567 (.bool false)) fun v568 =>
 B (Gd v568 true (evFieldAddr oT 171 v1 4)) fun v569 =>
 B (Gd v568 true (evLoad oT s1 3 v569)) fun v570 =>
 B (Gd v568 true (evBin oT .geq 3 v570 (Gv v568 true (.int .i64 0)))) fun v571 =>
 B (evPick v568 v571 (.bool false)) fun v572 =>
 B (Gd v572 true (evFieldAddr oT 171 v1 4)) fun v573 =>
 B (Gd v572 true (evLoad oT s1 3 v573)) fun v574 =>
 B (Gd v572 true (evBin oT .leq 3 v574 (Gv v572 true (.int .i64 0)))) fun v575 =>
 B (evPick v572 v575 (.bool false)) fun v576 =>
 B (Gd (Gv v576 true (Gv v576 true (.bool false))) false (evFieldAddr oT 171 v1 2)) fun v577 =>
 B (Gd (Gv v576 true (Gv v576 true (.bool false))) false (evLoad oT s1 4 v577)) fun v578 =>
 B (Gd (Gv v576 true (Gv v576 true (.bool false))) false (evUn .not v578)) fun v579 =>
 B (Gd v576 true (evPick (Gv v576 true (Gv v576 true (.bool false))) (.bool true) v579)) fun v580 =>
 B (evPick v576 v580 (.bool false)) fun v581 =>
 Q v581 s1)
  (B (evBin oT .eql 169 v3 (.int .u8 4)) fun v582 =>
   If v582 (B (evFieldAddr oT 171 v1 3) fun v583 =>
 B (evLoad oT s1 75 v583) fun v584 =>
 B (evLenM oT s1 75 v584) fun v585 =>
 B (evBin oT .leq 3 v585 (.int .i64 0)) fun v586 =>
 B (Gd v586 true (evBin oT .eql 3 (Gv v586 true (.int .i64 0)) (.int .i64 0))) fun v587 =>
 B (Gd (Gv v586 true v587) false (evFieldAddr oT 171 v1 3)) fun v588 =>
 B (Gd (Gv v586 true v587) false (evLoad oT s1 75 v588)) fun v589 =>
 B (Gd (Gv v586 true v587) false (evLenM oT s1 75 v589)) fun v590 =>
 B (Gd (Gv v586 true v587) false (evBin oT .gtr 3 v590 (.int .i64 0))) fun v591 =>
 B (Gd v586 true (evPick (Gv v586 true v587) (.bool true) v591)) fun v592 =>
 B (evPick v586 v592 (.bool false)) fun v593 =>
 B (Gd v593 true (evFieldAddr oT 171 v1 4)) fun v594 =>
 B (Gd v593 true (evLoad oT s1 3 v594)) fun v595 =>
 B (Gd v593 true (evBin oT .geq 3 v595 (Gv v593 true (.int .i64 1)))) fun v596 =>
 B (evPick v593 v596 (.bool false)) fun v597 =>
 B (Gd v597 true (evFieldAddr oT 171 v1 4)) fun v598 =>
 B (Gd v597 true (evLoad oT s1 3 v598)) fun v599 =>
 B (Gd v597 true (evBin oT .leq 3 v599 (Gv v597 true (.int .i64 2)))) fun v600 =>
 B (evPick v597 v600 (.bool false)) fun v601 =>
 B (Gd (Gv v601 true (Gv v601 true (.bool true))) false (evFieldAddr oT 171 v1 2)) fun v602 =>
 B (Gd (Gv v601 true (Gv v601 true (.bool true))) false (evLoad oT s1 4 v602)) fun v603 =>
 B (Gd (Gv v601 true (Gv v601 true (.bool true))) false (evUn .not v603)) fun v604 =>
 B (Gd v601 true (evPick (Gv v601 true (Gv v601 true (.bool true))) (.bool true) v604)) fun v605 =>
 B (evPick v601 v605 (.bool false)) fun v606 =>
 Q v606 s1)
   (B (evBin oT .eql 169 v3 (.int .u8 5)) fun v607 =>
    If v607 (B (evFieldAddr oT 171 v1 3) fun v608 =>
 B (evLoad oT s1 75 v608) fun v609 =>
 B (evLenM oT s1 75 v609) fun v610 =>
 B (evBin oT .leq 3 v610 (.int .i64 0)) fun v611 =>
 B (Gd v611 true (evBin oT .eql 3 (Gv v611 true (.int .i64 0)) (.int .i64 0))) fun v612 =>
 B (Gd (Gv v611 true v612) false (evFieldAddr oT 171 v1 3)) fun v613 =>
 B (Gd (Gv v611 true v612) false (evLoad oT s1 75 v613)) fun v614 =>
 B (Gd (Gv v611 true v612) false (evLenM oT s1 75 v614)) fun v615 =>
 B (Gd (Gv v611 true v612) false (evBin oT .gtr 3 v615 (.int .i64 0))) fun v616 =>
 B (Gd v611 true (evPick (Gv v611 true v612) (.bool true) v616)) fun v617 =>
 B (evPick v611 v617 (.bool false)) fun v618 =>
 B (Gd v618 true (evFieldAddr oT 171 v1 4)) fun v619 =>
 B (Gd v618 true (evLoad oT s1 3 v619)) fun v620 =>
 B (Gd v618 true (evBin oT .geq 3 v620 (Gv v618 true (.int .i64 0)))) fun v621 =>
 B (evPick v618 v621 (.bool false)) fun v622 =>
 B (Gd v622 true (evFieldAddr oT 171 v1 4)) fun v623 =>
 B (Gd v622 true (evLoad oT s1 3 v623)) fun v624 =>
 B (Gd v622 true (evBin oT .leq 3 v624 (Gv v622 true (.int .i64 0)))) fun v625 =>
 B (evPick v622 v625 (.bool false)) fun v626 =>
 B (Gd (Gv v626 true (Gv v626 true (.bool true))) false (evFieldAddr oT 171 v1 2)) fun v627 =>
 B (Gd (Gv v626 true (Gv v626 true (.bool true))) false (evLoad oT s1 4 v627)) fun v628 =>
 B (Gd (Gv v626 true (Gv v626 true (.bool true))) false (evUn .not v628)) fun v629 =>
 B (Gd v626 true (evPick (Gv v626 true (Gv v626 true (.bool true))) (.bool true) v629)) fun v630 =>
 B (evPick v626 v630 (.bool false)) fun v631 =>
 Q v631 s1)
    (B (evBin oT .eql 169 v3 (.int .u8 6)) fun v632 =>
     If v632 (If v632 (B (evFieldAddr oT 171 v1 3) fun v633 =>
 B (evLoad oT s1 75 v633) fun v634 =>
 B (evLenM oT s1 75 v634) fun v635 =>
 B (evBin oT .leq 3 v635 (.int .i64 16)) fun v636 =>
 B (Gd v636 true (evBin oT .eql 3 (Gv v636 true (.int .i64 16)) (.int .i64 0))) fun v637 =>
 B (Gd (Gv v636 true v637) false (evFieldAddr oT 171 v1 3)) fun v638 =>
 B (Gd (Gv v636 true v637) false (evLoad oT s1 75 v638)) fun v639 =>
 B (Gd (Gv v636 true v637) false (evLenM oT s1 75 v639)) fun v640 =>
 B (Gd (Gv v636 true v637) false (evBin oT .gtr 3 v640 (.int .i64 0))) fun v641 =>
 B (Gd v636 true (evPick (Gv v636 true v637) (.bool true) v641)) fun v642 =>
 B (evPick v636 v642 (.bool false)) fun v643 =>
 B (Gd v643 true (evFieldAddr oT 171 v1 4)) fun v644 =>
 B (Gd v643 true (evLoad oT s1 3 v644)) fun v645 =>
 B (Gd v643 true (evBin oT .geq 3 v645 (Gv v643 true (.int .i64 0)))) fun v646 =>
 B (evPick v643 v646 (.bool false)) fun v647 =>
 B (Gd v647 true (evFieldAddr oT 171 v1 4)) fun v648 =>
 B (Gd v647 true (evLoad oT s1 3 v648)) fun v649 =>
 B (Gd v647 true (evBin oT .leq 3 v649 (Gv v647 true (.int .i64 0)))) fun v650 =>
 B (evPick v647 v650 (.bool false)) fun v651 =>
 B (Gd (Gv v651 true (Gv v651 true (.bool true))) false (evFieldAddr oT 171 v1 2)) fun v652 =>
 B (Gd (Gv v651 true (Gv v651 true (.bool true))) false (evLoad oT s1 4 v652)) fun v653 =>
 B (Gd (Gv v651 true (Gv v651 true (.bool true))) false (evUn .not v653)) fun v654 =>
 B (Gd v651 true (evPick (Gv v651 true (Gv v651 true (.bool true))) (.bool true) v654)) fun v655 =>
 B (evPick v651 v655 (.bool false)) fun v656 =>
 Q v656 s1)
     (B (evBin oT .eql 169 v3 (.int .u8 10)) fun v657 =>
      If v657 (B (evFieldAddr oT 171 v1 3) fun v658 =>
 B (evLoad oT s1 75 v658) fun v659 =>
 B (evLenM oT s1 75 v659) fun v660 =>
 B (evBin oT .leq 3 v660 (.int .i64 0)) fun v661 =>
 B (Gd v661 true (evBin oT .eql 3 (Gv v661 true (.int .i64 0)) (.int .i64 0))) fun v662 =>
 B (Gd (Gv v661 true v662) false (evFieldAddr oT 171 v1 3)) fun v663 =>
 B (Gd (Gv v661 true v662) false (evLoad oT s1 75 v663)) fun v664 =>
 B (Gd (Gv v661 true v662) false (evLenM oT s1 75 v664)) fun v665 =>
 B (Gd (Gv v661 true v662) false (evBin oT .gtr 3 v665 (.int .i64 0))) fun v666 =>
 B (Gd v661 true (evPick (Gv v661 true v662) (.bool true) v666)) fun v667 =>
 B (evPick v661 v667 (.bool false)) fun v668 =>
 B (Gd v668 true (evFieldAddr oT 171 v1 4)) fun v669 =>
 B (Gd v668 true (evLoad oT s1 3 v669)) fun v670 =>
 B (Gd v668 true (evBin oT .geq 3 v670 (Gv v668 true (.int .i64 0)))) fun v671 =>
 B (evPick v668 v671 (.bool false)) fun v672 =>
 B (Gd v672 true (evFieldAddr oT 171 v1 4)) fun v673 =>
 B (Gd v672 true (evLoad oT s1 3 v673)) fun v674 =>
 B (Gd v672 true (evBin oT .leq 3 v674 (Gv v672 true (.int .i64 63)))) fun v675 =>
 B (evPick v672 v675 (.bool false)) fun v676 =>
 B (Gd (Gv v676 true (Gv v676 true (.bool false))) false (evFieldAddr oT 171 v1 2)) fun v677 =>
 B (Gd (Gv v676 true (Gv v676 true (.bool false))) false (evLoad oT s1 4 v677)) fun v678 =>
 B (Gd (Gv v676 true (Gv v676 true (.bool false))) false (evUn .not v678)) fun v679 =>
 B (Gd v676 true (evPick (Gv v676 true (Gv v676 true (.bool false))) (.bool true) v679)) fun v680 =>
 B (evPick v676 v680 (.bool false)) fun v681 =>
 Q v681 s1)
      (Q (.bool false) s1)))
     (B (evBin oT .eql 169 v3 (.int .u8 7)) fun v682 =>
      If v682 (B (evFieldAddr oT 171 v1 3) fun v683 =>
 B (evLoad oT s1 75 v683) fun v684 =>
 B (evLenM oT s1 75 v684) fun v685 =>
 B (evBin oT .leq 3 v685 (.int .i64 16)) fun v686 =>
 B (Gd v686 true (evBin oT .eql 3 (Gv v686 true (.int .i64 16)) (.int .i64 0))) fun v687 =>
 B (Gd (Gv v686 true v687) false (evFieldAddr oT 171 v1 3)) fun v688 =>
 B (Gd (Gv v686 true v687) false (evLoad oT s1 75 v688)) fun v689 =>
 B (Gd (Gv v686 true v687) false (evLenM oT s1 75 v689)) fun v690 =>
 B (Gd (Gv v686 true v687) false (evBin oT .gtr 3 v690 (.int .i64 0))) fun v691 =>
 B (Gd v686 true (evPick (Gv v686 true v687) (.bool true) v691)) fun v692 =>
 B (evPick v686 v692 (.bool false)) fun v693 =>
 B (Gd v693 true (evFieldAddr oT 171 v1 4)) fun v694 =>
 B (Gd v693 true (evLoad oT s1 3 v694)) fun v695 =>
 B (Gd v693 true (evBin oT .geq 3 v695 (Gv v693 true (.int .i64 0)))) fun v696 =>
 B (evPick v693 v696 (.bool false)) fun v697 =>
 B (Gd v697 true (evFieldAddr oT 171 v1 4)) fun v698 =>
 B (Gd v697 true (evLoad oT s1 3 v698)) fun v699 =>
 B (Gd v697 true (evBin oT .leq 3 v699 (Gv v697 true (.int .i64 0)))) fun v700 =>
 B (evPick v697 v700 (.bool false)) fun v701 =>
 B (Gd (Gv v701 true (Gv v701 true (.bool true))) false (evFieldAddr oT 171 v1 2)) fun v702 =>
 B (Gd (Gv v701 true (Gv v701 true (.bool true))) false (evLoad oT s1 4 v702)) fun v703 =>
 B (Gd (Gv v701 true (Gv v701 true (.bool true))) false (evUn .not v703)) fun v704 =>
 B (Gd v701 true (evPick (Gv v701 true (Gv v701 true (.bool true))) (.bool true) v704)) fun v705 =>
 B (evPick v701 v705 (.bool false)) fun v706 =>
 Q v706 s1)
     (B (evBin oT .eql 169 v3 (.int .u8 10)) fun v707 =>
      If v707 (B (evFieldAddr oT 171 v1 3) fun v708 =>
 B (evLoad oT s1 75 v708) fun v709 =>
 B (evLenM oT s1 75 v709) fun v710 =>
 B (evBin oT .leq 3 v710 (.int .i64 0)) fun v711 =>
 B (Gd v711 true (evBin oT .eql 3 (Gv v711 true (.int .i64 0)) (.int .i64 0))) fun v712 =>
 B (Gd (Gv v711 true v712) false (evFieldAddr oT 171 v1 3)) fun v713 =>
 B (Gd (Gv v711 true v712) false (evLoad oT s1 75 v713)) fun v714 =>
 B (Gd (Gv v711 true v712) false (evLenM oT s1 75 v714)) fun v715 =>
 B (Gd (Gv v711 true v712) false (evBin oT .gtr 3 v715 (.int .i64 0))) fun v716 =>
 B (Gd v711 true (evPick (Gv v711 true v712) (.bool true) v716)) fun v717 =>
 B (evPick v711 v717 (.bool false)) fun v718 =>
 B (Gd v718 true (evFieldAddr oT 171 v1 4)) fun v719 =>
 B (Gd v718 true (evLoad oT s1 3 v719)) fun v720 =>
 B (Gd v718 true (evBin oT .geq 3 v720 (Gv v718 true (.int .i64 0)))) fun v721 =>
 B (evPick v718 v721 (.bool false)) fun v722 =>
 B (Gd v722 true (evFieldAddr oT 171 v1 4)) fun v723 =>
 B (Gd v722 true (evLoad oT s1 3 v723)) fun v724 =>
 B (Gd v722 true (evBin oT .leq 3 v724 (Gv v722 true (.int .i64 63)))) fun v725 =>
 B (evPick v722 v725 (.bool false)) fun v726 =>
 B (Gd (Gv v726 true (Gv v726 true (.bool false))) false (evFieldAddr oT 171 v1 2)) fun v727 =>
 B (Gd (Gv v726 true (Gv v726 true (.bool false))) false (evLoad oT s1 4 v727)) fun v728 =>
 B (Gd (Gv v726 true (Gv v726 true (.bool false))) false (evUn .not v728)) fun v729 =>
 B (Gd v726 true (evPick (Gv v726 true (Gv v726 true (.bool false))) (.bool true) v729)) fun v730 =>
 B (evPick v726 v730 (.bool false)) fun v731 =>
 Q v731 s1)
      (Q (.bool false) s1))))))))))
theorem r329 {a0 : Value} {st : St} {Q : Value → St → Prop} (h : R329 a0 st Q) : CallP Tryz.prog 329 [a0] st Q :=
  fun_sound oT_ok oS_ok (ann := annL []) fr329 ((show R329 a0 st Q = denF Tryz.prog oT (annL []) (rowF Tryz.f329) [a0] st Q by kernel_rfl).mp h)

def L330_0 (a0 : Value) (Q : Value → St → Prop) : List Value → St → (List Value → St → Prop) → Prop :=
 fun x1 s1 n1 =>
  B (evLenM oT s1 9 a0) fun v1 =>
  B (evBin oT .lss 3 (nth x1 0) v1) fun v2 =>
  If v2 (B (evIndex oT 9 a0 (nth x1 0)) fun v3 =>
  B (evBin oT .lss 5 v3 (.int .u8 97)) fun v4 =>
  B (Gd v4 false (evIndex oT 9 (Gv v4 false a0) (Gv v4 false (nth x1 0)))) fun v5 =>
  B (Gd v4 false (evBin oT .gtr 5 v5 (.int .u8 122))) fun v6 =>
  B (evPick v4 (.bool true) v6) fun v7 =>
  If v7 (Q (.bool false) s1)
  (B (evBin oT .add 3 (nth x1 0) (.int .i64 1)) fun v8 =>
  n1 [v8] s1))
  (B (evLenM oT s1 9 a0) fun v9 =>
 B (evBin oT .geq 3 v9 (.int .i64 1)) fun v10 =>
 B (Gd v10 true (evLenM oT s1 9 (Gv v10 true a0))) fun v11 =>
 B (Gd v10 true (evBin oT .leq 3 v11 (.int .i64 12))) fun v12 =>
 B (evPick v10 v12 (.bool false)) fun v13 =>
 Q v13 s1)

/-- trestle/court.name -/
def R330 (a0 : Value) (st : St) (Q : Value → St → Prop) : Prop :=
 Lp (L330_0 a0 Q) [(.int .i64 0)] st
theorem r330 {a0 : Value} {st : St} {Q : Value → St → Prop} (h : R330 a0 st Q) : CallP Tryz.prog 330 [a0] st Q :=
  fun_sound oT_ok oS_ok (ann := annL [(0, [3])]) fr330 ((show R330 a0 st Q = denF Tryz.prog oT (annL [(0, [3])]) (rowF Tryz.f330) [a0] st Q by kernel_rfl).mp h)

/-- trestle/court.check$1 -/
def R331 (a0 : Value) (st : St) (Q : Value → St → Prop) : Prop :=
 CallP Tryz.prog 330 [a0] st fun v1 s1 =>
 B (evUn .not v1) fun v2 =>
 Q v2 s1
theorem r331 {a0 : Value} {st : St} {Q : Value → St → Prop} (h : R331 a0 st Q) : CallP Tryz.prog 331 [a0] st Q :=
  fun_sound oT_ok oS_ok (ann := annL []) fr331 ((show R331 a0 st Q = denF Tryz.prog oT (annL []) (rowF Tryz.f331) [a0] st Q by kernel_rfl).mp h)

/-- trestle/court.check$2 -/
def R332 (a0 a1 : Value) (st : St) (Q : Value → St → Prop) : Prop :=
 B2 (evBox st 171 a0) fun v1 s1 =>
 B (evFieldAddr oT 171 v1 0) fun v2 =>
 B (evLoad oT s1 169 v2) fun v3 =>
 B (evBin oT .eql 169 v3 (.int .u8 1)) fun v4 =>
 B (Gd v4 true (evFieldAddr oT 171 v1 3)) fun v5 =>
 B (Gd v4 true (evLoad oT s1 75 v5)) fun v6 =>
 B (Gd v4 true (evFieldAddr oT 171 a1 1)) fun v7 =>
 B (Gd v4 true (evLoad oT s1 9 v7)) fun v8 =>
 GC v4 true s1 (CallP Tryz.prog 323 [v6, v8] s1) fun v9 s2 =>
 B (evPick v4 v9 (.bool false)) fun v10 =>
 Q v10 s2
theorem r332 {a0 a1 : Value} {st : St} {Q : Value → St → Prop} (h : R332 a0 a1 st Q) : CallP Tryz.prog 332 [a0, a1] st Q :=
  fun_sound oT_ok oS_ok (ann := annL []) fr332 ((show R332 a0 a1 st Q = denF Tryz.prog oT (annL []) (rowF Tryz.f332) [a0, a1] st Q by kernel_rfl).mp h)

/-- trestle/court.by -/
def R333 (a0 : Value) (st : St) (Q : Value → St → Prop) : Prop :=
 B2 (evBox st 365 a0) fun v1 s1 =>
 Q (.func (.func 390) ⟨[]⟩ ⟨[v1]⟩) s1
theorem r333 {a0 : Value} {st : St} {Q : Value → St → Prop} (h : R333 a0 st Q) : CallP Tryz.prog 333 [a0] st Q :=
  fun_sound oT_ok oS_ok (ann := annL []) fr333 ((show R333 a0 st Q = denF Tryz.prog oT (annL []) (rowF Tryz.f333) [a0] st Q by kernel_rfl).mp h)

/-- trestle/court.plain$1 -/
def R334 (a0 a1 : Value) (st : St) (Q : Value → St → Prop) : Prop :=
 B2 (evBox st 183 a0) fun v1 s1 =>
 B (evFieldAddr oT 171 a1 3) fun v2 =>
 B (evLoad oT s1 75 v2) fun v3 =>
 B (evFieldAddr oT 183 v1 0) fun v4 =>
 B (evFieldAddr oT 77 v4 1) fun v5 =>
 B (evLoad oT s1 9 v5) fun v6 =>
 CallP Tryz.prog 335 [v3, v6] s1 fun v7 s2 =>
 B (evBin oT .geq 3 v7 (.int .i64 0)) fun v8 =>
 If v8 (Q v7 s2)
 (B (evFieldAddr oT 171 a1 3) fun v9 =>
 B (evLoad oT s2 75 v9) fun v10 =>
 B (evLenM oT s2 75 v10) fun v11 =>
 Q v11 s2)
theorem r334 {a0 a1 : Value} {st : St} {Q : Value → St → Prop} (h : R334 a0 a1 st Q) : CallP Tryz.prog 334 [a0, a1] st Q :=
  fun_sound oT_ok oS_ok (ann := annL []) fr334 ((show R334 a0 a1 st Q = denF Tryz.prog oT (annL []) (rowF Tryz.f334) [a0, a1] st Q by kernel_rfl).mp h)

def L335_0 (a0 : Value) (a1 : Value) (v1 : Value) (Q : Value → St → Prop) : List Value → St → (List Value → St → Prop) → Prop :=
 fun x1 s1 n1 =>
  B (evBin oT .lss 3 (nth x1 0) v1) fun v2 =>
  If v2 (B (evIndexAddr oT 75 a0 (nth x1 0)) fun v3 =>
  B (evLoad oT s1 9 v3) fun v4 =>
  B (evBin oT .eql 9 a1 v4) fun v5 =>
  If v5 (Q (nth x1 0) s1)
  (B (evBin oT .add 3 (nth x1 0) (.int .i64 1)) fun v6 =>
  n1 [v6] s1))
  (Q (.int .i64 (-1)) s1)

/-- slices.Index[[]string,string] -/
def R335 (a0 a1 : Value) (st : St) (Q : Value → St → Prop) : Prop :=
 B (evLenM oT st 75 a0) fun v1 =>
 Lp (L335_0 a0 a1 v1 Q) [(.int .i64 0)] st
theorem r335 {a0 a1 : Value} {st : St} {Q : Value → St → Prop} (h : R335 a0 a1 st Q) : CallP Tryz.prog 335 [a0, a1] st Q :=
  fun_sound oT_ok oS_ok (ann := annL [(0, [8])]) fr335 ((show R335 a0 a1 st Q = denF Tryz.prog oT (annL [(0, [8])]) (rowF Tryz.f335) [a0, a1] st Q by kernel_rfl).mp h)

/-- trestle/court.plain$2 -/
def R336 (a0 a1 a2 : Value) (st : St) (Q : Value → St → Prop) : Prop :=
 B2 (evBox st 183 a0) fun v1 s1 =>
 B2 (evBox s1 183 a1) fun v2 s2 =>
 B (evFieldAddr oT 183 v1 0) fun v3 =>
 B (evFieldAddr oT 77 v3 3) fun v4 =>
 B (evLoad oT s2 3 v4) fun v5 =>
 B (evBin oT .eql 3 v5 (.int .i64 0)) fun v6 =>
 B (evFieldAddr oT 183 v2 0) fun v7 =>
 B (evFieldAddr oT 77 v7 3) fun v8 =>
 B (evLoad oT s2 3 v8) fun v9 =>
 B (evBin oT .eql 3 v9 (.int .i64 0)) fun v10 =>
 B (evBin oT .neq 4 v6 v10) fun v11 =>
 If v11 (B (evFieldAddr oT 183 v1 0) fun v12 =>
  B (evFieldAddr oT 77 v12 3) fun v13 =>
  B (evLoad oT s2 3 v13) fun v14 =>
  B (evBin oT .eql 3 v14 (.int .i64 0)) fun v15 =>
  CallQ Tryz.prog 338 [v15] s2 fun v16 s3 =>
  B (evFieldAddr oT 183 v2 0) fun v17 =>
  B (evFieldAddr oT 77 v17 3) fun v18 =>
  B (evLoad oT s3 3 v18) fun v19 =>
  B (evBin oT .eql 3 v19 (.int .i64 0)) fun v20 =>
  CallQ Tryz.prog 338 [v20] s3 fun v21 s4 =>
  CallQ Tryz.prog 337 [v16, v21] s4 fun v22 s5 =>
  Q v22 s5)
 (B (evFieldAddr oT 183 v1 0) fun v23 =>
 B (evFieldAddr oT 77 v23 3) fun v24 =>
 B (evLoad oT s2 3 v24) fun v25 =>
 B (evFieldAddr oT 183 v2 0) fun v26 =>
 B (evFieldAddr oT 77 v26 3) fun v27 =>
 B (evLoad oT s2 3 v27) fun v28 =>
 CallP Tryz.prog 337 [v25, v28] s2 fun v29 s6 =>
 B (evFieldAddr oT 171 a2 0) fun v30 =>
 B (evLoad oT s6 169 v30) fun v31 =>
 B (evBin oT .eql 169 v31 (.int .u8 3)) fun v32 =>
 If v32 (B (evUn .neg v29) fun v33 =>
  Q v33 s6)
 (Q v29 s6))
theorem r336 {a0 a1 a2 : Value} {st : St} {Q : Value → St → Prop} (h : R336 a0 a1 a2 st Q) : CallP Tryz.prog 336 [a0, a1, a2] st Q :=
  fun_sound oT_ok oS_ok (ann := annL []) fr336 ((show R336 a0 a1 a2 st Q = denF Tryz.prog oT (annL []) (rowF Tryz.f336) [a0, a1, a2] st Q by kernel_rfl).mp h)

/-- cmp.Compare[int] -/
def R337 (a0 a1 : Value) (st : St) (Q : Value → St → Prop) : Prop :=
 CallP Tryz.prog 391 [a0] st fun v1 s1 =>
 CallP Tryz.prog 391 [a1] s1 fun v2 s2 =>
 If v1 (If v2 (Q (.int .i64 0) s2)
  (Q (.int .i64 (-1)) s2))
 (If v2 (Q (.int .i64 1) s2)
 (B (evBin oT .lss 3 a0 a1) fun v3 =>
 If v3 (Q (.int .i64 (-1)) s2)
 (B (evBin oT .gtr 3 a0 a1) fun v4 =>
 If v4 (Q (.int .i64 1) s2)
 (Q (.int .i64 0) s2))))
theorem r337 {a0 a1 : Value} {st : St} {Q : Value → St → Prop} (h : R337 a0 a1 st Q) : CallP Tryz.prog 337 [a0, a1] st Q :=
  fun_sound oT_ok oS_ok (ann := annL []) fr337 ((show R337 a0 a1 st Q = denF Tryz.prog oT (annL []) (rowF Tryz.f337) [a0, a1] st Q by kernel_rfl).mp h)

/-- trestle/court.b2i -/
def R338 (a0 : Value) (st : St) (Q : Value → St → Prop) : Prop :=
 If a0 (Q (.int .i64 1) st)
 (Q (.int .i64 0) st)
theorem r338 {a0 : Value} {st : St} {Q : Value → St → Prop} (h : R338 a0 st Q) : CallP Tryz.prog 338 [a0] st Q :=
  fun_sound oT_ok oS_ok (ann := annL []) fr338 ((show R338 a0 st Q = denF Tryz.prog oT (annL []) (rowF Tryz.f338) [a0] st Q by kernel_rfl).mp h)

/-- trestle/court.named -/
def R339 (a0 a1 : Value) (st : St) (Q : Value → St → Prop) : Prop :=
 B2 (evBox st 171 a0) fun v1 s1 =>
 B2 (evBox s1 368 a1) fun v2 s2 =>
 CallP Tryz.prog 333 [(.func (.func 392) ⟨[]⟩ ⟨[v2, v1]⟩)] s2 fun v3 s3 =>
 Q v3 s3
theorem r339 {a0 a1 : Value} {st : St} {Q : Value → St → Prop} (h : R339 a0 a1 st Q) : CallP Tryz.prog 339 [a0, a1] st Q :=
  fun_sound oT_ok oS_ok (ann := annL []) fr339 ((show R339 a0 a1 st Q = denF Tryz.prog oT (annL []) (rowF Tryz.f339) [a0, a1] st Q by kernel_rfl).mp h)

/-- trestle/court.plain$3 -/
def R340 (a0 a1 : Value) (st : St) (Q : Value → St → Prop) : Prop :=
 B2 (evBox st 183 a0) fun v1 s1 =>
 B (evFieldAddr oT 183 v1 0) fun v2 =>
 B (evFieldAddr oT 77 v2 4) fun v3 =>
 B (evLoad oT s1 3 v3) fun v4 =>
 B (evFieldAddr oT 171 a1 4) fun v5 =>
 B (evLoad oT s1 3 v5) fun v6 =>
 B (evBin oT .eql 3 v4 v6) fun v7 =>
 Q v7 s1
theorem r340 {a0 a1 : Value} {st : St} {Q : Value → St → Prop} (h : R340 a0 a1 st Q) : CallP Tryz.prog 340 [a0, a1] st Q :=
  fun_sound oT_ok oS_ok (ann := annL []) fr340 ((show R340 a0 a1 st Q = denF Tryz.prog oT (annL []) (rowF Tryz.f340) [a0, a1] st Q by kernel_rfl).mp h)

/-- trestle/court.plain$4 -/
def R341 (a0 : Value) (st : St) (Q : Value → St → Prop) : Prop :=
 B2 (evBox st 183 a0) fun v1 s1 =>
 B (evFieldAddr oT 183 v1 0) fun v2 =>
 B (evFieldAddr oT 77 v2 6) fun v3 =>
 B (evLoad oT s1 4 v3) fun v4 =>
 Q v4 s1
theorem r341 {a0 : Value} {st : St} {Q : Value → St → Prop} (h : R341 a0 st Q) : CallP Tryz.prog 341 [a0] st Q :=
  fun_sound oT_ok oS_ok (ann := annL []) fr341 ((show R341 a0 st Q = denF Tryz.prog oT (annL []) (rowF Tryz.f341) [a0] st Q by kernel_rfl).mp h)

/-- trestle/court.plain$5 -/
def R342 (a0 a1 : Value) (st : St) (Q : Value → St → Prop) : Prop :=
 B2 (evBox st 183 a0) fun v1 s1 =>
 B (evFieldAddr oT 183 v1 0) fun v2 =>
 B (evFieldAddr oT 77 v2 8) fun v3 =>
 B (evLoad oT s1 75 v3) fun v4 =>
 CallP Tryz.prog 99 [v4, (.func (.func 343) ⟨[]⟩ ⟨[a1]⟩)] s1 fun v5 s2 =>
 Q v5 s2
theorem r342 {a0 a1 : Value} {st : St} {Q : Value → St → Prop} (h : R342 a0 a1 st Q) : CallP Tryz.prog 342 [a0, a1] st Q :=
  fun_sound oT_ok oS_ok (ann := annL []) fr342 ((show R342 a0 a1 st Q = denF Tryz.prog oT (annL []) (rowF Tryz.f342) [a0, a1] st Q by kernel_rfl).mp h)

/-- trestle/court.plain$5$1 -/
def R343 (a0 a1 : Value) (st : St) (Q : Value → St → Prop) : Prop :=
 B (evFieldAddr oT 171 a1 3) fun v1 =>
 B (evLoad oT st 75 v1) fun v2 =>
 CallP Tryz.prog 323 [v2, a0] st fun v3 s1 =>
 Q v3 s1
theorem r343 {a0 a1 : Value} {st : St} {Q : Value → St → Prop} (h : R343 a0 a1 st Q) : CallP Tryz.prog 343 [a0, a1] st Q :=
  fun_sound oT_ok oS_ok (ann := annL []) fr343 ((show R343 a0 a1 st Q = denF Tryz.prog oT (annL []) (rowF Tryz.f343) [a0, a1] st Q by kernel_rfl).mp h)

/-- trestle/court.plain$6 -/
def R344 (a0 a1 : Value) (st : St) (Q : Value → St → Prop) : Prop :=
 B2 (evBox st 183 a0) fun v1 s1 =>
 B (evFieldAddr oT 171 a1 3) fun v2 =>
 B (evLoad oT s1 75 v2) fun v3 =>
 B (evFieldAddr oT 183 v1 0) fun v4 =>
 B (evFieldAddr oT 77 v4 2) fun v5 =>
 B (evLoad oT s1 9 v5) fun v6 =>
 CallP Tryz.prog 323 [v3, v6] s1 fun v7 s2 =>
 Q v7 s2
theorem r344 {a0 a1 : Value} {st : St} {Q : Value → St → Prop} (h : R344 a0 a1 st Q) : CallP Tryz.prog 344 [a0, a1] st Q :=
  fun_sound oT_ok oS_ok (ann := annL []) fr344 ((show R344 a0 a1 st Q = denF Tryz.prog oT (annL []) (rowF Tryz.f344) [a0, a1] st Q by kernel_rfl).mp h)

/-- trestle/court.plain$7 -/
def R345 (a0 a1 : Value) (st : St) (Q : Value → St → Prop) : Prop :=
 B2 (evBox st 183 a0) fun v1 s1 =>
 B2 (evBox s1 183 a1) fun v2 s2 =>
 B (evFieldAddr oT 183 v1 0) fun v3 =>
 B (evFieldAddr oT 77 v3 0) fun v4 =>
 B (evLoad oT s2 9 v4) fun v5 =>
 B (evFieldAddr oT 183 v2 0) fun v6 =>
 B (evFieldAddr oT 77 v6 0) fun v7 =>
 B (evLoad oT s2 9 v7) fun v8 =>
 CallP Tryz.prog 346 [v5, v8] s2 fun v9 s3 =>
 Q v9 s3
theorem r345 {a0 a1 : Value} {st : St} {Q : Value → St → Prop} (h : R345 a0 a1 st Q) : CallP Tryz.prog 345 [a0, a1] st Q :=
  fun_sound oT_ok oS_ok (ann := annL []) fr345 ((show R345 a0 a1 st Q = denF Tryz.prog oT (annL []) (rowF Tryz.f345) [a0, a1] st Q by kernel_rfl).mp h)

/-- cmp.Compare[string] -/
def R346 (a0 a1 : Value) (st : St) (Q : Value → St → Prop) : Prop :=
 CallP Tryz.prog 393 [a0] st fun v1 s1 =>
 CallP Tryz.prog 393 [a1] s1 fun v2 s2 =>
 If v1 (If v2 (Q (.int .i64 0) s2)
  (Q (.int .i64 (-1)) s2))
 (If v2 (Q (.int .i64 1) s2)
 (B (evBin oT .lss 9 a0 a1) fun v3 =>
 If v3 (Q (.int .i64 (-1)) s2)
 (B (evBin oT .gtr 9 a0 a1) fun v4 =>
 If v4 (Q (.int .i64 1) s2)
 (Q (.int .i64 0) s2))))
theorem r346 {a0 a1 : Value} {st : St} {Q : Value → St → Prop} (h : R346 a0 a1 st Q) : CallP Tryz.prog 346 [a0, a1] st Q :=
  fun_sound oT_ok oS_ok (ann := annL []) fr346 ((show R346 a0 a1 st Q = denF Tryz.prog oT (annL []) (rowF Tryz.f346) [a0, a1] st Q by kernel_rfl).mp h)

/-- trestle/court.placed -/
def R347 (a0 : Value) (st : St) (Q : Value → St → Prop) : Prop :=
 B2 (evBox st 210 a0) fun v1 s1 =>
 B2 (evNew oT s1 159) fun v2 s2 =>
 B2 (evStoreU oT s2 159 v2 (.func (.func 394) #[] #[])) fun _ s3 =>
 Q (.func (.func 395) ⟨[]⟩ ⟨[v2, v1]⟩) s3
theorem r347 {a0 : Value} {st : St} {Q : Value → St → Prop} (h : R347 a0 st Q) : CallP Tryz.prog 347 [a0] st Q :=
  fun_sound oT_ok oS_ok (ann := annL []) fr347 ((show R347 a0 st Q = denF Tryz.prog oT (annL []) (rowF Tryz.f347) [a0] st Q by kernel_rfl).mp h)

/-- trestle/court.plain$8 -/
def R348 (a0 a1 : Value) (st : St) (Q : Value → St → Prop) : Prop :=
 B (evFieldAddr oT 171 a1 4) fun v1 =>
 B (evLoad oT st 3 v1) fun v2 =>
 B (evBin oT .mul 3 (.int .i64 2) v2) fun v3 =>
 B (evBin oT .add 3 v3 (.int .i64 1)) fun v4 =>
 B (evBin oT .mul 3 a0 v4) fun v5 =>
 B (evFieldAddr oT 171 a1 4) fun v6 =>
 B (evLoad oT st 3 v6) fun v7 =>
 B (evBin oT .add 3 v5 v7) fun v8 =>
 B (evBin oT .rem 3 v8 (.int .i64 64)) fun v9 =>
 Q v9 st
theorem r348 {a0 a1 : Value} {st : St} {Q : Value → St → Prop} (h : R348 a0 a1 st Q) : CallP Tryz.prog 348 [a0, a1] st Q :=
  fun_sound oT_ok oS_ok (ann := annL []) fr348 ((show R348 a0 a1 st Q = denF Tryz.prog oT (annL []) (rowF Tryz.f348) [a0, a1] st Q by kernel_rfl).mp h)

/-- trestle/court.plain$9 -/
def R349 (a0 : Value) (st : St) (Q : Value → St → Prop) : Prop :=
 Q a0 st
theorem r349 {a0 : Value} {st : St} {Q : Value → St → Prop} (h : R349 a0 st Q) : CallP Tryz.prog 349 [a0] st Q :=
  fun_sound oT_ok oS_ok (ann := annL []) fr349 ((show R349 a0 st Q = denF Tryz.prog oT (annL []) (rowF Tryz.f349) [a0] st Q by kernel_rfl).mp h)

/-- trestle/court.by$1 -/
def R390 (a0 a1 a2 : Value) (st : St) (Q : Value → St → Prop) : Prop :=
 B2 (evBox st 183 a0) fun v1 s1 =>
 B2 (evBox s1 183 a1) fun v2 s2 =>
 B (evLoad oT s2 365 a2) fun v3 =>
 B (evLoad oT s2 183 v1) fun v4 =>
 CallQV Tryz.prog v3 [v4] s2 fun v5 s3 =>
 B (evLoad oT s3 365 a2) fun v6 =>
 B (evLoad oT s3 183 v2) fun v7 =>
 CallQV Tryz.prog v6 [v7] s3 fun v8 s4 =>
 CallQ Tryz.prog 337 [v5, v8] s4 fun v9 s5 =>
 Q v9 s5
theorem r390 {a0 a1 a2 : Value} {st : St} {Q : Value → St → Prop} (h : R390 a0 a1 a2 st Q) : CallP Tryz.prog 390 [a0, a1, a2] st Q :=
  fun_sound oT_ok oS_ok (ann := annL []) fr390 ((show R390 a0 a1 a2 st Q = denF Tryz.prog oT (annL []) (rowF Tryz.f390) [a0, a1, a2] st Q by kernel_rfl).mp h)

/-- cmp.isNaN[int] -/
def R391 (a0 : Value) (st : St) (Q : Value → St → Prop) : Prop :=
 B (evBin oT .neq 3 a0 a0) fun v1 =>
 Q v1 st
theorem r391 {a0 : Value} {st : St} {Q : Value → St → Prop} (h : R391 a0 st Q) : CallP Tryz.prog 391 [a0] st Q :=
  fun_sound oT_ok oS_ok (ann := annL []) fr391 ((show R391 a0 st Q = denF Tryz.prog oT (annL []) (rowF Tryz.f391) [a0] st Q by kernel_rfl).mp h)

/-- trestle/court.named$1 -/
def R392 (a0 a1 a2 : Value) (st : St) (Q : Value → St → Prop) : Prop :=
 B2 (evBox st 183 a0) fun v1 s1 =>
 B (evLoad oT s1 368 a1) fun v2 =>
 B (evLoad oT s1 183 v1) fun v3 =>
 CallQV Tryz.prog v2 [v3] s1 fun v4 s2 =>
 B (evFieldAddr oT 171 a2 2) fun v5 =>
 B (evLoad oT s2 4 v5) fun v6 =>
 B (evBin oT .neq 4 v4 v6) fun v7 =>
 If v7 (Q (.int .i64 0) s2)
 (Q (.int .i64 1) s2)
theorem r392 {a0 a1 a2 : Value} {st : St} {Q : Value → St → Prop} (h : R392 a0 a1 a2 st Q) : CallP Tryz.prog 392 [a0, a1, a2] st Q :=
  fun_sound oT_ok oS_ok (ann := annL []) fr392 ((show R392 a0 a1 a2 st Q = denF Tryz.prog oT (annL []) (rowF Tryz.f392) [a0, a1, a2] st Q by kernel_rfl).mp h)

/-- cmp.isNaN[string] -/
def R393 (a0 : Value) (st : St) (Q : Value → St → Prop) : Prop :=
 B (evBin oT .neq 9 a0 a0) fun v1 =>
 Q v1 st
theorem r393 {a0 : Value} {st : St} {Q : Value → St → Prop} (h : R393 a0 st Q) : CallP Tryz.prog 393 [a0] st Q :=
  fun_sound oT_ok oS_ok (ann := annL []) fr393 ((show R393 a0 st Q = denF Tryz.prog oT (annL []) (rowF Tryz.f393) [a0] st Q by kernel_rfl).mp h)

/-- trestle/court.placed$1 -/
def R394 (a0 : Value) (st : St) (Q : Value → St → Prop) : Prop :=
 B (evBin oT .geq 3 a0 (.int .i64 0)) fun v1 =>
 B (Gd v1 true (evBin oT .leq 3 (Gv v1 true a0) (.int .i64 63))) fun v2 =>
 B (evPick v1 v2 (.bool false)) fun v3 =>
 Q v3 st
theorem r394 {a0 : Value} {st : St} {Q : Value → St → Prop} (h : R394 a0 st Q) : CallP Tryz.prog 394 [a0] st Q :=
  fun_sound oT_ok oS_ok (ann := annL []) fr394 ((show R394 a0 st Q = denF Tryz.prog oT (annL []) (rowF Tryz.f394) [a0] st Q by kernel_rfl).mp h)

/-- trestle/court.placed$2 -/
def R395 (a0 a1 a2 a3 : Value) (st : St) (Q : Value → St → Prop) : Prop :=
 B2 (evBox st 183 a0) fun v1 s1 =>
 B2 (evBox s1 183 a1) fun v2 s2 =>
 B (evLoad oT s2 159 a2) fun v3 =>
 B (evFieldAddr oT 183 v1 1) fun v4 =>
 B (evLoad oT s2 3 v4) fun v5 =>
 CallV Tryz.prog v3 [v5] s2 fun v6 s3 =>
 B (evUn .not v6) fun v7 =>
 B (Gd v7 false (evLoad oT s3 159 a2)) fun v8 =>
 B (Gd v7 false (evFieldAddr oT 183 v2 1)) fun v9 =>
 B (Gd v7 false (evLoad oT s3 3 v9)) fun v10 =>
 GC v7 false s3 (CallV Tryz.prog v8 [v10] s3) fun v11 s4 =>
 B (Gd v7 false (evUn .not v11)) fun v12 =>
 B (evPick v7 (.bool true) v12) fun v13 =>
 If v13 (Q (.int .i64 0) s4)
 (B (evLoad oT s4 210 a3) fun v14 =>
 B (evFieldAddr oT 183 v1 1) fun v15 =>
 B (evLoad oT s4 3 v15) fun v16 =>
 CallQV Tryz.prog v14 [v16] s4 fun v17 s5 =>
 B (evLoad oT s5 210 a3) fun v18 =>
 B (evFieldAddr oT 183 v2 1) fun v19 =>
 B (evLoad oT s5 3 v19) fun v20 =>
 CallQV Tryz.prog v18 [v20] s5 fun v21 s6 =>
 CallQ Tryz.prog 337 [v17, v21] s6 fun v22 s7 =>
 Q v22 s7)
theorem r395 {a0 a1 a2 a3 : Value} {st : St} {Q : Value → St → Prop} (h : R395 a0 a1 a2 a3 st Q) : CallP Tryz.prog 395 [a0, a1, a2, a3] st Q :=
  fun_sound oT_ok oS_ok (ann := annL []) fr395 ((show R395 a0 a1 a2 a3 st Q = denF Tryz.prog oT (annL []) (rowF Tryz.f395) [a0, a1, a2, a3] st Q by kernel_rfl).mp h)

end Go.Ev
