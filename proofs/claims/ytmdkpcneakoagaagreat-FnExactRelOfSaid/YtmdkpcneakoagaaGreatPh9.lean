/- What functions of the program come to. -/
import Derived.Test.YtmdkpcneakoagaaGreatPhT
import Derived.Test.YtmdkpcneakoagaaGreatPh2
import Derived.Test.YtmdkpcneakoagaaGreatPh3
import Derived.Test.YtmdkpcneakoagaaGreatPh8
namespace Go.Ev.W
open Go.Ev Go.Proofs
set_option maxRecDepth 100000
set_option linter.unusedVariables false
noncomputable abbrev QL.s : Sg := ⟨[.lend, .lend, .lend, .lend, .lend], [.agg [.int .i64, .int .i64, .int .i64, .sl false false 3, .sl false false 57, .sl false false 3, .int .i64, .sl false false 90, .int .i64, .int .i64, .int .i64, .sl false false 90, .int .i64, .int .i64, .int .i64, .sl false false 90], vl 5, vi, vi, vi], ⟨[vb], [none, none, none, none, none]⟩, Tryz.f5⟩
noncomputable def QL.gs (δ : Type) : List (Nat × Callee (GT tab) δ) := [(8, Q0Q.k), (9, Q0t.k), (22, Q1i.k), (23, Q12.k), (24, Q06.k), (25, Q14.k), (26, Q1D.k), (27, Q0y.k), (28, Q1E.k), (29, Q0A.k), (30, Q1F.k), (31, Q1m.k)]
theorem QL.gok (δ : Type) : Q4 Tryz.prog tab (QL.gs δ) := .cons Q0Q.con (.cons Q0t.con (.cons Q1i.con (.cons Q12.con (.cons Q06.con (.cons Q14.con (.cons Q1D.con (.cons Q0y.con (.cons Q1E.con (.cons Q0A.con (.cons Q1F.con (.cons Q1m.con .nil)))))))))))
noncomputable def QL.c := cx QL.s [] [13, 22, 33] [(13, [1, 2, 3, 4, 5, 12, 13, 14, 15, 16, 17]), (22, [1, 2, 3, 4, 5, 12, 13, 16]), (33, [16, 19])] false (QL.gs _)
noncomputable def QL (x0 : Int × Int × Int × (List Int) × (List (Int × (List Int))) × (List Int) × Int × (List Int) × Int × Int × Int × (List Int) × Int × Int × Int × (List Int)) (x1 : List Int) (x2 x3 x4 : Int) : Option (Bool) := fnW QL.s QL.c (x0, x1, x2, x3, x4)
theorem QL.fok : FkS QL.s 5 := ⟨Tryz.func5, by kernel_rfl, by kernel_rfl⟩
noncomputable def QL.fn (x : Args tab QL.s.ar) : Option (ResT tab QL.s.rs) := QL x.1 x.2.1 x.2.2.1 x.2.2.2.1 x.2.2.2.2
noncomputable abbrev QL.as := QL.s.ar
noncomputable def QL_l0 (v0 : List Int) (v1 v2 v3 : Int) (v4 v5 : Bool) (v6 v7 v8 : Int) (v9 : List Int) (v10 : List (Int × (List Int))) (v11 : List Int) (v12 : Int) (v13 : List Int) (v14 v15 v16 : Int) (v17 : List Int) (v18 v19 v20 : Int) (v21 : List Int) (v22 v23 v24 v25 v26 v27 v28 v29 v30 v31 v32 v33 v34 : Int) (v35 v36 v37 : List Int) (v38 : List (Int × (List Int))) (v39 : List Int) (v40 : List (Int × (List Int))) (v41 v42 v43 v44 : List Int) (v45 v46 v47 v48 v49 v50 v51 v52 v53 v54 : Int) (v55 : List Int) (v56 : List (Int × (List Int))) (v57 v58 v59 v60 v61 : List Int) (v62 v63 v64 v65 v66 v67 v68 v69 v70 v71 v72 v73 v74 : Int) (v75 v76 v77 : List Int) (v78 : List (Int × (List Int))) (v79 : List Int) (v80 : List (Int × (List Int))) (v81 v82 v83 v84 : List Int) : Option (Bool) := lpW QL.s QL.c 0 (ud 114 [.undef, .vs false 5 v0, .int .i64 v1, .int .i64 v2, .int .i64 v3, .ptr 0 0, .undef, .undef, .undef, .undef, .undef, .undef, .ptr 1 0, .bool v4, .ptr 12 0, .sl 19 0, .ptr 20 0, .bool v5]) [.box 61 [.int .i64 v6, .int .i64 v7, .int .i64 v8, .vs false 3 v9, .vs false 57 v10, .vs false 3 v11, .int .i64 v12, .vs false 90 v13, .int .i64 v14, .int .i64 v15, .int .i64 v16, .vs false 90 v17, .int .i64 v18, .int .i64 v19, .int .i64 v20, .vs false 90 v21], .box 38 [.int .i64 v22, .int .i64 v23, .int .i64 v24, .sl 2 0, .int .i64 v25, .sl 3 0, .int .i64 v26, .sl 4 0, .sl 5 0, .int .i64 v27, .sl 6 0, .sl 7 0, .sl 8 0, .int .i64 v28, .sl 9 0, .int .i64 v29, .int .i64 v30, .int .i64 v31, .sl 10 0, .int .i64 v32, .int .i64 v33, .int .i64 v34, .sl 11 0], .row 0 true 90 v35, .row 0 true 90 v36, .row 0 true 3 v37, .row 0 true 30 v38, .row 0 true 3 v39, .row 0 true 30 v40, .row 0 true 3 v41, .row 0 true 90 v42, .row 0 true 90 v43, .row 0 true 90 v44, .box 34 [.int .i64 v45, .int .i64 v46, .int .i64 v47, .sl 13 0, .sl 14 0, .sl 15 0, .int .i64 v48, .sl 16 0, .int .i64 v49, .int .i64 v50, .int .i64 v51, .sl 17 0, .int .i64 v52, .int .i64 v53, .int .i64 v54, .sl 18 0], .row 0 true 3 v55, .row 0 true 30 v56, .row 0 true 3 v57, .row 0 true 90 v58, .row 0 true 90 v59, .row 0 true 90 v60, .row 0 true 5 v61, .box 38 [.int .i64 v62, .int .i64 v63, .int .i64 v64, .sl 21 0, .int .i64 v65, .sl 22 0, .int .i64 v66, .sl 23 0, .sl 24 0, .int .i64 v67, .sl 25 0, .sl 26 0, .sl 27 0, .int .i64 v68, .sl 28 0, .int .i64 v69, .int .i64 v70, .int .i64 v71, .sl 29 0, .int .i64 v72, .int .i64 v73, .int .i64 v74, .sl 30 0], .row 0 true 90 v75, .row 0 true 90 v76, .row 0 true 3 v77, .row 0 true 30 v78, .row 0 true 3 v79, .row 0 true 30 v80, .row 0 true 3 v81, .row 0 true 90 v82, .row 0 true 90 v83, .row 0 true 90 v84] 31
noncomputable def QL_l1 (v0 : List Int) (v1 v2 v3 : Int) (v4 : Bool) (v5 v6 v7 : Int) (v8 : List Int) (v9 : List (Int × (List Int))) (v10 : List Int) (v11 : Int) (v12 : List Int) (v13 v14 v15 : Int) (v16 : List Int) (v17 v18 v19 : Int) (v20 : List Int) (v21 v22 v23 v24 v25 v26 v27 v28 v29 v30 v31 v32 v33 : Int) (v34 v35 v36 : List Int) (v37 : List (Int × (List Int))) (v38 : List Int) (v39 : List (Int × (List Int))) (v40 v41 v42 v43 : List Int) (v44 v45 v46 v47 v48 v49 v50 v51 v52 v53 v54 v55 v56 : Int) (v57 v58 v59 : List Int) (v60 : List (Int × (List Int))) (v61 : List Int) (v62 : List (Int × (List Int))) (v63 v64 v65 v66 : List Int) : Option (Bool) := lpW QL.s QL.c 1 (ud 115 [.undef, .vs false 5 v0, .int .i64 v1, .int .i64 v2, .int .i64 v3, .ptr 0 0, .undef, .undef, .undef, .undef, .undef, .undef, .ptr 1 0, .bool v4, .undef, .undef, .ptr 12 0]) [.box 61 [.int .i64 v5, .int .i64 v6, .int .i64 v7, .vs false 3 v8, .vs false 57 v9, .vs false 3 v10, .int .i64 v11, .vs false 90 v12, .int .i64 v13, .int .i64 v14, .int .i64 v15, .vs false 90 v16, .int .i64 v17, .int .i64 v18, .int .i64 v19, .vs false 90 v20], .box 38 [.int .i64 v21, .int .i64 v22, .int .i64 v23, .sl 2 0, .int .i64 v24, .sl 3 0, .int .i64 v25, .sl 4 0, .sl 5 0, .int .i64 v26, .sl 6 0, .sl 7 0, .sl 8 0, .int .i64 v27, .sl 9 0, .int .i64 v28, .int .i64 v29, .int .i64 v30, .sl 10 0, .int .i64 v31, .int .i64 v32, .int .i64 v33, .sl 11 0], .row 0 true 90 v34, .row 0 true 90 v35, .row 0 true 3 v36, .row 0 true 30 v37, .row 0 true 3 v38, .row 0 true 30 v39, .row 0 true 3 v40, .row 0 true 90 v41, .row 0 true 90 v42, .row 0 true 90 v43, .box 38 [.int .i64 v44, .int .i64 v45, .int .i64 v46, .sl 13 0, .int .i64 v47, .sl 14 0, .int .i64 v48, .sl 15 0, .sl 16 0, .int .i64 v49, .sl 17 0, .sl 18 0, .sl 19 0, .int .i64 v50, .sl 20 0, .int .i64 v51, .int .i64 v52, .int .i64 v53, .sl 21 0, .int .i64 v54, .int .i64 v55, .int .i64 v56, .sl 22 0], .row 0 true 90 v57, .row 0 true 90 v58, .row 0 true 3 v59, .row 0 true 30 v60, .row 0 true 3 v61, .row 0 true 30 v62, .row 0 true 3 v63, .row 0 true 90 v64, .row 0 true 90 v65, .row 0 true 90 v66] 23
noncomputable def QL_l2 (v0 v1 v2 v3 v4 v5 v6 v7 v8 v9 v10 v11 v12 v13 : Int) (v14 v15 v16 : List Int) (v17 : List (Int × (List Int))) (v18 : List Int) (v19 : List (Int × (List Int))) (v20 v21 v22 v23 : List Int) : Option (Bool) := lpW QL.s QL.c 2 (ud 112 [.undef, .undef, .undef, .undef, .undef, .undef, .undef, .undef, .undef, .undef, .undef, .undef, .undef, .undef, .undef, .undef, .ptr 0 0, .undef, .undef, .int .i64 v0]) [.box 38 [.int .i64 v1, .int .i64 v2, .int .i64 v3, .sl 1 0, .int .i64 v4, .sl 2 0, .int .i64 v5, .sl 3 0, .sl 4 0, .int .i64 v6, .sl 5 0, .sl 6 0, .sl 7 0, .int .i64 v7, .sl 8 0, .int .i64 v8, .int .i64 v9, .int .i64 v10, .sl 9 0, .int .i64 v11, .int .i64 v12, .int .i64 v13, .sl 10 0], .row 0 true 90 v14, .row 0 true 90 v15, .row 0 true 3 v16, .row 0 true 30 v17, .row 0 true 3 v18, .row 0 true 30 v19, .row 0 true 3 v20, .row 0 true 90 v21, .row 0 true 90 v22, .row 0 true 90 v23] 11
theorem QL.eq (x0 : Int × Int × Int × (List Int) × (List (Int × (List Int))) × (List Int) × Int × (List Int) × Int × Int × Int × (List Int) × Int × Int × Int × (List Int)) (x1 : List Int) (x2 x3 x4 : Int) : QL x0 x1 x2 x3 x4 =
 bif decide ((x1.length : Int) > (1048576 : Int)) then
 some true
 else
 (Q1i x0 (1048576 : Int)).bind fun y1 =>
 bif decide (y1 < (0 : Int)) then
 some true
 else
 (Q12 x0).bind fun y2 =>
 (Q06 x1).bind fun y3 =>
 (Q0Q y2 y3 x2 x3 x4).bind fun y4 =>
 (Q12 x0).bind fun y5 =>
 (Q06 x1).bind fun y6 =>
 (Q0t y5 y6 x2 x3 x4).bind fun y7 =>
 (Q14 y7.1 y4.1).bind fun y8 =>
 bif !y8 then
 some false
 else
 bif !(y7.2 == y4.2) then
 some false
 else
 QL_l0 x1 x2 x3 x4 y4.2 y7.2 x0.1 x0.2.1 x0.2.2.1 x0.2.2.2.1 x0.2.2.2.2.1 x0.2.2.2.2.2.1 x0.2.2.2.2.2.2.1 x0.2.2.2.2.2.2.2.1 x0.2.2.2.2.2.2.2.2.1 x0.2.2.2.2.2.2.2.2.2.1 x0.2.2.2.2.2.2.2.2.2.2.1 x0.2.2.2.2.2.2.2.2.2.2.2.1 x0.2.2.2.2.2.2.2.2.2.2.2.2.1 x0.2.2.2.2.2.2.2.2.2.2.2.2.2.1 x0.2.2.2.2.2.2.2.2.2.2.2.2.2.2.1 x0.2.2.2.2.2.2.2.2.2.2.2.2.2.2.2 y4.1.1 y4.1.2.1 y4.1.2.2.1 y4.1.2.2.2.2.1 y4.1.2.2.2.2.2.2.1 y4.1.2.2.2.2.2.2.2.2.2.1 y4.1.2.2.2.2.2.2.2.2.2.2.2.2.2.1 y4.1.2.2.2.2.2.2.2.2.2.2.2.2.2.2.2.1 y4.1.2.2.2.2.2.2.2.2.2.2.2.2.2.2.2.2.1 y4.1.2.2.2.2.2.2.2.2.2.2.2.2.2.2.2.2.2.1 y4.1.2.2.2.2.2.2.2.2.2.2.2.2.2.2.2.2.2.2.2.1 y4.1.2.2.2.2.2.2.2.2.2.2.2.2.2.2.2.2.2.2.2.2.1 y4.1.2.2.2.2.2.2.2.2.2.2.2.2.2.2.2.2.2.2.2.2.2.1 y4.1.2.2.2.1 y4.1.2.2.2.2.2.1 y4.1.2.2.2.2.2.2.2.1 y4.1.2.2.2.2.2.2.2.2.1 y4.1.2.2.2.2.2.2.2.2.2.2.1 y4.1.2.2.2.2.2.2.2.2.2.2.2.1 y4.1.2.2.2.2.2.2.2.2.2.2.2.2.1 y4.1.2.2.2.2.2.2.2.2.2.2.2.2.2.2.1 y4.1.2.2.2.2.2.2.2.2.2.2.2.2.2.2.2.2.2.2.1 y4.1.2.2.2.2.2.2.2.2.2.2.2.2.2.2.2.2.2.2.2.2.2.2 y5.1 y5.2.1 y5.2.2.1 y5.2.2.2.2.2.2.1 y5.2.2.2.2.2.2.2.2.1 y5.2.2.2.2.2.2.2.2.2.1 y5.2.2.2.2.2.2.2.2.2.2.1 y5.2.2.2.2.2.2.2.2.2.2.2.2.1 y5.2.2.2.2.2.2.2.2.2.2.2.2.2.1 y5.2.2.2.2.2.2.2.2.2.2.2.2.2.2.1 y5.2.2.2.1 y5.2.2.2.2.1 y5.2.2.2.2.2.1 y5.2.2.2.2.2.2.2.1 y5.2.2.2.2.2.2.2.2.2.2.2.1 y5.2.2.2.2.2.2.2.2.2.2.2.2.2.2.2 y6 y7.1.1 y7.1.2.1 y7.1.2.2.1 y7.1.2.2.2.2.1 y7.1.2.2.2.2.2.2.1 y7.1.2.2.2.2.2.2.2.2.2.1 y7.1.2.2.2.2.2.2.2.2.2.2.2.2.2.1 y7.1.2.2.2.2.2.2.2.2.2.2.2.2.2.2.2.1 y7.1.2.2.2.2.2.2.2.2.2.2.2.2.2.2.2.2.1 y7.1.2.2.2.2.2.2.2.2.2.2.2.2.2.2.2.2.2.1 y7.1.2.2.2.2.2.2.2.2.2.2.2.2.2.2.2.2.2.2.2.1 y7.1.2.2.2.2.2.2.2.2.2.2.2.2.2.2.2.2.2.2.2.2.1 y7.1.2.2.2.2.2.2.2.2.2.2.2.2.2.2.2.2.2.2.2.2.2.1 y7.1.2.2.2.1 y7.1.2.2.2.2.2.1 y7.1.2.2.2.2.2.2.2.1 y7.1.2.2.2.2.2.2.2.2.1 y7.1.2.2.2.2.2.2.2.2.2.2.1 y7.1.2.2.2.2.2.2.2.2.2.2.2.1 y7.1.2.2.2.2.2.2.2.2.2.2.2.2.1 y7.1.2.2.2.2.2.2.2.2.2.2.2.2.2.2.1 y7.1.2.2.2.2.2.2.2.2.2.2.2.2.2.2.2.2.2.2.1 y7.1.2.2.2.2.2.2.2.2.2.2.2.2.2.2.2.2.2.2.2.2.2.2 := by kernel_rfl
theorem QL_l0.eq (v0 : List Int) (v1 v2 v3 : Int) (v4 v5 : Bool) (v6 v7 v8 : Int) (v9 : List Int) (v10 : List (Int × (List Int))) (v11 : List Int) (v12 : Int) (v13 : List Int) (v14 v15 v16 : Int) (v17 : List Int) (v18 v19 v20 : Int) (v21 : List Int) (v22 v23 v24 v25 v26 v27 v28 v29 v30 v31 v32 v33 v34 : Int) (v35 v36 v37 : List Int) (v38 : List (Int × (List Int))) (v39 : List Int) (v40 : List (Int × (List Int))) (v41 v42 v43 v44 : List Int) (v45 v46 v47 v48 v49 v50 v51 v52 v53 v54 : Int) (v55 : List Int) (v56 : List (Int × (List Int))) (v57 v58 v59 v60 v61 : List Int) (v62 v63 v64 v65 v66 v67 v68 v69 v70 v71 v72 v73 v74 : Int) (v75 v76 v77 : List Int) (v78 : List (Int × (List Int))) (v79 : List Int) (v80 : List (Int × (List Int))) (v81 v82 v83 v84 : List Int) : QL_l0 v0 v1 v2 v3 v4 v5 v6 v7 v8 v9 v10 v11 v12 v13 v14 v15 v16 v17 v18 v19 v20 v21 v22 v23 v24 v25 v26 v27 v28 v29 v30 v31 v32 v33 v34 v35 v36 v37 v38 v39 v40 v41 v42 v43 v44 v45 v46 v47 v48 v49 v50 v51 v52 v53 v54 v55 v56 v57 v58 v59 v60 v61 v62 v63 v64 v65 v66 v67 v68 v69 v70 v71 v72 v73 v74 v75 v76 v77 v78 v79 v80 v81 v82 v83 v84 =
 (Q12 (v6, v7, v8, v9, v10, v11, v12, v13, v14, v15, v16, v17, v18, v19, v20, v21)).bind fun y1 =>
 (Q1D (v45, v46, v47, v55, v56, v57, v48, v58, v49, v50, v51, v59, v52, v53, v54, v60) y1).bind fun y2 =>
 bif !y2 then
 some false
 else
 (Q06 v0).bind fun y3 =>
 (Q0y v61 y3).bind fun y4 =>
 bif !y4 then
 some false
 else
 (Q1E (v45, v46, v47, v55, v56, v57, v48, v58, v49, v50, v51, v59, v52, v53, v54, v60) (1 : Int)).bind fun y5 =>
 (Q0A v61 y5.1).bind fun y6 =>
 bif decide (y6.1 < (0 : Int)) then
 some false
 else
 (Q14 (v62, v63, v64, v75, v65, v76, v66, v77, v78, v67, v79, v80, v81, v68, v82, v69, v70, v71, v83, v72, v73, v74, v84) (v22, v23, v24, v35, v25, v36, v26, v37, v38, v27, v39, v40, v41, v28, v42, v29, v30, v31, v43, v32, v33, v34, v44)).bind fun y7 =>
 bif !y7 then
 some false
 else
 bif !(v5 == v4) then
 some false
 else
 QL_l1 v0 v1 v2 v3 v4 v6 v7 v8 v9 v10 v11 v12 v13 v14 v15 v16 v17 v18 v19 v20 v21 v22 v23 v24 v25 v26 v27 v28 v29 v30 v31 v32 v33 v34 v35 v36 v37 v38 v39 v40 v41 v42 v43 v44 v62 v63 v64 v65 v66 v67 v68 v69 v70 v71 v72 v73 v74 v75 v76 v77 v78 v79 v80 v81 v82 v83 v84 := (Q6 Q0 (Q1 (QL.gok _)) _ _).trans (by kernel_rfl)
theorem QL_l1.eq (v0 : List Int) (v1 v2 v3 : Int) (v4 : Bool) (v5 v6 v7 : Int) (v8 : List Int) (v9 : List (Int × (List Int))) (v10 : List Int) (v11 : Int) (v12 : List Int) (v13 v14 v15 : Int) (v16 : List Int) (v17 v18 v19 : Int) (v20 : List Int) (v21 v22 v23 v24 v25 v26 v27 v28 v29 v30 v31 v32 v33 : Int) (v34 v35 v36 : List Int) (v37 : List (Int × (List Int))) (v38 : List Int) (v39 : List (Int × (List Int))) (v40 v41 v42 v43 : List Int) (v44 v45 v46 v47 v48 v49 v50 v51 v52 v53 v54 v55 v56 : Int) (v57 v58 v59 : List Int) (v60 : List (Int × (List Int))) (v61 : List Int) (v62 : List (Int × (List Int))) (v63 v64 v65 v66 : List Int) : QL_l1 v0 v1 v2 v3 v4 v5 v6 v7 v8 v9 v10 v11 v12 v13 v14 v15 v16 v17 v18 v19 v20 v21 v22 v23 v24 v25 v26 v27 v28 v29 v30 v31 v32 v33 v34 v35 v36 v37 v38 v39 v40 v41 v42 v43 v44 v45 v46 v47 v48 v49 v50 v51 v52 v53 v54 v55 v56 v57 v58 v59 v60 v61 v62 v63 v64 v65 v66 =
 (Q1F (v44, v45, v46, v57, v47, v58, v48, v59, v60, v49, v61, v62, v63, v50, v64, v51, v52, v53, v65, v54, v55, v56, v66) (1 : Int)).bind fun y1 =>
 (Q1m (v44, v45, v46, y1.2.2.2.2.1, v47, y1.2.2.2.2.2.2.1, v48, y1.2.2.2.2.2.2.2.2.1, y1.2.2.2.2.2.2.2.2.2.1, v49, y1.2.2.2.2.2.2.2.2.2.2.2.1, y1.2.2.2.2.2.2.2.2.2.2.2.2.1, y1.2.2.2.2.2.2.2.2.2.2.2.2.2.1, v50, y1.2.2.2.2.2.2.2.2.2.2.2.2.2.2.2.1, v51, v52, v53, y1.2.2.2.2.2.2.2.2.2.2.2.2.2.2.2.2.2.2.2.1, v54, v55, v56, y1.2.2.2.2.2.2.2.2.2.2.2.2.2.2.2.2.2.2.2.2.2.2.2) (1 : Int)).bind fun y2 =>
 bif decide (y2 < (0 : Int)) then
 some false
 else
 bif y2 != y1.1 then
 some false
 else
 (Q12 (v5, v6, v7, v8, v9, v10, v11, v12, v13, v14, v15, v16, v17, v18, v19, v20)).bind fun y3 =>
 (Q06 v0).bind fun y4 =>
 (Q0t y3 y4 v1 v2 v3).bind fun y5 =>
 (Q14 y5.1 (v21, v22, v23, v34, v24, v35, v25, v36, v37, v26, v38, v39, v40, v27, v41, v28, v29, v30, v42, v31, v32, v33, v43)).bind fun y6 =>
 bif !y6 then
 some false
 else
 bif !(y5.2 == v4) then
 some false
 else
 QL_l2 y1.1 v44 v45 v46 v47 v48 v49 v50 v51 v52 v53 v54 v55 v56 y1.2.2.2.2.1 y1.2.2.2.2.2.2.1 y1.2.2.2.2.2.2.2.2.1 y1.2.2.2.2.2.2.2.2.2.1 y1.2.2.2.2.2.2.2.2.2.2.2.1 y1.2.2.2.2.2.2.2.2.2.2.2.2.1 y1.2.2.2.2.2.2.2.2.2.2.2.2.2.1 y1.2.2.2.2.2.2.2.2.2.2.2.2.2.2.2.1 y1.2.2.2.2.2.2.2.2.2.2.2.2.2.2.2.2.2.2.2.1 y1.2.2.2.2.2.2.2.2.2.2.2.2.2.2.2.2.2.2.2.2.2.2.2 := (Q6 Q0 (Q1 (QL.gok _)) _ _).trans (by kernel_rfl)
theorem QL_l2.eq (v0 v1 v2 v3 v4 v5 v6 v7 v8 v9 v10 v11 v12 v13 : Int) (v14 v15 v16 : List Int) (v17 : List (Int × (List Int))) (v18 : List Int) (v19 : List (Int × (List Int))) (v20 v21 v22 v23 : List Int) : QL_l2 v0 v1 v2 v3 v4 v5 v6 v7 v8 v9 v10 v11 v12 v13 v14 v15 v16 v17 v18 v19 v20 v21 v22 v23 =
 (Q1m (v1, v2, v3, v14, v4, v15, v5, v16, v17, v6, v18, v19, v20, v7, v21, v8, v9, v10, v22, v11, v12, v13, v23) (1 : Int)).bind fun y1 =>
 bif decide (y1 < (0 : Int)) then
 some false
 else
 bif y1 != v0 then
 some false
 else
 some true := (Q6 Q0 (Q1 (QL.gok _)) _ _).trans (by kernel_rfl)
end Go.Ev.W
