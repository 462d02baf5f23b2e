/- What functions of the program come to. -/
import Derived.Test.YtmdkpcneakoagaaGreatPhT
import Derived.Test.YtmdkpcneakoagaaGreatPh1
import Derived.Test.YtmdkpcneakoagaaGreatPh2
import Derived.Test.YtmdkpcneakoagaaGreatPh3
import Derived.Test.YtmdkpcneakoagaaGreatPh6
namespace Go.Ev.W
open Go.Ev Go.Proofs
set_option maxRecDepth 100000
set_option linter.unusedVariables false
noncomputable abbrev Q11.s : Sg := ⟨[.lend], [vl 5], ⟨[vb], [none]⟩, Tryz.f4⟩
noncomputable def Q11.gs (δ : Type) : List (Nat × KC δ) := [(6, Q1F.k), (7, Q0h.k), (8, Q0K.k), (9, Q0O.k), (12, Q1q.k), (14, Q08.k), (15, Q1M.k), (16, Q1I.k), (17, Q1s.k), (18, Q1t.k), (19, Q0D.k), (20, Q1u.k), (21, Q17.k)]
theorem Q11.gok (δ : Type) : Q4 Tryz.prog tab (Q11.gs δ) := .cons Q1F.con (.cons Q0h.con (.cons Q0K.con (.cons Q0O.con (.cons Q1q.con (.cons Q08.con (.cons Q1M.con (.cons Q1I.con (.cons Q1s.con (.cons Q1t.con (.cons Q0D.con (.cons Q1u.con (.cons Q17.con .nil))))))))))))
noncomputable def Q11.c := cx Q11.s [] [9] [(9, [0, 3, 4, 10, 12])] false (Q11.gs _)
noncomputable def Q11 (x0 : List Int) : Option (Bool) := fnW Q11.s Q11.c x0
theorem Q11.fok : FkS Q11.s 4 := ⟨Tryz.func4, by kernel_rfl, by kernel_rfl⟩
noncomputable def Q11.fn (x : Args tab Q11.s.ar) : Option (ResT tab Q11.s.rs) := Q11 x
noncomputable abbrev Q11.as := Q11.s.ar
noncomputable def Q11_l0 (v0 v1 : List Int) (v2 v3 v4 : Int) (v5 : List Int) (v6 : List (Int × (List Int))) (v7 : List Int) (v8 : Int) (v9 : List Int) (v10 v11 v12 : Int) (v13 : List Int) (v14 v15 v16 : Int) (v17 : List Int) (v18 v19 v20 v21 v22 v23 v24 v25 v26 v27 v28 v29 v30 : Int) (v31 v32 v33 : List Int) (v34 : List (Int × (List Int))) (v35 : List Int) (v36 : List (Int × (List Int))) (v37 v38 v39 v40 : List Int) (v41 v42 v43 v44 v45 v46 v47 v48 v49 v50 v51 v52 v53 : Int) (v54 v55 v56 : List Int) (v57 : List (Int × (List Int))) (v58 : List Int) (v59 : List (Int × (List Int))) (v60 v61 v62 v63 : List Int) : Option (Bool) := lpW Q11.s Q11.c 0 (ud 132 [.vs false 5 v0, .undef, .undef, .ptr 0 0, .vs false 5 v1, .undef, .undef, .undef, .undef, .undef, .ptr 1 0, .undef, .ptr 12 0]) [.box 34 [.int .i64 v2, .int .i64 v3, .int .i64 v4, .vs false 3 v5, .vs false 30 v6, .vs false 3 v7, .int .i64 v8, .vs false 90 v9, .int .i64 v10, .int .i64 v11, .int .i64 v12, .vs false 90 v13, .int .i64 v14, .int .i64 v15, .int .i64 v16, .vs false 90 v17], .box 38 [.int .i64 v18, .int .i64 v19, .int .i64 v20, .sl 2 0, .int .i64 v21, .sl 3 0, .int .i64 v22, .sl 4 0, .sl 5 0, .int .i64 v23, .sl 6 0, .sl 7 0, .sl 8 0, .int .i64 v24, .sl 9 0, .int .i64 v25, .int .i64 v26, .int .i64 v27, .sl 10 0, .int .i64 v28, .int .i64 v29, .int .i64 v30, .sl 11 0], .row 0 true 90 v31, .row 0 true 90 v32, .row 0 true 3 v33, .row 0 true 30 v34, .row 0 true 3 v35, .row 0 true 30 v36, .row 0 true 3 v37, .row 0 true 90 v38, .row 0 true 90 v39, .row 0 true 90 v40, .box 38 [.int .i64 v41, .int .i64 v42, .int .i64 v43, .sl 13 0, .int .i64 v44, .sl 14 0, .int .i64 v45, .sl 15 0, .sl 16 0, .int .i64 v46, .sl 17 0, .sl 18 0, .sl 19 0, .int .i64 v47, .sl 20 0, .int .i64 v48, .int .i64 v49, .int .i64 v50, .sl 21 0, .int .i64 v51, .int .i64 v52, .int .i64 v53, .sl 22 0], .row 0 true 90 v54, .row 0 true 90 v55, .row 0 true 3 v56, .row 0 true 30 v57, .row 0 true 3 v58, .row 0 true 30 v59, .row 0 true 3 v60, .row 0 true 90 v61, .row 0 true 90 v62, .row 0 true 90 v63] 23
theorem Q11.eq (x0 : List Int) : Q11 x0 =
 (Q1F x0).bind fun y1 =>
 bif y1 then
 some true
 else
 (Q0h x0).bind fun y2 =>
 (Q0K y2.1 y2.2.1 y2.2.2.1 y2.2.2.2.1 y2.2.2.2.2).bind fun y3 =>
 (Q0O y2.1 y2.2.1 y2.2.2.1 y2.2.2.2.1 y2.2.2.2.2).bind fun y4 =>
 (Q0O y2.1 y2.2.1 y2.2.2.1 (-1 : Int) y2.2.2.2.2).bind fun y5 =>
 bif !(y4.2 == y3.2) then
 bif y4.2 == y3.2 then
 some (y5.2 == y3.2)
 else
 some false
 else
 bif !(y5.2 == y3.2) then
 bif y4.2 == y3.2 then
 some (y5.2 == y3.2)
 else
 some false
 else
 bif !y4.2 then
 bif y4.2 == y3.2 then
 some (y5.2 == y3.2)
 else
 some false
 else
 Q11_l0 x0 y2.2.1 y2.1.1 y2.1.2.1 y2.1.2.2.1 y2.1.2.2.2.1 y2.1.2.2.2.2.1 y2.1.2.2.2.2.2.1 y2.1.2.2.2.2.2.2.1 y2.1.2.2.2.2.2.2.2.1 y2.1.2.2.2.2.2.2.2.2.1 y2.1.2.2.2.2.2.2.2.2.2.1 y2.1.2.2.2.2.2.2.2.2.2.2.1 y2.1.2.2.2.2.2.2.2.2.2.2.2.1 y2.1.2.2.2.2.2.2.2.2.2.2.2.2.1 y2.1.2.2.2.2.2.2.2.2.2.2.2.2.2.1 y2.1.2.2.2.2.2.2.2.2.2.2.2.2.2.2.1 y2.1.2.2.2.2.2.2.2.2.2.2.2.2.2.2.2 y4.1.1 y4.1.2.1 y4.1.2.2.1 y4.1.2.2.2.2.1 y4.1.2.2.2.2.2.2.1 y4.1.2.2.2.2.2.2.2.2.2.1 y4.1.2.2.2.2.2.2.2.2.2.2.2.2.2.1 y4.1.2.2.2.2.2.2.2.2.2.2.2.2.2.2.2.1 y4.1.2.2.2.2.2.2.2.2.2.2.2.2.2.2.2.2.1 y4.1.2.2.2.2.2.2.2.2.2.2.2.2.2.2.2.2.2.1 y4.1.2.2.2.2.2.2.2.2.2.2.2.2.2.2.2.2.2.2.2.1 y4.1.2.2.2.2.2.2.2.2.2.2.2.2.2.2.2.2.2.2.2.2.1 y4.1.2.2.2.2.2.2.2.2.2.2.2.2.2.2.2.2.2.2.2.2.2.1 y4.1.2.2.2.1 y4.1.2.2.2.2.2.1 y4.1.2.2.2.2.2.2.2.1 y4.1.2.2.2.2.2.2.2.2.1 y4.1.2.2.2.2.2.2.2.2.2.2.1 y4.1.2.2.2.2.2.2.2.2.2.2.2.1 y4.1.2.2.2.2.2.2.2.2.2.2.2.2.1 y4.1.2.2.2.2.2.2.2.2.2.2.2.2.2.2.1 y4.1.2.2.2.2.2.2.2.2.2.2.2.2.2.2.2.2.2.2.1 y4.1.2.2.2.2.2.2.2.2.2.2.2.2.2.2.2.2.2.2.2.2.2.2 y5.1.1 y5.1.2.1 y5.1.2.2.1 y5.1.2.2.2.2.1 y5.1.2.2.2.2.2.2.1 y5.1.2.2.2.2.2.2.2.2.2.1 y5.1.2.2.2.2.2.2.2.2.2.2.2.2.2.1 y5.1.2.2.2.2.2.2.2.2.2.2.2.2.2.2.2.1 y5.1.2.2.2.2.2.2.2.2.2.2.2.2.2.2.2.2.1 y5.1.2.2.2.2.2.2.2.2.2.2.2.2.2.2.2.2.2.1 y5.1.2.2.2.2.2.2.2.2.2.2.2.2.2.2.2.2.2.2.2.1 y5.1.2.2.2.2.2.2.2.2.2.2.2.2.2.2.2.2.2.2.2.2.1 y5.1.2.2.2.2.2.2.2.2.2.2.2.2.2.2.2.2.2.2.2.2.2.1 y5.1.2.2.2.1 y5.1.2.2.2.2.2.1 y5.1.2.2.2.2.2.2.2.1 y5.1.2.2.2.2.2.2.2.2.1 y5.1.2.2.2.2.2.2.2.2.2.2.1 y5.1.2.2.2.2.2.2.2.2.2.2.2.1 y5.1.2.2.2.2.2.2.2.2.2.2.2.2.1 y5.1.2.2.2.2.2.2.2.2.2.2.2.2.2.2.1 y5.1.2.2.2.2.2.2.2.2.2.2.2.2.2.2.2.2.2.2.1 y5.1.2.2.2.2.2.2.2.2.2.2.2.2.2.2.2.2.2.2.2.2.2.2 := by kernel_rfl
theorem Q11_l0.eq (v0 v1 : List Int) (v2 v3 v4 : Int) (v5 : List Int) (v6 : List (Int × (List Int))) (v7 : List Int) (v8 : Int) (v9 : List Int) (v10 v11 v12 : Int) (v13 : List Int) (v14 v15 v16 : Int) (v17 : List Int) (v18 v19 v20 v21 v22 v23 v24 v25 v26 v27 v28 v29 v30 : Int) (v31 v32 v33 : List Int) (v34 : List (Int × (List Int))) (v35 : List Int) (v36 : List (Int × (List Int))) (v37 v38 v39 v40 : List Int) (v41 v42 v43 v44 v45 v46 v47 v48 v49 v50 v51 v52 v53 : Int) (v54 v55 v56 : List Int) (v57 : List (Int × (List Int))) (v58 : List Int) (v59 : List (Int × (List Int))) (v60 v61 v62 v63 : List Int) : Q11_l0 v0 v1 v2 v3 v4 v5 v6 v7 v8 v9 v10 v11 v12 v13 v14 v15 v16 v17 v18 v19 v20 v21 v22 v23 v24 v25 v26 v27 v28 v29 v30 v31 v32 v33 v34 v35 v36 v37 v38 v39 v40 v41 v42 v43 v44 v45 v46 v47 v48 v49 v50 v51 v52 v53 v54 v55 v56 v57 v58 v59 v60 v61 v62 v63 =
 (Q08 v0 3 (IntKind.i64.wrap ((v1.length : Int) + 1))).bind fun y1 =>
 (Q1I v0).bind fun y2 =>
 (Q1M y2).bind fun y3 =>
 (Q1q (v2, v3, v4, v5, v6, v7, v8, v9, v10, v11, v12, v13, v14, v15, v16, v17) (v41, v42, v43, v54, v44, v55, v45, v56, v57, v46, v58, v59, v60, v47, v61, v48, v49, v50, v62, v51, v52, v53, v63)).bind fun y4 =>
 bif y4 == IntKind.i64.wrap ((v1.length : Int) + 1) then
 (Q1q (v2, v3, v4, v5, v6, v7, v8, v9, v10, v11, v12, v13, v14, v15, v16, v17) (v18, v19, v20, v31, v21, v32, v22, v33, v34, v23, v35, v36, v37, v24, v38, v25, v26, v27, v39, v28, v29, v30, v40)).bind fun y5 =>
 bif decide (y5 ≤ IntKind.i64.wrap ((v1.length : Int) + 1)) then
 (Q1s (v2, v3, v4, v5, v6, v7, v8, v9, v10, v11, v12, v13, v14, v15, v16, v17) (v18, v19, v20, v31, v21, v32, v22, v33, v34, v23, v35, v36, v37, v24, v38, v25, v26, v27, v39, v28, v29, v30, v40) y1).bind fun y6 =>
 (Q1s (v2, v3, v4, v5, v6, v7, v8, v9, v10, v11, v12, v13, v14, v15, v16, v17) (v41, v42, v43, v54, v44, v55, v45, v56, v57, v46, v58, v59, v60, v47, v61, v48, v49, v50, v62, v51, v52, v53, v63) y1).bind fun y7 =>
 bif y6 == y7 then
 (Q1t (v2, v3, v4, v5, v6, v7, v8, v9, v10, v11, v12, v13, v14, v15, v16, v17) (v18, v19, v20, v31, v21, v32, v22, v33, v34, v23, v35, v36, v37, v24, v38, v25, v26, v27, v39, v28, v29, v30, v40) y1).bind fun y8 =>
 (Q1t (v2, v3, v4, v5, v6, v7, v8, v9, v10, v11, v12, v13, v14, v15, v16, v17) (v41, v42, v43, v54, v44, v55, v45, v56, v57, v46, v58, v59, v60, v47, v61, v48, v49, v50, v62, v51, v52, v53, v63) y1).bind fun y9 =>
 bif y8 == y9 then
 (Q1u (v2, v3, v4, v5, v6, v7, v8, v9, v10, v11, v12, v13, v14, v15, v16, v17) (v18, v19, v20, v31, v21, v32, v22, v33, v34, v23, v35, v36, v37, v24, v38, v25, v26, v27, v39, v28, v29, v30, v40) y3.2.2).bind fun y10 =>
 (Q1u (v2, v3, v4, v5, v6, v7, v8, v9, v10, v11, v12, v13, v14, v15, v16, v17) (v41, v42, v43, v54, v44, v55, v45, v56, v57, v46, v58, v59, v60, v47, v61, v48, v49, v50, v62, v51, v52, v53, v63) y3.2.2).bind fun y11 =>
 (Q0D y10 y11).bind fun y12 =>
 bif y12 then
 (Q17 (v2, v3, v4, v5, v6, v7, v8, v9, v10, v11, v12, v13, v14, v15, v16, v17) (v18, v19, v20, v31, v21, v32, v22, v33, v34, v23, v35, v36, v37, v24, v38, v25, v26, v27, v39, v28, v29, v30, v40)).bind fun y13 =>
 bif y13 then
 (Q17 (v2, v3, v4, v5, v6, v7, v8, v9, v10, v11, v12, v13, v14, v15, v16, v17) (v41, v42, v43, v54, v44, v55, v45, v56, v57, v46, v58, v59, v60, v47, v61, v48, v49, v50, v62, v51, v52, v53, v63)).bind fun y14 =>
 some y14
 else
 some false
 else
 some false
 else
 some false
 else
 some false
 else
 some false
 else
 some false := (Q7 Q0 (Q1 (Q11.gok _)) _ _).trans (by kernel_rfl)
end Go.Ev.W
