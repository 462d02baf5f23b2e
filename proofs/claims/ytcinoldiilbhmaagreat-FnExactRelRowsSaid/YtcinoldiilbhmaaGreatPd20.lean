/- What functions of the program come to. -/
import Derived.Test.YtcinoldiilbhmaaGreatPdT
import Derived.Test.YtcinoldiilbhmaaGreatPd1
import Derived.Test.YtcinoldiilbhmaaGreatPd17
import Derived.Test.YtcinoldiilbhmaaGreatPd18
import Derived.Test.YtcinoldiilbhmaaGreatPd19
import Derived.Test.YtcinoldiilbhmaaGreatPd2
namespace Go.Ev.W
open Go.Ev Go.Proofs
set_option maxRecDepth 100000
set_option linter.unusedVariables false

noncomputable abbrev laws_FnExactRelRows.s : Sg := ⟨[.lend, .lend, .lend], [.agg [.int .i64, .int .i64, .int .i64, .sl false false 3, .sl false false 28, .sl false false 3, .int .i64, .sl false false 157, .int .i64, .int .i64, .int .i64, .sl false false 157, .int .i64, .int .i64, .int .i64, .sl false false 157], .agg [.int .i64, .int .i64, .int .i64, .sl false false 157, .int .i64, .sl false false 157, .int .i64, .sl false false 3, .sl false false 28, .int .i64, .sl false false 3, .sl false false 28, .sl false false 3, .int .i64, .sl false false 157, .int .i64, .int .i64, .int .i64, .sl false false 157, .int .i64, .int .i64, .int .i64, .sl false false 157], vl 5], ⟨[vb], [none, none, none]⟩, Tryz.f9⟩
noncomputable def laws_FnExactRelRows.gs (δ : Type) : List (Nat × Callee (GT tab) δ) := [(15, laws_szFm.k), (16, laws_szRel.k), (18, laws_toFm.k), (19, laws_toRel.k), (21, laws_eqFm.k), (22, laws_eqRel.k), (33, spec_RelRows.k), (34, laws_toByteS.k), (35, impl_RelRows.k), (36, laws_eqByteS.k)]
theorem laws_FnExactRelRows.gok (δ : Type) : AllCon Tryz.prog tab (laws_FnExactRelRows.gs δ) := .cons laws_szFm.con (.cons laws_szRel.con (.cons laws_toFm.con (.cons laws_toRel.con (.cons laws_eqFm.con (.cons laws_eqRel.con (.cons spec_RelRows.con (.cons laws_toByteS.con (.cons impl_RelRows.con (.cons laws_eqByteS.con .nil)))))))))
noncomputable def laws_FnExactRelRows.c := cx laws_FnExactRelRows.s [17] [(17, [2, 3, 4, 10, 11, 12])] false (laws_FnExactRelRows.gs _)
noncomputable def laws_FnExactRelRows (x0 : Int × Int × Int × (List Int) × (List (Int × (List Int))) × (List Int) × Int × (List Int) × Int × Int × Int × (List Int) × Int × Int × Int × (List Int)) (x1 : Int × Int × Int × (List Int) × Int × (List Int) × Int × (List Int) × (List (Int × (List Int))) × Int × (List Int) × (List (Int × (List Int))) × (List Int) × Int × (List Int) × Int × Int × Int × (List Int) × Int × Int × Int × (List Int)) (x2 : List Int) : Option (Bool) := fnW laws_FnExactRelRows.s laws_FnExactRelRows.c (x0, x1, x2)
theorem laws_FnExactRelRows.fok : FkS laws_FnExactRelRows.s 9 := ⟨Tryz.func9, by kernel_rfl, by kernel_rfl⟩
noncomputable def laws_FnExactRelRows.fn (x : Args tab laws_FnExactRelRows.s.ar) : Option (ResT tab laws_FnExactRelRows.s.rs) := laws_FnExactRelRows x.1 x.2.1 x.2.2
noncomputable abbrev laws_FnExactRelRows.as := laws_FnExactRelRows.s.ar
noncomputable def laws_FnExactRelRows_l0 (v0 : List Int) (v1 v2 v3 : Int) (v4 : List Int) (v5 : List (Int × (List Int))) (v6 : List Int) (v7 : Int) (v8 : List Int) (v9 v10 v11 : Int) (v12 : List Int) (v13 v14 v15 : Int) (v16 : List Int) (v17 v18 v19 : Int) (v20 : List Int) (v21 : Int) (v22 : List Int) (v23 : Int) (v24 : List Int) (v25 : List (Int × (List Int))) (v26 : Int) (v27 : List Int) (v28 : List (Int × (List Int))) (v29 : List Int) (v30 : Int) (v31 : List Int) (v32 v33 v34 : Int) (v35 : List Int) (v36 v37 v38 : Int) (v39 : List Int) (v40 v41 v42 v43 v44 v45 v46 v47 v48 v49 : Int) (v50 : List Int) (v51 : List (Int × (List Int))) (v52 v53 v54 v55 : List Int) (v56 v57 v58 v59 v60 v61 v62 v63 v64 v65 v66 v67 v68 : Int) (v69 v70 v71 : List Int) (v72 : List (Int × (List Int))) (v73 : List Int) (v74 : List (Int × (List Int))) (v75 v76 v77 v78 v79 : List Int) : Option (Bool) := lpW laws_FnExactRelRows.s laws_FnExactRelRows.c 0 (ud 61 [.undef, .undef, .vs false 5 v0, .ptr 0 0, .ptr 1 0, .undef, .undef, .undef, .undef, .undef, .ptr 2 0, .ptr 9 0, .sl 20 0]) [.box 32 [.int .i64 v1, .int .i64 v2, .int .i64 v3, .vs false 3 v4, .vs false 28 v5, .vs false 3 v6, .int .i64 v7, .vs false 157 v8, .int .i64 v9, .int .i64 v10, .int .i64 v11, .vs false 157 v12, .int .i64 v13, .int .i64 v14, .int .i64 v15, .vs false 157 v16], .box 34 [.int .i64 v17, .int .i64 v18, .int .i64 v19, .vs false 157 v20, .int .i64 v21, .vs false 157 v22, .int .i64 v23, .vs false 3 v24, .vs false 28 v25, .int .i64 v26, .vs false 3 v27, .vs false 28 v28, .vs false 3 v29, .int .i64 v30, .vs false 157 v31, .int .i64 v32, .int .i64 v33, .int .i64 v34, .vs false 157 v35, .int .i64 v36, .int .i64 v37, .int .i64 v38, .vs false 157 v39], .box 45 [.int .i64 v40, .int .i64 v41, .int .i64 v42, .sl 3 0, .sl 4 0, .sl 5 0, .int .i64 v43, .sl 6 0, .int .i64 v44, .int .i64 v45, .int .i64 v46, .sl 7 0, .int .i64 v47, .int .i64 v48, .int .i64 v49, .sl 8 0], .row 0 true 3 v50, .row 0 true 41 v51, .row 0 true 3 v52, .row 0 true 157 v53, .row 0 true 157 v54, .row 0 true 157 v55, .box 48 [.int .i64 v56, .int .i64 v57, .int .i64 v58, .sl 10 0, .int .i64 v59, .sl 11 0, .int .i64 v60, .sl 12 0, .sl 13 0, .int .i64 v61, .sl 14 0, .sl 15 0, .sl 16 0, .int .i64 v62, .sl 17 0, .int .i64 v63, .int .i64 v64, .int .i64 v65, .sl 18 0, .int .i64 v66, .int .i64 v67, .int .i64 v68, .sl 19 0], .row 0 true 157 v69, .row 0 true 157 v70, .row 0 true 3 v71, .row 0 true 41 v72, .row 0 true 3 v73, .row 0 true 41 v74, .row 0 true 3 v75, .row 0 true 157 v76, .row 0 true 157 v77, .row 0 true 157 v78, .row 0 true 5 v79] 21
theorem laws_FnExactRelRows.eq (x0 : Int × Int × Int × (List Int) × (List (Int × (List Int))) × (List Int) × Int × (List Int) × Int × Int × Int × (List Int) × Int × Int × Int × (List Int)) (x1 : Int × Int × Int × (List Int) × Int × (List Int) × Int × (List Int) × (List (Int × (List Int))) × Int × (List Int) × (List (Int × (List Int))) × (List Int) × Int × (List Int) × Int × Int × Int × (List Int) × Int × Int × Int × (List Int)) (x2 : List Int) : laws_FnExactRelRows x0 x1 x2 =
    bif decide ((x2.length : Int) > (1048576 : Int)) then
      some true
    else
      (laws_szFm x0 (1048576 : Int)).bind fun y1 =>
      bif decide (y1 < (0 : Int)) then
        some true
      else
        (laws_szRel x1 y1).bind fun y2 =>
        bif decide (y2 < (0 : Int)) then
          some true
        else
          (laws_toFm x0).bind fun y3 =>
          (laws_toRel x1).bind fun y4 =>
          (laws_toByteS x2).bind fun y5 =>
          (spec_RelRows y3 y4 y5).bind fun y6 =>
          (laws_toFm x0).bind fun y7 =>
          (laws_toRel x1).bind fun y8 =>
          (laws_toByteS x2).bind fun y9 =>
          (impl_RelRows y7 y8 y9).bind fun y10 =>
          bif y10.1 != y6.1 then
            some false
          else
            bif y10.2 != y6.2 then
              some false
            else
              laws_FnExactRelRows_l0 x2 x0.1 x0.2.1 x0.2.2.1 x0.2.2.2.1 x0.2.2.2.2.1 x0.2.2.2.2.2.1 x0.2.2.2.2.2.2.1 x0.2.2.2.2.2.2.2.1 x0.2.2.2.2.2.2.2.2.1 x0.2.2.2.2.2.2.2.2.2.1 x0.2.2.2.2.2.2.2.2.2.2.1 x0.2.2.2.2.2.2.2.2.2.2.2.1 x0.2.2.2.2.2.2.2.2.2.2.2.2.1 x0.2.2.2.2.2.2.2.2.2.2.2.2.2.1 x0.2.2.2.2.2.2.2.2.2.2.2.2.2.2.1 x0.2.2.2.2.2.2.2.2.2.2.2.2.2.2.2 x1.1 x1.2.1 x1.2.2.1 x1.2.2.2.1 x1.2.2.2.2.1 x1.2.2.2.2.2.1 x1.2.2.2.2.2.2.1 x1.2.2.2.2.2.2.2.1 x1.2.2.2.2.2.2.2.2.1 x1.2.2.2.2.2.2.2.2.2.1 x1.2.2.2.2.2.2.2.2.2.2.1 x1.2.2.2.2.2.2.2.2.2.2.2.1 x1.2.2.2.2.2.2.2.2.2.2.2.2.1 x1.2.2.2.2.2.2.2.2.2.2.2.2.2.1 x1.2.2.2.2.2.2.2.2.2.2.2.2.2.2.1 x1.2.2.2.2.2.2.2.2.2.2.2.2.2.2.2.1 x1.2.2.2.2.2.2.2.2.2.2.2.2.2.2.2.2.1 x1.2.2.2.2.2.2.2.2.2.2.2.2.2.2.2.2.2.1 x1.2.2.2.2.2.2.2.2.2.2.2.2.2.2.2.2.2.2.1 x1.2.2.2.2.2.2.2.2.2.2.2.2.2.2.2.2.2.2.2.1 x1.2.2.2.2.2.2.2.2.2.2.2.2.2.2.2.2.2.2.2.2.1 x1.2.2.2.2.2.2.2.2.2.2.2.2.2.2.2.2.2.2.2.2.2.1 x1.2.2.2.2.2.2.2.2.2.2.2.2.2.2.2.2.2.2.2.2.2.2 y7.1 y7.2.1 y7.2.2.1 y7.2.2.2.2.2.2.1 y7.2.2.2.2.2.2.2.2.1 y7.2.2.2.2.2.2.2.2.2.1 y7.2.2.2.2.2.2.2.2.2.2.1 y7.2.2.2.2.2.2.2.2.2.2.2.2.1 y7.2.2.2.2.2.2.2.2.2.2.2.2.2.1 y7.2.2.2.2.2.2.2.2.2.2.2.2.2.2.1 y7.2.2.2.1 y7.2.2.2.2.1 y7.2.2.2.2.2.1 y7.2.2.2.2.2.2.2.1 y7.2.2.2.2.2.2.2.2.2.2.2.1 y7.2.2.2.2.2.2.2.2.2.2.2.2.2.2.2 y8.1 y8.2.1 y8.2.2.1 y8.2.2.2.2.1 y8.2.2.2.2.2.2.1 y8.2.2.2.2.2.2.2.2.2.1 y8.2.2.2.2.2.2.2.2.2.2.2.2.2.1 y8.2.2.2.2.2.2.2.2.2.2.2.2.2.2.2.1 y8.2.2.2.2.2.2.2.2.2.2.2.2.2.2.2.2.1 y8.2.2.2.2.2.2.2.2.2.2.2.2.2.2.2.2.2.1 y8.2.2.2.2.2.2.2.2.2.2.2.2.2.2.2.2.2.2.2.1 y8.2.2.2.2.2.2.2.2.2.2.2.2.2.2.2.2.2.2.2.2.1 y8.2.2.2.2.2.2.2.2.2.2.2.2.2.2.2.2.2.2.2.2.2.1 y8.2.2.2.1 y8.2.2.2.2.2.1 y8.2.2.2.2.2.2.2.1 y8.2.2.2.2.2.2.2.2.1 y8.2.2.2.2.2.2.2.2.2.2.1 y8.2.2.2.2.2.2.2.2.2.2.2.1 y8.2.2.2.2.2.2.2.2.2.2.2.2.1 y8.2.2.2.2.2.2.2.2.2.2.2.2.2.2.1 y8.2.2.2.2.2.2.2.2.2.2.2.2.2.2.2.2.2.2.1 y8.2.2.2.2.2.2.2.2.2.2.2.2.2.2.2.2.2.2.2.2.2.2 y9 := by kernel_rfl
theorem laws_FnExactRelRows_l0.eq (v0 : List Int) (v1 v2 v3 : Int) (v4 : List Int) (v5 : List (Int × (List Int))) (v6 : List Int) (v7 : Int) (v8 : List Int) (v9 v10 v11 : Int) (v12 : List Int) (v13 v14 v15 : Int) (v16 : List Int) (v17 v18 v19 : Int) (v20 : List Int) (v21 : Int) (v22 : List Int) (v23 : Int) (v24 : List Int) (v25 : List (Int × (List Int))) (v26 : Int) (v27 : List Int) (v28 : List (Int × (List Int))) (v29 : List Int) (v30 : Int) (v31 : List Int) (v32 v33 v34 : Int) (v35 : List Int) (v36 v37 v38 : Int) (v39 : List Int) (v40 v41 v42 v43 v44 v45 v46 v47 v48 v49 : Int) (v50 : List Int) (v51 : List (Int × (List Int))) (v52 v53 v54 v55 : List Int) (v56 v57 v58 v59 v60 v61 v62 v63 v64 v65 v66 v67 v68 : Int) (v69 v70 v71 : List Int) (v72 : List (Int × (List Int))) (v73 : List Int) (v74 : List (Int × (List Int))) (v75 v76 v77 v78 v79 : List Int) : laws_FnExactRelRows_l0 v0 v1 v2 v3 v4 v5 v6 v7 v8 v9 v10 v11 v12 v13 v14 v15 v16 v17 v18 v19 v20 v21 v22 v23 v24 v25 v26 v27 v28 v29 v30 v31 v32 v33 v34 v35 v36 v37 v38 v39 v40 v41 v42 v43 v44 v45 v46 v47 v48 v49 v50 v51 v52 v53 v54 v55 v56 v57 v58 v59 v60 v61 v62 v63 v64 v65 v66 v67 v68 v69 v70 v71 v72 v73 v74 v75 v76 v77 v78 v79 =
    (laws_toFm (v1, v2, v3, v4, v5, v6, v7, v8, v9, v10, v11, v12, v13, v14, v15, v16)).bind fun y1 =>
    (laws_eqFm (v40, v41, v42, v50, v51, v52, v43, v53, v44, v45, v46, v54, v47, v48, v49, v55) y1).bind fun y2 =>
    bif !y2 then
      some false
    else
      (laws_toRel (v17, v18, v19, v20, v21, v22, v23, v24, v25, v26, v27, v28, v29, v30, v31, v32, v33, v34, v35, v36, v37, v38, v39)).bind fun y3 =>
      (laws_eqRel (v56, v57, v58, v69, v59, v70, v60, v71, v72, v61, v73, v74, v75, v62, v76, v63, v64, v65, v77, v66, v67, v68, v78) y3).bind fun y4 =>
      bif !y4 then
        some false
      else
        (laws_toByteS v0).bind fun y5 =>
        (laws_eqByteS v79 y5).bind fun y6 =>
        bif !y6 then
          some false
        else
          some true := (Lw_eq tysOk (getG_con (laws_FnExactRelRows.gok _)) _ _).trans (by kernel_rfl)

end Go.Ev.W
