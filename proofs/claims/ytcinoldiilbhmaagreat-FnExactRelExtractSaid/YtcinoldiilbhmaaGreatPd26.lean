/- What functions of the program come to. -/
import Derived.Test.YtcinoldiilbhmaaGreatPdT
import Derived.Test.YtcinoldiilbhmaaGreatPd1
import Derived.Test.YtcinoldiilbhmaaGreatPd19
import Derived.Test.YtcinoldiilbhmaaGreatPd2
import Derived.Test.YtcinoldiilbhmaaGreatPd22
import Derived.Test.YtcinoldiilbhmaaGreatPd23
import Derived.Test.YtcinoldiilbhmaaGreatPd25
namespace Go.Ev.W
open Go.Ev Go.Proofs
set_option maxRecDepth 100000
set_option linter.unusedVariables false

noncomputable abbrev laws_FnExactRelExtract.s : Sg := ⟨[.lend, .lend, .lend, .lend], [.agg [.int .i64, .int .i64, .int .i64, .sl false false 3, .sl false false 28, .sl false false 3, .int .i64, .sl false false 157, .int .i64, .int .i64, .int .i64, .sl false false 157, .int .i64, .int .i64, .int .i64, .sl false false 157], .agg [.int .i64, .int .i64, .int .i64, .sl false false 157, .int .i64, .sl false false 157, .int .i64, .sl false false 3, .sl false false 28, .int .i64, .sl false false 3, .sl false false 28, .sl false false 3, .int .i64, .sl false false 157, .int .i64, .int .i64, .int .i64, .sl false false 157, .int .i64, .int .i64, .int .i64, .sl false false 157], vi, vi], ⟨[vb], [none, none, none, none]⟩, Tryz.f12⟩
noncomputable def laws_FnExactRelExtract.gs (δ : Type) : List (Nat × Callee (GT tab) δ) := [(15, laws_szFm.k), (16, laws_szRel.k), (18, laws_toFm.k), (19, laws_toRel.k), (21, laws_eqFm.k), (22, laws_eqRel.k), (36, laws_eqByteS.k), (39, laws_markFm.k), (40, laws_markRel.k), (41, laws_markByteS.k), (42, laws_heldByteS.k), (48, spec_RelExtract.k), (49, impl_RelExtract.k)]
theorem laws_FnExactRelExtract.gok (δ : Type) : AllCon Tryz.prog tab (laws_FnExactRelExtract.gs δ) := .cons laws_szFm.con (.cons laws_szRel.con (.cons laws_toFm.con (.cons laws_toRel.con (.cons laws_eqFm.con (.cons laws_eqRel.con (.cons laws_eqByteS.con (.cons laws_markFm.con (.cons laws_markRel.con (.cons laws_markByteS.con (.cons laws_heldByteS.con (.cons spec_RelExtract.con (.cons impl_RelExtract.con .nil))))))))))))
noncomputable def laws_FnExactRelExtract.c := cx laws_FnExactRelExtract.s [14, 23, 34] [(14, [2, 3, 4, 5, 10, 11, 12, 13, 14, 15]), (23, [2, 3, 4, 5, 10, 11, 14]), (34, [14, 17])] false (laws_FnExactRelExtract.gs _)
noncomputable def laws_FnExactRelExtract (x0 : Int × Int × Int × (List Int) × (List (Int × (List Int))) × (List Int) × Int × (List Int) × Int × Int × Int × (List Int) × Int × Int × Int × (List Int)) (x1 : Int × Int × Int × (List Int) × Int × (List Int) × Int × (List Int) × (List (Int × (List Int))) × Int × (List Int) × (List (Int × (List Int))) × (List Int) × Int × (List Int) × Int × Int × Int × (List Int) × Int × Int × Int × (List Int)) (x2 x3 : Int) : Option (Bool) := fnW laws_FnExactRelExtract.s laws_FnExactRelExtract.c (x0, x1, x2, x3)
theorem laws_FnExactRelExtract.fok : FkS laws_FnExactRelExtract.s 12 := ⟨Tryz.func12, by kernel_rfl, by kernel_rfl⟩
noncomputable def laws_FnExactRelExtract.fn (x : Args tab laws_FnExactRelExtract.s.ar) : Option (ResT tab laws_FnExactRelExtract.s.rs) := laws_FnExactRelExtract x.1 x.2.1 x.2.2.1 x.2.2.2
noncomputable abbrev laws_FnExactRelExtract.as := laws_FnExactRelExtract.s.ar
noncomputable def laws_FnExactRelExtract_l0 (v0 v1 : Int) (v2 v3 : Bool) (v4 v5 v6 : Int) (v7 : List Int) (v8 : List (Int × (List Int))) (v9 : List Int) (v10 : Int) (v11 : List Int) (v12 v13 v14 : Int) (v15 : List Int) (v16 v17 v18 : Int) (v19 : List Int) (v20 v21 v22 : Int) (v23 : List Int) (v24 : Int) (v25 : List Int) (v26 : Int) (v27 : List Int) (v28 : List (Int × (List Int))) (v29 : Int) (v30 : List Int) (v31 : List (Int × (List Int))) (v32 : List Int) (v33 : Int) (v34 : List Int) (v35 v36 v37 : Int) (v38 : List Int) (v39 v40 v41 : Int) (v42 v43 : List Int) (v44 v45 v46 v47 v48 v49 v50 v51 v52 v53 : Int) (v54 : List Int) (v55 : List (Int × (List Int))) (v56 v57 v58 v59 : List Int) (v60 v61 v62 v63 v64 v65 v66 v67 v68 v69 v70 v71 v72 : Int) (v73 v74 v75 : List Int) (v76 : List (Int × (List Int))) (v77 : List Int) (v78 : List (Int × (List Int))) (v79 v80 v81 v82 v83 : List Int) : Option (Bool) := lpW laws_FnExactRelExtract.s laws_FnExactRelExtract.c 0 (ud 113 [.undef, .undef, .int .i64 v0, .int .i64 v1, .ptr 0 0, .ptr 1 0, .undef, .undef, .undef, .undef, .sl 2 0, .bool v2, .ptr 3 0, .ptr 10 0, .sl 21 0, .bool v3]) [.box 32 [.int .i64 v4, .int .i64 v5, .int .i64 v6, .vs false 3 v7, .vs false 28 v8, .vs false 3 v9, .int .i64 v10, .vs false 157 v11, .int .i64 v12, .int .i64 v13, .int .i64 v14, .vs false 157 v15, .int .i64 v16, .int .i64 v17, .int .i64 v18, .vs false 157 v19], .box 34 [.int .i64 v20, .int .i64 v21, .int .i64 v22, .vs false 157 v23, .int .i64 v24, .vs false 157 v25, .int .i64 v26, .vs false 3 v27, .vs false 28 v28, .int .i64 v29, .vs false 3 v30, .vs false 28 v31, .vs false 3 v32, .int .i64 v33, .vs false 157 v34, .int .i64 v35, .int .i64 v36, .int .i64 v37, .vs false 157 v38, .int .i64 v39, .int .i64 v40, .int .i64 v41, .vs false 157 v42], .row 0 true 5 v43, .box 45 [.int .i64 v44, .int .i64 v45, .int .i64 v46, .sl 4 0, .sl 5 0, .sl 6 0, .int .i64 v47, .sl 7 0, .int .i64 v48, .int .i64 v49, .int .i64 v50, .sl 8 0, .int .i64 v51, .int .i64 v52, .int .i64 v53, .sl 9 0], .row 0 true 3 v54, .row 0 true 41 v55, .row 0 true 3 v56, .row 0 true 157 v57, .row 0 true 157 v58, .row 0 true 157 v59, .box 48 [.int .i64 v60, .int .i64 v61, .int .i64 v62, .sl 11 0, .int .i64 v63, .sl 12 0, .int .i64 v64, .sl 13 0, .sl 14 0, .int .i64 v65, .sl 15 0, .sl 16 0, .sl 17 0, .int .i64 v66, .sl 18 0, .int .i64 v67, .int .i64 v68, .int .i64 v69, .sl 19 0, .int .i64 v70, .int .i64 v71, .int .i64 v72, .sl 20 0], .row 0 true 157 v73, .row 0 true 157 v74, .row 0 true 3 v75, .row 0 true 41 v76, .row 0 true 3 v77, .row 0 true 41 v78, .row 0 true 3 v79, .row 0 true 157 v80, .row 0 true 157 v81, .row 0 true 157 v82, .row 0 true 5 v83] 22
noncomputable def laws_FnExactRelExtract_l1 (v0 v1 : Int) (v2 : Bool) (v3 v4 v5 : Int) (v6 : List Int) (v7 : List (Int × (List Int))) (v8 : List Int) (v9 : Int) (v10 : List Int) (v11 v12 v13 : Int) (v14 : List Int) (v15 v16 v17 : Int) (v18 : List Int) (v19 v20 v21 : Int) (v22 : List Int) (v23 : Int) (v24 : List Int) (v25 : Int) (v26 : List Int) (v27 : List (Int × (List Int))) (v28 : Int) (v29 : List Int) (v30 : List (Int × (List Int))) (v31 : List Int) (v32 : Int) (v33 : List Int) (v34 v35 v36 : Int) (v37 : List Int) (v38 v39 v40 : Int) (v41 v42 v43 : List Int) : Option (Bool) := lpW laws_FnExactRelExtract.s laws_FnExactRelExtract.c 1 (ud 114 [.undef, .undef, .int .i64 v0, .int .i64 v1, .ptr 0 0, .ptr 1 0, .undef, .undef, .undef, .undef, .sl 2 0, .bool v2, .undef, .undef, .sl 3 0]) [.box 32 [.int .i64 v3, .int .i64 v4, .int .i64 v5, .vs false 3 v6, .vs false 28 v7, .vs false 3 v8, .int .i64 v9, .vs false 157 v10, .int .i64 v11, .int .i64 v12, .int .i64 v13, .vs false 157 v14, .int .i64 v15, .int .i64 v16, .int .i64 v17, .vs false 157 v18], .box 34 [.int .i64 v19, .int .i64 v20, .int .i64 v21, .vs false 157 v22, .int .i64 v23, .vs false 157 v24, .int .i64 v25, .vs false 3 v26, .vs false 28 v27, .int .i64 v28, .vs false 3 v29, .vs false 28 v30, .vs false 3 v31, .int .i64 v32, .vs false 157 v33, .int .i64 v34, .int .i64 v35, .int .i64 v36, .vs false 157 v37, .int .i64 v38, .int .i64 v39, .int .i64 v40, .vs false 157 v41], .row 0 true 5 v42, .row 0 true 5 v43] 4
noncomputable def laws_FnExactRelExtract_l2 (v0 : Int) (v1 : List Int) : Option (Bool) := lpW laws_FnExactRelExtract.s laws_FnExactRelExtract.c 2 (ud 111 [.undef, .undef, .undef, .undef, .undef, .undef, .undef, .undef, .undef, .undef, .undef, .undef, .undef, .undef, .sl 0 0, .undef, .undef, .int .i64 v0]) [.row 0 true 5 v1] 1
theorem laws_FnExactRelExtract.eq (x0 : Int × Int × Int × (List Int) × (List (Int × (List Int))) × (List Int) × Int × (List Int) × Int × Int × Int × (List Int) × Int × Int × Int × (List Int)) (x1 : Int × Int × Int × (List Int) × Int × (List Int) × Int × (List Int) × (List (Int × (List Int))) × Int × (List Int) × (List (Int × (List Int))) × (List Int) × Int × (List Int) × Int × Int × Int × (List Int) × Int × Int × Int × (List Int)) (x2 x3 : Int) : laws_FnExactRelExtract x0 x1 x2 x3 =
    (laws_szFm x0 (1048576 : Int)).bind fun y1 =>
    bif decide (y1 < (0 : Int)) then
      some true
    else
      (laws_szRel x1 y1).bind fun y2 =>
      bif decide (y2 < (0 : Int)) then
        some true
      else
        (laws_toFm x0).bind fun y3 =>
        (laws_toRel x1).bind fun y4 =>
        (spec_RelExtract y3 y4 x2 x3).bind fun y5 =>
        (laws_toFm x0).bind fun y6 =>
        (laws_toRel x1).bind fun y7 =>
        (impl_RelExtract y6 y7 x2 x3).bind fun y8 =>
        (laws_eqByteS y8.1 y5.1).bind fun y9 =>
        bif !y9 then
          some false
        else
          bif !(y8.2 == y5.2) then
            some false
          else
            laws_FnExactRelExtract_l0 x2 x3 y5.2 y8.2 x0.1 x0.2.1 x0.2.2.1 x0.2.2.2.1 x0.2.2.2.2.1 x0.2.2.2.2.2.1 x0.2.2.2.2.2.2.1 x0.2.2.2.2.2.2.2.1 x0.2.2.2.2.2.2.2.2.1 x0.2.2.2.2.2.2.2.2.2.1 x0.2.2.2.2.2.2.2.2.2.2.1 x0.2.2.2.2.2.2.2.2.2.2.2.1 x0.2.2.2.2.2.2.2.2.2.2.2.2.1 x0.2.2.2.2.2.2.2.2.2.2.2.2.2.1 x0.2.2.2.2.2.2.2.2.2.2.2.2.2.2.1 x0.2.2.2.2.2.2.2.2.2.2.2.2.2.2.2 x1.1 x1.2.1 x1.2.2.1 x1.2.2.2.1 x1.2.2.2.2.1 x1.2.2.2.2.2.1 x1.2.2.2.2.2.2.1 x1.2.2.2.2.2.2.2.1 x1.2.2.2.2.2.2.2.2.1 x1.2.2.2.2.2.2.2.2.2.1 x1.2.2.2.2.2.2.2.2.2.2.1 x1.2.2.2.2.2.2.2.2.2.2.2.1 x1.2.2.2.2.2.2.2.2.2.2.2.2.1 x1.2.2.2.2.2.2.2.2.2.2.2.2.2.1 x1.2.2.2.2.2.2.2.2.2.2.2.2.2.2.1 x1.2.2.2.2.2.2.2.2.2.2.2.2.2.2.2.1 x1.2.2.2.2.2.2.2.2.2.2.2.2.2.2.2.2.1 x1.2.2.2.2.2.2.2.2.2.2.2.2.2.2.2.2.2.1 x1.2.2.2.2.2.2.2.2.2.2.2.2.2.2.2.2.2.2.1 x1.2.2.2.2.2.2.2.2.2.2.2.2.2.2.2.2.2.2.2.1 x1.2.2.2.2.2.2.2.2.2.2.2.2.2.2.2.2.2.2.2.2.1 x1.2.2.2.2.2.2.2.2.2.2.2.2.2.2.2.2.2.2.2.2.2.1 x1.2.2.2.2.2.2.2.2.2.2.2.2.2.2.2.2.2.2.2.2.2.2 y5.1 y6.1 y6.2.1 y6.2.2.1 y6.2.2.2.2.2.2.1 y6.2.2.2.2.2.2.2.2.1 y6.2.2.2.2.2.2.2.2.2.1 y6.2.2.2.2.2.2.2.2.2.2.1 y6.2.2.2.2.2.2.2.2.2.2.2.2.1 y6.2.2.2.2.2.2.2.2.2.2.2.2.2.1 y6.2.2.2.2.2.2.2.2.2.2.2.2.2.2.1 y6.2.2.2.1 y6.2.2.2.2.1 y6.2.2.2.2.2.1 y6.2.2.2.2.2.2.2.1 y6.2.2.2.2.2.2.2.2.2.2.2.1 y6.2.2.2.2.2.2.2.2.2.2.2.2.2.2.2 y7.1 y7.2.1 y7.2.2.1 y7.2.2.2.2.1 y7.2.2.2.2.2.2.1 y7.2.2.2.2.2.2.2.2.2.1 y7.2.2.2.2.2.2.2.2.2.2.2.2.2.1 y7.2.2.2.2.2.2.2.2.2.2.2.2.2.2.2.1 y7.2.2.2.2.2.2.2.2.2.2.2.2.2.2.2.2.1 y7.2.2.2.2.2.2.2.2.2.2.2.2.2.2.2.2.2.1 y7.2.2.2.2.2.2.2.2.2.2.2.2.2.2.2.2.2.2.2.1 y7.2.2.2.2.2.2.2.2.2.2.2.2.2.2.2.2.2.2.2.2.1 y7.2.2.2.2.2.2.2.2.2.2.2.2.2.2.2.2.2.2.2.2.2.1 y7.2.2.2.1 y7.2.2.2.2.2.1 y7.2.2.2.2.2.2.2.1 y7.2.2.2.2.2.2.2.2.1 y7.2.2.2.2.2.2.2.2.2.2.1 y7.2.2.2.2.2.2.2.2.2.2.2.1 y7.2.2.2.2.2.2.2.2.2.2.2.2.1 y7.2.2.2.2.2.2.2.2.2.2.2.2.2.2.1 y7.2.2.2.2.2.2.2.2.2.2.2.2.2.2.2.2.2.2.1 y7.2.2.2.2.2.2.2.2.2.2.2.2.2.2.2.2.2.2.2.2.2.2 y8.1 := by kernel_rfl
theorem laws_FnExactRelExtract_l0.eq (v0 v1 : Int) (v2 v3 : Bool) (v4 v5 v6 : Int) (v7 : List Int) (v8 : List (Int × (List Int))) (v9 : List Int) (v10 : Int) (v11 : List Int) (v12 v13 v14 : Int) (v15 : List Int) (v16 v17 v18 : Int) (v19 : List Int) (v20 v21 v22 : Int) (v23 : List Int) (v24 : Int) (v25 : List Int) (v26 : Int) (v27 : List Int) (v28 : List (Int × (List Int))) (v29 : Int) (v30 : List Int) (v31 : List (Int × (List Int))) (v32 : List Int) (v33 : Int) (v34 : List Int) (v35 v36 v37 : Int) (v38 : List Int) (v39 v40 v41 : Int) (v42 v43 : List Int) (v44 v45 v46 v47 v48 v49 v50 v51 v52 v53 : Int) (v54 : List Int) (v55 : List (Int × (List Int))) (v56 v57 v58 v59 : List Int) (v60 v61 v62 v63 v64 v65 v66 v67 v68 v69 v70 v71 v72 : Int) (v73 v74 v75 : List Int) (v76 : List (Int × (List Int))) (v77 : List Int) (v78 : List (Int × (List Int))) (v79 v80 v81 v82 v83 : List Int) : laws_FnExactRelExtract_l0 v0 v1 v2 v3 v4 v5 v6 v7 v8 v9 v10 v11 v12 v13 v14 v15 v16 v17 v18 v19 v20 v21 v22 v23 v24 v25 v26 v27 v28 v29 v30 v31 v32 v33 v34 v35 v36 v37 v38 v39 v40 v41 v42 v43 v44 v45 v46 v47 v48 v49 v50 v51 v52 v53 v54 v55 v56 v57 v58 v59 v60 v61 v62 v63 v64 v65 v66 v67 v68 v69 v70 v71 v72 v73 v74 v75 v76 v77 v78 v79 v80 v81 v82 v83 =
    (laws_toFm (v4, v5, v6, v7, v8, v9, v10, v11, v12, v13, v14, v15, v16, v17, v18, v19)).bind fun y1 =>
    (laws_eqFm (v44, v45, v46, v54, v55, v56, v47, v57, v48, v49, v50, v58, v51, v52, v53, v59) y1).bind fun y2 =>
    bif !y2 then
      some false
    else
      (laws_toRel (v20, v21, v22, v23, v24, v25, v26, v27, v28, v29, v30, v31, v32, v33, v34, v35, v36, v37, v38, v39, v40, v41, v42)).bind fun y3 =>
      (laws_eqRel (v60, v61, v62, v73, v63, v74, v64, v75, v76, v65, v77, v78, v79, v66, v80, v67, v68, v69, v81, v70, v71, v72, v82) y3).bind fun y4 =>
      bif !y4 then
        some false
      else
        (laws_markFm (v44, v45, v46, v54, v55, v56, v47, v57, v48, v49, v50, v58, v51, v52, v53, v59) (1 : Int)).bind fun y5 =>
        (laws_markRel (v60, v61, v62, v73, v63, v74, v64, v75, v76, v65, v77, v78, v79, v66, v80, v67, v68, v69, v81, v70, v71, v72, v82) y5.1).bind fun y6 =>
        bif decide (y6.1 < (0 : Int)) then
          some false
        else
          (laws_eqByteS v83 v43).bind fun y7 =>
          bif !y7 then
            some false
          else
            bif !(v3 == v2) then
              some false
            else
              laws_FnExactRelExtract_l1 v0 v1 v2 v4 v5 v6 v7 v8 v9 v10 v11 v12 v13 v14 v15 v16 v17 v18 v19 v20 v21 v22 v23 v24 v25 v26 v27 v28 v29 v30 v31 v32 v33 v34 v35 v36 v37 v38 v39 v40 v41 v42 v43 v83 := (Lw_eq tysOk (getG_con (laws_FnExactRelExtract.gok _)) _ _).trans (by kernel_rfl)
theorem laws_FnExactRelExtract_l1.eq (v0 v1 : Int) (v2 : Bool) (v3 v4 v5 : Int) (v6 : List Int) (v7 : List (Int × (List Int))) (v8 : List Int) (v9 : Int) (v10 : List Int) (v11 v12 v13 : Int) (v14 : List Int) (v15 v16 v17 : Int) (v18 : List Int) (v19 v20 v21 : Int) (v22 : List Int) (v23 : Int) (v24 : List Int) (v25 : Int) (v26 : List Int) (v27 : List (Int × (List Int))) (v28 : Int) (v29 : List Int) (v30 : List (Int × (List Int))) (v31 : List Int) (v32 : Int) (v33 : List Int) (v34 v35 v36 : Int) (v37 : List Int) (v38 v39 v40 : Int) (v41 v42 v43 : List Int) : laws_FnExactRelExtract_l1 v0 v1 v2 v3 v4 v5 v6 v7 v8 v9 v10 v11 v12 v13 v14 v15 v16 v17 v18 v19 v20 v21 v22 v23 v24 v25 v26 v27 v28 v29 v30 v31 v32 v33 v34 v35 v36 v37 v38 v39 v40 v41 v42 v43 =
    (laws_markByteS v43 (1 : Int)).bind fun y1 =>
    (laws_heldByteS y1.2 (1 : Int)).bind fun y2 =>
    bif decide (y2 < (0 : Int)) then
      some false
    else
      bif y2 != y1.1 then
        some false
      else
        (laws_toFm (v3, v4, v5, v6, v7, v8, v9, v10, v11, v12, v13, v14, v15, v16, v17, v18)).bind fun y3 =>
        (laws_toRel (v19, v20, v21, v22, v23, v24, v25, v26, v27, v28, v29, v30, v31, v32, v33, v34, v35, v36, v37, v38, v39, v40, v41)).bind fun y4 =>
        (impl_RelExtract y3 y4 v0 v1).bind fun y5 =>
        (laws_eqByteS y5.1 v42).bind fun y6 =>
        bif !y6 then
          some false
        else
          bif !(y5.2 == v2) then
            some false
          else
            laws_FnExactRelExtract_l2 y1.1 y1.2 := (Lw_eq tysOk (getG_con (laws_FnExactRelExtract.gok _)) _ _).trans (by kernel_rfl)
theorem laws_FnExactRelExtract_l2.eq (v0 : Int) (v1 : List Int) : laws_FnExactRelExtract_l2 v0 v1 =
    (laws_heldByteS v1 (1 : Int)).bind fun y1 =>
    bif decide (y1 < (0 : Int)) then
      some false
    else
      bif y1 != v0 then
        some false
      else
        some true := (Lw_eq tysOk (getG_con (laws_FnExactRelExtract.gok _)) _ _).trans (by kernel_rfl)

end Go.Ev.W
