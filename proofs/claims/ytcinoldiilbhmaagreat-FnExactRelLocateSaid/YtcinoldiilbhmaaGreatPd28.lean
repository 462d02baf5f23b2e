/- What functions of the program come to. -/
import Derived.Test.YtcinoldiilbhmaaGreatPdT
import Derived.Test.YtcinoldiilbhmaaGreatPd1
import Derived.Test.YtcinoldiilbhmaaGreatPd17
import Derived.Test.YtcinoldiilbhmaaGreatPd19
import Derived.Test.YtcinoldiilbhmaaGreatPd2
import Derived.Test.YtcinoldiilbhmaaGreatPd22
import Derived.Test.YtcinoldiilbhmaaGreatPd27
namespace Go.Ev.W
open Go.Ev Go.Proofs
set_option maxRecDepth 100000
set_option linter.unusedVariables false

noncomputable abbrev laws_FnExactRelLocate.s : Sg := ⟨[.lend, .lend, .lend], [.agg [.int .i64, .int .i64, .int .i64, .sl false false 3, .sl false false 28, .sl false false 3, .int .i64, .sl false false 157, .int .i64, .int .i64, .int .i64, .sl false false 157, .int .i64, .int .i64, .int .i64, .sl false false 157], .agg [.int .i64, .int .i64, .int .i64, .sl false false 157, .int .i64, .sl false false 157, .int .i64, .sl false false 3, .sl false false 28, .int .i64, .sl false false 3, .sl false false 28, .sl false false 3, .int .i64, .sl false false 157, .int .i64, .int .i64, .int .i64, .sl false false 157, .int .i64, .int .i64, .int .i64, .sl false false 157], vl 5], ⟨[vb], [none, none, none]⟩, Tryz.f13⟩
noncomputable def laws_FnExactRelLocate.gs (δ : Type) : List (Nat × Callee (GT tab) δ) := [(15, laws_szFm.k), (16, laws_szRel.k), (18, laws_toFm.k), (19, laws_toRel.k), (21, laws_eqFm.k), (22, laws_eqRel.k), (34, laws_toByteS.k), (36, laws_eqByteS.k), (39, laws_markFm.k), (40, laws_markRel.k), (41, laws_markByteS.k), (50, spec_RelLocate.k), (51, impl_RelLocate.k), (52, laws_eqIntS.k), (53, laws_markIntS.k), (54, laws_heldIntS.k)]
theorem laws_FnExactRelLocate.gok (δ : Type) : AllCon Tryz.prog tab (laws_FnExactRelLocate.gs δ) := .cons laws_szFm.con (.cons laws_szRel.con (.cons laws_toFm.con (.cons laws_toRel.con (.cons laws_eqFm.con (.cons laws_eqRel.con (.cons laws_toByteS.con (.cons laws_eqByteS.con (.cons laws_markFm.con (.cons laws_markRel.con (.cons laws_markByteS.con (.cons spec_RelLocate.con (.cons impl_RelLocate.con (.cons laws_eqIntS.con (.cons laws_markIntS.con (.cons laws_heldIntS.con .nil)))))))))))))))
noncomputable def laws_FnExactRelLocate.c := cx laws_FnExactRelLocate.s [29] [(29, [2, 3, 4, 8, 12])] false (laws_FnExactRelLocate.gs _)
noncomputable def laws_FnExactRelLocate (x0 : Int × Int × Int × (List Int) × (List (Int × (List Int))) × (List Int) × Int × (List Int) × Int × Int × Int × (List Int) × Int × Int × Int × (List Int)) (x1 : Int × Int × Int × (List Int) × Int × (List Int) × Int × (List Int) × (List (Int × (List Int))) × Int × (List Int) × (List (Int × (List Int))) × (List Int) × Int × (List Int) × Int × Int × Int × (List Int) × Int × Int × Int × (List Int)) (x2 : List Int) : Option (Bool) := fnW laws_FnExactRelLocate.s laws_FnExactRelLocate.c (x0, x1, x2)
theorem laws_FnExactRelLocate.fok : FkS laws_FnExactRelLocate.s 13 := ⟨Tryz.func13, by kernel_rfl, by kernel_rfl⟩
noncomputable def laws_FnExactRelLocate.fn (x : Args tab laws_FnExactRelLocate.s.ar) : Option (ResT tab laws_FnExactRelLocate.s.rs) := laws_FnExactRelLocate x.1 x.2.1 x.2.2
noncomputable abbrev laws_FnExactRelLocate.as := laws_FnExactRelLocate.s.ar
noncomputable def laws_FnExactRelLocate_l0 (v0 : List Int) (v1 v2 v3 : Int) (v4 : List Int) (v5 : List (Int × (List Int))) (v6 : List Int) (v7 : Int) (v8 : List Int) (v9 v10 v11 : Int) (v12 : List Int) (v13 v14 v15 : Int) (v16 : List Int) (v17 v18 v19 : Int) (v20 : List Int) (v21 : Int) (v22 : List Int) (v23 : Int) (v24 : List Int) (v25 : List (Int × (List Int))) (v26 : Int) (v27 : List Int) (v28 : List (Int × (List Int))) (v29 : List Int) (v30 : Int) (v31 : List Int) (v32 v33 v34 : Int) (v35 : List Int) (v36 v37 v38 : Int) (v39 v40 v41 : List Int) : Option (Bool) := lpW laws_FnExactRelLocate.s laws_FnExactRelLocate.c 0 (ud 100 [.undef, .undef, .vs false 5 v0, .ptr 0 0, .ptr 1 0, .undef, .undef, .undef, .sl 2 0, .undef, .undef, .undef, .sl 3 0]) [.box 32 [.int .i64 v1, .int .i64 v2, .int .i64 v3, .vs false 3 v4, .vs false 28 v5, .vs false 3 v6, .int .i64 v7, .vs false 157 v8, .int .i64 v9, .int .i64 v10, .int .i64 v11, .vs false 157 v12, .int .i64 v13, .int .i64 v14, .int .i64 v15, .vs false 157 v16], .box 34 [.int .i64 v17, .int .i64 v18, .int .i64 v19, .vs false 157 v20, .int .i64 v21, .vs false 157 v22, .int .i64 v23, .vs false 3 v24, .vs false 28 v25, .int .i64 v26, .vs false 3 v27, .vs false 28 v28, .vs false 3 v29, .int .i64 v30, .vs false 157 v31, .int .i64 v32, .int .i64 v33, .int .i64 v34, .vs false 157 v35, .int .i64 v36, .int .i64 v37, .int .i64 v38, .vs false 157 v39], .row 0 true 3 v40, .row 0 true 3 v41] 4
theorem laws_FnExactRelLocate.eq (x0 : Int × Int × Int × (List Int) × (List (Int × (List Int))) × (List Int) × Int × (List Int) × Int × Int × Int × (List Int) × Int × Int × Int × (List Int)) (x1 : Int × Int × Int × (List Int) × Int × (List Int) × Int × (List Int) × (List (Int × (List Int))) × Int × (List Int) × (List (Int × (List Int))) × (List Int) × Int × (List Int) × Int × Int × Int × (List Int) × Int × Int × Int × (List Int)) (x2 : List Int) : laws_FnExactRelLocate x0 x1 x2 =
    bif decide ((x2.length : Int) > (1048576 : Int)) then
      some true
    else
      (laws_szFm x0 (1048576 : Int)).bind fun y1 =>
      bif decide (y1 < (0 : Int)) then
        some true
      else
        (laws_szRel x1 y1).bind fun y2 =>
        bif decide (y2 < (0 : Int)) then
          some true
        else
          (laws_toFm x0).bind fun y3 =>
          (laws_toRel x1).bind fun y4 =>
          (laws_toByteS x2).bind fun y5 =>
          (spec_RelLocate y3 y4 y5).bind fun y6 =>
          (laws_toFm x0).bind fun y7 =>
          (laws_toRel x1).bind fun y8 =>
          (laws_toByteS x2).bind fun y9 =>
          (impl_RelLocate y7 y8 y9).bind fun y10 =>
          (laws_eqIntS y10 y6).bind fun y11 =>
          bif !y11 then
            some false
          else
            (laws_toFm x0).bind fun y12 =>
            (laws_eqFm y7 y12).bind fun y13 =>
            bif !y13 then
              some false
            else
              (laws_toRel x1).bind fun y14 =>
              (laws_eqRel y8 y14).bind fun y15 =>
              bif !y15 then
                some false
              else
                (laws_toByteS x2).bind fun y16 =>
                (laws_eqByteS y9 y16).bind fun y17 =>
                bif !y17 then
                  some false
                else
                  (laws_markFm y7 (1 : Int)).bind fun y18 =>
                  (laws_markRel y8 y18.1).bind fun y19 =>
                  (laws_markByteS y9 y19.1).bind fun y20 =>
                  bif decide (y20.1 < (0 : Int)) then
                    some false
                  else
                    (laws_eqIntS y10 y6).bind fun y21 =>
                    bif !y21 then
                      some false
                    else
                      laws_FnExactRelLocate_l0 x2 x0.1 x0.2.1 x0.2.2.1 x0.2.2.2.1 x0.2.2.2.2.1 x0.2.2.2.2.2.1 x0.2.2.2.2.2.2.1 x0.2.2.2.2.2.2.2.1 x0.2.2.2.2.2.2.2.2.1 x0.2.2.2.2.2.2.2.2.2.1 x0.2.2.2.2.2.2.2.2.2.2.1 x0.2.2.2.2.2.2.2.2.2.2.2.1 x0.2.2.2.2.2.2.2.2.2.2.2.2.1 x0.2.2.2.2.2.2.2.2.2.2.2.2.2.1 x0.2.2.2.2.2.2.2.2.2.2.2.2.2.2.1 x0.2.2.2.2.2.2.2.2.2.2.2.2.2.2.2 x1.1 x1.2.1 x1.2.2.1 x1.2.2.2.1 x1.2.2.2.2.1 x1.2.2.2.2.2.1 x1.2.2.2.2.2.2.1 x1.2.2.2.2.2.2.2.1 x1.2.2.2.2.2.2.2.2.1 x1.2.2.2.2.2.2.2.2.2.1 x1.2.2.2.2.2.2.2.2.2.2.1 x1.2.2.2.2.2.2.2.2.2.2.2.1 x1.2.2.2.2.2.2.2.2.2.2.2.2.1 x1.2.2.2.2.2.2.2.2.2.2.2.2.2.1 x1.2.2.2.2.2.2.2.2.2.2.2.2.2.2.1 x1.2.2.2.2.2.2.2.2.2.2.2.2.2.2.2.1 x1.2.2.2.2.2.2.2.2.2.2.2.2.2.2.2.2.1 x1.2.2.2.2.2.2.2.2.2.2.2.2.2.2.2.2.2.1 x1.2.2.2.2.2.2.2.2.2.2.2.2.2.2.2.2.2.2.1 x1.2.2.2.2.2.2.2.2.2.2.2.2.2.2.2.2.2.2.2.1 x1.2.2.2.2.2.2.2.2.2.2.2.2.2.2.2.2.2.2.2.2.1 x1.2.2.2.2.2.2.2.2.2.2.2.2.2.2.2.2.2.2.2.2.2.1 x1.2.2.2.2.2.2.2.2.2.2.2.2.2.2.2.2.2.2.2.2.2.2 y6 y10 := by kernel_rfl
theorem laws_FnExactRelLocate_l0.eq (v0 : List Int) (v1 v2 v3 : Int) (v4 : List Int) (v5 : List (Int × (List Int))) (v6 : List Int) (v7 : Int) (v8 : List Int) (v9 v10 v11 : Int) (v12 : List Int) (v13 v14 v15 : Int) (v16 : List Int) (v17 v18 v19 : Int) (v20 : List Int) (v21 : Int) (v22 : List Int) (v23 : Int) (v24 : List Int) (v25 : List (Int × (List Int))) (v26 : Int) (v27 : List Int) (v28 : List (Int × (List Int))) (v29 : List Int) (v30 : Int) (v31 : List Int) (v32 v33 v34 : Int) (v35 : List Int) (v36 v37 v38 : Int) (v39 v40 v41 : List Int) : laws_FnExactRelLocate_l0 v0 v1 v2 v3 v4 v5 v6 v7 v8 v9 v10 v11 v12 v13 v14 v15 v16 v17 v18 v19 v20 v21 v22 v23 v24 v25 v26 v27 v28 v29 v30 v31 v32 v33 v34 v35 v36 v37 v38 v39 v40 v41 =
    (laws_markIntS v41 (1 : Int)).bind fun y1 =>
    (laws_heldIntS y1.2 (1 : Int)).bind fun y2 =>
    bif decide (y2 < (0 : Int)) then
      some false
    else
      bif y2 != y1.1 then
        some false
      else
        (laws_toFm (v1, v2, v3, v4, v5, v6, v7, v8, v9, v10, v11, v12, v13, v14, v15, v16)).bind fun y3 =>
        (laws_toRel (v17, v18, v19, v20, v21, v22, v23, v24, v25, v26, v27, v28, v29, v30, v31, v32, v33, v34, v35, v36, v37, v38, v39)).bind fun y4 =>
        (laws_toByteS v0).bind fun y5 =>
        (impl_RelLocate y3 y4 y5).bind fun y6 =>
        (laws_eqIntS y6 v40).bind fun y7 =>
        bif !y7 then
          some false
        else
          (laws_heldIntS y1.2 (1 : Int)).bind fun y8 =>
          bif decide (y8 < (0 : Int)) then
            some false
          else
            bif y8 != y1.1 then
              some false
            else
              some true := (Lw_eq tysOk (getG_con (laws_FnExactRelLocate.gok _)) _ _).trans (by kernel_rfl)

end Go.Ev.W
