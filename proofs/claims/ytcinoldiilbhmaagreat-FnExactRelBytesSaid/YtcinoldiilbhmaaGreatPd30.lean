/- What functions of the program come to. -/
import Derived.Test.YtcinoldiilbhmaaGreatPdT
import Derived.Test.YtcinoldiilbhmaaGreatPd1
import Derived.Test.YtcinoldiilbhmaaGreatPd19
import Derived.Test.YtcinoldiilbhmaaGreatPd2
import Derived.Test.YtcinoldiilbhmaaGreatPd22
import Derived.Test.YtcinoldiilbhmaaGreatPd23
import Derived.Test.YtcinoldiilbhmaaGreatPd29
namespace Go.Ev.W
open Go.Ev Go.Proofs
set_option maxRecDepth 100000
set_option linter.unusedVariables false

noncomputable abbrev laws_FnExactRelBytes.s : Sg := ⟨[.lend, .lend], [.agg [.int .i64, .int .i64, .int .i64, .sl false false 3, .sl false false 28, .sl false false 3, .int .i64, .sl false false 157, .int .i64, .int .i64, .int .i64, .sl false false 157, .int .i64, .int .i64, .int .i64, .sl false false 157], .agg [.int .i64, .int .i64, .int .i64, .sl false false 157, .int .i64, .sl false false 157, .int .i64, .sl false false 3, .sl false false 28, .int .i64, .sl false false 3, .sl false false 28, .sl false false 3, .int .i64, .sl false false 157, .int .i64, .int .i64, .int .i64, .sl false false 157, .int .i64, .int .i64, .int .i64, .sl false false 157]], ⟨[vb], [none, none]⟩, Tryz.f14⟩
noncomputable def laws_FnExactRelBytes.gs (δ : Type) : List (Nat × Callee (GT tab) δ) := [(15, laws_szFm.k), (16, laws_szRel.k), (18, laws_toFm.k), (19, laws_toRel.k), (21, laws_eqFm.k), (22, laws_eqRel.k), (36, laws_eqByteS.k), (39, laws_markFm.k), (40, laws_markRel.k), (41, laws_markByteS.k), (42, laws_heldByteS.k), (55, spec_RelBytes.k), (56, impl_RelBytes.k)]
theorem laws_FnExactRelBytes.gok (δ : Type) : AllCon Tryz.prog tab (laws_FnExactRelBytes.gs δ) := .cons laws_szFm.con (.cons laws_szRel.con (.cons laws_toFm.con (.cons laws_toRel.con (.cons laws_eqFm.con (.cons laws_eqRel.con (.cons laws_eqByteS.con (.cons laws_markFm.con (.cons laws_markRel.con (.cons laws_markByteS.con (.cons laws_heldByteS.con (.cons spec_RelBytes.con (.cons impl_RelBytes.con .nil))))))))))))
noncomputable def laws_FnExactRelBytes.c := cx laws_FnExactRelBytes.s [23] [(23, [2, 3, 6, 9])] false (laws_FnExactRelBytes.gs _)
noncomputable def laws_FnExactRelBytes (x0 : Int × Int × Int × (List Int) × (List (Int × (List Int))) × (List Int) × Int × (List Int) × Int × Int × Int × (List Int) × Int × Int × Int × (List Int)) (x1 : Int × Int × Int × (List Int) × Int × (List Int) × Int × (List Int) × (List (Int × (List Int))) × Int × (List Int) × (List (Int × (List Int))) × (List Int) × Int × (List Int) × Int × Int × Int × (List Int) × Int × Int × Int × (List Int)) : Option (Bool) := fnW laws_FnExactRelBytes.s laws_FnExactRelBytes.c (x0, x1)
theorem laws_FnExactRelBytes.fok : FkS laws_FnExactRelBytes.s 14 := ⟨Tryz.func14, by kernel_rfl, by kernel_rfl⟩
noncomputable def laws_FnExactRelBytes.fn (x : Args tab laws_FnExactRelBytes.s.ar) : Option (ResT tab laws_FnExactRelBytes.s.rs) := laws_FnExactRelBytes x.1 x.2
noncomputable abbrev laws_FnExactRelBytes.as := laws_FnExactRelBytes.s.ar
noncomputable def laws_FnExactRelBytes_l0 (v0 v1 v2 : Int) (v3 : List Int) (v4 : List (Int × (List Int))) (v5 : List Int) (v6 : Int) (v7 : List Int) (v8 v9 v10 : Int) (v11 : List Int) (v12 v13 v14 : Int) (v15 : List Int) (v16 v17 v18 : Int) (v19 : List Int) (v20 : Int) (v21 : List Int) (v22 : Int) (v23 : List Int) (v24 : List (Int × (List Int))) (v25 : Int) (v26 : List Int) (v27 : List (Int × (List Int))) (v28 : List Int) (v29 : Int) (v30 : List Int) (v31 v32 v33 : Int) (v34 : List Int) (v35 v36 v37 : Int) (v38 v39 v40 : List Int) : Option (Bool) := lpW laws_FnExactRelBytes.s laws_FnExactRelBytes.c 0 (ud 82 [.undef, .undef, .ptr 0 0, .ptr 1 0, .undef, .undef, .sl 2 0, .undef, .undef, .sl 3 0]) [.box 32 [.int .i64 v0, .int .i64 v1, .int .i64 v2, .vs false 3 v3, .vs false 28 v4, .vs false 3 v5, .int .i64 v6, .vs false 157 v7, .int .i64 v8, .int .i64 v9, .int .i64 v10, .vs false 157 v11, .int .i64 v12, .int .i64 v13, .int .i64 v14, .vs false 157 v15], .box 34 [.int .i64 v16, .int .i64 v17, .int .i64 v18, .vs false 157 v19, .int .i64 v20, .vs false 157 v21, .int .i64 v22, .vs false 3 v23, .vs false 28 v24, .int .i64 v25, .vs false 3 v26, .vs false 28 v27, .vs false 3 v28, .int .i64 v29, .vs false 157 v30, .int .i64 v31, .int .i64 v32, .int .i64 v33, .vs false 157 v34, .int .i64 v35, .int .i64 v36, .int .i64 v37, .vs false 157 v38], .row 0 true 5 v39, .row 0 true 5 v40] 4
theorem laws_FnExactRelBytes.eq (x0 : Int × Int × Int × (List Int) × (List (Int × (List Int))) × (List Int) × Int × (List Int) × Int × Int × Int × (List Int) × Int × Int × Int × (List Int)) (x1 : Int × Int × Int × (List Int) × Int × (List Int) × Int × (List Int) × (List (Int × (List Int))) × Int × (List Int) × (List (Int × (List Int))) × (List Int) × Int × (List Int) × Int × Int × Int × (List Int) × Int × Int × Int × (List Int)) : laws_FnExactRelBytes x0 x1 =
    (laws_szFm x0 (1048576 : Int)).bind fun y1 =>
    bif decide (y1 < (0 : Int)) then
      some true
    else
      (laws_szRel x1 y1).bind fun y2 =>
      bif decide (y2 < (0 : Int)) then
        some true
      else
        (laws_toFm x0).bind fun y3 =>
        (laws_toRel x1).bind fun y4 =>
        (spec_RelBytes y3 y4).bind fun y5 =>
        (laws_toFm x0).bind fun y6 =>
        (laws_toRel x1).bind fun y7 =>
        (impl_RelBytes y6 y7).bind fun y8 =>
        (laws_eqByteS y8 y5).bind fun y9 =>
        bif !y9 then
          some false
        else
          (laws_toFm x0).bind fun y10 =>
          (laws_eqFm y6 y10).bind fun y11 =>
          bif !y11 then
            some false
          else
            (laws_toRel x1).bind fun y12 =>
            (laws_eqRel y7 y12).bind fun y13 =>
            bif !y13 then
              some false
            else
              (laws_markFm y6 (1 : Int)).bind fun y14 =>
              (laws_markRel y7 y14.1).bind fun y15 =>
              bif decide (y15.1 < (0 : Int)) then
                some false
              else
                (laws_eqByteS y8 y5).bind fun y16 =>
                bif !y16 then
                  some false
                else
                  laws_FnExactRelBytes_l0 x0.1 x0.2.1 x0.2.2.1 x0.2.2.2.1 x0.2.2.2.2.1 x0.2.2.2.2.2.1 x0.2.2.2.2.2.2.1 x0.2.2.2.2.2.2.2.1 x0.2.2.2.2.2.2.2.2.1 x0.2.2.2.2.2.2.2.2.2.1 x0.2.2.2.2.2.2.2.2.2.2.1 x0.2.2.2.2.2.2.2.2.2.2.2.1 x0.2.2.2.2.2.2.2.2.2.2.2.2.1 x0.2.2.2.2.2.2.2.2.2.2.2.2.2.1 x0.2.2.2.2.2.2.2.2.2.2.2.2.2.2.1 x0.2.2.2.2.2.2.2.2.2.2.2.2.2.2.2 x1.1 x1.2.1 x1.2.2.1 x1.2.2.2.1 x1.2.2.2.2.1 x1.2.2.2.2.2.1 x1.2.2.2.2.2.2.1 x1.2.2.2.2.2.2.2.1 x1.2.2.2.2.2.2.2.2.1 x1.2.2.2.2.2.2.2.2.2.1 x1.2.2.2.2.2.2.2.2.2.2.1 x1.2.2.2.2.2.2.2.2.2.2.2.1 x1.2.2.2.2.2.2.2.2.2.2.2.2.1 x1.2.2.2.2.2.2.2.2.2.2.2.2.2.1 x1.2.2.2.2.2.2.2.2.2.2.2.2.2.2.1 x1.2.2.2.2.2.2.2.2.2.2.2.2.2.2.2.1 x1.2.2.2.2.2.2.2.2.2.2.2.2.2.2.2.2.1 x1.2.2.2.2.2.2.2.2.2.2.2.2.2.2.2.2.2.1 x1.2.2.2.2.2.2.2.2.2.2.2.2.2.2.2.2.2.2.1 x1.2.2.2.2.2.2.2.2.2.2.2.2.2.2.2.2.2.2.2.1 x1.2.2.2.2.2.2.2.2.2.2.2.2.2.2.2.2.2.2.2.2.1 x1.2.2.2.2.2.2.2.2.2.2.2.2.2.2.2.2.2.2.2.2.2.1 x1.2.2.2.2.2.2.2.2.2.2.2.2.2.2.2.2.2.2.2.2.2.2 y5 y8 := by kernel_rfl
theorem laws_FnExactRelBytes_l0.eq (v0 v1 v2 : Int) (v3 : List Int) (v4 : List (Int × (List Int))) (v5 : List Int) (v6 : Int) (v7 : List Int) (v8 v9 v10 : Int) (v11 : List Int) (v12 v13 v14 : Int) (v15 : List Int) (v16 v17 v18 : Int) (v19 : List Int) (v20 : Int) (v21 : List Int) (v22 : Int) (v23 : List Int) (v24 : List (Int × (List Int))) (v25 : Int) (v26 : List Int) (v27 : List (Int × (List Int))) (v28 : List Int) (v29 : Int) (v30 : List Int) (v31 v32 v33 : Int) (v34 : List Int) (v35 v36 v37 : Int) (v38 v39 v40 : List Int) : laws_FnExactRelBytes_l0 v0 v1 v2 v3 v4 v5 v6 v7 v8 v9 v10 v11 v12 v13 v14 v15 v16 v17 v18 v19 v20 v21 v22 v23 v24 v25 v26 v27 v28 v29 v30 v31 v32 v33 v34 v35 v36 v37 v38 v39 v40 =
    (laws_markByteS v40 (1 : Int)).bind fun y1 =>
    (laws_heldByteS y1.2 (1 : Int)).bind fun y2 =>
    bif decide (y2 < (0 : Int)) then
      some false
    else
      bif y2 != y1.1 then
        some false
      else
        (laws_toFm (v0, v1, v2, v3, v4, v5, v6, v7, v8, v9, v10, v11, v12, v13, v14, v15)).bind fun y3 =>
        (laws_toRel (v16, v17, v18, v19, v20, v21, v22, v23, v24, v25, v26, v27, v28, v29, v30, v31, v32, v33, v34, v35, v36, v37, v38)).bind fun y4 =>
        (impl_RelBytes y3 y4).bind fun y5 =>
        (laws_eqByteS y5 v39).bind fun y6 =>
        bif !y6 then
          some false
        else
          (laws_heldByteS y1.2 (1 : Int)).bind fun y7 =>
          bif decide (y7 < (0 : Int)) then
            some false
          else
            bif y7 != y1.1 then
              some false
            else
              some true := (Lw_eq tysOk (getG_con (laws_FnExactRelBytes.gok _)) _ _).trans (by kernel_rfl)

end Go.Ev.W
