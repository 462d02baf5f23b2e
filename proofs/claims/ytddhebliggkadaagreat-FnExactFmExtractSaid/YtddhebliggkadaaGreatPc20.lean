/- What functions of the program come to. -/
import Derived.Test.YtddhebliggkadaaGreatPcT
import Derived.Test.YtddhebliggkadaaGreatPc1
import Derived.Test.YtddhebliggkadaaGreatPc13
import Derived.Test.YtddhebliggkadaaGreatPc16
import Derived.Test.YtddhebliggkadaaGreatPc17
import Derived.Test.YtddhebliggkadaaGreatPc19
namespace Go.Ev.W
open Go.Ev Go.Proofs
set_option maxRecDepth 100000
set_option linter.unusedVariables false

noncomputable abbrev laws_FnExactFmExtract.s : Sg := ⟨[.lend, .lend, .lend], [.agg [.int .i64, .int .i64, .int .i64, .sl false false 3, .sl false false 49, .sl false false 3, .int .i64, .sl false false 126, .int .i64, .int .i64, .int .i64, .sl false false 126, .int .i64, .int .i64, .int .i64, .sl false false 126], vi, vi], ⟨[vb], [none, none, none]⟩, Tryz.f11⟩
noncomputable def laws_FnExactFmExtract.gs (δ : Type) : List (Nat × Callee (GT tab) δ) := [(30, laws_szFm.k), (32, laws_toFm.k), (33, laws_eqFm.k), (36, laws_eqByteS.k), (38, laws_markFm.k), (39, laws_markByteS.k), (40, laws_heldByteS.k), (41, spec_FmExtract.k), (42, impl_FmExtract.k)]
theorem laws_FnExactFmExtract.gok (δ : Type) : AllCon Tryz.prog tab (laws_FnExactFmExtract.gs δ) := .cons laws_szFm.con (.cons laws_toFm.con (.cons laws_eqFm.con (.cons laws_eqByteS.con (.cons laws_markFm.con (.cons laws_markByteS.con (.cons laws_heldByteS.con (.cons spec_FmExtract.con (.cons impl_FmExtract.con .nil))))))))
noncomputable def laws_FnExactFmExtract.c := cx laws_FnExactFmExtract.s [10, 16, 27] [(10, [1, 2, 3, 8, 9, 10, 11, 12]), (16, [1, 2, 3, 8, 9, 11]), (27, [11, 14])] false (laws_FnExactFmExtract.gs _)
noncomputable def laws_FnExactFmExtract (x0 : Int × Int × Int × (List Int) × (List (Int × (List Int))) × (List Int) × Int × (List Int) × Int × Int × Int × (List Int) × Int × Int × Int × (List Int)) (x1 x2 : Int) : Option (Bool) := fnW laws_FnExactFmExtract.s laws_FnExactFmExtract.c (x0, x1, x2)
theorem laws_FnExactFmExtract.fok : FkS laws_FnExactFmExtract.s 11 := ⟨Tryz.func11, by kernel_rfl, by kernel_rfl⟩
noncomputable def laws_FnExactFmExtract.fn (x : Args tab laws_FnExactFmExtract.s.ar) : Option (ResT tab laws_FnExactFmExtract.s.rs) := laws_FnExactFmExtract x.1 x.2.1 x.2.2
noncomputable abbrev laws_FnExactFmExtract.as := laws_FnExactFmExtract.s.ar
noncomputable abbrev laws_FnExactFmExtract.k {δ : Type} : Callee (GT tab) δ := kS laws_FnExactFmExtract.s laws_FnExactFmExtract.fn
theorem laws_FnExactFmExtract.con {δ : Type} : Con Tryz.prog (KT tab) 11 (laws_FnExactFmExtract.k (δ := δ)) := con_shape (c := laws_FnExactFmExtract.c) mixed tysOk (getG_con (laws_FnExactFmExtract.gok _)) laws_FnExactFmExtract.fok rfl rfl fun _ => rfl
noncomputable def laws_FnExactFmExtract_l0 (v0 v1 : Int) (v2 v3 : Bool) (v4 v5 v6 : Int) (v7 : List Int) (v8 : List (Int × (List Int))) (v9 : List Int) (v10 : Int) (v11 : List Int) (v12 v13 v14 : Int) (v15 : List Int) (v16 v17 v18 : Int) (v19 v20 : List Int) (v21 v22 v23 v24 v25 v26 v27 v28 v29 v30 : Int) (v31 : List Int) (v32 : List (Int × (List Int))) (v33 v34 v35 v36 v37 : List Int) : Option (Bool) := lpW laws_FnExactFmExtract.s laws_FnExactFmExtract.c 0 (ud 93 [.undef, .int .i64 v0, .int .i64 v1, .ptr 0 0, .undef, .undef, .undef, .undef, .sl 1 0, .bool v2, .ptr 2 0, .sl 9 0, .bool v3]) [.box 53 [.int .i64 v4, .int .i64 v5, .int .i64 v6, .vs false 3 v7, .vs false 49 v8, .vs false 3 v9, .int .i64 v10, .vs false 126 v11, .int .i64 v12, .int .i64 v13, .int .i64 v14, .vs false 126 v15, .int .i64 v16, .int .i64 v17, .int .i64 v18, .vs false 126 v19], .row 0 true 5 v20, .box 34 [.int .i64 v21, .int .i64 v22, .int .i64 v23, .sl 3 0, .sl 4 0, .sl 5 0, .int .i64 v24, .sl 6 0, .int .i64 v25, .int .i64 v26, .int .i64 v27, .sl 7 0, .int .i64 v28, .int .i64 v29, .int .i64 v30, .sl 8 0], .row 0 true 3 v31, .row 0 true 30 v32, .row 0 true 3 v33, .row 0 true 126 v34, .row 0 true 126 v35, .row 0 true 126 v36, .row 0 true 5 v37] 10
noncomputable def laws_FnExactFmExtract_l1 (v0 v1 : Int) (v2 : Bool) (v3 v4 v5 : Int) (v6 : List Int) (v7 : List (Int × (List Int))) (v8 : List Int) (v9 : Int) (v10 : List Int) (v11 v12 v13 : Int) (v14 : List Int) (v15 v16 v17 : Int) (v18 v19 v20 : List Int) : Option (Bool) := lpW laws_FnExactFmExtract.s laws_FnExactFmExtract.c 1 (ud 94 [.undef, .int .i64 v0, .int .i64 v1, .ptr 0 0, .undef, .undef, .undef, .undef, .sl 1 0, .bool v2, .undef, .sl 2 0]) [.box 53 [.int .i64 v3, .int .i64 v4, .int .i64 v5, .vs false 3 v6, .vs false 49 v7, .vs false 3 v8, .int .i64 v9, .vs false 126 v10, .int .i64 v11, .int .i64 v12, .int .i64 v13, .vs false 126 v14, .int .i64 v15, .int .i64 v16, .int .i64 v17, .vs false 126 v18], .row 0 true 5 v19, .row 0 true 5 v20] 3
noncomputable def laws_FnExactFmExtract_l2 (v0 : Int) (v1 : List Int) : Option (Bool) := lpW laws_FnExactFmExtract.s laws_FnExactFmExtract.c 2 (ud 91 [.undef, .undef, .undef, .undef, .undef, .undef, .undef, .undef, .undef, .undef, .undef, .sl 0 0, .undef, .undef, .int .i64 v0]) [.row 0 true 5 v1] 1
theorem laws_FnExactFmExtract.eq (x0 : Int × Int × Int × (List Int) × (List (Int × (List Int))) × (List Int) × Int × (List Int) × Int × Int × Int × (List Int) × Int × Int × Int × (List Int)) (x1 x2 : Int) : laws_FnExactFmExtract x0 x1 x2 =
    (laws_szFm x0 (1048576 : Int)).bind fun y1 =>
    bif decide (y1 < (0 : Int)) then
      some true
    else
      (laws_toFm x0).bind fun y2 =>
      (spec_FmExtract y2 x1 x2).bind fun y3 =>
      (laws_toFm x0).bind fun y4 =>
      (impl_FmExtract y4 x1 x2).bind fun y5 =>
      (laws_eqByteS y5.1 y3.1).bind fun y6 =>
      bif !y6 then
        some false
      else
        bif !(y5.2 == y3.2) then
          some false
        else
          laws_FnExactFmExtract_l0 x1 x2 y3.2 y5.2 x0.1 x0.2.1 x0.2.2.1 x0.2.2.2.1 x0.2.2.2.2.1 x0.2.2.2.2.2.1 x0.2.2.2.2.2.2.1 x0.2.2.2.2.2.2.2.1 x0.2.2.2.2.2.2.2.2.1 x0.2.2.2.2.2.2.2.2.2.1 x0.2.2.2.2.2.2.2.2.2.2.1 x0.2.2.2.2.2.2.2.2.2.2.2.1 x0.2.2.2.2.2.2.2.2.2.2.2.2.1 x0.2.2.2.2.2.2.2.2.2.2.2.2.2.1 x0.2.2.2.2.2.2.2.2.2.2.2.2.2.2.1 x0.2.2.2.2.2.2.2.2.2.2.2.2.2.2.2 y3.1 y4.1 y4.2.1 y4.2.2.1 y4.2.2.2.2.2.2.1 y4.2.2.2.2.2.2.2.2.1 y4.2.2.2.2.2.2.2.2.2.1 y4.2.2.2.2.2.2.2.2.2.2.1 y4.2.2.2.2.2.2.2.2.2.2.2.2.1 y4.2.2.2.2.2.2.2.2.2.2.2.2.2.1 y4.2.2.2.2.2.2.2.2.2.2.2.2.2.2.1 y4.2.2.2.1 y4.2.2.2.2.1 y4.2.2.2.2.2.1 y4.2.2.2.2.2.2.2.1 y4.2.2.2.2.2.2.2.2.2.2.2.1 y4.2.2.2.2.2.2.2.2.2.2.2.2.2.2.2 y5.1 := by kernel_rfl
theorem laws_FnExactFmExtract_l0.eq (v0 v1 : Int) (v2 v3 : Bool) (v4 v5 v6 : Int) (v7 : List Int) (v8 : List (Int × (List Int))) (v9 : List Int) (v10 : Int) (v11 : List Int) (v12 v13 v14 : Int) (v15 : List Int) (v16 v17 v18 : Int) (v19 v20 : List Int) (v21 v22 v23 v24 v25 v26 v27 v28 v29 v30 : Int) (v31 : List Int) (v32 : List (Int × (List Int))) (v33 v34 v35 v36 v37 : List Int) : laws_FnExactFmExtract_l0 v0 v1 v2 v3 v4 v5 v6 v7 v8 v9 v10 v11 v12 v13 v14 v15 v16 v17 v18 v19 v20 v21 v22 v23 v24 v25 v26 v27 v28 v29 v30 v31 v32 v33 v34 v35 v36 v37 =
    (laws_toFm (v4, v5, v6, v7, v8, v9, v10, v11, v12, v13, v14, v15, v16, v17, v18, v19)).bind fun y1 =>
    (laws_eqFm (v21, v22, v23, v31, v32, v33, v24, v34, v25, v26, v27, v35, v28, v29, v30, v36) y1).bind fun y2 =>
    bif !y2 then
      some false
    else
      (laws_markFm (v21, v22, v23, v31, v32, v33, v24, v34, v25, v26, v27, v35, v28, v29, v30, v36) (1 : Int)).bind fun y3 =>
      bif decide (y3.1 < (0 : Int)) then
        some false
      else
        (laws_eqByteS v37 v20).bind fun y4 =>
        bif !y4 then
          some false
        else
          bif !(v3 == v2) then
            some false
          else
            laws_FnExactFmExtract_l1 v0 v1 v2 v4 v5 v6 v7 v8 v9 v10 v11 v12 v13 v14 v15 v16 v17 v18 v19 v20 v37 := (Lw_eq tysOk (getG_con (laws_FnExactFmExtract.gok _)) _ _).trans (by kernel_rfl)
theorem laws_FnExactFmExtract_l1.eq (v0 v1 : Int) (v2 : Bool) (v3 v4 v5 : Int) (v6 : List Int) (v7 : List (Int × (List Int))) (v8 : List Int) (v9 : Int) (v10 : List Int) (v11 v12 v13 : Int) (v14 : List Int) (v15 v16 v17 : Int) (v18 v19 v20 : List Int) : laws_FnExactFmExtract_l1 v0 v1 v2 v3 v4 v5 v6 v7 v8 v9 v10 v11 v12 v13 v14 v15 v16 v17 v18 v19 v20 =
    (laws_markByteS v20 (1 : Int)).bind fun y1 =>
    (laws_heldByteS y1.2 (1 : Int)).bind fun y2 =>
    bif decide (y2 < (0 : Int)) then
      some false
    else
      bif y2 != y1.1 then
        some false
      else
        (laws_toFm (v3, v4, v5, v6, v7, v8, v9, v10, v11, v12, v13, v14, v15, v16, v17, v18)).bind fun y3 =>
        (impl_FmExtract y3 v0 v1).bind fun y4 =>
        (laws_eqByteS y4.1 v19).bind fun y5 =>
        bif !y5 then
          some false
        else
          bif !(y4.2 == v2) then
            some false
          else
            laws_FnExactFmExtract_l2 y1.1 y1.2 := (Lw_eq tysOk (getG_con (laws_FnExactFmExtract.gok _)) _ _).trans (by kernel_rfl)
theorem laws_FnExactFmExtract_l2.eq (v0 : Int) (v1 : List Int) : laws_FnExactFmExtract_l2 v0 v1 =
    (laws_heldByteS v1 (1 : Int)).bind fun y1 =>
    bif decide (y1 < (0 : Int)) then
      some false
    else
      bif y1 != v0 then
        some false
      else
        some true := (Lw_eq tysOk (getG_con (laws_FnExactFmExtract.gok _)) _ _).trans (by kernel_rfl)

end Go.Ev.W
