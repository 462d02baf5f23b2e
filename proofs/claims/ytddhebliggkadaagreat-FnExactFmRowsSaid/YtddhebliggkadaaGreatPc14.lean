/- What functions of the program come to. -/
import Derived.Test.YtddhebliggkadaaGreatPcT
import Derived.Test.YtddhebliggkadaaGreatPc1
import Derived.Test.YtddhebliggkadaaGreatPc11
import Derived.Test.YtddhebliggkadaaGreatPc12
import Derived.Test.YtddhebliggkadaaGreatPc13
namespace Go.Ev.W
open Go.Ev Go.Proofs
set_option maxRecDepth 100000
set_option linter.unusedVariables false

noncomputable abbrev laws_FnExactFmRows.s : Sg := ⟨[.lend, .lend], [.agg [.int .i64, .int .i64, .int .i64, .sl false false 3, .sl false false 49, .sl false false 3, .int .i64, .sl false false 126, .int .i64, .int .i64, .int .i64, .sl false false 126, .int .i64, .int .i64, .int .i64, .sl false false 126], vl 5], ⟨[vb], [none, none]⟩, Tryz.f9⟩
noncomputable def laws_FnExactFmRows.gs (δ : Type) : List (Nat × Callee (GT tab) δ) := [(17, impl_FmRows.k), (18, spec_FmRows.k), (30, laws_szFm.k), (32, laws_toFm.k), (33, laws_eqFm.k), (35, laws_toByteS.k), (36, laws_eqByteS.k)]
theorem laws_FnExactFmRows.gok (δ : Type) : AllCon Tryz.prog tab (laws_FnExactFmRows.gs δ) := .cons impl_FmRows.con (.cons spec_FmRows.con (.cons laws_szFm.con (.cons laws_toFm.con (.cons laws_eqFm.con (.cons laws_toByteS.con (.cons laws_eqByteS.con .nil))))))
noncomputable def laws_FnExactFmRows.c := cx laws_FnExactFmRows.s [13] [(13, [1, 2, 8, 9])] false (laws_FnExactFmRows.gs _)
noncomputable def laws_FnExactFmRows (x0 : Int × Int × Int × (List Int) × (List (Int × (List Int))) × (List Int) × Int × (List Int) × Int × Int × Int × (List Int) × Int × Int × Int × (List Int)) (x1 : List Int) : Option (Bool) := fnW laws_FnExactFmRows.s laws_FnExactFmRows.c (x0, x1)
theorem laws_FnExactFmRows.fok : FkS laws_FnExactFmRows.s 9 := ⟨Tryz.func9, by kernel_rfl, by kernel_rfl⟩
noncomputable def laws_FnExactFmRows.fn (x : Args tab laws_FnExactFmRows.s.ar) : Option (ResT tab laws_FnExactFmRows.s.rs) := laws_FnExactFmRows x.1 x.2
noncomputable abbrev laws_FnExactFmRows.as := laws_FnExactFmRows.s.ar
noncomputable abbrev laws_FnExactFmRows.k {δ : Type} : Callee (GT tab) δ := kS laws_FnExactFmRows.s laws_FnExactFmRows.fn
theorem laws_FnExactFmRows.con {δ : Type} : Con Tryz.prog (KT tab) 9 (laws_FnExactFmRows.k (δ := δ)) := con_shape (c := laws_FnExactFmRows.c) mixed tysOk (getG_con (laws_FnExactFmRows.gok _)) laws_FnExactFmRows.fok rfl rfl fun _ => rfl
noncomputable def laws_FnExactFmRows_l0 (v0 : List Int) (v1 v2 v3 : Int) (v4 : List Int) (v5 : List (Int × (List Int))) (v6 : List Int) (v7 : Int) (v8 : List Int) (v9 v10 v11 : Int) (v12 : List Int) (v13 v14 v15 : Int) (v16 : List Int) (v17 v18 v19 v20 v21 v22 v23 v24 v25 v26 : Int) (v27 : List Int) (v28 : List (Int × (List Int))) (v29 v30 v31 v32 v33 : List Int) : Option (Bool) := lpW laws_FnExactFmRows.s laws_FnExactFmRows.c 0 (ud 46 [.undef, .vs false 5 v0, .ptr 0 0, .undef, .undef, .undef, .undef, .undef, .ptr 1 0, .sl 8 0]) [.box 53 [.int .i64 v1, .int .i64 v2, .int .i64 v3, .vs false 3 v4, .vs false 49 v5, .vs false 3 v6, .int .i64 v7, .vs false 126 v8, .int .i64 v9, .int .i64 v10, .int .i64 v11, .vs false 126 v12, .int .i64 v13, .int .i64 v14, .int .i64 v15, .vs false 126 v16], .box 34 [.int .i64 v17, .int .i64 v18, .int .i64 v19, .sl 2 0, .sl 3 0, .sl 4 0, .int .i64 v20, .sl 5 0, .int .i64 v21, .int .i64 v22, .int .i64 v23, .sl 6 0, .int .i64 v24, .int .i64 v25, .int .i64 v26, .sl 7 0], .row 0 true 3 v27, .row 0 true 30 v28, .row 0 true 3 v29, .row 0 true 126 v30, .row 0 true 126 v31, .row 0 true 126 v32, .row 0 true 5 v33] 9
theorem laws_FnExactFmRows.eq (x0 : Int × Int × Int × (List Int) × (List (Int × (List Int))) × (List Int) × Int × (List Int) × Int × Int × Int × (List Int) × Int × Int × Int × (List Int)) (x1 : List Int) : laws_FnExactFmRows x0 x1 =
    bif decide ((x1.length : Int) > (1048576 : Int)) then
      some true
    else
      (laws_szFm x0 (1048576 : Int)).bind fun y1 =>
      bif decide (y1 < (0 : Int)) then
        some true
      else
        (laws_toFm x0).bind fun y2 =>
        (laws_toByteS x1).bind fun y3 =>
        (spec_FmRows y2 y3).bind fun y4 =>
        (laws_toFm x0).bind fun y5 =>
        (laws_toByteS x1).bind fun y6 =>
        (impl_FmRows y5 y6).bind fun y7 =>
        bif y7.1 != y4.1 then
          some false
        else
          bif y7.2 != y4.2 then
            some false
          else
            laws_FnExactFmRows_l0 x1 x0.1 x0.2.1 x0.2.2.1 x0.2.2.2.1 x0.2.2.2.2.1 x0.2.2.2.2.2.1 x0.2.2.2.2.2.2.1 x0.2.2.2.2.2.2.2.1 x0.2.2.2.2.2.2.2.2.1 x0.2.2.2.2.2.2.2.2.2.1 x0.2.2.2.2.2.2.2.2.2.2.1 x0.2.2.2.2.2.2.2.2.2.2.2.1 x0.2.2.2.2.2.2.2.2.2.2.2.2.1 x0.2.2.2.2.2.2.2.2.2.2.2.2.2.1 x0.2.2.2.2.2.2.2.2.2.2.2.2.2.2.1 x0.2.2.2.2.2.2.2.2.2.2.2.2.2.2.2 y5.1 y5.2.1 y5.2.2.1 y5.2.2.2.2.2.2.1 y5.2.2.2.2.2.2.2.2.1 y5.2.2.2.2.2.2.2.2.2.1 y5.2.2.2.2.2.2.2.2.2.2.1 y5.2.2.2.2.2.2.2.2.2.2.2.2.1 y5.2.2.2.2.2.2.2.2.2.2.2.2.2.1 y5.2.2.2.2.2.2.2.2.2.2.2.2.2.2.1 y5.2.2.2.1 y5.2.2.2.2.1 y5.2.2.2.2.2.1 y5.2.2.2.2.2.2.2.1 y5.2.2.2.2.2.2.2.2.2.2.2.1 y5.2.2.2.2.2.2.2.2.2.2.2.2.2.2.2 y6 := by kernel_rfl
theorem laws_FnExactFmRows_l0.eq (v0 : List Int) (v1 v2 v3 : Int) (v4 : List Int) (v5 : List (Int × (List Int))) (v6 : List Int) (v7 : Int) (v8 : List Int) (v9 v10 v11 : Int) (v12 : List Int) (v13 v14 v15 : Int) (v16 : List Int) (v17 v18 v19 v20 v21 v22 v23 v24 v25 v26 : Int) (v27 : List Int) (v28 : List (Int × (List Int))) (v29 v30 v31 v32 v33 : List Int) : laws_FnExactFmRows_l0 v0 v1 v2 v3 v4 v5 v6 v7 v8 v9 v10 v11 v12 v13 v14 v15 v16 v17 v18 v19 v20 v21 v22 v23 v24 v25 v26 v27 v28 v29 v30 v31 v32 v33 =
    (laws_toFm (v1, v2, v3, v4, v5, v6, v7, v8, v9, v10, v11, v12, v13, v14, v15, v16)).bind fun y1 =>
    (laws_eqFm (v17, v18, v19, v27, v28, v29, v20, v30, v21, v22, v23, v31, v24, v25, v26, v32) y1).bind fun y2 =>
    bif !y2 then
      some false
    else
      (laws_toByteS v0).bind fun y3 =>
      (laws_eqByteS v33 y3).bind fun y4 =>
      bif !y4 then
        some false
      else
        some true := (Lw_eq tysOk (getG_con (laws_FnExactFmRows.gok _)) _ _).trans (by kernel_rfl)

end Go.Ev.W
