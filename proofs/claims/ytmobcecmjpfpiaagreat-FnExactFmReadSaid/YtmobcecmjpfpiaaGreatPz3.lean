/- What functions of the program come to. -/
import Derived.Test.YtmobcecmjpfpiaaGreatPzT
import Derived.Test.YtmobcecmjpfpiaaGreatPz1
import Derived.Test.YtmobcecmjpfpiaaGreatPz2
namespace Go.Ev.W
open Go.Ev Go.Proofs
set_option maxRecDepth 100000
set_option linter.unusedVariables false

noncomputable abbrev laws_FnExactFmRead.s : Sg := ⟨[.lend], [vl 5], ⟨[vb], [none]⟩, Tryz.f3⟩
noncomputable def laws_FnExactFmRead.gs (δ : Type) : List (Nat × Callee (GT tab) δ) := [(4, spec_FmRead.k), (5, laws_toByteS.k), (6, impl_FmRead.k), (7, laws_eqFm.k), (8, laws_eqByteS.k), (9, laws_markByteS.k), (10, laws_markFm.k), (11, laws_heldFm.k)]
theorem laws_FnExactFmRead.gok (δ : Type) : AllCon Tryz.prog tab (laws_FnExactFmRead.gs δ) := .cons spec_FmRead.con (.cons laws_toByteS.con (.cons impl_FmRead.con (.cons laws_eqFm.con (.cons laws_eqByteS.con (.cons laws_markByteS.con (.cons laws_markFm.con (.cons laws_heldFm.con .nil)))))))
noncomputable def laws_FnExactFmRead.c := cx laws_FnExactFmRead.s [8, 14, 25] [(8, [0, 3, 4, 5, 6, 7]), (14, [0, 3, 4, 6]), (25, [6, 9])] false (laws_FnExactFmRead.gs _)
noncomputable def laws_FnExactFmRead (x0 : List Int) : Option (Bool) := fnW laws_FnExactFmRead.s laws_FnExactFmRead.c x0
theorem laws_FnExactFmRead.fok : FkS laws_FnExactFmRead.s 3 := ⟨Tryz.func3, by kernel_rfl, by kernel_rfl⟩
noncomputable def laws_FnExactFmRead.fn (x : Args tab laws_FnExactFmRead.s.ar) : Option (ResT tab laws_FnExactFmRead.s.rs) := laws_FnExactFmRead x
noncomputable abbrev laws_FnExactFmRead.as := laws_FnExactFmRead.s.ar
noncomputable abbrev laws_FnExactFmRead.k {δ : Type} : Callee (GT tab) δ := kS laws_FnExactFmRead.s laws_FnExactFmRead.fn
theorem laws_FnExactFmRead.con {δ : Type} : Con Tryz.prog (KT tab) 3 (laws_FnExactFmRead.k (δ := δ)) := con_shape (c := laws_FnExactFmRead.c) mixed tysOk (getG_con (laws_FnExactFmRead.gok _)) laws_FnExactFmRead.fok rfl rfl fun _ => rfl
noncomputable def laws_FnExactFmRead_l0 (v0 : List Int) (v1 v2 : Bool) (v3 v4 v5 v6 v7 v8 v9 v10 v11 v12 : Int) (v13 : List Int) (v14 : List (Int × (List Int))) (v15 v16 v17 v18 v19 : List Int) (v20 v21 v22 v23 v24 v25 v26 v27 v28 v29 : Int) (v30 : List Int) (v31 : List (Int × (List Int))) (v32 v33 v34 v35 : List Int) : Option (Bool) := lpW laws_FnExactFmRead.s laws_FnExactFmRead.c 0 (ud 85 [.vs false 5 v0, .undef, .undef, .ptr 0 0, .bool v1, .sl 7 0, .ptr 8 0, .bool v2]) [.box 33 [.int .i64 v3, .int .i64 v4, .int .i64 v5, .sl 1 0, .sl 2 0, .sl 3 0, .int .i64 v6, .sl 4 0, .int .i64 v7, .int .i64 v8, .int .i64 v9, .sl 5 0, .int .i64 v10, .int .i64 v11, .int .i64 v12, .sl 6 0], .row 0 true 3 v13, .row 0 true 29 v14, .row 0 true 3 v15, .row 0 true 106 v16, .row 0 true 106 v17, .row 0 true 106 v18, .row 0 true 5 v19, .box 33 [.int .i64 v20, .int .i64 v21, .int .i64 v22, .sl 9 0, .sl 10 0, .sl 11 0, .int .i64 v23, .sl 12 0, .int .i64 v24, .int .i64 v25, .int .i64 v26, .sl 13 0, .int .i64 v27, .int .i64 v28, .int .i64 v29, .sl 14 0], .row 0 true 3 v30, .row 0 true 29 v31, .row 0 true 3 v32, .row 0 true 106 v33, .row 0 true 106 v34, .row 0 true 106 v35] 15
noncomputable def laws_FnExactFmRead_l1 (v0 : List Int) (v1 : Bool) (v2 v3 v4 v5 v6 v7 v8 v9 v10 v11 : Int) (v12 : List Int) (v13 : List (Int × (List Int))) (v14 v15 v16 v17 : List Int) (v18 v19 v20 v21 v22 v23 v24 v25 v26 v27 : Int) (v28 : List Int) (v29 : List (Int × (List Int))) (v30 v31 v32 v33 : List Int) : Option (Bool) := lpW laws_FnExactFmRead.s laws_FnExactFmRead.c 1 (ud 86 [.vs false 5 v0, .undef, .undef, .ptr 0 0, .bool v1, .undef, .ptr 7 0]) [.box 33 [.int .i64 v2, .int .i64 v3, .int .i64 v4, .sl 1 0, .sl 2 0, .sl 3 0, .int .i64 v5, .sl 4 0, .int .i64 v6, .int .i64 v7, .int .i64 v8, .sl 5 0, .int .i64 v9, .int .i64 v10, .int .i64 v11, .sl 6 0], .row 0 true 3 v12, .row 0 true 29 v13, .row 0 true 3 v14, .row 0 true 106 v15, .row 0 true 106 v16, .row 0 true 106 v17, .box 33 [.int .i64 v18, .int .i64 v19, .int .i64 v20, .sl 8 0, .sl 9 0, .sl 10 0, .int .i64 v21, .sl 11 0, .int .i64 v22, .int .i64 v23, .int .i64 v24, .sl 12 0, .int .i64 v25, .int .i64 v26, .int .i64 v27, .sl 13 0], .row 0 true 3 v28, .row 0 true 29 v29, .row 0 true 3 v30, .row 0 true 106 v31, .row 0 true 106 v32, .row 0 true 106 v33] 14
noncomputable def laws_FnExactFmRead_l2 (v0 v1 v2 v3 v4 v5 v6 v7 v8 v9 v10 : Int) (v11 : List Int) (v12 : List (Int × (List Int))) (v13 v14 v15 v16 : List Int) : Option (Bool) := lpW laws_FnExactFmRead.s laws_FnExactFmRead.c 2 (ud 83 [.undef, .undef, .undef, .undef, .undef, .undef, .ptr 0 0, .undef, .undef, .int .i64 v0]) [.box 33 [.int .i64 v1, .int .i64 v2, .int .i64 v3, .sl 1 0, .sl 2 0, .sl 3 0, .int .i64 v4, .sl 4 0, .int .i64 v5, .int .i64 v6, .int .i64 v7, .sl 5 0, .int .i64 v8, .int .i64 v9, .int .i64 v10, .sl 6 0], .row 0 true 3 v11, .row 0 true 29 v12, .row 0 true 3 v13, .row 0 true 106 v14, .row 0 true 106 v15, .row 0 true 106 v16] 7
theorem laws_FnExactFmRead.eq (x0 : List Int) : laws_FnExactFmRead x0 =
    bif decide ((x0.length : Int) > (1048576 : Int)) then
      some true
    else
      (laws_toByteS x0).bind fun y1 =>
      (spec_FmRead y1).bind fun y2 =>
      (laws_toByteS x0).bind fun y3 =>
      (impl_FmRead y3).bind fun y4 =>
      (laws_eqFm y4.1 y2.1).bind fun y5 =>
      bif !y5 then
        some false
      else
        bif !(y4.2 == y2.2) then
          some false
        else
          laws_FnExactFmRead_l0 x0 y2.2 y4.2 y2.1.1 y2.1.2.1 y2.1.2.2.1 y2.1.2.2.2.2.2.2.1 y2.1.2.2.2.2.2.2.2.2.1 y2.1.2.2.2.2.2.2.2.2.2.1 y2.1.2.2.2.2.2.2.2.2.2.2.1 y2.1.2.2.2.2.2.2.2.2.2.2.2.2.1 y2.1.2.2.2.2.2.2.2.2.2.2.2.2.2.1 y2.1.2.2.2.2.2.2.2.2.2.2.2.2.2.2.1 y2.1.2.2.2.1 y2.1.2.2.2.2.1 y2.1.2.2.2.2.2.1 y2.1.2.2.2.2.2.2.2.1 y2.1.2.2.2.2.2.2.2.2.2.2.2.1 y2.1.2.2.2.2.2.2.2.2.2.2.2.2.2.2.2 y3 y4.1.1 y4.1.2.1 y4.1.2.2.1 y4.1.2.2.2.2.2.2.1 y4.1.2.2.2.2.2.2.2.2.1 y4.1.2.2.2.2.2.2.2.2.2.1 y4.1.2.2.2.2.2.2.2.2.2.2.1 y4.1.2.2.2.2.2.2.2.2.2.2.2.2.1 y4.1.2.2.2.2.2.2.2.2.2.2.2.2.2.1 y4.1.2.2.2.2.2.2.2.2.2.2.2.2.2.2.1 y4.1.2.2.2.1 y4.1.2.2.2.2.1 y4.1.2.2.2.2.2.1 y4.1.2.2.2.2.2.2.2.1 y4.1.2.2.2.2.2.2.2.2.2.2.2.1 y4.1.2.2.2.2.2.2.2.2.2.2.2.2.2.2.2 := by kernel_rfl
theorem laws_FnExactFmRead_l0.eq (v0 : List Int) (v1 v2 : Bool) (v3 v4 v5 v6 v7 v8 v9 v10 v11 v12 : Int) (v13 : List Int) (v14 : List (Int × (List Int))) (v15 v16 v17 v18 v19 : List Int) (v20 v21 v22 v23 v24 v25 v26 v27 v28 v29 : Int) (v30 : List Int) (v31 : List (Int × (List Int))) (v32 v33 v34 v35 : List Int) : laws_FnExactFmRead_l0 v0 v1 v2 v3 v4 v5 v6 v7 v8 v9 v10 v11 v12 v13 v14 v15 v16 v17 v18 v19 v20 v21 v22 v23 v24 v25 v26 v27 v28 v29 v30 v31 v32 v33 v34 v35 =
    (laws_toByteS v0).bind fun y1 =>
    (laws_eqByteS v19 y1).bind fun y2 =>
    bif !y2 then
      some false
    else
      (laws_markByteS v19 (1 : Int)).bind fun y3 =>
      bif decide (y3.1 < (0 : Int)) then
        some false
      else
        (laws_eqFm (v20, v21, v22, v30, v31, v32, v23, v33, v24, v25, v26, v34, v27, v28, v29, v35) (v3, v4, v5, v13, v14, v15, v6, v16, v7, v8, v9, v17, v10, v11, v12, v18)).bind fun y4 =>
        bif !y4 then
          some false
        else
          bif !(v2 == v1) then
            some false
          else
            laws_FnExactFmRead_l1 v0 v1 v3 v4 v5 v6 v7 v8 v9 v10 v11 v12 v13 v14 v15 v16 v17 v18 v20 v21 v22 v23 v24 v25 v26 v27 v28 v29 v30 v31 v32 v33 v34 v35 := (Lw_eq tysOk (getG_con (laws_FnExactFmRead.gok _)) _ _).trans (by kernel_rfl)
theorem laws_FnExactFmRead_l1.eq (v0 : List Int) (v1 : Bool) (v2 v3 v4 v5 v6 v7 v8 v9 v10 v11 : Int) (v12 : List Int) (v13 : List (Int × (List Int))) (v14 v15 v16 v17 : List Int) (v18 v19 v20 v21 v22 v23 v24 v25 v26 v27 : Int) (v28 : List Int) (v29 : List (Int × (List Int))) (v30 v31 v32 v33 : List Int) : laws_FnExactFmRead_l1 v0 v1 v2 v3 v4 v5 v6 v7 v8 v9 v10 v11 v12 v13 v14 v15 v16 v17 v18 v19 v20 v21 v22 v23 v24 v25 v26 v27 v28 v29 v30 v31 v32 v33 =
    (laws_markFm (v18, v19, v20, v28, v29, v30, v21, v31, v22, v23, v24, v32, v25, v26, v27, v33) (1 : Int)).bind fun y1 =>
    (laws_heldFm (v18, v19, v20, y1.2.2.2.2.1, y1.2.2.2.2.2.1, y1.2.2.2.2.2.2.1, v21, y1.2.2.2.2.2.2.2.2.1, v22, v23, v24, y1.2.2.2.2.2.2.2.2.2.2.2.2.1, v25, v26, v27, y1.2.2.2.2.2.2.2.2.2.2.2.2.2.2.2.2) (1 : Int)).bind fun y2 =>
    bif decide (y2 < (0 : Int)) then
      some false
    else
      bif y2 != y1.1 then
        some false
      else
        (laws_toByteS v0).bind fun y3 =>
        (impl_FmRead y3).bind fun y4 =>
        (laws_eqFm y4.1 (v2, v3, v4, v12, v13, v14, v5, v15, v6, v7, v8, v16, v9, v10, v11, v17)).bind fun y5 =>
        bif !y5 then
          some false
        else
          bif !(y4.2 == v1) then
            some false
          else
            laws_FnExactFmRead_l2 y1.1 v18 v19 v20 v21 v22 v23 v24 v25 v26 v27 y1.2.2.2.2.1 y1.2.2.2.2.2.1 y1.2.2.2.2.2.2.1 y1.2.2.2.2.2.2.2.2.1 y1.2.2.2.2.2.2.2.2.2.2.2.2.1 y1.2.2.2.2.2.2.2.2.2.2.2.2.2.2.2.2 := (Lw_eq tysOk (getG_con (laws_FnExactFmRead.gok _)) _ _).trans (by kernel_rfl)
theorem laws_FnExactFmRead_l2.eq (v0 v1 v2 v3 v4 v5 v6 v7 v8 v9 v10 : Int) (v11 : List Int) (v12 : List (Int × (List Int))) (v13 v14 v15 v16 : List Int) : laws_FnExactFmRead_l2 v0 v1 v2 v3 v4 v5 v6 v7 v8 v9 v10 v11 v12 v13 v14 v15 v16 =
    (laws_heldFm (v1, v2, v3, v11, v12, v13, v4, v14, v5, v6, v7, v15, v8, v9, v10, v16) (1 : Int)).bind fun y1 =>
    bif decide (y1 < (0 : Int)) then
      some false
    else
      bif y1 != v0 then
        some false
      else
        some true := (Lw_eq tysOk (getG_con (laws_FnExactFmRead.gok _)) _ _).trans (by kernel_rfl)

end Go.Ev.W
