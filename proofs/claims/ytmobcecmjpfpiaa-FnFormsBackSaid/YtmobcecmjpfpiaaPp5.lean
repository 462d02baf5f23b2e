/- What functions of the program come to. -/
import Derived.Test.YtmobcecmjpfpiaaPpT
import Derived.Test.YtmobcecmjpfpiaaPp2
import Derived.Test.YtmobcecmjpfpiaaPp4
namespace Go.Ev.W
open Go.Ev Go.Proofs
set_option maxRecDepth 100000
set_option linter.unusedVariables false

noncomputable abbrev laws_FnFormsBack.s : Sg := ⟨[.lend], [vl 5], ⟨[vb], [none]⟩, Try.f4⟩
noncomputable def laws_FnFormsBack.gs (δ : Type) : List (Nat × Callee (GT tab) δ) := [(16, laws_big.k), (17, spec_DrawBitsBytes.k), (18, spec_DrawPackBytes.k), (19, spec_DrawWaveBytes.k), (20, spec_BitsOk.k), (21, spec_PackOk.k), (22, spec_WaveOk.k), (23, impl_BitsBytes.k), (24, impl_PackBytes.k), (25, impl_WaveBytes.k), (26, impl_BitsRead.k), (27, impl_PackRead.k), (28, impl_WaveRead.k), (29, laws_sameBits.k), (30, laws_samePack.k), (31, laws_same.k), (32, spec_WaveList.k)]
theorem laws_FnFormsBack.gok (δ : Type) : AllCon Try.prog tab (laws_FnFormsBack.gs δ) := .cons laws_big.con (.cons spec_DrawBitsBytes.con (.cons spec_DrawPackBytes.con (.cons spec_DrawWaveBytes.con (.cons spec_BitsOk.con (.cons spec_PackOk.con (.cons spec_WaveOk.con (.cons impl_BitsBytes.con (.cons impl_PackBytes.con (.cons impl_WaveBytes.con (.cons impl_BitsRead.con (.cons impl_PackRead.con (.cons impl_WaveRead.con (.cons laws_sameBits.con (.cons laws_samePack.con (.cons laws_same.con (.cons spec_WaveList.con .nil))))))))))))))))
noncomputable def laws_FnFormsBack.c := cx laws_FnFormsBack.s [1, 3, 4, 5, 6, 8, 9, 10, 11, 12, 13] [(1, [0]), (3, [0]), (4, [0, 3]), (5, [0, 3, 4]), (6, [3, 4, 5]), (8, [3, 4, 5]), (9, [3, 4, 5, 6]), (10, [3, 4, 5, 6]), (11, [3, 4, 5, 6, 7, 8, 9]), (12, [3, 4, 5, 6, 7, 9, 10, 11, 12]), (13, [3, 4, 5, 6, 7, 9, 10, 12, 13, 14, 15])] false (laws_FnFormsBack.gs _)
noncomputable def laws_FnFormsBack (x0 : List Int) : Option (Bool) := fnW laws_FnFormsBack.s laws_FnFormsBack.c x0
theorem laws_FnFormsBack.fok : FkS laws_FnFormsBack.s 4 := ⟨Try.func4, by kernel_rfl, by kernel_rfl⟩
noncomputable def laws_FnFormsBack.fn (x : Args tab laws_FnFormsBack.s.ar) : Option (ResT tab laws_FnFormsBack.s.rs) := laws_FnFormsBack x
noncomputable abbrev laws_FnFormsBack.as := laws_FnFormsBack.s.ar
noncomputable abbrev laws_FnFormsBack.k {δ : Type} : Callee (GT tab) δ := kS laws_FnFormsBack.s laws_FnFormsBack.fn
theorem laws_FnFormsBack.con {δ : Type} : Con Try.prog (KT tab) 4 (laws_FnFormsBack.k (δ := δ)) := con_shape (c := laws_FnFormsBack.c) mixed tysOk (getG_con (laws_FnFormsBack.gok _)) laws_FnFormsBack.fok rfl rfl fun _ => rfl
noncomputable def laws_FnFormsBack_l0 (v0 : List Int) : Option (Bool) := lpW laws_FnFormsBack.s laws_FnFormsBack.c 0 (ud 125 [.vs false 5 v0]) [] 0
noncomputable def laws_FnFormsBack_l1 (v0 : List Int) : Option (Bool) := lpW laws_FnFormsBack.s laws_FnFormsBack.c 1 (ud 125 [.vs false 5 v0]) [] 0
noncomputable def laws_FnFormsBack_l2 (v0 : List Int) (v1 : Int) (v2 : List Int) : Option (Bool) := lpW laws_FnFormsBack.s laws_FnFormsBack.c 2 (ud 122 [.vs false 5 v0, .undef, .undef, .ptr 0 0]) [.box 32 [.int .i64 v1, .sl 1 0], .row 0 true 94 v2] 2
noncomputable def laws_FnFormsBack_l3 (v0 : List Int) (v1 : Int) (v2 : List Int) (v3 v4 v5 : Int) (v6 : List Int) : Option (Bool) := lpW laws_FnFormsBack.s laws_FnFormsBack.c 3 (ud 121 [.vs false 5 v0, .undef, .undef, .ptr 0 0, .ptr 2 0]) [.box 32 [.int .i64 v1, .sl 1 0], .row 0 true 94 v2, .box 34 [.int .i64 v3, .int .i64 v4, .int .i64 v5, .sl 3 0], .row 0 true 94 v6] 4
noncomputable def laws_FnFormsBack_l4 (v0 : Int) (v1 : List Int) (v2 v3 v4 : Int) (v5 : List Int) (v6 : Int) (v7 : List Int) (v8 : List (Int × (List Int))) : Option (Bool) := lpW laws_FnFormsBack.s laws_FnFormsBack.c 4 (ud 120 [.undef, .undef, .undef, .ptr 0 0, .ptr 2 0, .ptr 4 0]) [.box 32 [.int .i64 v0, .sl 1 0], .row 0 true 94 v1, .box 34 [.int .i64 v2, .int .i64 v3, .int .i64 v4, .sl 3 0], .row 0 true 94 v5, .box 49 [.int .i64 v6, .sl 5 0, .sl 6 0], .row 0 true 3 v7, .row 0 true 32 v8] 7
noncomputable def laws_FnFormsBack_l5 (v0 : Int) (v1 : List Int) (v2 v3 v4 : Int) (v5 : List Int) (v6 : Int) (v7 : List Int) (v8 : List (Int × (List Int))) : Option (Bool) := lpW laws_FnFormsBack.s laws_FnFormsBack.c 5 (ud 120 [.undef, .undef, .undef, .ptr 0 0, .ptr 2 0, .ptr 4 0]) [.box 32 [.int .i64 v0, .sl 1 0], .row 0 true 94 v1, .box 34 [.int .i64 v2, .int .i64 v3, .int .i64 v4, .sl 3 0], .row 0 true 94 v5, .box 49 [.int .i64 v6, .sl 5 0, .sl 6 0], .row 0 true 3 v7, .row 0 true 32 v8] 7
noncomputable def laws_FnFormsBack_l6 (v0 : Int) (v1 : List Int) (v2 v3 v4 : Int) (v5 : List Int) (v6 : Int) (v7 : List Int) (v8 : List (Int × (List Int))) (v9 : List Int) : Option (Bool) := lpW laws_FnFormsBack.s laws_FnFormsBack.c 6 (ud 119 [.undef, .undef, .undef, .ptr 0 0, .ptr 2 0, .ptr 4 0, .sl 7 0]) [.box 32 [.int .i64 v0, .sl 1 0], .row 0 true 94 v1, .box 34 [.int .i64 v2, .int .i64 v3, .int .i64 v4, .sl 3 0], .row 0 true 94 v5, .box 49 [.int .i64 v6, .sl 5 0, .sl 6 0], .row 0 true 3 v7, .row 0 true 32 v8, .row 0 true 5 v9] 8
noncomputable def laws_FnFormsBack_l7 (v0 : Int) (v1 : List Int) (v2 v3 v4 : Int) (v5 : List Int) (v6 : Int) (v7 : List Int) (v8 : List (Int × (List Int))) (v9 : List Int) : Option (Bool) := lpW laws_FnFormsBack.s laws_FnFormsBack.c 7 (ud 119 [.undef, .undef, .undef, .ptr 0 0, .ptr 2 0, .ptr 4 0, .sl 7 0]) [.box 32 [.int .i64 v0, .sl 1 0], .row 0 true 94 v1, .box 34 [.int .i64 v2, .int .i64 v3, .int .i64 v4, .sl 3 0], .row 0 true 94 v5, .box 49 [.int .i64 v6, .sl 5 0, .sl 6 0], .row 0 true 3 v7, .row 0 true 32 v8, .row 0 true 5 v9] 8
noncomputable def laws_FnFormsBack_l8 (v0 : Int) (v1 : Bool) (v2 : Int) (v3 : List Int) (v4 v5 v6 : Int) (v7 : List Int) (v8 : Int) (v9 : List Int) (v10 : List (Int × (List Int))) (v11 : List Int) (v12 : Int) (v13 : List Int) : Option (Bool) := lpW laws_FnFormsBack.s laws_FnFormsBack.c 8 (ud 116 [.undef, .undef, .undef, .ptr 0 0, .ptr 2 0, .ptr 4 0, .sl 7 0, .ptr 8 0, .int .i64 v0, .bool v1]) [.box 32 [.int .i64 v2, .sl 1 0], .row 0 true 94 v3, .box 34 [.int .i64 v4, .int .i64 v5, .int .i64 v6, .sl 3 0], .row 0 true 94 v7, .box 49 [.int .i64 v8, .sl 5 0, .sl 6 0], .row 0 true 3 v9, .row 0 true 32 v10, .row 0 true 5 v11, .box 32 [.int .i64 v12, .sl 9 0], .row 0 true 94 v13] 10
noncomputable def laws_FnFormsBack_l9 (v0 : Bool) (v1 : Int) (v2 : Bool) (v3 : Int) (v4 : List Int) (v5 v6 v7 : Int) (v8 : List Int) (v9 : Int) (v10 : List Int) (v11 : List (Int × (List Int))) (v12 : List Int) (v13 : Int) (v14 : List Int) (v15 v16 v17 : Int) (v18 : List Int) : Option (Bool) := lpW laws_FnFormsBack.s laws_FnFormsBack.c 9 (ud 113 [.undef, .undef, .undef, .ptr 0 0, .ptr 2 0, .ptr 4 0, .sl 7 0, .ptr 8 0, .undef, .bool v0, .ptr 10 0, .int .i64 v1, .bool v2]) [.box 32 [.int .i64 v3, .sl 1 0], .row 0 true 94 v4, .box 34 [.int .i64 v5, .int .i64 v6, .int .i64 v7, .sl 3 0], .row 0 true 94 v8, .box 49 [.int .i64 v9, .sl 5 0, .sl 6 0], .row 0 true 3 v10, .row 0 true 32 v11, .row 0 true 5 v12, .box 32 [.int .i64 v13, .sl 9 0], .row 0 true 94 v14, .box 34 [.int .i64 v15, .int .i64 v16, .int .i64 v17, .sl 11 0], .row 0 true 94 v18] 12
noncomputable def laws_FnFormsBack_l10 (v0 v1 : Bool) (v2 : Int) (v3 : Bool) (v4 : Int) (v5 : List Int) (v6 v7 v8 : Int) (v9 : List Int) (v10 : Int) (v11 : List Int) (v12 : List (Int × (List Int))) (v13 : List Int) (v14 : Int) (v15 : List Int) (v16 v17 v18 : Int) (v19 : List Int) (v20 : Int) (v21 : List Int) (v22 : List (Int × (List Int))) : Option (Bool) := lpW laws_FnFormsBack.s laws_FnFormsBack.c 10 (ud 110 [.undef, .undef, .undef, .ptr 0 0, .ptr 2 0, .ptr 4 0, .sl 7 0, .ptr 8 0, .undef, .bool v0, .ptr 10 0, .undef, .bool v1, .ptr 12 0, .int .i64 v2, .bool v3]) [.box 32 [.int .i64 v4, .sl 1 0], .row 0 true 94 v5, .box 34 [.int .i64 v6, .int .i64 v7, .int .i64 v8, .sl 3 0], .row 0 true 94 v9, .box 49 [.int .i64 v10, .sl 5 0, .sl 6 0], .row 0 true 3 v11, .row 0 true 32 v12, .row 0 true 5 v13, .box 32 [.int .i64 v14, .sl 9 0], .row 0 true 94 v15, .box 34 [.int .i64 v16, .int .i64 v17, .int .i64 v18, .sl 11 0], .row 0 true 94 v19, .box 49 [.int .i64 v20, .sl 13 0, .sl 14 0], .row 0 true 3 v21, .row 0 true 32 v22] 15
theorem laws_FnFormsBack.eq (x0 : List Int) : laws_FnFormsBack x0 =
    laws_FnFormsBack_l0 x0 := by kernel_rfl
theorem laws_FnFormsBack_l0.eq (v0 : List Int) : laws_FnFormsBack_l0 v0 =
    (laws_big v0).bind fun y1 =>
    bif y1 then
      some true
    else
      laws_FnFormsBack_l1 v0 := (Lw_eq tysOk (getG_con (laws_FnFormsBack.gok _)) _ _).trans (by kernel_rfl)
theorem laws_FnFormsBack_l1.eq (v0 : List Int) : laws_FnFormsBack_l1 v0 =
    (spec_DrawBitsBytes v0).bind fun y1 =>
    laws_FnFormsBack_l2 v0 y1.1 y1.2 := (Lw_eq tysOk (getG_con (laws_FnFormsBack.gok _)) _ _).trans (by kernel_rfl)
theorem laws_FnFormsBack_l2.eq (v0 : List Int) (v1 : Int) (v2 : List Int) : laws_FnFormsBack_l2 v0 v1 v2 =
    (spec_DrawPackBytes v0).bind fun y1 =>
    laws_FnFormsBack_l3 v0 v1 v2 y1.1 y1.2.1 y1.2.2.1 y1.2.2.2 := (Lw_eq tysOk (getG_con (laws_FnFormsBack.gok _)) _ _).trans (by kernel_rfl)
theorem laws_FnFormsBack_l3.eq (v0 : List Int) (v1 : Int) (v2 : List Int) (v3 v4 v5 : Int) (v6 : List Int) : laws_FnFormsBack_l3 v0 v1 v2 v3 v4 v5 v6 =
    (spec_DrawWaveBytes v0).bind fun y1 =>
    laws_FnFormsBack_l4 v1 v2 v3 v4 v5 v6 y1.1 y1.2.1 y1.2.2 := (Lw_eq tysOk (getG_con (laws_FnFormsBack.gok _)) _ _).trans (by kernel_rfl)
theorem laws_FnFormsBack_l4.eq (v0 : Int) (v1 : List Int) (v2 v3 v4 : Int) (v5 : List Int) (v6 : Int) (v7 : List Int) (v8 : List (Int × (List Int))) : laws_FnFormsBack_l4 v0 v1 v2 v3 v4 v5 v6 v7 v8 =
    (spec_BitsOk (v0, v1)).bind fun y1 =>
    bif !y1 then
      (impl_BitsBytes (v0, v1)).bind fun y2 =>
      (spec_BitsOk (v0, v1)).bind fun y3 =>
      bif (decide ((y2.length : Int) > (0 : Int))) == y3 then
        (impl_PackBytes (v2, v3, v4, v5)).bind fun y4 =>
        (spec_PackOk (v2, v3, v4, v5)).bind fun y5 =>
        bif (decide ((y4.length : Int) > (0 : Int))) == y5 then
          (impl_WaveBytes (v6, v7, v8)).bind fun y6 =>
          (spec_WaveOk (v6, v7, v8)).bind fun y7 =>
          some ((decide ((y6.length : Int) > (0 : Int))) == y7)
        else
          some false
      else
        some false
    else
      (spec_PackOk (v2, v3, v4, v5)).bind fun y8 =>
      bif !y8 then
        (impl_BitsBytes (v0, v1)).bind fun y9 =>
        (spec_BitsOk (v0, v1)).bind fun y10 =>
        bif (decide ((y9.length : Int) > (0 : Int))) == y10 then
          (impl_PackBytes (v2, v3, v4, v5)).bind fun y11 =>
          (spec_PackOk (v2, v3, v4, v5)).bind fun y12 =>
          bif (decide ((y11.length : Int) > (0 : Int))) == y12 then
            (impl_WaveBytes (v6, v7, v8)).bind fun y13 =>
            (spec_WaveOk (v6, v7, v8)).bind fun y14 =>
            some ((decide ((y13.length : Int) > (0 : Int))) == y14)
          else
            some false
        else
          some false
      else
        (spec_WaveOk (v6, v7, v8)).bind fun y15 =>
        bif !y15 then
          (impl_BitsBytes (v0, v1)).bind fun y16 =>
          (spec_BitsOk (v0, v1)).bind fun y17 =>
          bif (decide ((y16.length : Int) > (0 : Int))) == y17 then
            (impl_PackBytes (v2, v3, v4, v5)).bind fun y18 =>
            (spec_PackOk (v2, v3, v4, v5)).bind fun y19 =>
            bif (decide ((y18.length : Int) > (0 : Int))) == y19 then
              (impl_WaveBytes (v6, v7, v8)).bind fun y20 =>
              (spec_WaveOk (v6, v7, v8)).bind fun y21 =>
              some ((decide ((y20.length : Int) > (0 : Int))) == y21)
            else
              some false
          else
            some false
        else
          laws_FnFormsBack_l5 v0 v1 v2 v3 v4 v5 v6 v7 v8 := (Lw_eq tysOk (getG_con (laws_FnFormsBack.gok _)) _ _).trans (by kernel_rfl)
theorem laws_FnFormsBack_l5.eq (v0 : Int) (v1 : List Int) (v2 v3 v4 : Int) (v5 : List Int) (v6 : Int) (v7 : List Int) (v8 : List (Int × (List Int))) : laws_FnFormsBack_l5 v0 v1 v2 v3 v4 v5 v6 v7 v8 =
    (impl_BitsBytes (v0, v1)).bind fun y1 =>
    bif decide ((([(9 : Int)] : List Int).length + y1.length) * 1 ≤ 140737488355328) then
      laws_FnFormsBack_l6 v0 v1 v2 v3 v4 v5 v6 v7 v8 (([(9 : Int)] : List Int) ++ y1)
    else
      none := (Lw_eq tysOk (getG_con (laws_FnFormsBack.gok _)) _ _).trans (by kernel_rfl)
theorem laws_FnFormsBack_l6.eq (v0 : Int) (v1 : List Int) (v2 v3 v4 : Int) (v5 : List Int) (v6 : Int) (v7 : List Int) (v8 : List (Int × (List Int))) (v9 : List Int) : laws_FnFormsBack_l6 v0 v1 v2 v3 v4 v5 v6 v7 v8 v9 =
    (impl_PackBytes (v2, v3, v4, v5)).bind fun y1 =>
    bif decide ((v9.length + y1.length) * 1 ≤ 140737488355328) then
      (impl_WaveBytes (v6, v7, v8)).bind fun y2 =>
      bif decide (((v9 ++ y1).length + y2.length) * 1 ≤ 140737488355328) then
        bif decide ((((v9 ++ y1) ++ y2).length + ([(3 : Int), (4 : Int)] : List Int).length) * 1 ≤ 140737488355328) then
          laws_FnFormsBack_l7 v0 v1 v2 v3 v4 v5 v6 v7 v8 (((v9 ++ y1) ++ y2) ++ ([(3 : Int), (4 : Int)] : List Int))
        else
          none
      else
        none
    else
      none := (Lw_eq tysOk (getG_con (laws_FnFormsBack.gok _)) _ _).trans (by kernel_rfl)
theorem laws_FnFormsBack_l7.eq (v0 : Int) (v1 : List Int) (v2 v3 v4 : Int) (v5 : List Int) (v6 : Int) (v7 : List Int) (v8 : List (Int × (List Int))) (v9 : List Int) : laws_FnFormsBack_l7 v0 v1 v2 v3 v4 v5 v6 v7 v8 v9 =
    (impl_BitsRead v9 (1 : Int)).bind fun y1 =>
    laws_FnFormsBack_l8 y1.2.1 y1.2.2 v0 v1 v2 v3 v4 v5 v6 v7 v8 v9 y1.1.1 y1.1.2 := (Lw_eq tysOk (getG_con (laws_FnFormsBack.gok _)) _ _).trans (by kernel_rfl)
theorem laws_FnFormsBack_l8.eq (v0 : Int) (v1 : Bool) (v2 : Int) (v3 : List Int) (v4 v5 v6 : Int) (v7 : List Int) (v8 : Int) (v9 : List Int) (v10 : List (Int × (List Int))) (v11 : List Int) (v12 : Int) (v13 : List Int) : laws_FnFormsBack_l8 v0 v1 v2 v3 v4 v5 v6 v7 v8 v9 v10 v11 v12 v13 =
    (impl_PackRead v11 v0).bind fun y1 =>
    laws_FnFormsBack_l9 v1 y1.2.1 y1.2.2 v2 v3 v4 v5 v6 v7 v8 v9 v10 v11 v12 v13 y1.1.1 y1.1.2.1 y1.1.2.2.1 y1.1.2.2.2 := (Lw_eq tysOk (getG_con (laws_FnFormsBack.gok _)) _ _).trans (by kernel_rfl)
theorem laws_FnFormsBack_l9.eq (v0 : Bool) (v1 : Int) (v2 : Bool) (v3 : Int) (v4 : List Int) (v5 v6 v7 : Int) (v8 : List Int) (v9 : Int) (v10 : List Int) (v11 : List (Int × (List Int))) (v12 : List Int) (v13 : Int) (v14 : List Int) (v15 v16 v17 : Int) (v18 : List Int) : laws_FnFormsBack_l9 v0 v1 v2 v3 v4 v5 v6 v7 v8 v9 v10 v11 v12 v13 v14 v15 v16 v17 v18 =
    (impl_WaveRead v12 v1).bind fun y1 =>
    laws_FnFormsBack_l10 v0 v2 y1.2.1 y1.2.2 v3 v4 v5 v6 v7 v8 v9 v10 v11 v12 v13 v14 v15 v16 v17 v18 y1.1.1 y1.1.2.1 y1.1.2.2 := (Lw_eq tysOk (getG_con (laws_FnFormsBack.gok _)) _ _).trans (by kernel_rfl)
theorem laws_FnFormsBack_l10.eq (v2 v4 : Int) (v5 : List Int) (v6 v7 v8 : Int) (v9 : List Int) (v10 : Int) (v11 : List Int) (v12 : List (Int × (List Int))) (v13 : List Int) (v14 : Int) (v15 : List Int) (v16 v17 v18 : Int) (v19 : List Int) (v20 : Int) (v21 : List Int) (v22 : List (Int × (List Int))) : laws_FnFormsBack_l10 true true v2 true v4 v5 v6 v7 v8 v9 v10 v11 v12 v13 v14 v15 v16 v17 v18 v19 v20 v21 v22 =
    bif true then
      bif true then
        bif true then
          bif v2 == IntKind.i64.wrap ((v13.length : Int) - (2 : Int)) then
            (laws_sameBits (v14, v15) (v4, v5)).bind fun y1 =>
            bif y1 then
              (laws_samePack (v16, v17, v18, v19) (v6, v7, v8, v9)).bind fun y2 =>
              bif y2 then
                (spec_WaveList (v20, v21, v22)).bind fun y3 =>
                (spec_WaveList (v10, v11, v12)).bind fun y4 =>
                (laws_same y3 y4).bind fun y5 =>
                some y5
              else
                some false
            else
              some false
          else
            some false
        else
          some false
      else
        some false
    else
      some false := (Lw_eq tysOk (getG_con (laws_FnFormsBack.gok _)) _ _).trans (by kernel_rfl)

end Go.Ev.W
