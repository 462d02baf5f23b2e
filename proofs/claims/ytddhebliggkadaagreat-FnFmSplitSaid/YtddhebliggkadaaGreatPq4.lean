/- What functions of the program come to. -/
import Derived.Test.YtddhebliggkadaaGreatPqT
import Derived.Test.YtddhebliggkadaaGreatPq1
import Derived.Test.YtddhebliggkadaaGreatPq2
import Derived.Test.YtddhebliggkadaaGreatPq3
namespace Go.Ev.W
open Go.Ev Go.Proofs
set_option maxRecDepth 100000
set_option linter.unusedVariables false

noncomputable abbrev laws_FnFmSplit.s : Sg := ⟨[.lend], [vl 5], ⟨[vb], [none]⟩, Tryz.f3⟩
noncomputable def laws_FnFmSplit.gs (δ : Type) : List (Nat × Callee (GT tab) δ) := [(15, laws_big.k), (16, spec_DrawFmRows.k), (17, impl_FmRows.k), (18, spec_FmRows.k), (19, spec_FmText.k)]
theorem laws_FnFmSplit.gok (δ : Type) : AllCon Tryz.prog tab (laws_FnFmSplit.gs δ) := .cons laws_big.con (.cons spec_DrawFmRows.con (.cons impl_FmRows.con (.cons spec_FmRows.con (.cons spec_FmText.con .nil))))
noncomputable def laws_FnFmSplit.c := cx laws_FnFmSplit.s [8, 12] [(8, [3, 4, 5, 6]), (12, [3, 4, 5, 6, 9, 10]), (13, [3, 4, 5, 6, 9, 10, 11]), (17, [3, 4, 5, 6, 9, 10, 11, 12, 13])] false (laws_FnFmSplit.gs _)
noncomputable def laws_FnFmSplit (x0 : List Int) : Option (Bool) := fnW laws_FnFmSplit.s laws_FnFmSplit.c x0
theorem laws_FnFmSplit.fok : FkS laws_FnFmSplit.s 3 := ⟨Tryz.func3, by kernel_rfl, by kernel_rfl⟩
noncomputable def laws_FnFmSplit.fn (x : Args tab laws_FnFmSplit.s.ar) : Option (ResT tab laws_FnFmSplit.s.rs) := laws_FnFmSplit x
noncomputable abbrev laws_FnFmSplit.as := laws_FnFmSplit.s.ar
noncomputable abbrev laws_FnFmSplit.k {δ : Type} : Callee (GT tab) δ := kS laws_FnFmSplit.s laws_FnFmSplit.fn
theorem laws_FnFmSplit.con {δ : Type} : Con Tryz.prog (KT tab) 3 (laws_FnFmSplit.k (δ := δ)) := con_shape (c := laws_FnFmSplit.c) mixed tysOk (getG_con (laws_FnFmSplit.gok _)) laws_FnFmSplit.fok rfl rfl fun _ => rfl
noncomputable def laws_FnFmSplit_l0 (v0 v1 v2 v3 v4 : Int) (v5 : List Int) (v6 : List (Int × (List Int))) (v7 : List Int) (v8 : Int) (v9 : List Int) (v10 v11 v12 : Int) (v13 : List Int) (v14 v15 v16 : Int) (v17 v18 : List Int) : Option (Bool) := lpW laws_FnFmSplit.s laws_FnFmSplit.c 0 (ud 106 [.undef, .undef, .undef, .ptr 0 0, .sl 1 0, .int .i64 v0, .int .i64 v1]) [.box 34 [.int .i64 v2, .int .i64 v3, .int .i64 v4, .vs false 3 v5, .vs false 30 v6, .vs false 3 v7, .int .i64 v8, .vs false 126 v9, .int .i64 v10, .int .i64 v11, .int .i64 v12, .vs false 126 v13, .int .i64 v14, .int .i64 v15, .int .i64 v16, .vs false 126 v17], .row 0 true 5 v18] 2
noncomputable def laws_FnFmSplit_l1 (v0 v1 v2 v3 v4 v5 : Int) (v6 : List Int) (v7 : List (Int × (List Int))) (v8 : List Int) (v9 : Int) (v10 : List Int) (v11 v12 v13 : Int) (v14 : List Int) (v15 v16 v17 : Int) (v18 v19 v20 : List Int) : Option (Bool) := lpW laws_FnFmSplit.s laws_FnFmSplit.c 1 (ud 102 [.undef, .undef, .undef, .ptr 0 0, .sl 1 0, .int .i64 v0, .int .i64 v1, .undef, .undef, .sl 2 0, .int .i64 v2]) [.box 34 [.int .i64 v3, .int .i64 v4, .int .i64 v5, .vs false 3 v6, .vs false 30 v7, .vs false 3 v8, .int .i64 v9, .vs false 126 v10, .int .i64 v11, .int .i64 v12, .int .i64 v13, .vs false 126 v14, .int .i64 v15, .int .i64 v16, .int .i64 v17, .vs false 126 v18], .row 0 true 5 v19, .row 0 true 5 v20] 3
noncomputable def laws_FnFmSplit_l2 (v0 v1 v2 v3 v4 v5 v6 : Int) (v7 : List Int) (v8 : List (Int × (List Int))) (v9 : List Int) (v10 : Int) (v11 : List Int) (v12 v13 v14 : Int) (v15 : List Int) (v16 v17 v18 : Int) (v19 v20 v21 : List Int) : Option (Bool) := lpW laws_FnFmSplit.s laws_FnFmSplit.c 2 (ud 101 [.undef, .undef, .undef, .ptr 0 0, .sl 1 0, .int .i64 v0, .int .i64 v1, .undef, .undef, .sl 2 0, .int .i64 v2, .int .i64 v3]) [.box 34 [.int .i64 v4, .int .i64 v5, .int .i64 v6, .vs false 3 v7, .vs false 30 v8, .vs false 3 v9, .int .i64 v10, .vs false 126 v11, .int .i64 v12, .int .i64 v13, .int .i64 v14, .vs false 126 v15, .int .i64 v16, .int .i64 v17, .int .i64 v18, .vs false 126 v19], .row 0 true 5 v20, .row 0 true 5 v21] 3
noncomputable def laws_FnFmSplit_l3 (v0 v1 v2 v3 : Int) (v4 : Bool) (v5 v6 v7 v8 : Int) (v9 : List Int) (v10 : List (Int × (List Int))) (v11 : List Int) (v12 : Int) (v13 : List Int) (v14 v15 v16 : Int) (v17 : List Int) (v18 v19 v20 : Int) (v21 v22 v23 : List Int) : Option (Bool) := lpW laws_FnFmSplit.s laws_FnFmSplit.c 3 (ud 99 [.undef, .undef, .undef, .ptr 0 0, .sl 1 0, .int .i64 v0, .int .i64 v1, .undef, .undef, .sl 2 0, .int .i64 v2, .int .i64 v3, .bool v4, .int .i64 v5]) [.box 34 [.int .i64 v6, .int .i64 v7, .int .i64 v8, .vs false 3 v9, .vs false 30 v10, .vs false 3 v11, .int .i64 v12, .vs false 126 v13, .int .i64 v14, .int .i64 v15, .int .i64 v16, .vs false 126 v17, .int .i64 v18, .int .i64 v19, .int .i64 v20, .vs false 126 v21], .row 0 true 5 v22, .row 0 true 5 v23] 3
theorem laws_FnFmSplit.eq (x0 : List Int) : laws_FnFmSplit x0 =
    (laws_big x0).bind fun y1 =>
    bif y1 then
      some true
    else
      (spec_DrawFmRows x0).bind fun y2 =>
      (impl_FmRows y2.1 y2.2).bind fun y3 =>
      (spec_FmRows y2.1 y2.2).bind fun y4 =>
      bif y3.1 != y4.1 then
        bif y3.1 == y4.1 then
          some (y3.2 == y4.2)
        else
          some false
      else
        bif y3.2 != y4.2 then
          bif y3.1 == y4.1 then
            some (y3.2 == y4.2)
          else
            some false
        else
          bif decide (y3.1 < (0 : Int)) then
            bif y3.1 == y4.1 then
              some (y3.2 == y4.2)
            else
              some false
          else
            laws_FnFmSplit_l0 y3.1 y3.2 y2.1.1 y2.1.2.1 y2.1.2.2.1 y2.1.2.2.2.1 y2.1.2.2.2.2.1 y2.1.2.2.2.2.2.1 y2.1.2.2.2.2.2.2.1 y2.1.2.2.2.2.2.2.2.1 y2.1.2.2.2.2.2.2.2.2.1 y2.1.2.2.2.2.2.2.2.2.2.1 y2.1.2.2.2.2.2.2.2.2.2.2.1 y2.1.2.2.2.2.2.2.2.2.2.2.2.1 y2.1.2.2.2.2.2.2.2.2.2.2.2.2.1 y2.1.2.2.2.2.2.2.2.2.2.2.2.2.2.1 y2.1.2.2.2.2.2.2.2.2.2.2.2.2.2.2.1 y2.1.2.2.2.2.2.2.2.2.2.2.2.2.2.2.2 y2.2 := by kernel_rfl
theorem laws_FnFmSplit_l0.eq (v0 v1 v2 v3 v4 : Int) (v5 : List Int) (v6 : List (Int × (List Int))) (v7 : List Int) (v8 : Int) (v9 : List Int) (v10 v11 v12 : Int) (v13 : List Int) (v14 v15 v16 : Int) (v17 v18 : List Int) : laws_FnFmSplit_l0 v0 v1 v2 v3 v4 v5 v6 v7 v8 v9 v10 v11 v12 v13 v14 v15 v16 v17 v18 =
    (spec_FmText (v2, v3, v4, v5, v6, v7, v8, v9, v10, v11, v12, v13, v14, v15, v16, v17)).bind fun y1 =>
    bif decide ((v18.length : Int) ≤ (y1.length : Int)) then
      bif decide (0 ≤ (v18.length : Int) ∧ (v18.length : Int) ≤ ((y1.length : Nat) : Int)) then
        bif (strOf (((y1.drop 0).take (((v18.length : Int).toNat) - 0)).map fun x => x)).toList == (strOf (v18.map fun x => x)).toList then
          laws_FnFmSplit_l1 v0 v1 (1 : Int) v2 v3 v4 v5 v6 v7 v8 v9 v10 v11 v12 v13 v14 v15 v16 v17 v18 y1
        else
          laws_FnFmSplit_l1 v0 v1 (0 : Int) v2 v3 v4 v5 v6 v7 v8 v9 v10 v11 v12 v13 v14 v15 v16 v17 v18 y1
      else
        none
    else
      laws_FnFmSplit_l1 v0 v1 (0 : Int) v2 v3 v4 v5 v6 v7 v8 v9 v10 v11 v12 v13 v14 v15 v16 v17 v18 y1 := (Lw_eq tysOk (getG_con (laws_FnFmSplit.gok _)) _ _).trans (by kernel_rfl)
theorem laws_FnFmSplit_l1.eq (v0 v1 v2 v3 v4 v5 : Int) (v6 : List Int) (v7 : List (Int × (List Int))) (v8 : List Int) (v9 : Int) (v10 : List Int) (v11 v12 v13 : Int) (v14 : List Int) (v15 v16 v17 : Int) (v18 v19 v20 : List Int) : laws_FnFmSplit_l1 v0 v1 v2 v3 v4 v5 v6 v7 v8 v9 v10 v11 v12 v13 v14 v15 v16 v17 v18 v19 v20 =
    laws_FnFmSplit_l2 v0 v1 v2 (0 : Int) v3 v4 v5 v6 v7 v8 v9 v10 v11 v12 v13 v14 v15 v16 v17 v18 v19 v20 := (Lw_eq tysOk (getG_con (laws_FnFmSplit.gok _)) _ _).trans (by kernel_rfl)
theorem laws_FnFmSplit_l2.eq (v0 v1 v2 v3 v4 v5 v6 : Int) (v7 : List Int) (v8 : List (Int × (List Int))) (v9 : List Int) (v10 : Int) (v11 : List Int) (v12 v13 v14 : Int) (v15 : List Int) (v16 v17 v18 : Int) (v19 v20 v21 : List Int) : laws_FnFmSplit_l2 v0 v1 v2 v3 v4 v5 v6 v7 v8 v9 v10 v11 v12 v13 v14 v15 v16 v17 v18 v19 v20 v21 =
    bif decide (v3 < (256 : Int)) then
      laws_FnFmSplit_l3 v0 v1 v2 v3 false (0 : Int) v4 v5 v6 v7 v8 v9 v10 v11 v12 v13 v14 v15 v16 v17 v18 v19 v20 v21
    else
      some (v2 == IntKind.i64.wrap (v1 - v0)) := (Lw_eq tysOk (getG_con (laws_FnFmSplit.gok _)) _ _).trans (by kernel_rfl)
theorem laws_FnFmSplit_l3.eq (v0 v1 v2 v3 : Int) (v4 : Bool) (v5 v6 v7 v8 : Int) (v9 : List Int) (v10 : List (Int × (List Int))) (v11 : List Int) (v12 : Int) (v13 : List Int) (v14 v15 v16 : Int) (v17 : List Int) (v18 v19 v20 : Int) (v21 v22 v23 : List Int) : laws_FnFmSplit_l3 v0 v1 v2 v3 v4 v5 v6 v7 v8 v9 v10 v11 v12 v13 v14 v15 v16 v17 v18 v19 v20 v21 v22 v23 =
    bif decide (v5 < (v23.length : Int)) then
      bif v4 then
        laws_FnFmSplit_l3 v0 v1 v2 v3 true (IntKind.i64.wrap (v5 + (1 : Int))) v6 v7 v8 v9 v10 v11 v12 v13 v14 v15 v16 v17 v18 v19 v20 v21 v22 v23
      else
        (at? v23 v5).bind fun y1 =>
        v23[v5.toNat]?.bind fun y2 =>
        laws_FnFmSplit_l3 v0 v1 v2 v3 (IntKind.i64.wrap y2 == v3) (IntKind.i64.wrap (v5 + (1 : Int))) v6 v7 v8 v9 v10 v11 v12 v13 v14 v15 v16 v17 v18 v19 v20 v21 v22 v23
    else
      bif v4 then
        bif decide ((([IntKind.u8.wrap v3] : List Int).length + v22.length) * 1 ≤ 140737488355328) then
          (impl_FmRows (v6, v7, v8, v9, v10, v11, v12, v13, v14, v15, v16, v17, v18, v19, v20, v21) (([IntKind.u8.wrap v3] : List Int) ++ v22)).bind fun y3 =>
          laws_FnFmSplit_l2 v0 v1 (IntKind.i64.wrap ((IntKind.i64.wrap (v2 + y3.2)) - y3.1)) (IntKind.i64.wrap (v3 + (1 : Int))) v6 v7 v8 v9 v10 v11 v12 v13 v14 v15 v16 v17 v18 v19 v20 v21 v22 v23
        else
          none
      else
        laws_FnFmSplit_l2 v0 v1 v2 (IntKind.i64.wrap (v3 + (1 : Int))) v6 v7 v8 v9 v10 v11 v12 v13 v14 v15 v16 v17 v18 v19 v20 v21 v22 v23 := (Lw_eq tysOk (getG_con (laws_FnFmSplit.gok _)) _ _).trans (by kernel_rfl)

end Go.Ev.W
