/- What functions of the program come to. -/
import Derived.Test.YtddhebliggkadaaGreatPqT
import Derived.Test.YtddhebliggkadaaGreatPq1
import Derived.Test.YtddhebliggkadaaGreatPq2
namespace Go.Ev.W
open Go.Ev Go.Proofs
set_option maxRecDepth 100000
set_option linter.unusedVariables false

noncomputable abbrev spec_l01Cur_pattern.s : Sg := ⟨[.keep, .give], [.one (.ptr true 116 [.b (.b (.b (.sl false false 5))), .b (.b (.b (.int .i64))), .b (.b (.b (.int .i64)))]), vo 5], ⟨[vo 5], [some (.one (.ptr true 116 [.b (.b (.b (.sl false false 5))), .b (.b (.b (.int .i64))), .b (.b (.b (.int .i64)))])), none]⟩, Tryz.f57⟩
noncomputable def spec_l01Cur_pattern.gs (δ : Type) : List (Nat × Callee (GT tab) δ) := [(112, spec_l01Cur_textOf.k), (114, spec_l01Cur_pick.k), (119, spec_l01Cur_once.k)]
theorem spec_l01Cur_pattern.gok (δ : Type) : AllCon Tryz.prog tab (spec_l01Cur_pattern.gs δ) := .cons spec_l01Cur_textOf.con (.cons spec_l01Cur_pick.con (.cons spec_l01Cur_once.con .nil))
noncomputable def spec_l01Cur_pattern.c := cx spec_l01Cur_pattern.s [] [] false (spec_l01Cur_pattern.gs _)
noncomputable def spec_l01Cur_pattern (x0 : (List Int) × Int × Int) (x1 : List Int) : Option ((List Int) × ((List Int) × Int × Int)) := fnW spec_l01Cur_pattern.s spec_l01Cur_pattern.c (x0, x1)
theorem spec_l01Cur_pattern.fok : FkS spec_l01Cur_pattern.s 57 := ⟨Tryz.func57, by kernel_rfl, by kernel_rfl⟩
noncomputable def spec_l01Cur_pattern.fn (x : Args tab spec_l01Cur_pattern.s.ar) : Option (ResT tab spec_l01Cur_pattern.s.rs) := spec_l01Cur_pattern x.1 x.2
noncomputable abbrev spec_l01Cur_pattern.k {δ : Type} : Callee (GT tab) δ := kS spec_l01Cur_pattern.s spec_l01Cur_pattern.fn
theorem spec_l01Cur_pattern.con {δ : Type} : Con Tryz.prog (KT tab) 57 (spec_l01Cur_pattern.k (δ := δ)) := con_shape (c := spec_l01Cur_pattern.c) mixed tysOk (getG_con (spec_l01Cur_pattern.gok _)) spec_l01Cur_pattern.fok rfl rfl fun _ => rfl
theorem spec_l01Cur_pattern.eq (x0 : (List Int) × Int × Int) (x1 : List Int) : spec_l01Cur_pattern x0 x1 =
    bif decide ((x1.length : Int) > (0 : Int)) then
      (spec_l01Cur_once x0 (4 : Int)).bind fun y1 =>
      bif !y1.1 then
        (spec_l01Cur_pick y1.2 (if (x1.length : Int) < (256 : Int) then (x1.length : Int) else (256 : Int))).bind fun y2 =>
        (spec_l01Cur_pick y2.2 (6 : Int)).bind fun y3 =>
        bif decide (0 ≤ (if IntKind.i64.wrap (y2.1 + y3.1) < (x1.length : Int) then IntKind.i64.wrap (y2.1 + y3.1) else (x1.length : Int)) ∧ (if IntKind.i64.wrap (y2.1 + y3.1) < (x1.length : Int) then IntKind.i64.wrap (y2.1 + y3.1) else (x1.length : Int)) ≤ ((x1.length : Nat) : Int)) then
          bif decide (0 ≤ y2.1 ∧ y2.1 ≤ (((if IntKind.i64.wrap (y2.1 + y3.1) < (x1.length : Int) then IntKind.i64.wrap (y2.1 + y3.1) else (x1.length : Int)).toNat : Nat) : Int)) then
            bif decide ((([] : List Int).length + ((x1.drop y2.1.toNat).take (((if IntKind.i64.wrap (y2.1 + y3.1) < (x1.length : Int) then IntKind.i64.wrap (y2.1 + y3.1) else (x1.length : Int)).toNat) - y2.1.toNat)).length) * 1 ≤ 140737488355328) then
              (spec_l01Cur_once y3.2 (6 : Int)).bind fun y4 =>
              bif y4.1 then
                bif decide (((([] : List Int) ++ ((x1.drop y2.1.toNat).take (((if IntKind.i64.wrap (y2.1 + y3.1) < (x1.length : Int) then IntKind.i64.wrap (y2.1 + y3.1) else (x1.length : Int)).toNat) - y2.1.toNat))).length + ([(98 : Int)] : List Int).length) * 1 ≤ 140737488355328) then
                  some ((([] : List Int) ++ ((x1.drop y2.1.toNat).take (((if IntKind.i64.wrap (y2.1 + y3.1) < (x1.length : Int) then IntKind.i64.wrap (y2.1 + y3.1) else (x1.length : Int)).toNat) - y2.1.toNat))) ++ ([(98 : Int)] : List Int), y4.2)
                else
                  none
              else
                some (([] : List Int) ++ ((x1.drop y2.1.toNat).take (((if IntKind.i64.wrap (y2.1 + y3.1) < (x1.length : Int) then IntKind.i64.wrap (y2.1 + y3.1) else (x1.length : Int)).toNat) - y2.1.toNat)), y4.2)
            else
              none
          else
            none
        else
          none
      else
        (spec_l01Cur_textOf y1.2 (4 : Int)).bind fun y5 =>
        some (y5.1, y5.2)
    else
      (spec_l01Cur_textOf x0 (4 : Int)).bind fun y6 =>
      some (y6.1, y6.2) := by kernel_rfl

noncomputable abbrev spec_DrawFmRows.s : Sg := ⟨[.lend], [vl 5], ⟨[.agg [.int .i64, .int .i64, .int .i64, .sl false false 3, .sl false false 30, .sl false false 3, .int .i64, .sl false false 126, .int .i64, .int .i64, .int .i64, .sl false false 126, .int .i64, .int .i64, .int .i64, .sl false false 126], vo 5], [none]⟩, Tryz.f16⟩
noncomputable def spec_DrawFmRows.gs (δ : Type) : List (Nat × Callee (GT tab) δ) := [(19, spec_FmText.k), (55, spec_l01Open.k), (56, spec_l01Cur_fm.k), (57, spec_l01Cur_pattern.k)]
theorem spec_DrawFmRows.gok (δ : Type) : AllCon Tryz.prog tab (spec_DrawFmRows.gs δ) := .cons spec_FmText.con (.cons spec_l01Open.con (.cons spec_l01Cur_fm.con (.cons spec_l01Cur_pattern.con .nil)))
noncomputable def spec_DrawFmRows.c := cx spec_DrawFmRows.s [] [] false (spec_DrawFmRows.gs _)
noncomputable def spec_DrawFmRows (x0 : List Int) : Option ((Int × Int × Int × (List Int) × (List (Int × (List Int))) × (List Int) × Int × (List Int) × Int × Int × Int × (List Int) × Int × Int × Int × (List Int)) × (List Int)) := fnW spec_DrawFmRows.s spec_DrawFmRows.c x0
theorem spec_DrawFmRows.fok : FkS spec_DrawFmRows.s 16 := ⟨Tryz.func16, by kernel_rfl, by kernel_rfl⟩
noncomputable def spec_DrawFmRows.fn (x : Args tab spec_DrawFmRows.s.ar) : Option (ResT tab spec_DrawFmRows.s.rs) := spec_DrawFmRows x
noncomputable abbrev spec_DrawFmRows.k {δ : Type} : Callee (GT tab) δ := kS spec_DrawFmRows.s spec_DrawFmRows.fn
theorem spec_DrawFmRows.con {δ : Type} : Con Tryz.prog (KT tab) 16 (spec_DrawFmRows.k (δ := δ)) := con_shape (c := spec_DrawFmRows.c) mixed tysOk (getG_con (spec_DrawFmRows.gok _)) spec_DrawFmRows.fok rfl rfl fun _ => rfl
theorem spec_DrawFmRows.eq (x0 : List Int) : spec_DrawFmRows x0 =
    (spec_l01Open x0).bind fun y1 =>
    (spec_l01Cur_fm y1).bind fun y2 =>
    (spec_FmText y2.1).bind fun y3 =>
    (spec_l01Cur_pattern y2.2 y3).bind fun y4 =>
    some (y2.1, y4.1) := by kernel_rfl

noncomputable abbrev bytes_HasPrefix.s : Sg := ⟨[.lend, .lend], [vl 5, vl 5], ⟨[vb], [none, none]⟩, Tryz.f122⟩
noncomputable def bytes_HasPrefix.gs (δ : Type) : List (Nat × Callee (GT tab) δ) := [(106, bytes_Equal.k)]
theorem bytes_HasPrefix.gok (δ : Type) : AllCon Tryz.prog tab (bytes_HasPrefix.gs δ) := .cons bytes_Equal.con .nil
noncomputable def bytes_HasPrefix.c := cx bytes_HasPrefix.s [] [] false (bytes_HasPrefix.gs _)
noncomputable def bytes_HasPrefix (x0 x1 : List Int) : Option (Bool) := fnW bytes_HasPrefix.s bytes_HasPrefix.c (x0, x1)
theorem bytes_HasPrefix.fok : FkS bytes_HasPrefix.s 122 := ⟨Tryz.func122, by kernel_rfl, by kernel_rfl⟩
noncomputable def bytes_HasPrefix.fn (x : Args tab bytes_HasPrefix.s.ar) : Option (ResT tab bytes_HasPrefix.s.rs) := bytes_HasPrefix x.1 x.2
noncomputable abbrev bytes_HasPrefix.k {δ : Type} : Callee (GT tab) δ := kS bytes_HasPrefix.s bytes_HasPrefix.fn
theorem bytes_HasPrefix.con {δ : Type} : Con Tryz.prog (KT tab) 122 (bytes_HasPrefix.k (δ := δ)) := con_shape (c := bytes_HasPrefix.c) mixed tysOk (getG_con (bytes_HasPrefix.gok _)) bytes_HasPrefix.fok rfl rfl fun _ => rfl
theorem bytes_HasPrefix.eq (x0 x1 : List Int) : bytes_HasPrefix x0 x1 =
    bif decide ((x0.length : Int) ≥ (x1.length : Int)) then
      bif decide (0 ≤ (x1.length : Int) ∧ (x1.length : Int) ≤ ((x0.length : Nat) : Int)) then
        (bytes_Equal ((x0.take ((x1.length : Int).toNat)).drop 0) x1).bind fun y1 =>
        some y1
      else
        none
    else
      some false := by kernel_rfl

noncomputable abbrev impl_rowsOf.s : Sg := ⟨[.lend, .lend], [vl 5, vl 5], ⟨[vi, vi], [none, none]⟩, Tryz.f59⟩
noncomputable def impl_rowsOf.gs (δ : Type) : List (Nat × Callee (GT tab) δ) := [(122, bytes_HasPrefix.k), (123, bytes_Compare.k)]
theorem impl_rowsOf.gok (δ : Type) : AllCon Tryz.prog tab (impl_rowsOf.gs δ) := .cons bytes_HasPrefix.con (.cons bytes_Compare.con .nil)
noncomputable def impl_rowsOf.c := cx impl_rowsOf.s [] [(3, [0, 1, 6, 7, 11, 12])] false (impl_rowsOf.gs _)
noncomputable def impl_rowsOf (x0 x1 : List Int) : Option (Int × Int) := fnW impl_rowsOf.s impl_rowsOf.c (x0, x1)
theorem impl_rowsOf.fok : FkS impl_rowsOf.s 59 := ⟨Tryz.func59, by kernel_rfl, by kernel_rfl⟩
noncomputable def impl_rowsOf.fn (x : Args tab impl_rowsOf.s.ar) : Option (ResT tab impl_rowsOf.s.rs) := impl_rowsOf x.1 x.2
noncomputable abbrev impl_rowsOf.k {δ : Type} : Callee (GT tab) δ := kS impl_rowsOf.s impl_rowsOf.fn
theorem impl_rowsOf.con {δ : Type} : Con Tryz.prog (KT tab) 59 (impl_rowsOf.k (δ := δ)) := con_shape (c := impl_rowsOf.c) mixed tysOk (getG_con (impl_rowsOf.gok _)) impl_rowsOf.fok rfl rfl fun _ => rfl
noncomputable def impl_rowsOf_l0 (v0 v1 : List Int) (v2 v3 v4 v5 : Int) : Option (Int × Int) := lpW impl_rowsOf.s impl_rowsOf.c 0 (ud 24 [.vs false 5 v0, .vs false 5 v1, .undef, .undef, .undef, .undef, .int .i64 v2, .int .i64 v3, .undef, .undef, .undef, .int .i64 v4, .int .i64 v5]) [] 0
theorem impl_rowsOf.eq (x0 x1 : List Int) : impl_rowsOf x0 x1 =
    impl_rowsOf_l0 x0 x1 (0 : Int) (0 : Int) (IntKind.i64.wrap ((x0.length : Int) + (1 : Int))) (0 : Int) := by kernel_rfl
theorem impl_rowsOf_l0.eq (v0 v1 : List Int) (v2 v3 v4 v5 : Int) : impl_rowsOf_l0 v0 v1 v2 v3 v4 v5 =
    bif decide (v5 < v4) then
      bif decide (0 ≤ v5 ∧ v5 ≤ ((v0.length : Nat) : Int)) then
        (bytes_HasPrefix ((v0.take v0.length).drop v5.toNat) v1).bind fun y1 =>
        bif y1 then
          impl_rowsOf_l0 v0 v1 v2 (IntKind.i64.wrap (v3 + (1 : Int))) v4 (IntKind.i64.wrap (v5 + (1 : Int)))
        else
          bif decide (0 ≤ v5 ∧ v5 ≤ ((v0.length : Nat) : Int)) then
            (bytes_Compare ((v0.take v0.length).drop v5.toNat) v1).bind fun y2 =>
            bif decide (y2 < (0 : Int)) then
              impl_rowsOf_l0 v0 v1 (IntKind.i64.wrap (v2 + (1 : Int))) v3 v4 (IntKind.i64.wrap (v5 + (1 : Int)))
            else
              impl_rowsOf_l0 v0 v1 v2 v3 v4 (IntKind.i64.wrap (v5 + (1 : Int)))
          else
            none
      else
        none
    else
      some (v2, IntKind.i64.wrap (v2 + v3)) := (Lw_eq tysOk (getG_con (impl_rowsOf.gok _)) _ _).trans (by kernel_rfl)

noncomputable abbrev impl_FmRows.s : Sg := ⟨[.lend, .lend], [.agg [.int .i64, .int .i64, .int .i64, .sl false false 3, .sl false false 30, .sl false false 3, .int .i64, .sl false false 126, .int .i64, .int .i64, .int .i64, .sl false false 126, .int .i64, .int .i64, .int .i64, .sl false false 126], vl 5], ⟨[vi, vi], [none, none]⟩, Tryz.f17⟩
noncomputable def impl_FmRows.gs (δ : Type) : List (Nat × Callee (GT tab) δ) := [(58, impl_Fm_read.k), (59, impl_rowsOf.k)]
theorem impl_FmRows.gok (δ : Type) : AllCon Tryz.prog tab (impl_FmRows.gs δ) := .cons impl_Fm_read.con (.cons impl_rowsOf.con .nil)
noncomputable def impl_FmRows.c := cx impl_FmRows.s [] [] false (impl_FmRows.gs _)
noncomputable def impl_FmRows (x0 : Int × Int × Int × (List Int) × (List (Int × (List Int))) × (List Int) × Int × (List Int) × Int × Int × Int × (List Int) × Int × Int × Int × (List Int)) (x1 : List Int) : Option (Int × Int) := fnW impl_FmRows.s impl_FmRows.c (x0, x1)
theorem impl_FmRows.fok : FkS impl_FmRows.s 17 := ⟨Tryz.func17, by kernel_rfl, by kernel_rfl⟩
noncomputable def impl_FmRows.fn (x : Args tab impl_FmRows.s.ar) : Option (ResT tab impl_FmRows.s.rs) := impl_FmRows x.1 x.2
noncomputable abbrev impl_FmRows.k {δ : Type} : Callee (GT tab) δ := kS impl_FmRows.s impl_FmRows.fn
theorem impl_FmRows.con {δ : Type} : Con Tryz.prog (KT tab) 17 (impl_FmRows.k (δ := δ)) := con_shape (c := impl_FmRows.c) mixed tysOk (getG_con (impl_FmRows.gok _)) impl_FmRows.fok rfl rfl fun _ => rfl
theorem impl_FmRows.eq (x0 : Int × Int × Int × (List Int) × (List (Int × (List Int))) × (List Int) × Int × (List Int) × Int × Int × Int × (List Int) × Int × Int × Int × (List Int)) (x1 : List Int) : impl_FmRows x0 x1 =
    (impl_Fm_read x0).bind fun y1 =>
    bif !y1.2 then
      some ((-1 : Int), (-1 : Int))
    else
      (impl_rowsOf y1.1 x1).bind fun y2 =>
      some (y2.1, y2.2) := by kernel_rfl

noncomputable abbrev spec_l05Begins.s : Sg := ⟨[.lend, .lend], [vl 5, vl 5], ⟨[vb], [none, none]⟩, Tryz.f144⟩
noncomputable def spec_l05Begins.gs (δ : Type) : List (Nat × Callee (GT tab) δ) := []
theorem spec_l05Begins.gok (δ : Type) : AllCon Tryz.prog tab (spec_l05Begins.gs δ) := .nil
noncomputable def spec_l05Begins.c := cx spec_l05Begins.s [] [] false (spec_l05Begins.gs _)
noncomputable def spec_l05Begins (x0 x1 : List Int) : Option (Bool) := fnW spec_l05Begins.s spec_l05Begins.c (x0, x1)
theorem spec_l05Begins.fok : FkS spec_l05Begins.s 144 := ⟨Tryz.func144, by kernel_rfl, by kernel_rfl⟩
noncomputable def spec_l05Begins.fn (x : Args tab spec_l05Begins.s.ar) : Option (ResT tab spec_l05Begins.s.rs) := spec_l05Begins x.1 x.2
noncomputable abbrev spec_l05Begins.k {δ : Type} : Callee (GT tab) δ := kS spec_l05Begins.s spec_l05Begins.fn
theorem spec_l05Begins.con {δ : Type} : Con Tryz.prog (KT tab) 144 (spec_l05Begins.k (δ := δ)) := con_shape (c := spec_l05Begins.c) mixed tysOk (getG_con (spec_l05Begins.gok _)) spec_l05Begins.fok rfl rfl fun _ => rfl
theorem spec_l05Begins.eq (x0 x1 : List Int) : spec_l05Begins x0 x1 =
    bif decide ((x1.length : Int) ≤ (x0.length : Int)) then
      bif decide (0 ≤ (x1.length : Int) ∧ (x1.length : Int) ≤ ((x0.length : Nat) : Int)) then
        some ((strOf (((x0.take ((x1.length : Int).toNat)).drop 0).map fun x => x)).toList == (strOf (x1.map fun x => x)).toList)
      else
        none
    else
      some false := by kernel_rfl

noncomputable abbrev spec_Occurs.s : Sg := ⟨[.lend, .lend], [vl 5, vl 5], ⟨[vo 3], [none, none]⟩, Tryz.f95⟩
noncomputable def spec_Occurs.gs (δ : Type) : List (Nat × Callee (GT tab) δ) := [(130, spec_TextOk.k), (144, spec_l05Begins.k)]
theorem spec_Occurs.gok (δ : Type) : AllCon Tryz.prog tab (spec_Occurs.gs δ) := .cons spec_TextOk.con (.cons spec_l05Begins.con .nil)
noncomputable def spec_Occurs.c := cx spec_Occurs.s [5] [(3, [0, 1, 5, 6]), (5, [0, 1, 5, 6])] false (spec_Occurs.gs _)
noncomputable def spec_Occurs (x0 x1 : List Int) : Option (List Int) := fnW spec_Occurs.s spec_Occurs.c (x0, x1)
theorem spec_Occurs.fok : FkS spec_Occurs.s 95 := ⟨Tryz.func95, by kernel_rfl, by kernel_rfl⟩
noncomputable def spec_Occurs.fn (x : Args tab spec_Occurs.s.ar) : Option (ResT tab spec_Occurs.s.rs) := spec_Occurs x.1 x.2
noncomputable abbrev spec_Occurs.k {δ : Type} : Callee (GT tab) δ := kS spec_Occurs.s spec_Occurs.fn
theorem spec_Occurs.con {δ : Type} : Con Tryz.prog (KT tab) 95 (spec_Occurs.k (δ := δ)) := con_shape (c := spec_Occurs.c) mixed tysOk (getG_con (spec_Occurs.gok _)) spec_Occurs.fok rfl rfl fun _ => rfl
noncomputable def spec_Occurs_l0 (v0 v1 : List Int) (v2 : Int) (v3 : List Int) : Option (List Int) := lpW spec_Occurs.s spec_Occurs.c 0 (ud 21 [.vs false 5 v0, .vs false 5 v1, .undef, .undef, .undef, .sl 0 0, .int .i64 v2]) [.row 0 true 3 v3] 1
noncomputable def spec_Occurs_l1 (v0 v1 : List Int) (v2 : Int) (v3 : List Int) : Option (List Int) := lpW spec_Occurs.s spec_Occurs.c 1 (ud 21 [.vs false 5 v0, .vs false 5 v1, .undef, .undef, .undef, .sl 0 0, .int .i64 v2]) [.row 0 true 3 v3] 1
theorem spec_Occurs.eq (x0 x1 : List Int) : spec_Occurs x0 x1 =
    spec_Occurs_l0 x0 x1 (0 : Int) ([] : List Int) := by kernel_rfl
theorem spec_Occurs_l0.eq (v0 v1 : List Int) (v2 : Int) (v3 : List Int) : spec_Occurs_l0 v0 v1 v2 v3 =
    (spec_TextOk v0).bind fun y1 =>
    bif y1 then
      bif decide (v2 ≤ (v0.length : Int)) then
        spec_Occurs_l1 v0 v1 v2 v3
      else
        some v3
    else
      some v3 := (Lw_eq tysOk (getG_con (spec_Occurs.gok _)) _ _).trans (by kernel_rfl)
theorem spec_Occurs_l1.eq (v0 v1 : List Int) (v2 : Int) (v3 : List Int) : spec_Occurs_l1 v0 v1 v2 v3 =
    bif decide (0 ≤ v2 ∧ v2 ≤ ((v0.length : Nat) : Int)) then
      (spec_l05Begins ((v0.take v0.length).drop v2.toNat) v1).bind fun y1 =>
      bif y1 then
        bif decide ((v3.length + ([v2] : List Int).length) * 8 ≤ 140737488355328) then
          spec_Occurs_l0 v0 v1 (IntKind.i64.wrap (v2 + (1 : Int))) (v3 ++ ([v2] : List Int))
        else
          none
      else
        spec_Occurs_l0 v0 v1 (IntKind.i64.wrap (v2 + (1 : Int))) v3
    else
      none := (Lw_eq tysOk (getG_con (spec_Occurs.gok _)) _ _).trans (by kernel_rfl)

noncomputable abbrev spec_RowsOf.s : Sg := ⟨[.lend, .lend], [vl 5, vl 5], ⟨[vi, vi], [none, none]⟩, Tryz.f61⟩
noncomputable def spec_RowsOf.gs (δ : Type) : List (Nat × Callee (GT tab) δ) := [(95, spec_Occurs.k), (130, spec_TextOk.k), (131, spec_l05Cmp.k)]
theorem spec_RowsOf.gok (δ : Type) : AllCon Tryz.prog tab (spec_RowsOf.gs δ) := .cons spec_Occurs.con (.cons spec_TextOk.con (.cons spec_l05Cmp.con .nil))
noncomputable def spec_RowsOf.c := cx spec_RowsOf.s [] [(5, [0, 1, 6, 7])] false (spec_RowsOf.gs _)
noncomputable def spec_RowsOf (x0 x1 : List Int) : Option (Int × Int) := fnW spec_RowsOf.s spec_RowsOf.c (x0, x1)
theorem spec_RowsOf.fok : FkS spec_RowsOf.s 61 := ⟨Tryz.func61, by kernel_rfl, by kernel_rfl⟩
noncomputable def spec_RowsOf.fn (x : Args tab spec_RowsOf.s.ar) : Option (ResT tab spec_RowsOf.s.rs) := spec_RowsOf x.1 x.2
noncomputable abbrev spec_RowsOf.k {δ : Type} : Callee (GT tab) δ := kS spec_RowsOf.s spec_RowsOf.fn
theorem spec_RowsOf.con {δ : Type} : Con Tryz.prog (KT tab) 61 (spec_RowsOf.k (δ := δ)) := con_shape (c := spec_RowsOf.c) mixed tysOk (getG_con (spec_RowsOf.gok _)) spec_RowsOf.fok rfl rfl fun _ => rfl
noncomputable def spec_RowsOf_l0 (v0 v1 : List Int) (v2 v3 : Int) : Option (Int × Int) := lpW spec_RowsOf.s spec_RowsOf.c 0 (ud 24 [.vs false 5 v0, .vs false 5 v1, .undef, .undef, .undef, .undef, .int .i64 v2, .int .i64 v3]) [] 0
theorem spec_RowsOf.eq (x0 x1 : List Int) : spec_RowsOf x0 x1 =
    (spec_TextOk x0).bind fun y1 =>
    bif !y1 then
      some ((0 : Int), (0 : Int))
    else
      spec_RowsOf_l0 x0 x1 (0 : Int) (0 : Int) := by kernel_rfl
theorem spec_RowsOf_l0.eq (v0 v1 : List Int) (v2 v3 : Int) : spec_RowsOf_l0 v0 v1 v2 v3 =
    bif decide (v3 ≤ (v0.length : Int)) then
      bif decide (0 ≤ v3 ∧ v3 ≤ ((v0.length : Nat) : Int)) then
        (spec_l05Cmp ((v0.take v0.length).drop v3.toNat) v1).bind fun y1 =>
        bif decide (y1 < (0 : Int)) then
          spec_RowsOf_l0 v0 v1 (IntKind.i64.wrap (v2 + (1 : Int))) (IntKind.i64.wrap (v3 + (1 : Int)))
        else
          spec_RowsOf_l0 v0 v1 v2 (IntKind.i64.wrap (v3 + (1 : Int)))
      else
        none
    else
      (spec_Occurs v0 v1).bind fun y2 =>
      some (v2, IntKind.i64.wrap (v2 + (y2.length : Int))) := (Lw_eq tysOk (getG_con (spec_RowsOf.gok _)) _ _).trans (by kernel_rfl)

noncomputable abbrev spec_FmRows.s : Sg := ⟨[.lend, .lend], [.agg [.int .i64, .int .i64, .int .i64, .sl false false 3, .sl false false 30, .sl false false 3, .int .i64, .sl false false 126, .int .i64, .int .i64, .int .i64, .sl false false 126, .int .i64, .int .i64, .int .i64, .sl false false 126], vl 5], ⟨[vi, vi], [none, none]⟩, Tryz.f18⟩
noncomputable def spec_FmRows.gs (δ : Type) : List (Nat × Callee (GT tab) δ) := [(60, spec_l09Text.k), (61, spec_RowsOf.k)]
theorem spec_FmRows.gok (δ : Type) : AllCon Tryz.prog tab (spec_FmRows.gs δ) := .cons spec_l09Text.con (.cons spec_RowsOf.con .nil)
noncomputable def spec_FmRows.c := cx spec_FmRows.s [] [] false (spec_FmRows.gs _)
noncomputable def spec_FmRows (x0 : Int × Int × Int × (List Int) × (List (Int × (List Int))) × (List Int) × Int × (List Int) × Int × Int × Int × (List Int) × Int × Int × Int × (List Int)) (x1 : List Int) : Option (Int × Int) := fnW spec_FmRows.s spec_FmRows.c (x0, x1)
theorem spec_FmRows.fok : FkS spec_FmRows.s 18 := ⟨Tryz.func18, by kernel_rfl, by kernel_rfl⟩
noncomputable def spec_FmRows.fn (x : Args tab spec_FmRows.s.ar) : Option (ResT tab spec_FmRows.s.rs) := spec_FmRows x.1 x.2
noncomputable abbrev spec_FmRows.k {δ : Type} : Callee (GT tab) δ := kS spec_FmRows.s spec_FmRows.fn
theorem spec_FmRows.con {δ : Type} : Con Tryz.prog (KT tab) 18 (spec_FmRows.k (δ := δ)) := con_shape (c := spec_FmRows.c) mixed tysOk (getG_con (spec_FmRows.gok _)) spec_FmRows.fok rfl rfl fun _ => rfl
theorem spec_FmRows.eq (x0 : Int × Int × Int × (List Int) × (List (Int × (List Int))) × (List Int) × Int × (List Int) × Int × Int × Int × (List Int) × Int × Int × Int × (List Int)) (x1 : List Int) : spec_FmRows x0 x1 =
    (spec_l09Text x0).bind fun y1 =>
    bif !y1.2 then
      some ((-1 : Int), (-1 : Int))
    else
      (spec_RowsOf y1.1 x1).bind fun y2 =>
      some (y2.1, y2.2) := by kernel_rfl

end Go.Ev.W
