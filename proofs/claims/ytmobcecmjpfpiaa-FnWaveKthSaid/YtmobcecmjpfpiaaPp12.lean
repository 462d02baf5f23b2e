/- What functions of the program come to. -/
import Derived.Test.YtmobcecmjpfpiaaPpT
import Derived.Test.YtmobcecmjpfpiaaEvIterC
import Derived.Test.YtmobcecmjpfpiaaEvIterI
import Derived.Test.YtmobcecmjpfpiaaPp3
import Derived.Test.YtmobcecmjpfpiaaPp9
import Derived.Test.YtmobcecmjpfpiaaPpI79
import Derived.Test.YtmobcecmjpfpiaaPpL
namespace Go.Ev.W
open Go.Ev Go.Proofs
set_option maxRecDepth 100000
set_option linter.unusedVariables false

noncomputable abbrev spec_l07Span.s : Sg := ⟨[.lend, .lend, .lend], [.agg [.int .i64, .sl false false 3, .sl false false 32], vi, vi], ⟨[vb], [none, none, none]⟩, Try.f72⟩
noncomputable def spec_l07Span.gs (δ : Type) : List (Nat × Callee (GT tab) δ) := [(22, spec_WaveOk.k)]
theorem spec_l07Span.gok (δ : Type) : AllCon Try.prog tab (spec_l07Span.gs δ) := .cons spec_WaveOk.con .nil
noncomputable def spec_l07Span.c := cx spec_l07Span.s [] [] false (spec_l07Span.gs _)
noncomputable def spec_l07Span (x0 : Int × (List Int) × (List (Int × (List Int)))) (x1 x2 : Int) : Option (Bool) := fnW spec_l07Span.s spec_l07Span.c (x0, x1, x2)
theorem spec_l07Span.fok : FkS spec_l07Span.s 72 := ⟨Try.func72, by kernel_rfl, by kernel_rfl⟩
noncomputable def spec_l07Span.fn (x : Args tab spec_l07Span.s.ar) : Option (ResT tab spec_l07Span.s.rs) := spec_l07Span x.1 x.2.1 x.2.2
noncomputable abbrev spec_l07Span.k {δ : Type} : Callee (GT tab) δ := kS spec_l07Span.s spec_l07Span.fn
theorem spec_l07Span.con {δ : Type} : Con Try.prog (KT tab) 72 (spec_l07Span.k (δ := δ)) := con_shape (c := spec_l07Span.c) mixed tysOk (getG_con (spec_l07Span.gok _)) spec_l07Span.fok rfl rfl fun _ => rfl
theorem spec_l07Span.eq (x0 : Int × (List Int) × (List (Int × (List Int)))) (x1 x2 : Int) : spec_l07Span x0 x1 x2 =
    (spec_WaveOk x0).bind fun y1 =>
    bif y1 then
      bif decide (x1 ≥ (0 : Int)) then
        bif decide (x1 ≤ x2) then
          some (decide (x2 ≤ x0.1))
        else
          some false
      else
        some false
    else
      some false := by kernel_rfl

noncomputable abbrev spec_WaveKth.s : Sg := ⟨[.lend, .lend, .lend, .lend], [.agg [.int .i64, .sl false false 3, .sl false false 32], vi, vi, vi], ⟨[vi], [none, none, none, none]⟩, Try.f34⟩
noncomputable def spec_WaveKth.gs (δ : Type) : List (Nat × Callee (GT tab) δ) := [(69, spec_l07List.k), (72, spec_l07Span.k)]
theorem spec_WaveKth.gok (δ : Type) : AllCon Try.prog tab (spec_WaveKth.gs δ) := .cons spec_l07List.con (.cons spec_l07Span.con .nil)
noncomputable def spec_WaveKth.c := cx spec_WaveKth.s [3] [(3, [1, 2, 3, 4]), (4, [3, 9]), (6, [3, 9, 10, 11])] false (spec_WaveKth.gs _)
noncomputable def spec_WaveKth (x0 : Int × (List Int) × (List (Int × (List Int)))) (x1 x2 x3 : Int) : Option (Int) := fnW spec_WaveKth.s spec_WaveKth.c (x0, x1, x2, x3)
theorem spec_WaveKth.fok : FkS spec_WaveKth.s 34 := ⟨Try.func34, by kernel_rfl, by kernel_rfl⟩
noncomputable def spec_WaveKth.fn (x : Args tab spec_WaveKth.s.ar) : Option (ResT tab spec_WaveKth.s.rs) := spec_WaveKth x.1 x.2.1 x.2.2.1 x.2.2.2
noncomputable abbrev spec_WaveKth.k {δ : Type} : Callee (GT tab) δ := kS spec_WaveKth.s spec_WaveKth.fn
theorem spec_WaveKth.con {δ : Type} : Con Try.prog (KT tab) 34 (spec_WaveKth.k (δ := δ)) := con_shape (c := spec_WaveKth.c) mixed tysOk (getG_con (spec_WaveKth.gok _)) spec_WaveKth.fok rfl rfl fun _ => rfl
noncomputable def spec_WaveKth_l0 (v0 v1 v2 v3 : Int) (v4 : List Int) (v5 : List (Int × (List Int))) : Option (Int) := lpW spec_WaveKth.s spec_WaveKth.c 0 (ud 64 [.undef, .int .i64 v0, .int .i64 v1, .int .i64 v2, .ptr 0 0]) [.box 49 [.int .i64 v3, .vs false 3 v4, .vs false 32 v5]] 1
noncomputable def spec_WaveKth_l1 (v0 : Int) (v1 : List Int) : Option (Int) := lpW spec_WaveKth.s spec_WaveKth.c 1 (ud 59 [.undef, .undef, .undef, .int .i64 v0, .undef, .undef, .undef, .undef, .undef, .sl 0 0]) [.row 0 true 3 v1] 1
noncomputable def spec_WaveKth_l2 (v0 v1 v2 : Int) (v3 : List Int) : Option (Int) := lpW spec_WaveKth.s spec_WaveKth.c 2 (ud 57 [.undef, .undef, .undef, .int .i64 v0, .undef, .undef, .undef, .undef, .undef, .sl 0 0, .int .i64 v1, .int .i64 v2]) [.row 0 true 3 v3] 1
theorem spec_WaveKth.eq (x0 : Int × (List Int) × (List (Int × (List Int)))) (x1 x2 x3 : Int) : spec_WaveKth x0 x1 x2 x3 =
    (spec_l07Span x0 x1 x2).bind fun y1 =>
    bif !y1 then
      some (-1 : Int)
    else
      bif decide (x3 < (0 : Int)) then
        some (-1 : Int)
      else
        bif decide (x3 ≥ IntKind.i64.wrap (x2 - x1)) then
          some (-1 : Int)
        else
          spec_WaveKth_l0 x1 x2 x3 x0.1 x0.2.1 x0.2.2 := by kernel_rfl
theorem spec_WaveKth_l0.eq (v0 v1 v2 v3 : Int) (v4 : List Int) (v5 : List (Int × (List Int))) : spec_WaveKth_l0 v0 v1 v2 v3 v4 v5 =
    (spec_l07List (v3, v4, v5)).bind fun y1 =>
    bif decide (0 ≤ v1 ∧ v1 ≤ ((y1.length : Nat) : Int)) then
      bif decide (0 ≤ v0 ∧ v0 ≤ ((v1.toNat : Nat) : Int)) then
        bif decide ((([] : List Int).length + ((y1.drop v0.toNat).take (v1.toNat - v0.toNat)).length) * 8 ≤ 140737488355328) then
          spec_WaveKth_l1 v2 (([] : List Int) ++ ((y1.drop v0.toNat).take (v1.toNat - v0.toNat)))
        else
          none
      else
        none
    else
      none := (Lw_eq tysOk (getG_con (spec_WaveKth.gok _)) _ _).trans (by kernel_rfl)
theorem spec_WaveKth_l1.eq (v0 : Int) (v1 : List Int) : spec_WaveKth_l1 v0 v1 =
    spec_WaveKth_l2 v0 (0 : Int) (0 : Int) v1 := (Lw_eq tysOk (getG_con (spec_WaveKth.gok _)) _ _).trans (by kernel_rfl)
theorem spec_WaveKth_l2.eq (v0 v1 v2 : Int) (v3 : List Int) : spec_WaveKth_l2 v0 v1 v2 v3 =
    bif decide (v2 < (v3.length : Int)) then
      (at? v3 v2).bind fun y1 =>
      v3[v2.toNat]?.bind fun y2 =>
      (at? v3 v1).bind fun y3 =>
      v3[v1.toNat]?.bind fun y4 =>
      bif decide (y2 < y4) then
        spec_WaveKth_l2 v0 v2 (IntKind.i64.wrap (v2 + (1 : Int))) v3
      else
        spec_WaveKth_l2 v0 v1 (IntKind.i64.wrap (v2 + (1 : Int))) v3
    else
      bif v0 == (0 : Int) then
        (at? v3 v1).bind fun y5 =>
        v3[v1.toNat]?.bind fun y6 =>
        some y6
      else
        bif decide (0 ≤ v1 ∧ v1 ≤ ((v3.length : Nat) : Int)) then
          bif decide ((([] : List Int).length + ((v3.drop 0).take (v1.toNat - 0)).length) * 8 ≤ 140737488355328) then
            bif decide (0 ≤ IntKind.i64.wrap (v1 + (1 : Int)) ∧ IntKind.i64.wrap (v1 + (1 : Int)) ≤ ((v3.length : Nat) : Int)) then
              bif decide (((([] : List Int) ++ ((v3.drop 0).take (v1.toNat - 0))).length + ((v3.drop ((IntKind.i64.wrap (v1 + (1 : Int))).toNat)).take (v3.length - ((IntKind.i64.wrap (v1 + (1 : Int))).toNat))).length) * 8 ≤ 140737488355328) then
                spec_WaveKth_l1 (IntKind.i64.wrap (v0 - (1 : Int))) ((([] : List Int) ++ ((v3.drop 0).take (v1.toNat - 0))) ++ ((v3.drop ((IntKind.i64.wrap (v1 + (1 : Int))).toNat)).take (v3.length - ((IntKind.i64.wrap (v1 + (1 : Int))).toNat))))
              else
                none
            else
              none
          else
            none
        else
          none := (Lw_eq tysOk (getG_con (spec_WaveKth.gok _)) _ _).trans (by kernel_rfl)

noncomputable abbrev impl_isRange.s : Sg := ⟨[.lend, .lend, .lend], [vi, vi, vi], ⟨[vb], [none, none, none]⟩, Try.f76⟩
noncomputable def impl_isRange.gs (δ : Type) : List (Nat × Callee (GT tab) δ) := []
theorem impl_isRange.gok (δ : Type) : AllCon Try.prog tab (impl_isRange.gs δ) := .nil
noncomputable def impl_isRange.c := cx impl_isRange.s [] [] false (impl_isRange.gs _)
noncomputable def impl_isRange (x0 x1 x2 : Int) : Option (Bool) := fnW impl_isRange.s impl_isRange.c (x0, x1, x2)
theorem impl_isRange.fok : FkS impl_isRange.s 76 := ⟨Try.func76, by kernel_rfl, by kernel_rfl⟩
noncomputable def impl_isRange.fn (x : Args tab impl_isRange.s.ar) : Option (ResT tab impl_isRange.s.rs) := impl_isRange x.1 x.2.1 x.2.2
noncomputable abbrev impl_isRange.k {δ : Type} : Callee (GT tab) δ := kS impl_isRange.s impl_isRange.fn
theorem impl_isRange.con {δ : Type} : Con Try.prog (KT tab) 76 (impl_isRange.k (δ := δ)) := con_shape (c := impl_isRange.c) mixed tysOk (getG_con (impl_isRange.gok _)) impl_isRange.fok rfl rfl fun _ => rfl
theorem impl_isRange.eq (x0 x1 x2 : Int) : impl_isRange x0 x1 x2 =
    bif decide ((0 : Int) ≤ x0) then
      bif decide (x0 ≤ x1) then
        some (decide (x1 ≤ x2))
      else
        some false
    else
      some false := by kernel_rfl

/-! ### slices.Values[[]int,int] -/
noncomputable abbrev slices_Values_int_int.k {δ : Type} : Callee (GT tab) δ := calleeB 30 111
theorem slices_Values_int_int.con {δ : Type} : Con Try.prog (KT tab) 79 (slices_Values_int_int.k (δ := δ)) := con_box It.V79.boxes

/-! ### slices_Sorted_int_Values_int_int_1: slices.Sorted[int] (by hand) -/
def slices_Sorted_int_Values_int_int_1.ms : List Mode := [.lend]
def slices_Sorted_int_Values_int_int_1.as : List VSh := [.one (.fn 111 [.ptr false 30 [.b (.b (.sl false false 3))]])]
def slices_Sorted_int_Values_int_int_1.rs : RSh := ⟨[.one (.b (.b (.b (.b (.sl true true 3)))))], [none]⟩
noncomputable def slices_Sorted_int_Values_int_int_1 (x0 : List Int) : Option (List Int) := sortedF (fun x => x) x0
noncomputable def slices_Sorted_int_Values_int_int_1.fn : Args tab slices_Sorted_int_Values_int_int_1.as → Option (ResT tab slices_Sorted_int_Values_int_int_1.rs) := fun x => slices_Sorted_int_Values_int_int_1 x
noncomputable abbrev slices_Sorted_int_Values_int_int_1.k {δ : Type} : Callee (GT tab) δ := calleeS tab slices_Sorted_int_Values_int_int_1.ms slices_Sorted_int_Values_int_int_1.as slices_Sorted_int_Values_int_int_1.rs slices_Sorted_int_Values_int_int_1.fn
theorem slices_Sorted_int_Values_int_int_1.con {δ : Type} : Con Try.prog (KT tab) 78 (slices_Sorted_int_Values_int_int_1.k (δ := δ)) := con_sorted (l := tab) Try.laysSorted78 (fun m => ⟨fun blk off cap ss W hH hblk hsz => callsIn_wide.2 (AnyM.slices_Sort_int Try.laysSort110 blk off cap ss W hH hblk hsz), fun p cap W => callsIn_wide.2 (AnyM.slices_Sort_int_none Try.laysSort110 p cap W)⟩) (enters_of Try.func110 (by kernel_rfl) rfl) rfl (e := 3) rfl (g := fun x => x) rfl (gf := 111) (tb := 30) It.V79.valsOk (enters_of Try.func111 (by kernel_rfl) rfl)

noncomputable abbrev impl_WaveKth.s : Sg := ⟨[.lend, .lend, .lend, .lend], [.agg [.int .i64, .sl false false 3, .sl false false 32], vi, vi, vi], ⟨[vi], [none, none, none, none]⟩, Try.f36⟩
noncomputable def impl_WaveKth.gs (δ : Type) : List (Nat × Callee (GT tab) δ) := [(75, impl_Wave_read.k), (76, impl_isRange.k), (77, impl_within.k), (78, slices_Sorted_int_Values_int_int_1.k), (79, slices_Values_int_int.k)]
theorem impl_WaveKth.gok (δ : Type) : AllCon Try.prog tab (impl_WaveKth.gs δ) := .cons impl_Wave_read.con (.cons impl_isRange.con (.cons impl_within.con (.cons slices_Sorted_int_Values_int_int_1.con (.cons slices_Values_int_int.con .nil))))
noncomputable def impl_WaveKth.c := cx impl_WaveKth.s [] [] false (impl_WaveKth.gs _)
noncomputable def impl_WaveKth (x0 : Int × (List Int) × (List (Int × (List Int)))) (x1 x2 x3 : Int) : Option (Int) := fnW impl_WaveKth.s impl_WaveKth.c (x0, x1, x2, x3)
theorem impl_WaveKth.fok : FkS impl_WaveKth.s 36 := ⟨Try.func36, by kernel_rfl, by kernel_rfl⟩
noncomputable def impl_WaveKth.fn (x : Args tab impl_WaveKth.s.ar) : Option (ResT tab impl_WaveKth.s.rs) := impl_WaveKth x.1 x.2.1 x.2.2.1 x.2.2.2
noncomputable abbrev impl_WaveKth.k {δ : Type} : Callee (GT tab) δ := kS impl_WaveKth.s impl_WaveKth.fn
theorem impl_WaveKth.con {δ : Type} : Con Try.prog (KT tab) 36 (impl_WaveKth.k (δ := δ)) := con_shape (c := impl_WaveKth.c) mixed tysOk (getG_con (impl_WaveKth.gok _)) impl_WaveKth.fok rfl rfl fun _ => rfl
theorem impl_WaveKth.eq (x0 : Int × (List Int) × (List (Int × (List Int)))) (x1 x2 x3 : Int) : impl_WaveKth x0 x1 x2 x3 =
    (impl_Wave_read x0).bind fun y1 =>
    bif !y1.2 then
      some (-1 : Int)
    else
      (impl_isRange x1 x2 (y1.1.length : Int)).bind fun y2 =>
      bif !y2 then
        some (-1 : Int)
      else
        (impl_within x3 (0 : Int) (IntKind.i64.wrap ((IntKind.i64.wrap (x2 - x1)) - (1 : Int)))).bind fun y3 =>
        bif !y3 then
          some (-1 : Int)
        else
          bif decide (0 ≤ x2 ∧ x2 ≤ ((y1.1.length : Nat) : Int)) then
            bif decide (0 ≤ x1 ∧ x1 ≤ ((x2.toNat : Nat) : Int)) then
              (slices_Sorted_int_Values_int_int_1 ((y1.1.drop x1.toNat).take (x2.toNat - x1.toNat))).bind fun y4 =>
              (at? y4 x3).bind fun y5 =>
              y4[x3.toNat]?.bind fun y6 =>
              some y6
            else
              none
          else
            none := by kernel_rfl

end Go.Ev.W
