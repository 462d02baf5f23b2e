/- What functions of the program come to. -/
import Derived.Test.YtcinoldiilbhmaaGreatPdT
import Derived.Test.YtcinoldiilbhmaaGreatPd1
import Derived.Test.YtcinoldiilbhmaaGreatPd10
import Derived.Test.YtcinoldiilbhmaaGreatPd17
namespace Go.Ev.W
open Go.Ev Go.Proofs
set_option maxRecDepth 100000
set_option linter.unusedVariables false

noncomputable abbrev spec_RowsOf.s : Sg := ⟨[.lend, .lend], [vl 5, vl 5], ⟨[vi, vi], [none, none]⟩, Tryz.f147⟩
noncomputable def spec_RowsOf.gs (δ : Type) : List (Nat × Callee (GT tab) δ) := [(161, spec_Occurs.k), (178, spec_TextOk.k), (184, spec_l05Cmp.k)]
theorem spec_RowsOf.gok (δ : Type) : AllCon Tryz.prog tab (spec_RowsOf.gs δ) := .cons spec_Occurs.con (.cons spec_TextOk.con (.cons spec_l05Cmp.con .nil))
noncomputable def spec_RowsOf.c := cx spec_RowsOf.s [] [(5, [0, 1, 6, 7])] false (spec_RowsOf.gs _)
noncomputable def spec_RowsOf (x0 x1 : List Int) : Option (Int × Int) := fnW spec_RowsOf.s spec_RowsOf.c (x0, x1)
theorem spec_RowsOf.fok : FkS spec_RowsOf.s 147 := ⟨Tryz.func147, by kernel_rfl, by kernel_rfl⟩
noncomputable def spec_RowsOf.fn (x : Args tab spec_RowsOf.s.ar) : Option (ResT tab spec_RowsOf.s.rs) := spec_RowsOf x.1 x.2
noncomputable abbrev spec_RowsOf.k {δ : Type} : Callee (GT tab) δ := kS spec_RowsOf.s spec_RowsOf.fn
theorem spec_RowsOf.con {δ : Type} : Con Tryz.prog (KT tab) 147 (spec_RowsOf.k (δ := δ)) := con_shape (c := spec_RowsOf.c) mixed tysOk (getG_con (spec_RowsOf.gok _)) spec_RowsOf.fok rfl rfl fun _ => rfl
noncomputable def spec_RowsOf_l0 (v0 v1 : List Int) (v2 v3 : Int) : Option (Int × Int) := lpW spec_RowsOf.s spec_RowsOf.c 0 (ud 24 [.vs false 5 v0, .vs false 5 v1, .undef, .undef, .undef, .undef, .int .i64 v2, .int .i64 v3]) [] 0
theorem spec_RowsOf.eq (x0 x1 : List Int) : spec_RowsOf x0 x1 =
    (spec_TextOk x0).bind fun y1 =>
    bif !y1 then
      some ((0 : Int), (0 : Int))
    else
      spec_RowsOf_l0 x0 x1 (0 : Int) (0 : Int) := by kernel_rfl
theorem spec_RowsOf_l0.eq (v0 v1 : List Int) (v2 v3 : Int) : spec_RowsOf_l0 v0 v1 v2 v3 =
    bif decide (v3 ≤ (v0.length : Int)) then
      bif decide (0 ≤ v3 ∧ v3 ≤ ((v0.length : Nat) : Int)) then
        (spec_l05Cmp ((v0.take v0.length).drop v3.toNat) v1).bind fun y1 =>
        bif decide (y1 < (0 : Int)) then
          spec_RowsOf_l0 v0 v1 (IntKind.i64.wrap (v2 + (1 : Int))) (IntKind.i64.wrap (v3 + (1 : Int)))
        else
          spec_RowsOf_l0 v0 v1 v2 (IntKind.i64.wrap (v3 + (1 : Int)))
      else
        none
    else
      (spec_Occurs v0 v1).bind fun y2 =>
      some (v2, IntKind.i64.wrap (v2 + (y2.length : Int))) := (Lw_eq tysOk (getG_con (spec_RowsOf.gok _)) _ _).trans (by kernel_rfl)

noncomputable abbrev spec_FmRows.s : Sg := ⟨[.lend, .lend], [.agg [.int .i64, .int .i64, .int .i64, .sl false false 3, .sl false false 41, .sl false false 3, .int .i64, .sl false false 157, .int .i64, .int .i64, .int .i64, .sl false false 157, .int .i64, .int .i64, .int .i64, .sl false false 157], vl 5], ⟨[vi, vi], [none, none]⟩, Tryz.f86⟩
noncomputable def spec_FmRows.gs (δ : Type) : List (Nat × Callee (GT tab) δ) := [(114, spec_l09Text.k), (147, spec_RowsOf.k)]
theorem spec_FmRows.gok (δ : Type) : AllCon Tryz.prog tab (spec_FmRows.gs δ) := .cons spec_l09Text.con (.cons spec_RowsOf.con .nil)
noncomputable def spec_FmRows.c := cx spec_FmRows.s [] [] false (spec_FmRows.gs _)
noncomputable def spec_FmRows (x0 : Int × Int × Int × (List Int) × (List (Int × (List Int))) × (List Int) × Int × (List Int) × Int × Int × Int × (List Int) × Int × Int × Int × (List Int)) (x1 : List Int) : Option (Int × Int) := fnW spec_FmRows.s spec_FmRows.c (x0, x1)
theorem spec_FmRows.fok : FkS spec_FmRows.s 86 := ⟨Tryz.func86, by kernel_rfl, by kernel_rfl⟩
noncomputable def spec_FmRows.fn (x : Args tab spec_FmRows.s.ar) : Option (ResT tab spec_FmRows.s.rs) := spec_FmRows x.1 x.2
noncomputable abbrev spec_FmRows.k {δ : Type} : Callee (GT tab) δ := kS spec_FmRows.s spec_FmRows.fn
theorem spec_FmRows.con {δ : Type} : Con Tryz.prog (KT tab) 86 (spec_FmRows.k (δ := δ)) := con_shape (c := spec_FmRows.c) mixed tysOk (getG_con (spec_FmRows.gok _)) spec_FmRows.fok rfl rfl fun _ => rfl
theorem spec_FmRows.eq (x0 : Int × Int × Int × (List Int) × (List (Int × (List Int))) × (List Int) × Int × (List Int) × Int × Int × Int × (List Int) × Int × Int × Int × (List Int)) (x1 : List Int) : spec_FmRows x0 x1 =
    (spec_l09Text x0).bind fun y1 =>
    bif !y1.2 then
      some ((-1 : Int), (-1 : Int))
    else
      (spec_RowsOf y1.1 x1).bind fun y2 =>
      some (y2.1, y2.2) := by kernel_rfl

noncomputable abbrev spec_RelRows.s : Sg := ⟨[.lend, .lend, .lend], [.agg [.int .i64, .int .i64, .int .i64, .sl false false 3, .sl false false 41, .sl false false 3, .int .i64, .sl false false 157, .int .i64, .int .i64, .int .i64, .sl false false 157, .int .i64, .int .i64, .int .i64, .sl false false 157], .agg [.int .i64, .int .i64, .int .i64, .sl false false 157, .int .i64, .sl false false 157, .int .i64, .sl false false 3, .sl false false 41, .int .i64, .sl false false 3, .sl false false 41, .sl false false 3, .int .i64, .sl false false 157, .int .i64, .int .i64, .int .i64, .sl false false 157, .int .i64, .int .i64, .int .i64, .sl false false 157], vl 5], ⟨[vi, vi], [none, none, none]⟩, Tryz.f33⟩
noncomputable def spec_RelRows.gs (δ : Type) : List (Nat × Callee (GT tab) δ) := [(79, spec_l14Own.k), (86, spec_FmRows.k)]
theorem spec_RelRows.gok (δ : Type) : AllCon Tryz.prog tab (spec_RelRows.gs δ) := .cons spec_l14Own.con (.cons spec_FmRows.con .nil)
noncomputable def spec_RelRows.c := cx spec_RelRows.s [] [] false (spec_RelRows.gs _)
noncomputable def spec_RelRows (x0 : Int × Int × Int × (List Int) × (List (Int × (List Int))) × (List Int) × Int × (List Int) × Int × Int × Int × (List Int) × Int × Int × Int × (List Int)) (x1 : Int × Int × Int × (List Int) × Int × (List Int) × Int × (List Int) × (List (Int × (List Int))) × Int × (List Int) × (List (Int × (List Int))) × (List Int) × Int × (List Int) × Int × Int × Int × (List Int) × Int × Int × Int × (List Int)) (x2 : List Int) : Option (Int × Int) := fnW spec_RelRows.s spec_RelRows.c (x0, x1, x2)
theorem spec_RelRows.fok : FkS spec_RelRows.s 33 := ⟨Tryz.func33, by kernel_rfl, by kernel_rfl⟩
noncomputable def spec_RelRows.fn (x : Args tab spec_RelRows.s.ar) : Option (ResT tab spec_RelRows.s.rs) := spec_RelRows x.1 x.2.1 x.2.2
noncomputable abbrev spec_RelRows.k {δ : Type} : Callee (GT tab) δ := kS spec_RelRows.s spec_RelRows.fn
theorem spec_RelRows.con {δ : Type} : Con Tryz.prog (KT tab) 33 (spec_RelRows.k (δ := δ)) := con_shape (c := spec_RelRows.c) mixed tysOk (getG_con (spec_RelRows.gok _)) spec_RelRows.fok rfl rfl fun _ => rfl
theorem spec_RelRows.eq (x0 : Int × Int × Int × (List Int) × (List (Int × (List Int))) × (List Int) × Int × (List Int) × Int × Int × Int × (List Int) × Int × Int × Int × (List Int)) (x1 : Int × Int × Int × (List Int) × Int × (List Int) × Int × (List Int) × (List (Int × (List Int))) × Int × (List Int) × (List (Int × (List Int))) × (List Int) × Int × (List Int) × Int × Int × Int × (List Int) × Int × Int × Int × (List Int)) (x2 : List Int) : spec_RelRows x0 x1 x2 =
    (spec_l14Own x0 x1).bind fun y1 =>
    (spec_FmRows y1 x2).bind fun y2 =>
    some (y2.1, y2.2) := by kernel_rfl

noncomputable abbrev impl_rowsOf.s : Sg := ⟨[.lend, .lend], [vl 5, vl 5], ⟨[vi, vi], [none, none]⟩, Tryz.f148⟩
noncomputable def impl_rowsOf.gs (δ : Type) : List (Nat × Callee (GT tab) δ) := [(196, bytes_Compare.k), (201, bytes_HasPrefix.k)]
theorem impl_rowsOf.gok (δ : Type) : AllCon Tryz.prog tab (impl_rowsOf.gs δ) := .cons bytes_Compare.con (.cons bytes_HasPrefix.con .nil)
noncomputable def impl_rowsOf.c := cx impl_rowsOf.s [] [(3, [0, 1, 6, 7, 11, 12])] false (impl_rowsOf.gs _)
noncomputable def impl_rowsOf (x0 x1 : List Int) : Option (Int × Int) := fnW impl_rowsOf.s impl_rowsOf.c (x0, x1)
theorem impl_rowsOf.fok : FkS impl_rowsOf.s 148 := ⟨Tryz.func148, by kernel_rfl, by kernel_rfl⟩
noncomputable def impl_rowsOf.fn (x : Args tab impl_rowsOf.s.ar) : Option (ResT tab impl_rowsOf.s.rs) := impl_rowsOf x.1 x.2
noncomputable abbrev impl_rowsOf.k {δ : Type} : Callee (GT tab) δ := kS impl_rowsOf.s impl_rowsOf.fn
theorem impl_rowsOf.con {δ : Type} : Con Tryz.prog (KT tab) 148 (impl_rowsOf.k (δ := δ)) := con_shape (c := impl_rowsOf.c) mixed tysOk (getG_con (impl_rowsOf.gok _)) impl_rowsOf.fok rfl rfl fun _ => rfl
noncomputable def impl_rowsOf_l0 (v0 v1 : List Int) (v2 v3 v4 v5 : Int) : Option (Int × Int) := lpW impl_rowsOf.s impl_rowsOf.c 0 (ud 24 [.vs false 5 v0, .vs false 5 v1, .undef, .undef, .undef, .undef, .int .i64 v2, .int .i64 v3, .undef, .undef, .undef, .int .i64 v4, .int .i64 v5]) [] 0
theorem impl_rowsOf.eq (x0 x1 : List Int) : impl_rowsOf x0 x1 =
    impl_rowsOf_l0 x0 x1 (0 : Int) (0 : Int) (IntKind.i64.wrap ((x0.length : Int) + (1 : Int))) (0 : Int) := by kernel_rfl
theorem impl_rowsOf_l0.eq (v0 v1 : List Int) (v2 v3 v4 v5 : Int) : impl_rowsOf_l0 v0 v1 v2 v3 v4 v5 =
    bif decide (v5 < v4) then
      bif decide (0 ≤ v5 ∧ v5 ≤ ((v0.length : Nat) : Int)) then
        (bytes_HasPrefix ((v0.take v0.length).drop v5.toNat) v1).bind fun y1 =>
        bif y1 then
          impl_rowsOf_l0 v0 v1 v2 (IntKind.i64.wrap (v3 + (1 : Int))) v4 (IntKind.i64.wrap (v5 + (1 : Int)))
        else
          bif decide (0 ≤ v5 ∧ v5 ≤ ((v0.length : Nat) : Int)) then
            (bytes_Compare ((v0.take v0.length).drop v5.toNat) v1).bind fun y2 =>
            bif decide (y2 < (0 : Int)) then
              impl_rowsOf_l0 v0 v1 (IntKind.i64.wrap (v2 + (1 : Int))) v3 v4 (IntKind.i64.wrap (v5 + (1 : Int)))
            else
              impl_rowsOf_l0 v0 v1 v2 v3 v4 (IntKind.i64.wrap (v5 + (1 : Int)))
          else
            none
      else
        none
    else
      some (v2, IntKind.i64.wrap (v2 + v3)) := (Lw_eq tysOk (getG_con (impl_rowsOf.gok _)) _ _).trans (by kernel_rfl)

noncomputable abbrev impl_FmRows.s : Sg := ⟨[.lend, .lend], [.agg [.int .i64, .int .i64, .int .i64, .sl false false 3, .sl false false 41, .sl false false 3, .int .i64, .sl false false 157, .int .i64, .int .i64, .int .i64, .sl false false 157, .int .i64, .int .i64, .int .i64, .sl false false 157], vl 5], ⟨[vi, vi], [none, none]⟩, Tryz.f87⟩
noncomputable def impl_FmRows.gs (δ : Type) : List (Nat × Callee (GT tab) δ) := [(132, impl_Fm_read.k), (148, impl_rowsOf.k)]
theorem impl_FmRows.gok (δ : Type) : AllCon Tryz.prog tab (impl_FmRows.gs δ) := .cons impl_Fm_read.con (.cons impl_rowsOf.con .nil)
noncomputable def impl_FmRows.c := cx impl_FmRows.s [] [] false (impl_FmRows.gs _)
noncomputable def impl_FmRows (x0 : Int × Int × Int × (List Int) × (List (Int × (List Int))) × (List Int) × Int × (List Int) × Int × Int × Int × (List Int) × Int × Int × Int × (List Int)) (x1 : List Int) : Option (Int × Int) := fnW impl_FmRows.s impl_FmRows.c (x0, x1)
theorem impl_FmRows.fok : FkS impl_FmRows.s 87 := ⟨Tryz.func87, by kernel_rfl, by kernel_rfl⟩
noncomputable def impl_FmRows.fn (x : Args tab impl_FmRows.s.ar) : Option (ResT tab impl_FmRows.s.rs) := impl_FmRows x.1 x.2
noncomputable abbrev impl_FmRows.k {δ : Type} : Callee (GT tab) δ := kS impl_FmRows.s impl_FmRows.fn
theorem impl_FmRows.con {δ : Type} : Con Tryz.prog (KT tab) 87 (impl_FmRows.k (δ := δ)) := con_shape (c := impl_FmRows.c) mixed tysOk (getG_con (impl_FmRows.gok _)) impl_FmRows.fok rfl rfl fun _ => rfl
theorem impl_FmRows.eq (x0 : Int × Int × Int × (List Int) × (List (Int × (List Int))) × (List Int) × Int × (List Int) × Int × Int × Int × (List Int) × Int × Int × Int × (List Int)) (x1 : List Int) : impl_FmRows x0 x1 =
    (impl_Fm_read x0).bind fun y1 =>
    bif !y1.2 then
      some ((-1 : Int), (-1 : Int))
    else
      (impl_rowsOf y1.1 x1).bind fun y2 =>
      some (y2.1, y2.2) := by kernel_rfl

noncomputable abbrev impl_RelRows.s : Sg := ⟨[.lend, .lend, .lend], [.agg [.int .i64, .int .i64, .int .i64, .sl false false 3, .sl false false 41, .sl false false 3, .int .i64, .sl false false 157, .int .i64, .int .i64, .int .i64, .sl false false 157, .int .i64, .int .i64, .int .i64, .sl false false 157], .agg [.int .i64, .int .i64, .int .i64, .sl false false 157, .int .i64, .sl false false 157, .int .i64, .sl false false 3, .sl false false 41, .int .i64, .sl false false 3, .sl false false 41, .sl false false 3, .int .i64, .sl false false 157, .int .i64, .int .i64, .int .i64, .sl false false 157, .int .i64, .int .i64, .int .i64, .sl false false 157], vl 5], ⟨[vi, vi], [none, none, none]⟩, Tryz.f35⟩
noncomputable def impl_RelRows.gs (δ : Type) : List (Nat × Callee (GT tab) δ) := [(81, impl_Rel_full.k), (87, impl_FmRows.k)]
theorem impl_RelRows.gok (δ : Type) : AllCon Tryz.prog tab (impl_RelRows.gs δ) := .cons impl_Rel_full.con (.cons impl_FmRows.con .nil)
noncomputable def impl_RelRows.c := cx impl_RelRows.s [] [] false (impl_RelRows.gs _)
noncomputable def impl_RelRows (x0 : Int × Int × Int × (List Int) × (List (Int × (List Int))) × (List Int) × Int × (List Int) × Int × Int × Int × (List Int) × Int × Int × Int × (List Int)) (x1 : Int × Int × Int × (List Int) × Int × (List Int) × Int × (List Int) × (List (Int × (List Int))) × Int × (List Int) × (List (Int × (List Int))) × (List Int) × Int × (List Int) × Int × Int × Int × (List Int) × Int × Int × Int × (List Int)) (x2 : List Int) : Option (Int × Int) := fnW impl_RelRows.s impl_RelRows.c (x0, x1, x2)
theorem impl_RelRows.fok : FkS impl_RelRows.s 35 := ⟨Tryz.func35, by kernel_rfl, by kernel_rfl⟩
noncomputable def impl_RelRows.fn (x : Args tab impl_RelRows.s.ar) : Option (ResT tab impl_RelRows.s.rs) := impl_RelRows x.1 x.2.1 x.2.2
noncomputable abbrev impl_RelRows.k {δ : Type} : Callee (GT tab) δ := kS impl_RelRows.s impl_RelRows.fn
theorem impl_RelRows.con {δ : Type} : Con Tryz.prog (KT tab) 35 (impl_RelRows.k (δ := δ)) := con_shape (c := impl_RelRows.c) mixed tysOk (getG_con (impl_RelRows.gok _)) impl_RelRows.fok rfl rfl fun _ => rfl
theorem impl_RelRows.eq (x0 : Int × Int × Int × (List Int) × (List (Int × (List Int))) × (List Int) × Int × (List Int) × Int × Int × Int × (List Int) × Int × Int × Int × (List Int)) (x1 : Int × Int × Int × (List Int) × Int × (List Int) × Int × (List Int) × (List (Int × (List Int))) × Int × (List Int) × (List (Int × (List Int))) × (List Int) × Int × (List Int) × Int × Int × Int × (List Int) × Int × Int × Int × (List Int)) (x2 : List Int) : impl_RelRows x0 x1 x2 =
    (impl_Rel_full x1 x0).bind fun y1 =>
    (impl_FmRows y1 x2).bind fun y2 =>
    some (y2.1, y2.2) := by kernel_rfl

end Go.Ev.W
