/- What functions of the program come to. -/
import Derived.Test.YtcinoldiilbhmaaGreatPdT
import Derived.Test.YtcinoldiilbhmaaGreatPd1
import Derived.Test.YtcinoldiilbhmaaGreatPd2
namespace Go.Ev.W
open Go.Ev Go.Proofs
set_option maxRecDepth 100000
set_option linter.unusedVariables false

noncomputable abbrev spec_RelRank.s : Sg := ⟨[.lend, .lend, .lend, .lend], [.agg [.int .i64, .int .i64, .int .i64, .sl false false 3, .sl false false 41, .sl false false 3, .int .i64, .sl false false 157, .int .i64, .int .i64, .int .i64, .sl false false 157, .int .i64, .int .i64, .int .i64, .sl false false 157], .agg [.int .i64, .int .i64, .int .i64, .sl false false 157, .int .i64, .sl false false 157, .int .i64, .sl false false 3, .sl false false 41, .int .i64, .sl false false 3, .sl false false 41, .sl false false 3, .int .i64, .sl false false 157, .int .i64, .int .i64, .int .i64, .sl false false 157, .int .i64, .int .i64, .int .i64, .sl false false 157], vi, vi], ⟨[vi], [none, none, none, none]⟩, Tryz.f25⟩
noncomputable def spec_RelRank.gs (δ : Type) : List (Nat × Callee (GT tab) δ) := [(61, spec_l14Text.k), (62, spec_BwtOf.k)]
theorem spec_RelRank.gok (δ : Type) : AllCon Tryz.prog tab (spec_RelRank.gs δ) := .cons spec_l14Text.con (.cons spec_BwtOf.con .nil)
noncomputable def spec_RelRank.c := cx spec_RelRank.s [4] [(4, [2, 3, 9]), (7, [2, 3, 11, 12, 13])] false (spec_RelRank.gs _)
noncomputable def spec_RelRank (x0 : Int × Int × Int × (List Int) × (List (Int × (List Int))) × (List Int) × Int × (List Int) × Int × Int × Int × (List Int) × Int × Int × Int × (List Int)) (x1 : Int × Int × Int × (List Int) × Int × (List Int) × Int × (List Int) × (List (Int × (List Int))) × Int × (List Int) × (List (Int × (List Int))) × (List Int) × Int × (List Int) × Int × Int × Int × (List Int) × Int × Int × Int × (List Int)) (x2 x3 : Int) : Option (Int) := fnW spec_RelRank.s spec_RelRank.c (x0, x1, x2, x3)
theorem spec_RelRank.fok : FkS spec_RelRank.s 25 := ⟨Tryz.func25, by kernel_rfl, by kernel_rfl⟩
noncomputable def spec_RelRank.fn (x : Args tab spec_RelRank.s.ar) : Option (ResT tab spec_RelRank.s.rs) := spec_RelRank x.1 x.2.1 x.2.2.1 x.2.2.2
noncomputable abbrev spec_RelRank.k {δ : Type} : Callee (GT tab) δ := kS spec_RelRank.s spec_RelRank.fn
theorem spec_RelRank.con {δ : Type} : Con Tryz.prog (KT tab) 25 (spec_RelRank.k (δ := δ)) := con_shape (c := spec_RelRank.c) mixed tysOk (getG_con (spec_RelRank.gok _)) spec_RelRank.fok rfl rfl fun _ => rfl
noncomputable def spec_RelRank_l0 (v0 v1 : Int) (v2 : List Int) : Option (Int) := lpW spec_RelRank.s spec_RelRank.c 0 (ud 39 [.undef, .undef, .int .i64 v0, .int .i64 v1, .undef, .undef, .undef, .undef, .undef, .sl 0 0]) [.row 0 true 5 v2] 1
noncomputable def spec_RelRank_l1 (v0 v1 v2 v3 : Int) (v4 : List Int) : Option (Int) := lpW spec_RelRank.s spec_RelRank.c 1 (ud 35 [.undef, .undef, .int .i64 v0, .int .i64 v1, .undef, .undef, .undef, .undef, .undef, .undef, .undef, .sl 0 0, .int .i64 v2, .int .i64 v3]) [.row 0 true 3 v4] 1
theorem spec_RelRank.eq (x0 : Int × Int × Int × (List Int) × (List (Int × (List Int))) × (List Int) × Int × (List Int) × Int × Int × Int × (List Int) × Int × Int × Int × (List Int)) (x1 : Int × Int × Int × (List Int) × Int × (List Int) × Int × (List Int) × (List (Int × (List Int))) × Int × (List Int) × (List (Int × (List Int))) × (List Int) × Int × (List Int) × Int × Int × Int × (List Int) × Int × Int × Int × (List Int)) (x2 x3 : Int) : spec_RelRank x0 x1 x2 x3 =
    (spec_l14Text x0 x1).bind fun y1 =>
    bif !y1.2 then
      some (-1 : Int)
    else
      bif decide (x3 < (0 : Int)) then
        some (-1 : Int)
      else
        bif decide (x3 > IntKind.i64.wrap ((y1.1.length : Int) + (1 : Int))) then
          some (-1 : Int)
        else
          spec_RelRank_l0 x2 x3 y1.1 := by kernel_rfl
theorem spec_RelRank_l0.eq (v0 v1 : Int) (v2 : List Int) : spec_RelRank_l0 v0 v1 v2 =
    (spec_BwtOf v2).bind fun y1 =>
    spec_RelRank_l1 v0 v1 (0 : Int) (0 : Int) y1 := (Lw_eq tysOk (getG_con (spec_RelRank.gok _)) _ _).trans (by kernel_rfl)
theorem spec_RelRank_l1.eq (v0 v1 v2 v3 : Int) (v4 : List Int) : spec_RelRank_l1 v0 v1 v2 v3 v4 =
    bif decide (v3 < v1) then
      (at? v4 v3).bind fun y1 =>
      v4[v3.toNat]?.bind fun y2 =>
      bif y2 == v0 then
        spec_RelRank_l1 v0 v1 (IntKind.i64.wrap (v2 + (1 : Int))) (IntKind.i64.wrap (v3 + (1 : Int))) v4
      else
        spec_RelRank_l1 v0 v1 v2 (IntKind.i64.wrap (v3 + (1 : Int))) v4
    else
      some v2 := (Lw_eq tysOk (getG_con (spec_RelRank.gok _)) _ _).trans (by kernel_rfl)

noncomputable abbrev impl_RelRank.s : Sg := ⟨[.lend, .lend, .lend, .lend], [.agg [.int .i64, .int .i64, .int .i64, .sl false false 3, .sl false false 41, .sl false false 3, .int .i64, .sl false false 157, .int .i64, .int .i64, .int .i64, .sl false false 157, .int .i64, .int .i64, .int .i64, .sl false false 157], .agg [.int .i64, .int .i64, .int .i64, .sl false false 157, .int .i64, .sl false false 157, .int .i64, .sl false false 3, .sl false false 41, .int .i64, .sl false false 3, .sl false false 41, .sl false false 3, .int .i64, .sl false false 157, .int .i64, .int .i64, .int .i64, .sl false false 157, .int .i64, .int .i64, .int .i64, .sl false false 157], vi, vi], ⟨[vi], [none, none, none, none]⟩, Tryz.f26⟩
noncomputable def impl_RelRank.gs (δ : Type) : List (Nat × Callee (GT tab) δ) := [(67, impl_Rel_read.k), (68, impl_within.k), (69, impl_bwtOf.k), (76, impl_count.k)]
theorem impl_RelRank.gok (δ : Type) : AllCon Tryz.prog tab (impl_RelRank.gs δ) := .cons impl_Rel_read.con (.cons impl_within.con (.cons impl_bwtOf.con (.cons impl_count.con .nil)))
noncomputable def impl_RelRank.c := cx impl_RelRank.s [] [] false (impl_RelRank.gs _)
noncomputable def impl_RelRank (x0 : Int × Int × Int × (List Int) × (List (Int × (List Int))) × (List Int) × Int × (List Int) × Int × Int × Int × (List Int) × Int × Int × Int × (List Int)) (x1 : Int × Int × Int × (List Int) × Int × (List Int) × Int × (List Int) × (List (Int × (List Int))) × Int × (List Int) × (List (Int × (List Int))) × (List Int) × Int × (List Int) × Int × Int × Int × (List Int) × Int × Int × Int × (List Int)) (x2 x3 : Int) : Option (Int) := fnW impl_RelRank.s impl_RelRank.c (x0, x1, x2, x3)
theorem impl_RelRank.fok : FkS impl_RelRank.s 26 := ⟨Tryz.func26, by kernel_rfl, by kernel_rfl⟩
noncomputable def impl_RelRank.fn (x : Args tab impl_RelRank.s.ar) : Option (ResT tab impl_RelRank.s.rs) := impl_RelRank x.1 x.2.1 x.2.2.1 x.2.2.2
noncomputable abbrev impl_RelRank.k {δ : Type} : Callee (GT tab) δ := kS impl_RelRank.s impl_RelRank.fn
theorem impl_RelRank.con {δ : Type} : Con Tryz.prog (KT tab) 26 (impl_RelRank.k (δ := δ)) := con_shape (c := impl_RelRank.c) mixed tysOk (getG_con (impl_RelRank.gok _)) impl_RelRank.fok rfl rfl fun _ => rfl
theorem impl_RelRank.eq (x0 : Int × Int × Int × (List Int) × (List (Int × (List Int))) × (List Int) × Int × (List Int) × Int × Int × Int × (List Int) × Int × Int × Int × (List Int)) (x1 : Int × Int × Int × (List Int) × Int × (List Int) × Int × (List Int) × (List (Int × (List Int))) × Int × (List Int) × (List (Int × (List Int))) × (List Int) × Int × (List Int) × Int × Int × Int × (List Int) × Int × Int × Int × (List Int)) (x2 x3 : Int) : impl_RelRank x0 x1 x2 x3 =
    (impl_Rel_read x1 x0).bind fun y1 =>
    bif !y1.2 then
      some (-1 : Int)
    else
      (impl_within x3 (0 : Int) (IntKind.i64.wrap ((y1.1.length : Int) + (1 : Int)))).bind fun y2 =>
      bif !y2 then
        some (-1 : Int)
      else
        (impl_bwtOf y1.1).bind fun y3 =>
        bif decide (0 ≤ x3 ∧ x3 ≤ ((y3.length : Nat) : Int)) then
          (impl_count ((y3.drop 0).take (x3.toNat - 0)) x2).bind fun y4 =>
          some y4
        else
          none := by kernel_rfl

end Go.Ev.W
