/- What functions of the program come to. -/
import Derived.Test.YtcinoldiilbhmaaGreatPdT
import Derived.Test.YtcinoldiilbhmaaGreatPd1
import Derived.Test.YtcinoldiilbhmaaGreatPd2
namespace Go.Ev.W
open Go.Ev Go.Proofs
set_option maxRecDepth 100000
set_option linter.unusedVariables false

noncomputable abbrev spec_RelSymbol.s : Sg := ⟨[.lend, .lend, .lend], [.agg [.int .i64, .int .i64, .int .i64, .sl false false 3, .sl false false 41, .sl false false 3, .int .i64, .sl false false 157, .int .i64, .int .i64, .int .i64, .sl false false 157, .int .i64, .int .i64, .int .i64, .sl false false 157], .agg [.int .i64, .int .i64, .int .i64, .sl false false 157, .int .i64, .sl false false 157, .int .i64, .sl false false 3, .sl false false 41, .int .i64, .sl false false 3, .sl false false 41, .sl false false 3, .int .i64, .sl false false 157, .int .i64, .int .i64, .int .i64, .sl false false 157, .int .i64, .int .i64, .int .i64, .sl false false 157], vi], ⟨[vi], [none, none, none]⟩, Tryz.f17⟩
noncomputable def spec_RelSymbol.gs (δ : Type) : List (Nat × Callee (GT tab) δ) := [(61, spec_l14Text.k), (62, spec_BwtOf.k)]
theorem spec_RelSymbol.gok (δ : Type) : AllCon Tryz.prog tab (spec_RelSymbol.gs δ) := .cons spec_l14Text.con (.cons spec_BwtOf.con .nil)
noncomputable def spec_RelSymbol.c := cx spec_RelSymbol.s [] [] false (spec_RelSymbol.gs _)
noncomputable def spec_RelSymbol (x0 : Int × Int × Int × (List Int) × (List (Int × (List Int))) × (List Int) × Int × (List Int) × Int × Int × Int × (List Int) × Int × Int × Int × (List Int)) (x1 : Int × Int × Int × (List Int) × Int × (List Int) × Int × (List Int) × (List (Int × (List Int))) × Int × (List Int) × (List (Int × (List Int))) × (List Int) × Int × (List Int) × Int × Int × Int × (List Int) × Int × Int × Int × (List Int)) (x2 : Int) : Option (Int) := fnW spec_RelSymbol.s spec_RelSymbol.c (x0, x1, x2)
theorem spec_RelSymbol.fok : FkS spec_RelSymbol.s 17 := ⟨Tryz.func17, by kernel_rfl, by kernel_rfl⟩
noncomputable def spec_RelSymbol.fn (x : Args tab spec_RelSymbol.s.ar) : Option (ResT tab spec_RelSymbol.s.rs) := spec_RelSymbol x.1 x.2.1 x.2.2
noncomputable abbrev spec_RelSymbol.k {δ : Type} : Callee (GT tab) δ := kS spec_RelSymbol.s spec_RelSymbol.fn
theorem spec_RelSymbol.con {δ : Type} : Con Tryz.prog (KT tab) 17 (spec_RelSymbol.k (δ := δ)) := con_shape (c := spec_RelSymbol.c) mixed tysOk (getG_con (spec_RelSymbol.gok _)) spec_RelSymbol.fok rfl rfl fun _ => rfl
theorem spec_RelSymbol.eq (x0 : Int × Int × Int × (List Int) × (List (Int × (List Int))) × (List Int) × Int × (List Int) × Int × Int × Int × (List Int) × Int × Int × Int × (List Int)) (x1 : Int × Int × Int × (List Int) × Int × (List Int) × Int × (List Int) × (List (Int × (List Int))) × Int × (List Int) × (List (Int × (List Int))) × (List Int) × Int × (List Int) × Int × Int × Int × (List Int) × Int × Int × Int × (List Int)) (x2 : Int) : spec_RelSymbol x0 x1 x2 =
    (spec_l14Text x0 x1).bind fun y1 =>
    bif !y1.2 then
      some (-1 : Int)
    else
      bif decide (x2 < (0 : Int)) then
        some (-1 : Int)
      else
        bif decide (x2 > (y1.1.length : Int)) then
          some (-1 : Int)
        else
          (spec_BwtOf y1.1).bind fun y2 =>
          (at? y2 x2).bind fun y3 =>
          y2[x2.toNat]?.bind fun y4 =>
          some y4 := by kernel_rfl

noncomputable abbrev impl_RelSymbol.s : Sg := ⟨[.lend, .lend, .lend], [.agg [.int .i64, .int .i64, .int .i64, .sl false false 3, .sl false false 41, .sl false false 3, .int .i64, .sl false false 157, .int .i64, .int .i64, .int .i64, .sl false false 157, .int .i64, .int .i64, .int .i64, .sl false false 157], .agg [.int .i64, .int .i64, .int .i64, .sl false false 157, .int .i64, .sl false false 157, .int .i64, .sl false false 3, .sl false false 41, .int .i64, .sl false false 3, .sl false false 41, .sl false false 3, .int .i64, .sl false false 157, .int .i64, .int .i64, .int .i64, .sl false false 157, .int .i64, .int .i64, .int .i64, .sl false false 157], vi], ⟨[vi], [none, none, none]⟩, Tryz.f20⟩
noncomputable def impl_RelSymbol.gs (δ : Type) : List (Nat × Callee (GT tab) δ) := [(67, impl_Rel_read.k), (68, impl_within.k), (69, impl_bwtOf.k)]
theorem impl_RelSymbol.gok (δ : Type) : AllCon Tryz.prog tab (impl_RelSymbol.gs δ) := .cons impl_Rel_read.con (.cons impl_within.con (.cons impl_bwtOf.con .nil))
noncomputable def impl_RelSymbol.c := cx impl_RelSymbol.s [] [] false (impl_RelSymbol.gs _)
noncomputable def impl_RelSymbol (x0 : Int × Int × Int × (List Int) × (List (Int × (List Int))) × (List Int) × Int × (List Int) × Int × Int × Int × (List Int) × Int × Int × Int × (List Int)) (x1 : Int × Int × Int × (List Int) × Int × (List Int) × Int × (List Int) × (List (Int × (List Int))) × Int × (List Int) × (List (Int × (List Int))) × (List Int) × Int × (List Int) × Int × Int × Int × (List Int) × Int × Int × Int × (List Int)) (x2 : Int) : Option (Int) := fnW impl_RelSymbol.s impl_RelSymbol.c (x0, x1, x2)
theorem impl_RelSymbol.fok : FkS impl_RelSymbol.s 20 := ⟨Tryz.func20, by kernel_rfl, by kernel_rfl⟩
noncomputable def impl_RelSymbol.fn (x : Args tab impl_RelSymbol.s.ar) : Option (ResT tab impl_RelSymbol.s.rs) := impl_RelSymbol x.1 x.2.1 x.2.2
noncomputable abbrev impl_RelSymbol.k {δ : Type} : Callee (GT tab) δ := kS impl_RelSymbol.s impl_RelSymbol.fn
theorem impl_RelSymbol.con {δ : Type} : Con Tryz.prog (KT tab) 20 (impl_RelSymbol.k (δ := δ)) := con_shape (c := impl_RelSymbol.c) mixed tysOk (getG_con (impl_RelSymbol.gok _)) impl_RelSymbol.fok rfl rfl fun _ => rfl
theorem impl_RelSymbol.eq (x0 : Int × Int × Int × (List Int) × (List (Int × (List Int))) × (List Int) × Int × (List Int) × Int × Int × Int × (List Int) × Int × Int × Int × (List Int)) (x1 : Int × Int × Int × (List Int) × Int × (List Int) × Int × (List Int) × (List (Int × (List Int))) × Int × (List Int) × (List (Int × (List Int))) × (List Int) × Int × (List Int) × Int × Int × Int × (List Int) × Int × Int × Int × (List Int)) (x2 : Int) : impl_RelSymbol x0 x1 x2 =
    (impl_Rel_read x1 x0).bind fun y1 =>
    bif !y1.2 then
      some (-1 : Int)
    else
      (impl_within x2 (0 : Int) (y1.1.length : Int)).bind fun y2 =>
      bif !y2 then
        some (-1 : Int)
      else
        (impl_bwtOf y1.1).bind fun y3 =>
        (at? y3 x2).bind fun y4 =>
        y3[x2.toNat]?.bind fun y5 =>
        some y5 := by kernel_rfl

end Go.Ev.W
