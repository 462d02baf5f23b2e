/- What functions of the program come to. -/
import Derived.Test.YtcinoldiilbhmaaGreatPdT
import Derived.Test.YtcinoldiilbhmaaGreatPd1
import Derived.Test.YtcinoldiilbhmaaGreatPd2
namespace Go.Ev.W
open Go.Ev Go.Proofs
set_option maxRecDepth 100000
set_option linter.unusedVariables false

noncomputable abbrev spec_RelText.s : Sg := ⟨[.lend, .lend], [.agg [.int .i64, .int .i64, .int .i64, .sl false false 3, .sl false false 41, .sl false false 3, .int .i64, .sl false false 157, .int .i64, .int .i64, .int .i64, .sl false false 157, .int .i64, .int .i64, .int .i64, .sl false false 157], .agg [.int .i64, .int .i64, .int .i64, .sl false false 157, .int .i64, .sl false false 157, .int .i64, .sl false false 3, .sl false false 41, .int .i64, .sl false false 3, .sl false false 41, .sl false false 3, .int .i64, .sl false false 157, .int .i64, .int .i64, .int .i64, .sl false false 157, .int .i64, .int .i64, .int .i64, .sl false false 157]], ⟨[vo 5], [none, none]⟩, Tryz.f37⟩
noncomputable def spec_RelText.gs (δ : Type) : List (Nat × Callee (GT tab) δ) := [(61, spec_l14Text.k)]
theorem spec_RelText.gok (δ : Type) : AllCon Tryz.prog tab (spec_RelText.gs δ) := .cons spec_l14Text.con .nil
noncomputable def spec_RelText.c := cx spec_RelText.s [] [] false (spec_RelText.gs _)
noncomputable def spec_RelText (x0 : Int × Int × Int × (List Int) × (List (Int × (List Int))) × (List Int) × Int × (List Int) × Int × Int × Int × (List Int) × Int × Int × Int × (List Int)) (x1 : Int × Int × Int × (List Int) × Int × (List Int) × Int × (List Int) × (List (Int × (List Int))) × Int × (List Int) × (List (Int × (List Int))) × (List Int) × Int × (List Int) × Int × Int × Int × (List Int) × Int × Int × Int × (List Int)) : Option (List Int) := fnW spec_RelText.s spec_RelText.c (x0, x1)
theorem spec_RelText.fok : FkS spec_RelText.s 37 := ⟨Tryz.func37, by kernel_rfl, by kernel_rfl⟩
noncomputable def spec_RelText.fn (x : Args tab spec_RelText.s.ar) : Option (ResT tab spec_RelText.s.rs) := spec_RelText x.1 x.2
noncomputable abbrev spec_RelText.k {δ : Type} : Callee (GT tab) δ := kS spec_RelText.s spec_RelText.fn
theorem spec_RelText.con {δ : Type} : Con Tryz.prog (KT tab) 37 (spec_RelText.k (δ := δ)) := con_shape (c := spec_RelText.c) mixed tysOk (getG_con (spec_RelText.gok _)) spec_RelText.fok rfl rfl fun _ => rfl
theorem spec_RelText.eq (x0 : Int × Int × Int × (List Int) × (List (Int × (List Int))) × (List Int) × Int × (List Int) × Int × Int × Int × (List Int) × Int × Int × Int × (List Int)) (x1 : Int × Int × Int × (List Int) × Int × (List Int) × Int × (List Int) × (List (Int × (List Int))) × Int × (List Int) × (List (Int × (List Int))) × (List Int) × Int × (List Int) × Int × Int × Int × (List Int) × Int × Int × Int × (List Int)) : spec_RelText x0 x1 =
    (spec_l14Text x0 x1).bind fun y1 =>
    some y1.1 := by kernel_rfl

noncomputable abbrev impl_RelText.s : Sg := ⟨[.lend, .lend], [.agg [.int .i64, .int .i64, .int .i64, .sl false false 3, .sl false false 41, .sl false false 3, .int .i64, .sl false false 157, .int .i64, .int .i64, .int .i64, .sl false false 157, .int .i64, .int .i64, .int .i64, .sl false false 157], .agg [.int .i64, .int .i64, .int .i64, .sl false false 157, .int .i64, .sl false false 157, .int .i64, .sl false false 3, .sl false false 41, .int .i64, .sl false false 3, .sl false false 41, .sl false false 3, .int .i64, .sl false false 157, .int .i64, .int .i64, .int .i64, .sl false false 157, .int .i64, .int .i64, .int .i64, .sl false false 157]], ⟨[vo 5], [none, none]⟩, Tryz.f38⟩
noncomputable def impl_RelText.gs (δ : Type) : List (Nat × Callee (GT tab) δ) := [(67, impl_Rel_read.k)]
theorem impl_RelText.gok (δ : Type) : AllCon Tryz.prog tab (impl_RelText.gs δ) := .cons impl_Rel_read.con .nil
noncomputable def impl_RelText.c := cx impl_RelText.s [] [] false (impl_RelText.gs _)
noncomputable def impl_RelText (x0 : Int × Int × Int × (List Int) × (List (Int × (List Int))) × (List Int) × Int × (List Int) × Int × Int × Int × (List Int) × Int × Int × Int × (List Int)) (x1 : Int × Int × Int × (List Int) × Int × (List Int) × Int × (List Int) × (List (Int × (List Int))) × Int × (List Int) × (List (Int × (List Int))) × (List Int) × Int × (List Int) × Int × Int × Int × (List Int) × Int × Int × Int × (List Int)) : Option (List Int) := fnW impl_RelText.s impl_RelText.c (x0, x1)
theorem impl_RelText.fok : FkS impl_RelText.s 38 := ⟨Tryz.func38, by kernel_rfl, by kernel_rfl⟩
noncomputable def impl_RelText.fn (x : Args tab impl_RelText.s.ar) : Option (ResT tab impl_RelText.s.rs) := impl_RelText x.1 x.2
noncomputable abbrev impl_RelText.k {δ : Type} : Callee (GT tab) δ := kS impl_RelText.s impl_RelText.fn
theorem impl_RelText.con {δ : Type} : Con Tryz.prog (KT tab) 38 (impl_RelText.k (δ := δ)) := con_shape (c := impl_RelText.c) mixed tysOk (getG_con (impl_RelText.gok _)) impl_RelText.fok rfl rfl fun _ => rfl
theorem impl_RelText.eq (x0 : Int × Int × Int × (List Int) × (List (Int × (List Int))) × (List Int) × Int × (List Int) × Int × Int × Int × (List Int) × Int × Int × Int × (List Int)) (x1 : Int × Int × Int × (List Int) × Int × (List Int) × Int × (List Int) × (List (Int × (List Int))) × Int × (List Int) × (List (Int × (List Int))) × (List Int) × Int × (List Int) × Int × Int × Int × (List Int) × Int × Int × Int × (List Int)) : impl_RelText x0 x1 =
    (impl_Rel_read x1 x0).bind fun y1 =>
    bif !y1.2 then
      some ([] : List Int)
    else
      some y1.1 := by kernel_rfl

end Go.Ev.W
