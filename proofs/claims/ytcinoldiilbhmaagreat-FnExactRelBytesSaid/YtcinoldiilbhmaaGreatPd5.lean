/- What functions of the program come to. -/
import Derived.Test.YtcinoldiilbhmaaGreatPdT
import Derived.Test.YtcinoldiilbhmaaGreatPd1
import Derived.Test.YtcinoldiilbhmaaGreatPd2
namespace Go.Ev.W
open Go.Ev Go.Proofs
set_option maxRecDepth 100000
set_option linter.unusedVariables false

noncomputable abbrev spec_RelOk.s : Sg := ⟨[.lend, .lend], [.agg [.int .i64, .int .i64, .int .i64, .sl false false 3, .sl false false 41, .sl false false 3, .int .i64, .sl false false 157, .int .i64, .int .i64, .int .i64, .sl false false 157, .int .i64, .int .i64, .int .i64, .sl false false 157], .agg [.int .i64, .int .i64, .int .i64, .sl false false 157, .int .i64, .sl false false 157, .int .i64, .sl false false 3, .sl false false 41, .int .i64, .sl false false 3, .sl false false 41, .sl false false 3, .int .i64, .sl false false 157, .int .i64, .int .i64, .int .i64, .sl false false 157, .int .i64, .int .i64, .int .i64, .sl false false 157]], ⟨[vb], [none, none]⟩, Tryz.f73⟩
noncomputable def spec_RelOk.gs (δ : Type) : List (Nat × Callee (GT tab) δ) := [(61, spec_l14Text.k)]
theorem spec_RelOk.gok (δ : Type) : AllCon Tryz.prog tab (spec_RelOk.gs δ) := .cons spec_l14Text.con .nil
noncomputable def spec_RelOk.c := cx spec_RelOk.s [] [] false (spec_RelOk.gs _)
noncomputable def spec_RelOk (x0 : Int × Int × Int × (List Int) × (List (Int × (List Int))) × (List Int) × Int × (List Int) × Int × Int × Int × (List Int) × Int × Int × Int × (List Int)) (x1 : Int × Int × Int × (List Int) × Int × (List Int) × Int × (List Int) × (List (Int × (List Int))) × Int × (List Int) × (List (Int × (List Int))) × (List Int) × Int × (List Int) × Int × Int × Int × (List Int) × Int × Int × Int × (List Int)) : Option (Bool) := fnW spec_RelOk.s spec_RelOk.c (x0, x1)
theorem spec_RelOk.fok : FkS spec_RelOk.s 73 := ⟨Tryz.func73, by kernel_rfl, by kernel_rfl⟩
noncomputable def spec_RelOk.fn (x : Args tab spec_RelOk.s.ar) : Option (ResT tab spec_RelOk.s.rs) := spec_RelOk x.1 x.2
noncomputable abbrev spec_RelOk.k {δ : Type} : Callee (GT tab) δ := kS spec_RelOk.s spec_RelOk.fn
theorem spec_RelOk.con {δ : Type} : Con Tryz.prog (KT tab) 73 (spec_RelOk.k (δ := δ)) := con_shape (c := spec_RelOk.c) mixed tysOk (getG_con (spec_RelOk.gok _)) spec_RelOk.fok rfl rfl fun _ => rfl
theorem spec_RelOk.eq (x0 : Int × Int × Int × (List Int) × (List (Int × (List Int))) × (List Int) × Int × (List Int) × Int × Int × Int × (List Int) × Int × Int × Int × (List Int)) (x1 : Int × Int × Int × (List Int) × Int × (List Int) × Int × (List Int) × (List (Int × (List Int))) × Int × (List Int) × (List (Int × (List Int))) × (List Int) × Int × (List Int) × Int × Int × Int × (List Int) × Int × Int × Int × (List Int)) : spec_RelOk x0 x1 =
    (spec_l14Text x0 x1).bind fun y1 =>
    some y1.2 := by kernel_rfl

noncomputable abbrev impl_RelOk.s : Sg := ⟨[.lend, .lend], [.agg [.int .i64, .int .i64, .int .i64, .sl false false 3, .sl false false 41, .sl false false 3, .int .i64, .sl false false 157, .int .i64, .int .i64, .int .i64, .sl false false 157, .int .i64, .int .i64, .int .i64, .sl false false 157], .agg [.int .i64, .int .i64, .int .i64, .sl false false 157, .int .i64, .sl false false 157, .int .i64, .sl false false 3, .sl false false 41, .int .i64, .sl false false 3, .sl false false 41, .sl false false 3, .int .i64, .sl false false 157, .int .i64, .int .i64, .int .i64, .sl false false 157, .int .i64, .int .i64, .int .i64, .sl false false 157]], ⟨[vb], [none, none]⟩, Tryz.f75⟩
noncomputable def impl_RelOk.gs (δ : Type) : List (Nat × Callee (GT tab) δ) := [(67, impl_Rel_read.k)]
theorem impl_RelOk.gok (δ : Type) : AllCon Tryz.prog tab (impl_RelOk.gs δ) := .cons impl_Rel_read.con .nil
noncomputable def impl_RelOk.c := cx impl_RelOk.s [] [] false (impl_RelOk.gs _)
noncomputable def impl_RelOk (x0 : Int × Int × Int × (List Int) × (List (Int × (List Int))) × (List Int) × Int × (List Int) × Int × Int × Int × (List Int) × Int × Int × Int × (List Int)) (x1 : Int × Int × Int × (List Int) × Int × (List Int) × Int × (List Int) × (List (Int × (List Int))) × Int × (List Int) × (List (Int × (List Int))) × (List Int) × Int × (List Int) × Int × Int × Int × (List Int) × Int × Int × Int × (List Int)) : Option (Bool) := fnW impl_RelOk.s impl_RelOk.c (x0, x1)
theorem impl_RelOk.fok : FkS impl_RelOk.s 75 := ⟨Tryz.func75, by kernel_rfl, by kernel_rfl⟩
noncomputable def impl_RelOk.fn (x : Args tab impl_RelOk.s.ar) : Option (ResT tab impl_RelOk.s.rs) := impl_RelOk x.1 x.2
noncomputable abbrev impl_RelOk.k {δ : Type} : Callee (GT tab) δ := kS impl_RelOk.s impl_RelOk.fn
theorem impl_RelOk.con {δ : Type} : Con Tryz.prog (KT tab) 75 (impl_RelOk.k (δ := δ)) := con_shape (c := impl_RelOk.c) mixed tysOk (getG_con (impl_RelOk.gok _)) impl_RelOk.fok rfl rfl fun _ => rfl
theorem impl_RelOk.eq (x0 : Int × Int × Int × (List Int) × (List (Int × (List Int))) × (List Int) × Int × (List Int) × Int × Int × Int × (List Int) × Int × Int × Int × (List Int)) (x1 : Int × Int × Int × (List Int) × Int × (List Int) × Int × (List Int) × (List (Int × (List Int))) × Int × (List Int) × (List (Int × (List Int))) × (List Int) × Int × (List Int) × Int × Int × Int × (List Int) × Int × Int × Int × (List Int)) : impl_RelOk x0 x1 =
    (impl_Rel_read x1 x0).bind fun y1 =>
    some y1.2 := by kernel_rfl

end Go.Ev.W
