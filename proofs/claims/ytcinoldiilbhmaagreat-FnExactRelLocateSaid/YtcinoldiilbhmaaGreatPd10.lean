/- What functions of the program come to. -/
import Derived.Test.YtcinoldiilbhmaaGreatPdT
import Derived.Test.YtcinoldiilbhmaaGreatPd1
import Derived.Test.YtcinoldiilbhmaaGreatPd2
namespace Go.Ev.W
open Go.Ev Go.Proofs
set_option maxRecDepth 100000
set_option linter.unusedVariables false

noncomputable abbrev spec_l14Own.s : Sg := ⟨[.lend, .lend], [.agg [.int .i64, .int .i64, .int .i64, .sl false false 3, .sl false false 41, .sl false false 3, .int .i64, .sl false false 157, .int .i64, .int .i64, .int .i64, .sl false false 157, .int .i64, .int .i64, .int .i64, .sl false false 157], .agg [.int .i64, .int .i64, .int .i64, .sl false false 157, .int .i64, .sl false false 157, .int .i64, .sl false false 3, .sl false false 41, .int .i64, .sl false false 3, .sl false false 41, .sl false false 3, .int .i64, .sl false false 157, .int .i64, .int .i64, .int .i64, .sl false false 157, .int .i64, .int .i64, .int .i64, .sl false false 157]], ⟨[.agg [.int .i64, .int .i64, .int .i64, .sl true true 3, .sl true true 41, .sl true true 3, .int .i64, .sl true true 157, .int .i64, .int .i64, .int .i64, .sl true true 157, .int .i64, .int .i64, .int .i64, .sl true true 157]], [none, none]⟩, Tryz.f79⟩
noncomputable def spec_l14Own.gs (δ : Type) : List (Nat × Callee (GT tab) δ) := [(61, spec_l14Text.k), (121, spec_FmOf.k)]
theorem spec_l14Own.gok (δ : Type) : AllCon Tryz.prog tab (spec_l14Own.gs δ) := .cons spec_l14Text.con (.cons spec_FmOf.con .nil)
noncomputable def spec_l14Own.c := cx spec_l14Own.s [] [] false (spec_l14Own.gs _)
noncomputable def spec_l14Own (x0 : Int × Int × Int × (List Int) × (List (Int × (List Int))) × (List Int) × Int × (List Int) × Int × Int × Int × (List Int) × Int × Int × Int × (List Int)) (x1 : Int × Int × Int × (List Int) × Int × (List Int) × Int × (List Int) × (List (Int × (List Int))) × Int × (List Int) × (List (Int × (List Int))) × (List Int) × Int × (List Int) × Int × Int × Int × (List Int) × Int × Int × Int × (List Int)) : Option (Int × Int × Int × (List Int) × (List (Int × (List Int))) × (List Int) × Int × (List Int) × Int × Int × Int × (List Int) × Int × Int × Int × (List Int)) := fnW spec_l14Own.s spec_l14Own.c (x0, x1)
theorem spec_l14Own.fok : FkS spec_l14Own.s 79 := ⟨Tryz.func79, by kernel_rfl, by kernel_rfl⟩
noncomputable def spec_l14Own.fn (x : Args tab spec_l14Own.s.ar) : Option (ResT tab spec_l14Own.s.rs) := spec_l14Own x.1 x.2
noncomputable abbrev spec_l14Own.k {δ : Type} : Callee (GT tab) δ := kS spec_l14Own.s spec_l14Own.fn
theorem spec_l14Own.con {δ : Type} : Con Tryz.prog (KT tab) 79 (spec_l14Own.k (δ := δ)) := con_shape (c := spec_l14Own.c) mixed tysOk (getG_con (spec_l14Own.gok _)) spec_l14Own.fok rfl rfl fun _ => rfl
theorem spec_l14Own.eq (x0 : Int × Int × Int × (List Int) × (List (Int × (List Int))) × (List Int) × Int × (List Int) × Int × Int × Int × (List Int) × Int × Int × Int × (List Int)) (x1 : Int × Int × Int × (List Int) × Int × (List Int) × Int × (List Int) × (List (Int × (List Int))) × Int × (List Int) × (List (Int × (List Int))) × (List Int) × Int × (List Int) × Int × Int × Int × (List Int) × Int × Int × Int × (List Int)) : spec_l14Own x0 x1 =
    (spec_l14Text x0 x1).bind fun y1 =>
    bif !y1.2 then
      some ((0 : Int), (0 : Int), (0 : Int), ([] : List Int), ([] : List (Int × (List Int))), ([] : List Int), (0 : Int), ([] : List Int), (0 : Int), (0 : Int), (0 : Int), ([] : List Int), (0 : Int), (0 : Int), (0 : Int), ([] : List Int))
    else
      (spec_FmOf y1.1 x1.2.1).bind fun y2 =>
      some y2.1 := by kernel_rfl

noncomputable abbrev impl_Rel_full.s : Sg := ⟨[.lend, .lend], [.agg [.int .i64, .int .i64, .int .i64, .sl false false 157, .int .i64, .sl false false 157, .int .i64, .sl false false 3, .sl false false 41, .int .i64, .sl false false 3, .sl false false 41, .sl false false 3, .int .i64, .sl false false 157, .int .i64, .int .i64, .int .i64, .sl false false 157, .int .i64, .int .i64, .int .i64, .sl false false 157], .agg [.int .i64, .int .i64, .int .i64, .sl false false 3, .sl false false 41, .sl false false 3, .int .i64, .sl false false 157, .int .i64, .int .i64, .int .i64, .sl false false 157, .int .i64, .int .i64, .int .i64, .sl false false 157]], ⟨[.agg [.int .i64, .int .i64, .int .i64, .sl true true 3, .sl true true 41, .sl true true 3, .int .i64, .sl true true 157, .int .i64, .int .i64, .int .i64, .sl true true 157, .int .i64, .int .i64, .int .i64, .sl true true 157]], [none, none]⟩, Tryz.f81⟩
noncomputable def impl_Rel_full.gs (δ : Type) : List (Nat × Callee (GT tab) δ) := [(67, impl_Rel_read.k), (144, impl_fmOf.k)]
theorem impl_Rel_full.gok (δ : Type) : AllCon Tryz.prog tab (impl_Rel_full.gs δ) := .cons impl_Rel_read.con (.cons impl_fmOf.con .nil)
noncomputable def impl_Rel_full.c := cx impl_Rel_full.s [] [] false (impl_Rel_full.gs _)
noncomputable def impl_Rel_full (x0 : Int × Int × Int × (List Int) × Int × (List Int) × Int × (List Int) × (List (Int × (List Int))) × Int × (List Int) × (List (Int × (List Int))) × (List Int) × Int × (List Int) × Int × Int × Int × (List Int) × Int × Int × Int × (List Int)) (x1 : Int × Int × Int × (List Int) × (List (Int × (List Int))) × (List Int) × Int × (List Int) × Int × Int × Int × (List Int) × Int × Int × Int × (List Int)) : Option (Int × Int × Int × (List Int) × (List (Int × (List Int))) × (List Int) × Int × (List Int) × Int × Int × Int × (List Int) × Int × Int × Int × (List Int)) := fnW impl_Rel_full.s impl_Rel_full.c (x0, x1)
theorem impl_Rel_full.fok : FkS impl_Rel_full.s 81 := ⟨Tryz.func81, by kernel_rfl, by kernel_rfl⟩
noncomputable def impl_Rel_full.fn (x : Args tab impl_Rel_full.s.ar) : Option (ResT tab impl_Rel_full.s.rs) := impl_Rel_full x.1 x.2
noncomputable abbrev impl_Rel_full.k {δ : Type} : Callee (GT tab) δ := kS impl_Rel_full.s impl_Rel_full.fn
theorem impl_Rel_full.con {δ : Type} : Con Tryz.prog (KT tab) 81 (impl_Rel_full.k (δ := δ)) := con_shape (c := impl_Rel_full.c) mixed tysOk (getG_con (impl_Rel_full.gok _)) impl_Rel_full.fok rfl rfl fun _ => rfl
theorem impl_Rel_full.eq (x0 : Int × Int × Int × (List Int) × Int × (List Int) × Int × (List Int) × (List (Int × (List Int))) × Int × (List Int) × (List (Int × (List Int))) × (List Int) × Int × (List Int) × Int × Int × Int × (List Int) × Int × Int × Int × (List Int)) (x1 : Int × Int × Int × (List Int) × (List (Int × (List Int))) × (List Int) × Int × (List Int) × Int × Int × Int × (List Int) × Int × Int × Int × (List Int)) : impl_Rel_full x0 x1 =
    (impl_Rel_read x0 x1).bind fun y1 =>
    bif !y1.2 then
      some ((0 : Int), (0 : Int), (0 : Int), ([] : List Int), ([] : List (Int × (List Int))), ([] : List Int), (0 : Int), ([] : List Int), (0 : Int), (0 : Int), (0 : Int), ([] : List Int), (0 : Int), (0 : Int), (0 : Int), ([] : List Int))
    else
      (impl_fmOf y1.1 x0.2.1).bind fun y2 =>
      some y2 := by kernel_rfl

end Go.Ev.W
