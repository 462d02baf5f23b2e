/- What functions of the program come to. -/
import Derived.Test.YtcinoldiilbhmaaGreatPdT
import Derived.Test.YtcinoldiilbhmaaGreatPd1
import Derived.Test.YtcinoldiilbhmaaGreatPd5
namespace Go.Ev.W
open Go.Ev Go.Proofs
set_option maxRecDepth 100000
set_option linter.unusedVariables false

noncomputable abbrev spec_RelOwn.s : Sg := ⟨[.lend, .lend], [.agg [.int .i64, .int .i64, .int .i64, .sl false false 3, .sl false false 41, .sl false false 3, .int .i64, .sl false false 157, .int .i64, .int .i64, .int .i64, .sl false false 157, .int .i64, .int .i64, .int .i64, .sl false false 157], .agg [.int .i64, .int .i64, .int .i64, .sl false false 157, .int .i64, .sl false false 157, .int .i64, .sl false false 3, .sl false false 41, .int .i64, .sl false false 3, .sl false false 41, .sl false false 3, .int .i64, .sl false false 157, .int .i64, .int .i64, .int .i64, .sl false false 157, .int .i64, .int .i64, .int .i64, .sl false false 157]], ⟨[vi], [none, none]⟩, Tryz.f23⟩
noncomputable def spec_RelOwn.gs (δ : Type) : List (Nat × Callee (GT tab) δ) := [(73, spec_RelOk.k), (74, spec_Rank.k)]
theorem spec_RelOwn.gok (δ : Type) : AllCon Tryz.prog tab (spec_RelOwn.gs δ) := .cons spec_RelOk.con (.cons spec_Rank.con .nil)
noncomputable def spec_RelOwn.c := cx spec_RelOwn.s [] [] false (spec_RelOwn.gs _)
noncomputable def spec_RelOwn (x0 : Int × Int × Int × (List Int) × (List (Int × (List Int))) × (List Int) × Int × (List Int) × Int × Int × Int × (List Int) × Int × Int × Int × (List Int)) (x1 : Int × Int × Int × (List Int) × Int × (List Int) × Int × (List Int) × (List (Int × (List Int))) × Int × (List Int) × (List (Int × (List Int))) × (List Int) × Int × (List Int) × Int × Int × Int × (List Int) × Int × Int × Int × (List Int)) : Option (Int) := fnW spec_RelOwn.s spec_RelOwn.c (x0, x1)
theorem spec_RelOwn.fok : FkS spec_RelOwn.s 23 := ⟨Tryz.func23, by kernel_rfl, by kernel_rfl⟩
noncomputable def spec_RelOwn.fn (x : Args tab spec_RelOwn.s.ar) : Option (ResT tab spec_RelOwn.s.rs) := spec_RelOwn x.1 x.2
noncomputable abbrev spec_RelOwn.k {δ : Type} : Callee (GT tab) δ := kS spec_RelOwn.s spec_RelOwn.fn
theorem spec_RelOwn.con {δ : Type} : Con Tryz.prog (KT tab) 23 (spec_RelOwn.k (δ := δ)) := con_shape (c := spec_RelOwn.c) mixed tysOk (getG_con (spec_RelOwn.gok _)) spec_RelOwn.fok rfl rfl fun _ => rfl
theorem spec_RelOwn.eq (x0 : Int × Int × Int × (List Int) × (List (Int × (List Int))) × (List Int) × Int × (List Int) × Int × Int × Int × (List Int) × Int × Int × Int × (List Int)) (x1 : Int × Int × Int × (List Int) × Int × (List Int) × Int × (List Int) × (List (Int × (List Int))) × Int × (List Int) × (List (Int × (List Int))) × (List Int) × Int × (List Int) × Int × Int × Int × (List Int) × Int × Int × Int × (List Int)) : spec_RelOwn x0 x1 =
    (spec_RelOk x0 x1).bind fun y1 =>
    bif !y1 then
      some (-1 : Int)
    else
      (spec_Rank (x1.2.2.2.2.1, x1.2.2.2.2.2.1) (0 : Int) x1.2.2.2.2.1).bind fun y2 =>
      some y2 := by kernel_rfl

noncomputable abbrev impl_RelOwn.s : Sg := ⟨[.lend, .lend], [.agg [.int .i64, .int .i64, .int .i64, .sl false false 3, .sl false false 41, .sl false false 3, .int .i64, .sl false false 157, .int .i64, .int .i64, .int .i64, .sl false false 157, .int .i64, .int .i64, .int .i64, .sl false false 157], .agg [.int .i64, .int .i64, .int .i64, .sl false false 157, .int .i64, .sl false false 157, .int .i64, .sl false false 3, .sl false false 41, .int .i64, .sl false false 3, .sl false false 41, .sl false false 3, .int .i64, .sl false false 157, .int .i64, .int .i64, .int .i64, .sl false false 157, .int .i64, .int .i64, .int .i64, .sl false false 157]], ⟨[vi], [none, none]⟩, Tryz.f24⟩
noncomputable def impl_RelOwn.gs (δ : Type) : List (Nat × Callee (GT tab) δ) := [(75, impl_RelOk.k), (76, impl_count.k), (77, impl_Bits_list.k)]
theorem impl_RelOwn.gok (δ : Type) : AllCon Tryz.prog tab (impl_RelOwn.gs δ) := .cons impl_RelOk.con (.cons impl_count.con (.cons impl_Bits_list.con .nil))
noncomputable def impl_RelOwn.c := cx impl_RelOwn.s [] [] false (impl_RelOwn.gs _)
noncomputable def impl_RelOwn (x0 : Int × Int × Int × (List Int) × (List (Int × (List Int))) × (List Int) × Int × (List Int) × Int × Int × Int × (List Int) × Int × Int × Int × (List Int)) (x1 : Int × Int × Int × (List Int) × Int × (List Int) × Int × (List Int) × (List (Int × (List Int))) × Int × (List Int) × (List (Int × (List Int))) × (List Int) × Int × (List Int) × Int × Int × Int × (List Int) × Int × Int × Int × (List Int)) : Option (Int) := fnW impl_RelOwn.s impl_RelOwn.c (x0, x1)
theorem impl_RelOwn.fok : FkS impl_RelOwn.s 24 := ⟨Tryz.func24, by kernel_rfl, by kernel_rfl⟩
noncomputable def impl_RelOwn.fn (x : Args tab impl_RelOwn.s.ar) : Option (ResT tab impl_RelOwn.s.rs) := impl_RelOwn x.1 x.2
noncomputable abbrev impl_RelOwn.k {δ : Type} : Callee (GT tab) δ := kS impl_RelOwn.s impl_RelOwn.fn
theorem impl_RelOwn.con {δ : Type} : Con Tryz.prog (KT tab) 24 (impl_RelOwn.k (δ := δ)) := con_shape (c := impl_RelOwn.c) mixed tysOk (getG_con (impl_RelOwn.gok _)) impl_RelOwn.fok rfl rfl fun _ => rfl
theorem impl_RelOwn.eq (x0 : Int × Int × Int × (List Int) × (List (Int × (List Int))) × (List Int) × Int × (List Int) × Int × Int × Int × (List Int) × Int × Int × Int × (List Int)) (x1 : Int × Int × Int × (List Int) × Int × (List Int) × Int × (List Int) × (List (Int × (List Int))) × Int × (List Int) × (List (Int × (List Int))) × (List Int) × Int × (List Int) × Int × Int × Int × (List Int) × Int × Int × Int × (List Int)) : impl_RelOwn x0 x1 =
    (impl_RelOk x0 x1).bind fun y1 =>
    bif !y1 then
      some (-1 : Int)
    else
      (impl_Bits_list (x1.2.2.2.2.1, x1.2.2.2.2.2.1)).bind fun y2 =>
      (impl_count y2 (0 : Int)).bind fun y3 =>
      some y3 := by kernel_rfl

end Go.Ev.W
