/- What functions of the program come to. -/
import Derived.Test.YtddhebliggkadaaGreatPqT
import Derived.Test.YtddhebliggkadaaGreatPq1
namespace Go.Ev.W
open Go.Ev Go.Proofs
set_option maxRecDepth 100000
set_option linter.unusedVariables false

noncomputable abbrev impl_PackOk.s : Sg := ⟨[.lend], [.agg [.int .i64, .int .i64, .int .i64, .sl false false 126]], ⟨[vb], [none]⟩, Tryz.f70⟩
noncomputable def impl_PackOk.gs (δ : Type) : List (Nat × Callee (GT tab) δ) := [(63, impl_within.k), (66, impl_BitsOk.k)]
theorem impl_PackOk.gok (δ : Type) : AllCon Tryz.prog tab (impl_PackOk.gs δ) := .cons impl_within.con (.cons impl_BitsOk.con .nil)
noncomputable def impl_PackOk.c := cx impl_PackOk.s [] [] false (impl_PackOk.gs _)
noncomputable def impl_PackOk (x0 : Int × Int × Int × (List Int)) : Option (Bool) := fnW impl_PackOk.s impl_PackOk.c x0
theorem impl_PackOk.fok : FkS impl_PackOk.s 70 := ⟨Tryz.func70, by kernel_rfl, by kernel_rfl⟩
noncomputable def impl_PackOk.fn (x : Args tab impl_PackOk.s.ar) : Option (ResT tab impl_PackOk.s.rs) := impl_PackOk x
noncomputable abbrev impl_PackOk.k {δ : Type} : Callee (GT tab) δ := kS impl_PackOk.s impl_PackOk.fn
theorem impl_PackOk.con {δ : Type} : Con Tryz.prog (KT tab) 70 (impl_PackOk.k (δ := δ)) := con_shape (c := impl_PackOk.c) mixed tysOk (getG_con (impl_PackOk.gok _)) impl_PackOk.fok rfl rfl fun _ => rfl
theorem impl_PackOk.eq (x0 : Int × Int × Int × (List Int)) : impl_PackOk x0 =
    (impl_within x0.1 (0 : Int) (32 : Int)).bind fun y1 =>
    bif y1 then
      (impl_within x0.2.1 (0 : Int) (5000 : Int)).bind fun y2 =>
      bif y2 then
        (impl_BitsOk x0.2.2).bind fun y3 =>
        bif y3 then
          some (x0.2.2.1 == IntKind.i64.wrap (x0.2.1 * x0.1))
        else
          some false
      else
        some false
    else
      some false := by kernel_rfl

end Go.Ev.W
