/- What functions of the program come to. -/
import Derived.Test.YtmobcecmjpfpiaaPpT
namespace Go.Ev.W
open Go.Ev Go.Proofs
set_option maxRecDepth 100000
set_option linter.unusedVariables false

noncomputable abbrev spec_l02Pow.s : Sg := ⟨[.lend], [vi], ⟨[vi], [none]⟩, Try.f88⟩
noncomputable def spec_l02Pow.gs (δ : Type) : List (Nat × Callee (GT tab) δ) := []
theorem spec_l02Pow.gok (δ : Type) : AllCon Try.prog tab (spec_l02Pow.gs δ) := .nil
noncomputable def spec_l02Pow.c := cx spec_l02Pow.s [] [(2, [0, 3])] false (spec_l02Pow.gs _)
noncomputable def spec_l02Pow (x0 : Int) : Option (Int) := fnW spec_l02Pow.s spec_l02Pow.c x0
theorem spec_l02Pow.fok : FkS spec_l02Pow.s 88 := ⟨Try.func88, by kernel_rfl, by kernel_rfl⟩
noncomputable def spec_l02Pow.fn (x : Args tab spec_l02Pow.s.ar) : Option (ResT tab spec_l02Pow.s.rs) := spec_l02Pow x
noncomputable abbrev spec_l02Pow.k {δ : Type} : Callee (GT tab) δ := kS spec_l02Pow.s spec_l02Pow.fn
theorem spec_l02Pow.con {δ : Type} : Con Try.prog (KT tab) 88 (spec_l02Pow.k (δ := δ)) := con_shape (c := spec_l02Pow.c) mixed tysOk (getG_con (spec_l02Pow.gok _)) spec_l02Pow.fok rfl rfl fun _ => rfl
noncomputable def spec_l02Pow_l0 (v0 v1 : Int) : Option (Int) := lpW spec_l02Pow.s spec_l02Pow.c 0 (ud 7 [.int .i64 v0, .undef, .undef, .int .i64 v1]) [] 0
theorem spec_l02Pow.eq (x0 : Int) : spec_l02Pow x0 =
    spec_l02Pow_l0 x0 (1 : Int) := by kernel_rfl
theorem spec_l02Pow_l0.eq (v0 v1 : Int) : spec_l02Pow_l0 v0 v1 =
    bif decide (v0 > (0 : Int)) then
      spec_l02Pow_l0 (IntKind.i64.wrap (v0 - (1 : Int))) (IntKind.i64.wrap ((2 : Int) * v1))
    else
      some v1 := (Lw_eq tysOk (getG_con (spec_l02Pow.gok _)) _ _).trans (by kernel_rfl)

end Go.Ev.W
