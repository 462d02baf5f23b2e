/- What functions of the program come to. -/
import Derived.Test.YtiogdohiooocnaaPbT
namespace Go.Ev.W
open Go.Ev Go.Proofs
set_option maxRecDepth 100000
set_option linter.unusedVariables false

/-! ### spec_l02Pow: loop.example/g00688/spec.l02Pow -/
def spec_l02Pow.ms : List Mode := [.lend]
def spec_l02Pow.as : List VSh := [.one (.b (.b (.b (.b (.int .i64)))))]
def spec_l02Pow.rs : RSh := ⟨[.one (.b (.b (.b (.b (.int .i64)))))], [none]⟩
noncomputable def spec_l02Pow.gs (δ : Type) : List (Nat × Callee (GT tab) δ) := []
theorem spec_l02Pow.gok (δ : Type) : AllCon Try.prog tab (spec_l02Pow.gs δ) := .nil
noncomputable def spec_l02Pow.c : Ctx (GT tab) (KT tab) (ResT tab spec_l02Pow.rs) := { X := XT tab, ty := tyOf tys, inner := fun _ => true, keep := keepOf 0 spec_l02Pow.ms, cuts := [], live := liveOf [(2, [0, 3])], G := getG (spec_l02Pow.gs _) }
noncomputable def spec_l02Pow.b : Code := bodyOf Try.f126
noncomputable def spec_l02Pow (x0 : Int) : Option (Int) := callW spec_l02Pow.c (fiOf (GT tab) Try.f126 spec_l02Pow.ms) spec_l02Pow.b (decRes tab spec_l02Pow.rs) (encArgs tab spec_l02Pow.as x0)
theorem spec_l02Pow.fok : FnOk Try.prog 126 Try.f126 spec_l02Pow.ms spec_l02Pow.b := ⟨Try.func126, by kernel_rfl, by kernel_rfl⟩
noncomputable def spec_l02Pow.fn : Args tab spec_l02Pow.as → Option (ResT tab spec_l02Pow.rs) := fun x => spec_l02Pow x
theorem spec_l02Pow.con {δ : Type} : Con Try.prog (KT tab) 126 (calleeS (β := δ) tab spec_l02Pow.ms spec_l02Pow.as spec_l02Pow.rs spec_l02Pow.fn) := con_shape (c := spec_l02Pow.c) mixed tysOk (getG_con (spec_l02Pow.gok _)) spec_l02Pow.fok rfl rfl (fun _ => rfl)
noncomputable def spec_l02Pow_l0 (v0 : Int) (v1 : Int) : Option (Int) := Lw spec_l02Pow.c (finish spec_l02Pow.c (fiOf (GT tab) Try.f126 spec_l02Pow.ms) (decRes tab spec_l02Pow.rs)) ((loops spec_l02Pow.c.cuts 1000 spec_l02Pow.b []).getD 0 []) { slots := [.int .i64 v0, .undef, .undef, .int .i64 v1, .undef, .undef, .undef, .undef, .undef, .undef, .undef], loc := locOf [], nx := 0 }
theorem spec_l02Pow.eq (x0 : Int) : spec_l02Pow x0 =
    spec_l02Pow_l0 x0 (1 : Int) := by kernel_rfl
theorem spec_l02Pow_l0.eq (v0 : Int) (v1 : Int) : spec_l02Pow_l0 v0 v1 =
    bif decide (v0 > (0 : Int)) then
      spec_l02Pow_l0 (IntKind.i64.wrap (v0 - (1 : Int))) (IntKind.i64.wrap ((2 : Int) * v1))
    else
      some v1 := (Lw_eq tysOk (getG_con (spec_l02Pow.gok _)) _ _).trans (by kernel_rfl)

end Go.Ev.W
