/- What functions of the program come to. -/
import Derived.Test.YtiogdohiooocnaaPbT
namespace Go.Ev.W
open Go.Ev Go.Proofs
set_option maxRecDepth 100000
set_option linter.unusedVariables false

/-! ### impl_within: loop.example/g00688/impl.within -/
def impl_within.ms : List Mode := [.lend, .lend, .lend]
def impl_within.as : List VSh := [.one (.b (.b (.b (.b (.int .i64))))), .one (.b (.b (.b (.b (.int .i64))))), .one (.b (.b (.b (.b (.int .i64)))))]
def impl_within.rs : RSh := ⟨[.one (.b (.b (.b (.b (.bool)))))], [none, none, none]⟩
noncomputable def impl_within.gs (δ : Type) : List (Nat × Callee (GT tab) δ) := []
theorem impl_within.gok (δ : Type) : AllCon Try.prog tab (impl_within.gs δ) := .nil
noncomputable def impl_within.c : Ctx (GT tab) (KT tab) (ResT tab impl_within.rs) := { X := XT tab, ty := tyOf tys, inner := fun _ => true, keep := keepOf 0 impl_within.ms, cuts := [], live := liveOf [], G := getG (impl_within.gs _) }
noncomputable def impl_within.b : Code := bodyOf Try.f117
noncomputable def impl_within (x0 : Int) (x1 : Int) (x2 : Int) : Option (Bool) := callW impl_within.c (fiOf (GT tab) Try.f117 impl_within.ms) impl_within.b (decRes tab impl_within.rs) (encArgs tab impl_within.as (x0, x1, x2))
theorem impl_within.fok : FnOk Try.prog 117 Try.f117 impl_within.ms impl_within.b := ⟨Try.func117, by kernel_rfl, by kernel_rfl⟩
noncomputable def impl_within.fn : Args tab impl_within.as → Option (ResT tab impl_within.rs) := fun x => impl_within x.1 x.2.1 x.2.2
theorem impl_within.con {δ : Type} : Con Try.prog (KT tab) 117 (calleeS (β := δ) tab impl_within.ms impl_within.as impl_within.rs impl_within.fn) := con_shape (c := impl_within.c) mixed tysOk (getG_con (impl_within.gok _)) impl_within.fok rfl rfl (fun _ => rfl)
theorem impl_within.eq (x0 : Int) (x1 : Int) (x2 : Int) : impl_within x0 x1 x2 =
    bif decide (x1 ≤ x0) then
      some (decide (x0 ≤ x2))
    else
      some false := by kernel_rfl

end Go.Ev.W
