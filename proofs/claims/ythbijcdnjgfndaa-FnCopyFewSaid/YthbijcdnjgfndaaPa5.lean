/- What functions of the program come to. -/
import Derived.Test.YthbijcdnjgfndaaPaT
namespace Go.Ev.W
open Go.Ev Go.Proofs
set_option maxRecDepth 100000
set_option linter.unusedVariables false

/-! ### slices_Clone_int_int: slices.Clone[[]int,int] -/
def slices_Clone_int_int.ms : List Mode := [.lend]
def slices_Clone_int_int.as : List VSh := [.one (.b (.b (.b (.b (.sl false false 3)))))]
def slices_Clone_int_int.rs : RSh := ⟨[.one (.b (.b (.b (.b (.sl true true 3)))))], [none]⟩
noncomputable def slices_Clone_int_int.gs (δ : Type) : List (Nat × Callee (GT tab) δ) := []
theorem slices_Clone_int_int.gok (δ : Type) : AllCon Try.prog tab (slices_Clone_int_int.gs δ) := .nil
noncomputable def slices_Clone_int_int.c : Ctx (GT tab) (KT tab) (ResT tab slices_Clone_int_int.rs) := { X := XT tab, ty := tyOf tys, inner := fun _ => true, keep := keepOf 0 slices_Clone_int_int.ms, cuts := [], live := liveOf [], G := getG (slices_Clone_int_int.gs _) }
noncomputable def slices_Clone_int_int.b : Code := bodyOf Try.f64
noncomputable def slices_Clone_int_int (x0 : List Int) : Option (List Int) := callW slices_Clone_int_int.c (fiOf (GT tab) Try.f64 slices_Clone_int_int.ms) slices_Clone_int_int.b (decRes tab slices_Clone_int_int.rs) (encArgs tab slices_Clone_int_int.as x0)
theorem slices_Clone_int_int.fok : FnOk Try.prog 64 Try.f64 slices_Clone_int_int.ms slices_Clone_int_int.b := ⟨Try.func64, by kernel_rfl, by kernel_rfl⟩
noncomputable def slices_Clone_int_int.fn : Args tab slices_Clone_int_int.as → Option (ResT tab slices_Clone_int_int.rs) := fun x => slices_Clone_int_int x
theorem slices_Clone_int_int.con {δ : Type} : Con Try.prog (KT tab) 64 (calleeS (β := δ) tab slices_Clone_int_int.ms slices_Clone_int_int.as slices_Clone_int_int.rs slices_Clone_int_int.fn) := con_shape (c := slices_Clone_int_int.c) mixed tysOk (getG_con (slices_Clone_int_int.gok _)) slices_Clone_int_int.fok rfl rfl (fun _ => rfl)
theorem slices_Clone_int_int.eq (x0 : List Int) : slices_Clone_int_int x0 =
    bif x0.length.beq 0 then
      both (some ([] : List Int)) (bif decide ((([] : List Int).length + x0.length) * 8 ≤ 140737488355328) then
        some (([] : List Int) ++ x0)
      else
        none)
    else
      bif decide ((([] : List Int).length + x0.length) * 8 ≤ 140737488355328) then
        some (([] : List Int) ++ x0)
      else
        none := by kernel_rfl

end Go.Ev.W
