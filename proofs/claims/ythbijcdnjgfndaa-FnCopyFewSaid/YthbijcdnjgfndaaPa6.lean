/- What functions of the program come to. -/
import Derived.Test.YthbijcdnjgfndaaPaT
import Derived.Test.YthbijcdnjgfndaaPa2
import Derived.Test.YthbijcdnjgfndaaPa5
namespace Go.Ev.W
open Go.Ev Go.Proofs
set_option maxRecDepth 100000
set_option linter.unusedVariables false

/-! ### impl_Undelta: loop.example/g00688/impl.Undelta -/
def impl_Undelta.ms : List Mode := [.lend]
def impl_Undelta.as : List VSh := [.one (.b (.b (.b (.b (.sl false false 3)))))]
def impl_Undelta.rs : RSh := ⟨[.one (.b (.b (.b (.b (.sl true true 3))))), .one (.b (.b (.b (.b (.bool)))))], [none]⟩
noncomputable def impl_Undelta.gs (δ : Type) : List (Nat × Callee (GT tab) δ) := [(63, calleeS tab impl_areCopied.ms impl_areCopied.as impl_areCopied.rs impl_areCopied.fn), (64, calleeS tab slices_Clone_int_int.ms slices_Clone_int_int.as slices_Clone_int_int.rs slices_Clone_int_int.fn)]
theorem impl_Undelta.gok (δ : Type) : AllCon Try.prog tab (impl_Undelta.gs δ) := .cons impl_areCopied.con (.cons slices_Clone_int_int.con (.nil))
noncomputable def impl_Undelta.c : Ctx (GT tab) (KT tab) (ResT tab impl_Undelta.rs) := { X := XT tab, ty := tyOf tys, inner := fun _ => true, keep := keepOf 0 impl_Undelta.ms, cuts := [], live := liveOf [(5, [4, 5])], G := getG (impl_Undelta.gs _) }
noncomputable def impl_Undelta.b : Code := bodyOf Try.f17
noncomputable def impl_Undelta (x0 : List Int) : Option ((List Int) × Bool) := callW impl_Undelta.c (fiOf (GT tab) Try.f17 impl_Undelta.ms) impl_Undelta.b (decRes tab impl_Undelta.rs) (encArgs tab impl_Undelta.as x0)
theorem impl_Undelta.fok : FnOk Try.prog 17 Try.f17 impl_Undelta.ms impl_Undelta.b := ⟨Try.func17, by kernel_rfl, by kernel_rfl⟩
noncomputable def impl_Undelta.fn : Args tab impl_Undelta.as → Option (ResT tab impl_Undelta.rs) := fun x => impl_Undelta x
theorem impl_Undelta.con {δ : Type} : Con Try.prog (KT tab) 17 (calleeS (β := δ) tab impl_Undelta.ms impl_Undelta.as impl_Undelta.rs impl_Undelta.fn) := con_shape (c := impl_Undelta.c) mixed tysOk (getG_con (impl_Undelta.gok _)) impl_Undelta.fok rfl rfl (fun _ => rfl)
noncomputable def impl_Undelta_l0 (v0 : Int) (v1 : List Int) : Option ((List Int) × Bool) := Lw impl_Undelta.c (finish impl_Undelta.c (fiOf (GT tab) Try.f17 impl_Undelta.ms) (decRes tab impl_Undelta.rs)) ((loops impl_Undelta.c.cuts 1000 impl_Undelta.b []).getD 0 []) { slots := [.undef, .undef, .undef, .undef, .sl 0 0, .int .i64 v0, .undef, .undef, .undef, .undef, .undef, .undef, .undef, .undef, .undef, .undef, .undef, .undef, .undef, .undef, .undef, .undef, .undef, .undef, .undef, .undef, .undef, .undef, .undef, .undef, .undef, .undef], loc := locOf [.row 0 true 3 v1], nx := 1 }
theorem impl_Undelta.eq (x0 : List Int) : impl_Undelta x0 =
    (impl_areCopied x0).bind fun y1 =>
    bif !y1 then
      some (([] : List Int), false)
    else
      (slices_Clone_int_int x0).bind fun y2 =>
      impl_Undelta_l0 (1 : Int) y2 := by kernel_rfl
theorem impl_Undelta_l0.eq (v0 : Int) (v1 : List Int) : impl_Undelta_l0 v0 v1 =
    bif decide (v0 < (v1.length : Int)) then
      (at? v1 v0).bind fun y1 =>
      v1[v0.toNat]?.bind fun y2 =>
      (at? v1 (IntKind.i64.wrap (v0 - (1 : Int)))).bind fun y3 =>
      v1[(IntKind.i64.wrap (v0 - (1 : Int))).toNat]?.bind fun y4 =>
      (at? v1 v0).bind fun y5 =>
      v1[v0.toNat]?.bind fun y6 =>
      impl_Undelta_l0 (IntKind.i64.wrap (v0 + (1 : Int))) (v1.set v0.toNat (IntKind.i64.wrap (y2 + y4)))
    else
      (impl_areCopied v1).bind fun y7 =>
      bif !y7 then
        some (([] : List Int), false)
      else
        some (v1, true) := (Lw_eq tysOk (getG_con (impl_Undelta.gok _)) _ _).trans (by kernel_rfl)

end Go.Ev.W
