/- What functions of the program come to. -/
import Derived.Test.YtiogdohiooocnaaPbT
namespace Go.Ev.W
open Go.Ev Go.Proofs
set_option maxRecDepth 100000
set_option linter.unusedVariables false

/-! ### laws_heldIntS: loop.example/g00688/laws.heldIntS -/
def laws_heldIntS.ms : List Mode := [.lend, .lend]
def laws_heldIntS.as : List VSh := [.one (.b (.b (.b (.b (.sl false false 3))))), .one (.b (.b (.b (.b (.int .i64)))))]
def laws_heldIntS.rs : RSh := ⟨[.one (.b (.b (.b (.b (.int .i64)))))], [none, none]⟩
noncomputable def laws_heldIntS.gs (δ : Type) : List (Nat × Callee (GT tab) δ) := []
theorem laws_heldIntS.gok (δ : Type) : AllCon Try.prog tab (laws_heldIntS.gs δ) := .nil
noncomputable def laws_heldIntS.c : Ctx (GT tab) (KT tab) (ResT tab laws_heldIntS.rs) := { X := XT tab, ty := tyOf tys, inner := fun _ => true, keep := keepOf 0 laws_heldIntS.ms, cuts := [], live := liveOf [(2, [0, 1, 5])], G := getG (laws_heldIntS.gs _) }
noncomputable def laws_heldIntS.b : Code := bodyOf Try.f32
noncomputable def laws_heldIntS (x0 : List Int) (x1 : Int) : Option (Int) := callW laws_heldIntS.c (fiOf (GT tab) Try.f32 laws_heldIntS.ms) laws_heldIntS.b (decRes tab laws_heldIntS.rs) (encArgs tab laws_heldIntS.as (x0, x1))
theorem laws_heldIntS.fok : FnOk Try.prog 32 Try.f32 laws_heldIntS.ms laws_heldIntS.b := ⟨Try.func32, by kernel_rfl, by kernel_rfl⟩
noncomputable def laws_heldIntS.fn : Args tab laws_heldIntS.as → Option (ResT tab laws_heldIntS.rs) := fun x => laws_heldIntS x.1 x.2
theorem laws_heldIntS.con {δ : Type} : Con Try.prog (KT tab) 32 (calleeS (β := δ) tab laws_heldIntS.ms laws_heldIntS.as laws_heldIntS.rs laws_heldIntS.fn) := con_shape (c := laws_heldIntS.c) mixed tysOk (getG_con (laws_heldIntS.gok _)) laws_heldIntS.fok rfl rfl (fun _ => rfl)
noncomputable def laws_heldIntS_l0 (v0 : List Int) (v1 : Int) (v2 : Int) : Option (Int) := Lw laws_heldIntS.c (finish laws_heldIntS.c (fiOf (GT tab) Try.f32 laws_heldIntS.ms) (decRes tab laws_heldIntS.rs)) ((loops laws_heldIntS.c.cuts 1000 laws_heldIntS.b []).getD 0 []) { slots := [.vs false 3 v0, .int .i64 v1, .undef, .undef, .undef, .int .i64 v2, .undef, .undef, .undef, .undef, .undef, .undef, .undef, .undef, .undef, .undef, .undef, .undef, .undef, .undef, .undef], loc := locOf [], nx := 0 }
theorem laws_heldIntS.eq (x0 : List Int) (x1 : Int) : laws_heldIntS x0 x1 =
    laws_heldIntS_l0 x0 x1 (0 : Int) := by kernel_rfl
theorem laws_heldIntS_l0.eq (v0 : List Int) (v1 : Int) (v2 : Int) : laws_heldIntS_l0 v0 v1 v2 =
    bif decide (v2 < (v0.length : Int)) then
      (at? v0 v2).bind fun y1 =>
      bif y1 != v1 then
        some (-1 : Int)
      else
        laws_heldIntS_l0 v0 (IntKind.i64.wrap (v1 + (1 : Int))) (IntKind.i64.wrap (v2 + (1 : Int)))
    else
      some v1 := (Lw_eq tysOk (getG_con (laws_heldIntS.gok _)) _ _).trans (by kernel_rfl)

end Go.Ev.W
