/- What functions of the program come to. -/
import Derived.Test.YtiogdohiooocnaaPbT
namespace Go.Ev.W
open Go.Ev Go.Proofs
set_option maxRecDepth 100000
set_option linter.unusedVariables false

/-! ### laws_toByteS: loop.example/g00688/laws.toByteS -/
def laws_toByteS.ms : List Mode := [.lend]
def laws_toByteS.as : List VSh := [.one (.b (.b (.b (.b (.sl false false 5)))))]
def laws_toByteS.rs : RSh := ⟨[.one (.b (.b (.b (.b (.sl true true 5)))))], [none]⟩
noncomputable def laws_toByteS.gs (δ : Type) : List (Nat × Callee (GT tab) δ) := []
theorem laws_toByteS.gok (δ : Type) : AllCon Try.prog tab (laws_toByteS.gs δ) := .nil
noncomputable def laws_toByteS.c : Ctx (GT tab) (KT tab) (ResT tab laws_toByteS.rs) := { X := XT tab, ty := tyOf tys, inner := fun _ => true, keep := keepOf 0 laws_toByteS.ms, cuts := [], live := liveOf [(3, [0, 3, 4])], G := getG (laws_toByteS.gs _) }
noncomputable def laws_toByteS.b : Code := bodyOf Try.f21
noncomputable def laws_toByteS (x0 : List Int) : Option (List Int) := callW laws_toByteS.c (fiOf (GT tab) Try.f21 laws_toByteS.ms) laws_toByteS.b (decRes tab laws_toByteS.rs) (encArgs tab laws_toByteS.as x0)
theorem laws_toByteS.fok : FnOk Try.prog 21 Try.f21 laws_toByteS.ms laws_toByteS.b := ⟨Try.func21, by kernel_rfl, by kernel_rfl⟩
noncomputable def laws_toByteS.fn : Args tab laws_toByteS.as → Option (ResT tab laws_toByteS.rs) := fun x => laws_toByteS x
theorem laws_toByteS.con {δ : Type} : Con Try.prog (KT tab) 21 (calleeS (β := δ) tab laws_toByteS.ms laws_toByteS.as laws_toByteS.rs laws_toByteS.fn) := con_shape (c := laws_toByteS.c) mixed tysOk (getG_con (laws_toByteS.gok _)) laws_toByteS.fok rfl rfl (fun _ => rfl)
noncomputable def laws_toByteS_l0 (v0 : List Int) (v1 : Int) (v2 : List Int) : Option (List Int) := Lw laws_toByteS.c (finish laws_toByteS.c (fiOf (GT tab) Try.f21 laws_toByteS.ms) (decRes tab laws_toByteS.rs)) ((loops laws_toByteS.c.cuts 1000 laws_toByteS.b []).getD 0 []) { slots := [.vs false 5 v0, .undef, .undef, .sl 0 0, .int .i64 v1, .undef, .undef, .undef, .undef, .undef, .undef, .undef, .undef, .undef, .undef, .undef, .undef, .undef, .undef, .undef, .undef, .undef], loc := locOf [.row 0 true 5 v2], nx := 1 }
theorem laws_toByteS.eq (x0 : List Int) : laws_toByteS x0 =
    bif decide ((0 : Int) ≤ (x0.length : Int)) && decide (((x0.length : Int).toNat) * 1 ≤ 140737488355328) then
      laws_toByteS_l0 x0 (0 : Int) (List.replicate ((x0.length : Int).toNat) (0 : Int))
    else
      none := by kernel_rfl
theorem laws_toByteS_l0.eq (v0 : List Int) (v1 : Int) (v2 : List Int) : laws_toByteS_l0 v0 v1 v2 =
    bif decide (v1 < (v0.length : Int)) then
      (at? v0 v1).bind fun y1 =>
      (at? v2 v1).bind fun y2 =>
      v2[v1.toNat]?.bind fun y3 =>
      laws_toByteS_l0 v0 (IntKind.i64.wrap (v1 + (1 : Int))) (v2.set v1.toNat y1)
    else
      some v2 := (Lw_eq tysOk (getG_con (laws_toByteS.gok _)) _ _).trans (by kernel_rfl)

end Go.Ev.W
