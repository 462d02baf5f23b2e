/- What functions of the program come to. -/
import Derived.Test.YtddhebliggkadaaGreatPcT
namespace Go.Ev.W
open Go.Ev Go.Proofs
set_option maxRecDepth 100000
set_option linter.unusedVariables false

/-! ### laws_eqByteS: loop.example/g00688/laws.eqByteS -/
def laws_eqByteS.ms : List Mode := [.lend, .lend]
def laws_eqByteS.as : List VSh := [.one (.b (.b (.b (.b (.sl false false 5))))), .one (.b (.b (.b (.b (.sl false false 5)))))]
def laws_eqByteS.rs : RSh := ⟨[.one (.b (.b (.b (.b (.bool)))))], [none, none]⟩
noncomputable def laws_eqByteS.gs (δ : Type) : List (Nat × Callee (GT tab) δ) := []
theorem laws_eqByteS.gok (δ : Type) : AllCon Tryz.prog tab (laws_eqByteS.gs δ) := .nil
noncomputable def laws_eqByteS.c : Ctx (GT tab) (KT tab) (ResT tab laws_eqByteS.rs) := { X := XT tab, ty := tyOf tys, inner := fun _ => true, keep := keepOf 0 laws_eqByteS.ms, cuts := [], live := liveOf [(4, [0, 1, 5])], G := getG (laws_eqByteS.gs _) }
noncomputable def laws_eqByteS.b : Code := bodyOf Tryz.f36
noncomputable def laws_eqByteS (x0 : List Int) (x1 : List Int) : Option (Bool) := callW laws_eqByteS.c (fiOf (GT tab) Tryz.f36 laws_eqByteS.ms) laws_eqByteS.b (decRes tab laws_eqByteS.rs) (encArgs tab laws_eqByteS.as (x0, x1))
theorem laws_eqByteS.fok : FnOk Tryz.prog 36 Tryz.f36 laws_eqByteS.ms laws_eqByteS.b := ⟨Tryz.func36, by kernel_rfl, by kernel_rfl⟩
noncomputable def laws_eqByteS.fn : Args tab laws_eqByteS.as → Option (ResT tab laws_eqByteS.rs) := fun x => laws_eqByteS x.1 x.2
theorem laws_eqByteS.con {δ : Type} : Con Tryz.prog (KT tab) 36 (calleeS (β := δ) tab laws_eqByteS.ms laws_eqByteS.as laws_eqByteS.rs laws_eqByteS.fn) := con_shape (c := laws_eqByteS.c) mixed tysOk (getG_con (laws_eqByteS.gok _)) laws_eqByteS.fok rfl rfl (fun _ => rfl)
noncomputable def laws_eqByteS_l0 (v0 : List Int) (v1 : List Int) (v2 : Int) : Option (Bool) := Lw laws_eqByteS.c (finish laws_eqByteS.c (fiOf (GT tab) Tryz.f36 laws_eqByteS.ms) (decRes tab laws_eqByteS.rs)) ((loops laws_eqByteS.c.cuts 1000 laws_eqByteS.b []).getD 0 []) { slots := [.vs false 5 v0, .vs false 5 v1, .undef, .undef, .undef, .int .i64 v2, .undef, .undef, .undef, .undef, .undef, .undef, .undef, .undef, .undef, .undef, .undef, .undef, .undef, .undef, .undef, .undef, .undef, .undef, .undef, .undef], loc := locOf [], nx := 0 }
theorem laws_eqByteS.eq (x0 : List Int) (x1 : List Int) : laws_eqByteS x0 x1 =
    bif (x0.length : Int) != (x1.length : Int) then
      some false
    else
      laws_eqByteS_l0 x0 x1 (0 : Int) := by kernel_rfl
theorem laws_eqByteS_l0.eq (v0 : List Int) (v1 : List Int) (v2 : Int) : laws_eqByteS_l0 v0 v1 v2 =
    bif decide (v2 < (v0.length : Int)) then
      (at? v0 v2).bind fun y1 =>
      (at? v1 v2).bind fun y2 =>
      bif y1 != y2 then
        some false
      else
        laws_eqByteS_l0 v0 v1 (IntKind.i64.wrap (v2 + (1 : Int)))
    else
      some true := (Lw_eq tysOk (getG_con (laws_eqByteS.gok _)) _ _).trans (by kernel_rfl)

end Go.Ev.W
