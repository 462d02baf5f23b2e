/- What functions of the program come to. -/
import Derived.Test.YthbijcdnjgfndaaPaT
namespace Go.Ev.W
open Go.Ev Go.Proofs
set_option maxRecDepth 100000
set_option linter.unusedVariables false

/-! ### laws_toIntS: loop.example/g00688/laws.toIntS -/
def laws_toIntS.ms : List Mode := [.lend]
def laws_toIntS.as : List VSh := [.one (.b (.b (.b (.b (.sl false false 3)))))]
def laws_toIntS.rs : RSh := ⟨[.one (.b (.b (.b (.b (.sl true true 3)))))], [none]⟩
noncomputable def laws_toIntS.gs (δ : Type) : List (Nat × Callee (GT tab) δ) := []
theorem laws_toIntS.gok (δ : Type) : AllCon Try.prog tab (laws_toIntS.gs δ) := .nil
noncomputable def laws_toIntS.c : Ctx (GT tab) (KT tab) (ResT tab laws_toIntS.rs) := { X := XT tab, ty := tyOf tys, inner := fun _ => true, keep := keepOf 0 laws_toIntS.ms, cuts := [], live := liveOf [(3, [0, 3, 4])], G := getG (laws_toIntS.gs _) }
noncomputable def laws_toIntS.b : Code := bodyOf Try.f16
noncomputable def laws_toIntS (x0 : List Int) : Option (List Int) := callW laws_toIntS.c (fiOf (GT tab) Try.f16 laws_toIntS.ms) laws_toIntS.b (decRes tab laws_toIntS.rs) (encArgs tab laws_toIntS.as x0)
theorem laws_toIntS.fok : FnOk Try.prog 16 Try.f16 laws_toIntS.ms laws_toIntS.b := ⟨Try.func16, by kernel_rfl, by kernel_rfl⟩
noncomputable def laws_toIntS.fn : Args tab laws_toIntS.as → Option (ResT tab laws_toIntS.rs) := fun x => laws_toIntS x
theorem laws_toIntS.con {δ : Type} : Con Try.prog (KT tab) 16 (calleeS (β := δ) tab laws_toIntS.ms laws_toIntS.as laws_toIntS.rs laws_toIntS.fn) := con_shape (c := laws_toIntS.c) mixed tysOk (getG_con (laws_toIntS.gok _)) laws_toIntS.fok rfl rfl (fun _ => rfl)
noncomputable def laws_toIntS_l0 (v0 : List Int) (v1 : Int) (v2 : List Int) : Option (List Int) := Lw laws_toIntS.c (finish laws_toIntS.c (fiOf (GT tab) Try.f16 laws_toIntS.ms) (decRes tab laws_toIntS.rs)) ((loops laws_toIntS.c.cuts 1000 laws_toIntS.b []).getD 0 []) { slots := [.vs false 3 v0, .undef, .undef, .sl 0 0, .int .i64 v1, .undef, .undef, .undef, .undef, .undef, .undef, .undef, .undef, .undef, .undef, .undef, .undef, .undef, .undef, .undef, .undef, .undef], loc := locOf [.row 0 true 3 v2], nx := 1 }
theorem laws_toIntS.eq (x0 : List Int) : laws_toIntS x0 =
    bif decide ((0 : Int) ≤ (x0.length : Int)) && decide (((x0.length : Int).toNat) * 8 ≤ 140737488355328) then
      laws_toIntS_l0 x0 (0 : Int) (List.replicate ((x0.length : Int).toNat) (0 : Int))
    else
      none := by kernel_rfl
theorem laws_toIntS_l0.eq (v0 : List Int) (v1 : Int) (v2 : List Int) : laws_toIntS_l0 v0 v1 v2 =
    bif decide (v1 < (v0.length : Int)) then
      (at? v0 v1).bind fun y1 =>
      (at? v2 v1).bind fun y2 =>
      v2[v1.toNat]?.bind fun y3 =>
      laws_toIntS_l0 v0 (IntKind.i64.wrap (v1 + (1 : Int))) (v2.set v1.toNat y1)
    else
      some v2 := (Lw_eq tysOk (getG_con (laws_toIntS.gok _)) _ _).trans (by kernel_rfl)

/-! ### laws_eqIntS: loop.example/g00688/laws.eqIntS -/
def laws_eqIntS.ms : List Mode := [.lend, .lend]
def laws_eqIntS.as : List VSh := [.one (.b (.b (.b (.b (.sl false false 3))))), .one (.b (.b (.b (.b (.sl false false 3)))))]
def laws_eqIntS.rs : RSh := ⟨[.one (.b (.b (.b (.b (.bool)))))], [none, none]⟩
noncomputable def laws_eqIntS.gs (δ : Type) : List (Nat × Callee (GT tab) δ) := []
theorem laws_eqIntS.gok (δ : Type) : AllCon Try.prog tab (laws_eqIntS.gs δ) := .nil
noncomputable def laws_eqIntS.c : Ctx (GT tab) (KT tab) (ResT tab laws_eqIntS.rs) := { X := XT tab, ty := tyOf tys, inner := fun _ => true, keep := keepOf 0 laws_eqIntS.ms, cuts := [], live := liveOf [(4, [0, 1, 5])], G := getG (laws_eqIntS.gs _) }
noncomputable def laws_eqIntS.b : Code := bodyOf Try.f18
noncomputable def laws_eqIntS (x0 : List Int) (x1 : List Int) : Option (Bool) := callW laws_eqIntS.c (fiOf (GT tab) Try.f18 laws_eqIntS.ms) laws_eqIntS.b (decRes tab laws_eqIntS.rs) (encArgs tab laws_eqIntS.as (x0, x1))
theorem laws_eqIntS.fok : FnOk Try.prog 18 Try.f18 laws_eqIntS.ms laws_eqIntS.b := ⟨Try.func18, by kernel_rfl, by kernel_rfl⟩
noncomputable def laws_eqIntS.fn : Args tab laws_eqIntS.as → Option (ResT tab laws_eqIntS.rs) := fun x => laws_eqIntS x.1 x.2
theorem laws_eqIntS.con {δ : Type} : Con Try.prog (KT tab) 18 (calleeS (β := δ) tab laws_eqIntS.ms laws_eqIntS.as laws_eqIntS.rs laws_eqIntS.fn) := con_shape (c := laws_eqIntS.c) mixed tysOk (getG_con (laws_eqIntS.gok _)) laws_eqIntS.fok rfl rfl (fun _ => rfl)
noncomputable def laws_eqIntS_l0 (v0 : List Int) (v1 : List Int) (v2 : Int) : Option (Bool) := Lw laws_eqIntS.c (finish laws_eqIntS.c (fiOf (GT tab) Try.f18 laws_eqIntS.ms) (decRes tab laws_eqIntS.rs)) ((loops laws_eqIntS.c.cuts 1000 laws_eqIntS.b []).getD 0 []) { slots := [.vs false 3 v0, .vs false 3 v1, .undef, .undef, .undef, .int .i64 v2, .undef, .undef, .undef, .undef, .undef, .undef, .undef, .undef, .undef, .undef, .undef, .undef, .undef, .undef, .undef, .undef, .undef, .undef, .undef, .undef], loc := locOf [], nx := 0 }
theorem laws_eqIntS.eq (x0 : List Int) (x1 : List Int) : laws_eqIntS x0 x1 =
    bif (x0.length : Int) != (x1.length : Int) then
      some false
    else
      laws_eqIntS_l0 x0 x1 (0 : Int) := by kernel_rfl
theorem laws_eqIntS_l0.eq (v0 : List Int) (v1 : List Int) (v2 : Int) : laws_eqIntS_l0 v0 v1 v2 =
    bif decide (v2 < (v0.length : Int)) then
      (at? v0 v2).bind fun y1 =>
      (at? v1 v2).bind fun y2 =>
      bif y1 != y2 then
        some false
      else
        laws_eqIntS_l0 v0 v1 (IntKind.i64.wrap (v2 + (1 : Int)))
    else
      some true := (Lw_eq tysOk (getG_con (laws_eqIntS.gok _)) _ _).trans (by kernel_rfl)

end Go.Ev.W
