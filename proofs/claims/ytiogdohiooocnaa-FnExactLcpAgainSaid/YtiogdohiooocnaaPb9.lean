/- What functions of the program come to. -/
import Derived.Test.YtiogdohiooocnaaPbT
namespace Go.Ev.W
open Go.Ev Go.Proofs
set_option maxRecDepth 100000
set_option linter.unusedVariables false

/-! ### laws_eqIntS: loop.example/g00688/laws.eqIntS -/
def laws_eqIntS.ms : List Mode := [.lend, .lend]
def laws_eqIntS.as : List VSh := [.one (.b (.b (.b (.b (.sl false false 3))))), .one (.b (.b (.b (.b (.sl false false 3)))))]
def laws_eqIntS.rs : RSh := ⟨[.one (.b (.b (.b (.b (.bool)))))], [none, none]⟩
noncomputable def laws_eqIntS.gs (δ : Type) : List (Nat × Callee (GT tab) δ) := []
theorem laws_eqIntS.gok (δ : Type) : AllCon Try.prog tab (laws_eqIntS.gs δ) := .nil
noncomputable def laws_eqIntS.c : Ctx (GT tab) (KT tab) (ResT tab laws_eqIntS.rs) := { X := XT tab, ty := tyOf tys, inner := fun _ => true, keep := keepOf 0 laws_eqIntS.ms, cuts := [], live := liveOf [(4, [0, 1, 5])], G := getG (laws_eqIntS.gs _) }
noncomputable def laws_eqIntS.b : Code := bodyOf Try.f28
noncomputable def laws_eqIntS (x0 : List Int) (x1 : List Int) : Option (Bool) := callW laws_eqIntS.c (fiOf (GT tab) Try.f28 laws_eqIntS.ms) laws_eqIntS.b (decRes tab laws_eqIntS.rs) (encArgs tab laws_eqIntS.as (x0, x1))
theorem laws_eqIntS.fok : FnOk Try.prog 28 Try.f28 laws_eqIntS.ms laws_eqIntS.b := ⟨Try.func28, by kernel_rfl, by kernel_rfl⟩
noncomputable def laws_eqIntS.fn : Args tab laws_eqIntS.as → Option (ResT tab laws_eqIntS.rs) := fun x => laws_eqIntS x.1 x.2
theorem laws_eqIntS.con {δ : Type} : Con Try.prog (KT tab) 28 (calleeS (β := δ) tab laws_eqIntS.ms laws_eqIntS.as laws_eqIntS.rs laws_eqIntS.fn) := con_shape (c := laws_eqIntS.c) mixed tysOk (getG_con (laws_eqIntS.gok _)) laws_eqIntS.fok rfl rfl (fun _ => rfl)
noncomputable def laws_eqIntS_l0 (v0 : List Int) (v1 : List Int) (v2 : Int) : Option (Bool) := Lw laws_eqIntS.c (finish laws_eqIntS.c (fiOf (GT tab) Try.f28 laws_eqIntS.ms) (decRes tab laws_eqIntS.rs)) ((loops laws_eqIntS.c.cuts 1000 laws_eqIntS.b []).getD 0 []) { slots := [.vs false 3 v0, .vs false 3 v1, .undef, .undef, .undef, .int .i64 v2, .undef, .undef, .undef, .undef, .undef, .undef, .undef, .undef, .undef, .undef, .undef, .undef, .undef, .undef, .undef, .undef, .undef, .undef, .undef, .undef], loc := locOf [], nx := 0 }
theorem laws_eqIntS.eq (x0 : List Int) (x1 : List Int) : laws_eqIntS x0 x1 =
    bif (x0.length : Int) != (x1.length : Int) then
      some false
    else
      laws_eqIntS_l0 x0 x1 (0 : Int) := by kernel_rfl
theorem laws_eqIntS_l0.eq (v0 : List Int) (v1 : List Int) (v2 : Int) : laws_eqIntS_l0 v0 v1 v2 =
    bif decide (v2 < (v0.length : Int)) then
      (at? v0 v2).bind fun y1 =>
      (at? v1 v2).bind fun y2 =>
      bif y1 != y2 then
        some false
      else
        laws_eqIntS_l0 v0 v1 (IntKind.i64.wrap (v2 + (1 : Int)))
    else
      some true := (Lw_eq tysOk (getG_con (laws_eqIntS.gok _)) _ _).trans (by kernel_rfl)

/-! ### laws_markIntS: loop.example/g00688/laws.markIntS -/
def laws_markIntS.ms : List Mode := [.keep, .lend]
def laws_markIntS.as : List VSh := [.one (.b (.b (.b (.b (.sl true true 3))))), .one (.b (.b (.b (.b (.int .i64)))))]
def laws_markIntS.rs : RSh := ⟨[.one (.b (.b (.b (.b (.int .i64)))))], [some (.one (.b (.b (.b (.b (.sl true true 3)))))), none]⟩
noncomputable def laws_markIntS.gs (δ : Type) : List (Nat × Callee (GT tab) δ) := []
theorem laws_markIntS.gok (δ : Type) : AllCon Try.prog tab (laws_markIntS.gs δ) := .nil
noncomputable def laws_markIntS.c : Ctx (GT tab) (KT tab) (ResT tab laws_markIntS.rs) := { X := XT tab, ty := tyOf tys, inner := fun _ => true, keep := keepOf 0 laws_markIntS.ms, cuts := [], live := liveOf [(2, [0, 1, 5])], G := getG (laws_markIntS.gs _) }
noncomputable def laws_markIntS.b : Code := bodyOf Try.f31
noncomputable def laws_markIntS (x0 : List Int) (x1 : Int) : Option (Int × (List Int)) := callW laws_markIntS.c (fiOf (GT tab) Try.f31 laws_markIntS.ms) laws_markIntS.b (decRes tab laws_markIntS.rs) (encArgs tab laws_markIntS.as (x0, x1))
theorem laws_markIntS.fok : FnOk Try.prog 31 Try.f31 laws_markIntS.ms laws_markIntS.b := ⟨Try.func31, by kernel_rfl, by kernel_rfl⟩
noncomputable def laws_markIntS.fn : Args tab laws_markIntS.as → Option (ResT tab laws_markIntS.rs) := fun x => laws_markIntS x.1 x.2
theorem laws_markIntS.con {δ : Type} : Con Try.prog (KT tab) 31 (calleeS (β := δ) tab laws_markIntS.ms laws_markIntS.as laws_markIntS.rs laws_markIntS.fn) := con_shape (c := laws_markIntS.c) mixed tysOk (getG_con (laws_markIntS.gok _)) laws_markIntS.fok rfl rfl (fun _ => rfl)
noncomputable def laws_markIntS_l0 (v0 : Int) (v1 : Int) (v2 : List Int) : Option (Int × (List Int)) := Lw laws_markIntS.c (finish laws_markIntS.c (fiOf (GT tab) Try.f31 laws_markIntS.ms) (decRes tab laws_markIntS.rs)) ((loops laws_markIntS.c.cuts 1000 laws_markIntS.b []).getD 0 []) { slots := [.sl 0 0, .int .i64 v0, .undef, .undef, .undef, .int .i64 v1, .undef, .undef, .undef, .undef, .undef, .undef, .undef, .undef, .undef, .undef, .undef, .undef, .undef], loc := locOf [.row 0 true 3 v2], nx := 1 }
theorem laws_markIntS.eq (x0 : List Int) (x1 : Int) : laws_markIntS x0 x1 =
    laws_markIntS_l0 x1 (0 : Int) x0 := by kernel_rfl
theorem laws_markIntS_l0.eq (v0 : Int) (v1 : Int) (v2 : List Int) : laws_markIntS_l0 v0 v1 v2 =
    bif decide (v1 < (v2.length : Int)) then
      (at? v2 v1).bind fun y1 =>
      v2[v1.toNat]?.bind fun y2 =>
      laws_markIntS_l0 (IntKind.i64.wrap (v0 + (1 : Int))) (IntKind.i64.wrap (v1 + (1 : Int))) (v2.set v1.toNat v0)
    else
      some (v0, v2) := (Lw_eq tysOk (getG_con (laws_markIntS.gok _)) _ _).trans (by kernel_rfl)

end Go.Ev.W
