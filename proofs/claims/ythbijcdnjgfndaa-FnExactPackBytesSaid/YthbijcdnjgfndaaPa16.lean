/- What functions of the program come to. -/
import Derived.Test.YthbijcdnjgfndaaPaT
namespace Go.Ev.W
open Go.Ev Go.Proofs
set_option maxRecDepth 100000
set_option linter.unusedVariables false

/-! ### laws_eqCopy: loop.example/g00688/laws.eqCopy -/
def laws_eqCopy.ms : List Mode := [.lend, .lend]
def laws_eqCopy.as : List VSh := [.agg [.int .i64, .int .i64, .int .i64], .agg [.int .i64, .int .i64, .int .i64]]
def laws_eqCopy.rs : RSh := ⟨[.one (.b (.b (.b (.b (.bool)))))], [none, none]⟩
noncomputable def laws_eqCopy.gs (δ : Type) : List (Nat × Callee (GT tab) δ) := []
theorem laws_eqCopy.gok (δ : Type) : AllCon Try.prog tab (laws_eqCopy.gs δ) := .nil
noncomputable def laws_eqCopy.c : Ctx (GT tab) (KT tab) (ResT tab laws_eqCopy.rs) := { X := XT tab, ty := tyOf tys, inner := fun _ => true, keep := keepOf 0 laws_eqCopy.ms, cuts := [], live := liveOf [], G := getG (laws_eqCopy.gs _) }
noncomputable def laws_eqCopy.b : Code := bodyOf Try.f68
noncomputable def laws_eqCopy (x0 : Int × Int × Int) (x1 : Int × Int × Int) : Option (Bool) := callW laws_eqCopy.c (fiOf (GT tab) Try.f68 laws_eqCopy.ms) laws_eqCopy.b (decRes tab laws_eqCopy.rs) (encArgs tab laws_eqCopy.as (x0, x1))
theorem laws_eqCopy.fok : FnOk Try.prog 68 Try.f68 laws_eqCopy.ms laws_eqCopy.b := ⟨Try.func68, by kernel_rfl, by kernel_rfl⟩
noncomputable def laws_eqCopy.fn : Args tab laws_eqCopy.as → Option (ResT tab laws_eqCopy.rs) := fun x => laws_eqCopy x.1 x.2
theorem laws_eqCopy.con {δ : Type} : Con Try.prog (KT tab) 68 (calleeS (β := δ) tab laws_eqCopy.ms laws_eqCopy.as laws_eqCopy.rs laws_eqCopy.fn) := con_shape (c := laws_eqCopy.c) mixed tysOk (getG_con (laws_eqCopy.gok _)) laws_eqCopy.fok rfl rfl (fun _ => rfl)
theorem laws_eqCopy.eq (x0 : Int × Int × Int) (x1 : Int × Int × Int) : laws_eqCopy x0 x1 =
    bif x0.1 != x1.1 then
      some false
    else
      bif x0.2.1 != x1.2.1 then
        some false
      else
        bif x0.2.2 != x1.2.2 then
          some false
        else
          some true := by kernel_rfl

/-! ### laws_eqCopyS: loop.example/g00688/laws.eqCopyS -/
def laws_eqCopyS.ms : List Mode := [.lend, .lend]
def laws_eqCopyS.as : List VSh := [.one (.b (.b (.b (.b (.sl false false 61))))), .one (.b (.b (.b (.b (.sl false false 61)))))]
def laws_eqCopyS.rs : RSh := ⟨[.one (.b (.b (.b (.b (.bool)))))], [none, none]⟩
noncomputable def laws_eqCopyS.gs (δ : Type) : List (Nat × Callee (GT tab) δ) := [(68, calleeS tab laws_eqCopy.ms laws_eqCopy.as laws_eqCopy.rs laws_eqCopy.fn)]
theorem laws_eqCopyS.gok (δ : Type) : AllCon Try.prog tab (laws_eqCopyS.gs δ) := .cons laws_eqCopy.con (.nil)
noncomputable def laws_eqCopyS.c : Ctx (GT tab) (KT tab) (ResT tab laws_eqCopyS.rs) := { X := XT tab, ty := tyOf tys, inner := fun _ => true, keep := keepOf 0 laws_eqCopyS.ms, cuts := [], live := liveOf [(4, [0, 1, 5])], G := getG (laws_eqCopyS.gs _) }
noncomputable def laws_eqCopyS.b : Code := bodyOf Try.f27
noncomputable def laws_eqCopyS (x0 : List (Int × Int × Int)) (x1 : List (Int × Int × Int)) : Option (Bool) := callW laws_eqCopyS.c (fiOf (GT tab) Try.f27 laws_eqCopyS.ms) laws_eqCopyS.b (decRes tab laws_eqCopyS.rs) (encArgs tab laws_eqCopyS.as (x0, x1))
theorem laws_eqCopyS.fok : FnOk Try.prog 27 Try.f27 laws_eqCopyS.ms laws_eqCopyS.b := ⟨Try.func27, by kernel_rfl, by kernel_rfl⟩
noncomputable def laws_eqCopyS.fn : Args tab laws_eqCopyS.as → Option (ResT tab laws_eqCopyS.rs) := fun x => laws_eqCopyS x.1 x.2
theorem laws_eqCopyS.con {δ : Type} : Con Try.prog (KT tab) 27 (calleeS (β := δ) tab laws_eqCopyS.ms laws_eqCopyS.as laws_eqCopyS.rs laws_eqCopyS.fn) := con_shape (c := laws_eqCopyS.c) mixed tysOk (getG_con (laws_eqCopyS.gok _)) laws_eqCopyS.fok rfl rfl (fun _ => rfl)
noncomputable def laws_eqCopyS_l0 (v0 : List (Int × Int × Int)) (v1 : List (Int × Int × Int)) (v2 : Int) : Option (Bool) := Lw laws_eqCopyS.c (finish laws_eqCopyS.c (fiOf (GT tab) Try.f27 laws_eqCopyS.ms) (decRes tab laws_eqCopyS.rs)) ((loops laws_eqCopyS.c.cuts 1000 laws_eqCopyS.b []).getD 0 []) { slots := [.vs false 61 v0, .vs false 61 v1, .undef, .undef, .undef, .int .i64 v2, .undef, .undef, .undef, .undef, .undef, .undef, .undef, .undef, .undef, .undef, .undef, .undef, .undef, .undef, .undef, .undef, .undef, .undef, .undef, .undef, .undef], loc := locOf [], nx := 0 }
theorem laws_eqCopyS.eq (x0 : List (Int × Int × Int)) (x1 : List (Int × Int × Int)) : laws_eqCopyS x0 x1 =
    bif (x0.length : Int) != (x1.length : Int) then
      some false
    else
      laws_eqCopyS_l0 x0 x1 (0 : Int) := by kernel_rfl
theorem laws_eqCopyS_l0.eq (v0 : List (Int × Int × Int)) (v1 : List (Int × Int × Int)) (v2 : Int) : laws_eqCopyS_l0 v0 v1 v2 =
    bif decide (v2 < (v0.length : Int)) then
      (at? v0 v2).bind fun y1 =>
      (at? v1 v2).bind fun y2 =>
      (laws_eqCopy (y1.1, y1.2.1, y1.2.2) (y2.1, y2.2.1, y2.2.2)).bind fun y3 =>
      bif !y3 then
        some false
      else
        laws_eqCopyS_l0 v0 v1 (IntKind.i64.wrap (v2 + (1 : Int)))
    else
      some true := (Lw_eq tysOk (getG_con (laws_eqCopyS.gok _)) _ _).trans (by kernel_rfl)

end Go.Ev.W
