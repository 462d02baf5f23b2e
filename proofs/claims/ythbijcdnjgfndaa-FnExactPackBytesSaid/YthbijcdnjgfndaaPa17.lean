/- What functions of the program come to. -/
import Derived.Test.YthbijcdnjgfndaaPaT
namespace Go.Ev.W
open Go.Ev Go.Proofs
set_option maxRecDepth 100000
set_option linter.unusedVariables false

/-! ### laws_markCopyS: loop.example/g00688/laws.markCopyS -/
def laws_markCopyS.ms : List Mode := [.keep, .lend]
def laws_markCopyS.as : List VSh := [.one (.b (.b (.b (.b (.sl true true 61))))), .one (.b (.b (.b (.b (.int .i64)))))]
def laws_markCopyS.rs : RSh := ⟨[.one (.b (.b (.b (.b (.int .i64)))))], [some (.one (.b (.b (.b (.b (.sl true true 61)))))), none]⟩
noncomputable def laws_markCopyS.gs (δ : Type) : List (Nat × Callee (GT tab) δ) := []
theorem laws_markCopyS.gok (δ : Type) : AllCon Try.prog tab (laws_markCopyS.gs δ) := .nil
noncomputable def laws_markCopyS.c : Ctx (GT tab) (KT tab) (ResT tab laws_markCopyS.rs) := { X := XT tab, ty := tyOf tys, inner := fun _ => true, keep := keepOf 0 laws_markCopyS.ms, cuts := [], live := liveOf [(2, [0, 1, 5])], G := getG (laws_markCopyS.gs _) }
noncomputable def laws_markCopyS.b : Code := bodyOf Try.f30
noncomputable def laws_markCopyS (x0 : List (Int × Int × Int)) (x1 : Int) : Option (Int × (List (Int × Int × Int))) := callW laws_markCopyS.c (fiOf (GT tab) Try.f30 laws_markCopyS.ms) laws_markCopyS.b (decRes tab laws_markCopyS.rs) (encArgs tab laws_markCopyS.as (x0, x1))
theorem laws_markCopyS.fok : FnOk Try.prog 30 Try.f30 laws_markCopyS.ms laws_markCopyS.b := ⟨Try.func30, by kernel_rfl, by kernel_rfl⟩
noncomputable def laws_markCopyS.fn : Args tab laws_markCopyS.as → Option (ResT tab laws_markCopyS.rs) := fun x => laws_markCopyS x.1 x.2
theorem laws_markCopyS.con {δ : Type} : Con Try.prog (KT tab) 30 (calleeS (β := δ) tab laws_markCopyS.ms laws_markCopyS.as laws_markCopyS.rs laws_markCopyS.fn) := con_shape (c := laws_markCopyS.c) mixed tysOk (getG_con (laws_markCopyS.gok _)) laws_markCopyS.fok rfl rfl (fun _ => rfl)
noncomputable def laws_markCopyS_l0 (v0 : Int) (v1 : Int) (v2 : List (Int × Int × Int)) : Option (Int × (List (Int × Int × Int))) := Lw laws_markCopyS.c (finish laws_markCopyS.c (fiOf (GT tab) Try.f30 laws_markCopyS.ms) (decRes tab laws_markCopyS.rs)) ((loops laws_markCopyS.c.cuts 1000 laws_markCopyS.b []).getD 0 []) { slots := [.sl 0 0, .int .i64 v0, .undef, .undef, .undef, .int .i64 v1, .undef, .undef, .undef, .undef, .undef, .undef, .undef, .undef, .undef, .undef, .undef, .undef, .undef, .undef, .undef, .undef, .undef, .undef, .undef, .undef, .undef, .undef, .undef, .undef, .undef, .undef, .undef, .undef], loc := locOf [.row 0 true 61 v2], nx := 1 }
theorem laws_markCopyS.eq (x0 : List (Int × Int × Int)) (x1 : Int) : laws_markCopyS x0 x1 =
    laws_markCopyS_l0 x1 (0 : Int) x0 := by kernel_rfl
theorem laws_markCopyS_l0.eq (v0 : Int) (v1 : Int) (v2 : List (Int × Int × Int)) : laws_markCopyS_l0 v0 v1 v2 =
    bif decide (v1 < (v2.length : Int)) then
      (at? v2 v1).bind fun y1 =>
      v2[v1.toNat]?.bind fun y2 =>
      (at? (v2.set v1.toNat (v0, y2.2.1, y2.2.2)) v1).bind fun y3 =>
      (v2.set v1.toNat (v0, y2.2.1, y2.2.2))[v1.toNat]?.bind fun y4 =>
      (at? ((v2.set v1.toNat (v0, y2.2.1, y2.2.2)).set v1.toNat (y4.1, IntKind.i64.wrap (v0 + (1 : Int)), y4.2.2)) v1).bind fun y5 =>
      ((v2.set v1.toNat (v0, y2.2.1, y2.2.2)).set v1.toNat (y4.1, IntKind.i64.wrap (v0 + (1 : Int)), y4.2.2))[v1.toNat]?.bind fun y6 =>
      laws_markCopyS_l0 (IntKind.i64.wrap ((IntKind.i64.wrap ((IntKind.i64.wrap (v0 + (1 : Int))) + (1 : Int))) + (1 : Int))) (IntKind.i64.wrap (v1 + (1 : Int))) (((v2.set v1.toNat (v0, y2.2.1, y2.2.2)).set v1.toNat (y4.1, IntKind.i64.wrap (v0 + (1 : Int)), y4.2.2)).set v1.toNat (y6.1, y6.2.1, IntKind.i64.wrap ((IntKind.i64.wrap (v0 + (1 : Int))) + (1 : Int))))
    else
      some (v0, v2) := (Lw_eq tysOk (getG_con (laws_markCopyS.gok _)) _ _).trans (by kernel_rfl)

end Go.Ev.W
