/- What functions of the program come to. -/
import Derived.Test.YtddhebliggkadaaGreatPcT
namespace Go.Ev.W
open Go.Ev Go.Proofs
set_option maxRecDepth 100000
set_option linter.unusedVariables false

/-! ### laws_heldByteS: loop.example/g00688/laws.heldByteS -/
def laws_heldByteS.ms : List Mode := [.lend, .lend]
def laws_heldByteS.as : List VSh := [.one (.b (.b (.b (.b (.sl false false 5))))), .one (.b (.b (.b (.b (.int .i64)))))]
def laws_heldByteS.rs : RSh := ⟨[.one (.b (.b (.b (.b (.int .i64)))))], [none, none]⟩
noncomputable def laws_heldByteS.gs (δ : Type) : List (Nat × Callee (GT tab) δ) := []
theorem laws_heldByteS.gok (δ : Type) : AllCon Tryz.prog tab (laws_heldByteS.gs δ) := .nil
noncomputable def laws_heldByteS.c : Ctx (GT tab) (KT tab) (ResT tab laws_heldByteS.rs) := { X := XT tab, ty := tyOf tys, inner := fun _ => true, keep := keepOf 0 laws_heldByteS.ms, cuts := [], live := liveOf [(2, [0, 1, 5])], G := getG (laws_heldByteS.gs _) }
noncomputable def laws_heldByteS.b : Code := bodyOf Tryz.f40
noncomputable def laws_heldByteS (x0 : List Int) (x1 : Int) : Option (Int) := callW laws_heldByteS.c (fiOf (GT tab) Tryz.f40 laws_heldByteS.ms) laws_heldByteS.b (decRes tab laws_heldByteS.rs) (encArgs tab laws_heldByteS.as (x0, x1))
theorem laws_heldByteS.fok : FnOk Tryz.prog 40 Tryz.f40 laws_heldByteS.ms laws_heldByteS.b := ⟨Tryz.func40, by kernel_rfl, by kernel_rfl⟩
noncomputable def laws_heldByteS.fn : Args tab laws_heldByteS.as → Option (ResT tab laws_heldByteS.rs) := fun x => laws_heldByteS x.1 x.2
theorem laws_heldByteS.con {δ : Type} : Con Tryz.prog (KT tab) 40 (calleeS (β := δ) tab laws_heldByteS.ms laws_heldByteS.as laws_heldByteS.rs laws_heldByteS.fn) := con_shape (c := laws_heldByteS.c) mixed tysOk (getG_con (laws_heldByteS.gok _)) laws_heldByteS.fok rfl rfl (fun _ => rfl)
noncomputable def laws_heldByteS_l0 (v0 : List Int) (v1 : Int) (v2 : Int) : Option (Int) := Lw laws_heldByteS.c (finish laws_heldByteS.c (fiOf (GT tab) Tryz.f40 laws_heldByteS.ms) (decRes tab laws_heldByteS.rs)) ((loops laws_heldByteS.c.cuts 1000 laws_heldByteS.b []).getD 0 []) { slots := [.vs false 5 v0, .int .i64 v1, .undef, .undef, .undef, .int .i64 v2, .undef, .undef, .undef, .undef, .undef, .undef, .undef, .undef, .undef, .undef, .undef, .undef, .undef, .undef, .undef, .undef], loc := locOf [], nx := 0 }
theorem laws_heldByteS.eq (x0 : List Int) (x1 : Int) : laws_heldByteS x0 x1 =
    laws_heldByteS_l0 x0 x1 (0 : Int) := by kernel_rfl
theorem laws_heldByteS_l0.eq (v0 : List Int) (v1 : Int) (v2 : Int) : laws_heldByteS_l0 v0 v1 v2 =
    bif decide (v2 < (v0.length : Int)) then
      (at? v0 v2).bind fun y1 =>
      bif y1 != IntKind.u8.wrap v1 then
        some (-1 : Int)
      else
        laws_heldByteS_l0 v0 (IntKind.i64.wrap (v1 + (1 : Int))) (IntKind.i64.wrap (v2 + (1 : Int)))
    else
      some v1 := (Lw_eq tysOk (getG_con (laws_heldByteS.gok _)) _ _).trans (by kernel_rfl)

end Go.Ev.W
