/- What functions of the program come to. -/
import Derived.Test.YtiogdohiooocnaaPbT
namespace Go.Ev.W
open Go.Ev Go.Proofs
set_option maxRecDepth 100000
set_option linter.unusedVariables false

/-! ### laws_eqUint64S: loop.example/g00688/laws.eqUint64S -/
def laws_eqUint64S.ms : List Mode := [.lend, .lend]
def laws_eqUint64S.as : List VSh := [.one (.b (.b (.b (.b (.sl false false 117))))), .one (.b (.b (.b (.b (.sl false false 117)))))]
def laws_eqUint64S.rs : RSh := ⟨[.one (.b (.b (.b (.b (.bool)))))], [none, none]⟩
noncomputable def laws_eqUint64S.gs (δ : Type) : List (Nat × Callee (GT tab) δ) := []
theorem laws_eqUint64S.gok (δ : Type) : AllCon Try.prog tab (laws_eqUint64S.gs δ) := .nil
noncomputable def laws_eqUint64S.c : Ctx (GT tab) (KT tab) (ResT tab laws_eqUint64S.rs) := { X := XT tab, ty := tyOf tys, inner := fun _ => true, keep := keepOf 0 laws_eqUint64S.ms, cuts := [], live := liveOf [(4, [0, 1, 5])], G := getG (laws_eqUint64S.gs _) }
noncomputable def laws_eqUint64S.b : Code := bodyOf Try.f141
noncomputable def laws_eqUint64S (x0 : List Int) (x1 : List Int) : Option (Bool) := callW laws_eqUint64S.c (fiOf (GT tab) Try.f141 laws_eqUint64S.ms) laws_eqUint64S.b (decRes tab laws_eqUint64S.rs) (encArgs tab laws_eqUint64S.as (x0, x1))
theorem laws_eqUint64S.fok : FnOk Try.prog 141 Try.f141 laws_eqUint64S.ms laws_eqUint64S.b := ⟨Try.func141, by kernel_rfl, by kernel_rfl⟩
noncomputable def laws_eqUint64S.fn : Args tab laws_eqUint64S.as → Option (ResT tab laws_eqUint64S.rs) := fun x => laws_eqUint64S x.1 x.2
theorem laws_eqUint64S.con {δ : Type} : Con Try.prog (KT tab) 141 (calleeS (β := δ) tab laws_eqUint64S.ms laws_eqUint64S.as laws_eqUint64S.rs laws_eqUint64S.fn) := con_shape (c := laws_eqUint64S.c) mixed tysOk (getG_con (laws_eqUint64S.gok _)) laws_eqUint64S.fok rfl rfl (fun _ => rfl)
noncomputable def laws_eqUint64S_l0 (v0 : List Int) (v1 : List Int) (v2 : Int) : Option (Bool) := Lw laws_eqUint64S.c (finish laws_eqUint64S.c (fiOf (GT tab) Try.f141 laws_eqUint64S.ms) (decRes tab laws_eqUint64S.rs)) ((loops laws_eqUint64S.c.cuts 1000 laws_eqUint64S.b []).getD 0 []) { slots := [.vs false 117 v0, .vs false 117 v1, .undef, .undef, .undef, .int .i64 v2, .undef, .undef, .undef, .undef, .undef, .undef, .undef, .undef, .undef, .undef, .undef, .undef, .undef, .undef, .undef, .undef, .undef, .undef, .undef, .undef], loc := locOf [], nx := 0 }
theorem laws_eqUint64S.eq (x0 : List Int) (x1 : List Int) : laws_eqUint64S x0 x1 =
    bif (x0.length : Int) != (x1.length : Int) then
      some false
    else
      laws_eqUint64S_l0 x0 x1 (0 : Int) := by kernel_rfl
theorem laws_eqUint64S_l0.eq (v0 : List Int) (v1 : List Int) (v2 : Int) : laws_eqUint64S_l0 v0 v1 v2 =
    bif decide (v2 < (v0.length : Int)) then
      (at? v0 v2).bind fun y1 =>
      (at? v1 v2).bind fun y2 =>
      bif y1 != y2 then
        some false
      else
        laws_eqUint64S_l0 v0 v1 (IntKind.i64.wrap (v2 + (1 : Int)))
    else
      some true := (Lw_eq tysOk (getG_con (laws_eqUint64S.gok _)) _ _).trans (by kernel_rfl)

/-! ### laws_eqBits: loop.example/g00688/laws.eqBits -/
def laws_eqBits.ms : List Mode := [.lend, .lend]
def laws_eqBits.as : List VSh := [.agg [.int .i64, .sl false false 117], .agg [.int .i64, .sl false false 117]]
def laws_eqBits.rs : RSh := ⟨[.one (.b (.b (.b (.b (.bool)))))], [none, none]⟩
noncomputable def laws_eqBits.gs (δ : Type) : List (Nat × Callee (GT tab) δ) := [(141, calleeS tab laws_eqUint64S.ms laws_eqUint64S.as laws_eqUint64S.rs laws_eqUint64S.fn)]
theorem laws_eqBits.gok (δ : Type) : AllCon Try.prog tab (laws_eqBits.gs δ) := .cons laws_eqUint64S.con (.nil)
noncomputable def laws_eqBits.c : Ctx (GT tab) (KT tab) (ResT tab laws_eqBits.rs) := { X := XT tab, ty := tyOf tys, inner := fun _ => true, keep := keepOf 0 laws_eqBits.ms, cuts := [], live := liveOf [], G := getG (laws_eqBits.gs _) }
noncomputable def laws_eqBits.b : Code := bodyOf Try.f84
noncomputable def laws_eqBits (x0 : Int × (List Int)) (x1 : Int × (List Int)) : Option (Bool) := callW laws_eqBits.c (fiOf (GT tab) Try.f84 laws_eqBits.ms) laws_eqBits.b (decRes tab laws_eqBits.rs) (encArgs tab laws_eqBits.as (x0, x1))
theorem laws_eqBits.fok : FnOk Try.prog 84 Try.f84 laws_eqBits.ms laws_eqBits.b := ⟨Try.func84, by kernel_rfl, by kernel_rfl⟩
noncomputable def laws_eqBits.fn : Args tab laws_eqBits.as → Option (ResT tab laws_eqBits.rs) := fun x => laws_eqBits x.1 x.2
theorem laws_eqBits.con {δ : Type} : Con Try.prog (KT tab) 84 (calleeS (β := δ) tab laws_eqBits.ms laws_eqBits.as laws_eqBits.rs laws_eqBits.fn) := con_shape (c := laws_eqBits.c) mixed tysOk (getG_con (laws_eqBits.gok _)) laws_eqBits.fok rfl rfl (fun _ => rfl)
theorem laws_eqBits.eq (x0 : Int × (List Int)) (x1 : Int × (List Int)) : laws_eqBits x0 x1 =
    bif x0.1 != x1.1 then
      some false
    else
      (laws_eqUint64S x0.2 x1.2).bind fun y1 =>
      bif !y1 then
        some false
      else
        some true := by kernel_rfl

/-! ### laws_markUint64S: loop.example/g00688/laws.markUint64S -/
def laws_markUint64S.ms : List Mode := [.keep, .lend]
def laws_markUint64S.as : List VSh := [.one (.b (.b (.b (.b (.sl true true 117))))), .one (.b (.b (.b (.b (.int .i64)))))]
def laws_markUint64S.rs : RSh := ⟨[.one (.b (.b (.b (.b (.int .i64)))))], [some (.one (.b (.b (.b (.b (.sl true true 117)))))), none]⟩
noncomputable def laws_markUint64S.gs (δ : Type) : List (Nat × Callee (GT tab) δ) := []
theorem laws_markUint64S.gok (δ : Type) : AllCon Try.prog tab (laws_markUint64S.gs δ) := .nil
noncomputable def laws_markUint64S.c : Ctx (GT tab) (KT tab) (ResT tab laws_markUint64S.rs) := { X := XT tab, ty := tyOf tys, inner := fun _ => true, keep := keepOf 0 laws_markUint64S.ms, cuts := [], live := liveOf [(2, [0, 1, 5])], G := getG (laws_markUint64S.gs _) }
noncomputable def laws_markUint64S.b : Code := bodyOf Try.f124
noncomputable def laws_markUint64S (x0 : List Int) (x1 : Int) : Option (Int × (List Int)) := callW laws_markUint64S.c (fiOf (GT tab) Try.f124 laws_markUint64S.ms) laws_markUint64S.b (decRes tab laws_markUint64S.rs) (encArgs tab laws_markUint64S.as (x0, x1))
theorem laws_markUint64S.fok : FnOk Try.prog 124 Try.f124 laws_markUint64S.ms laws_markUint64S.b := ⟨Try.func124, by kernel_rfl, by kernel_rfl⟩
noncomputable def laws_markUint64S.fn : Args tab laws_markUint64S.as → Option (ResT tab laws_markUint64S.rs) := fun x => laws_markUint64S x.1 x.2
theorem laws_markUint64S.con {δ : Type} : Con Try.prog (KT tab) 124 (calleeS (β := δ) tab laws_markUint64S.ms laws_markUint64S.as laws_markUint64S.rs laws_markUint64S.fn) := con_shape (c := laws_markUint64S.c) mixed tysOk (getG_con (laws_markUint64S.gok _)) laws_markUint64S.fok rfl rfl (fun _ => rfl)
noncomputable def laws_markUint64S_l0 (v0 : Int) (v1 : Int) (v2 : List Int) : Option (Int × (List Int)) := Lw laws_markUint64S.c (finish laws_markUint64S.c (fiOf (GT tab) Try.f124 laws_markUint64S.ms) (decRes tab laws_markUint64S.rs)) ((loops laws_markUint64S.c.cuts 1000 laws_markUint64S.b []).getD 0 []) { slots := [.sl 0 0, .int .i64 v0, .undef, .undef, .undef, .int .i64 v1, .undef, .undef, .undef, .undef, .undef, .undef, .undef, .undef, .undef, .undef, .undef, .undef, .undef, .undef], loc := locOf [.row 0 true 117 v2], nx := 1 }
theorem laws_markUint64S.eq (x0 : List Int) (x1 : Int) : laws_markUint64S x0 x1 =
    laws_markUint64S_l0 x1 (0 : Int) x0 := by kernel_rfl
theorem laws_markUint64S_l0.eq (v0 : Int) (v1 : Int) (v2 : List Int) : laws_markUint64S_l0 v0 v1 v2 =
    bif decide (v1 < (v2.length : Int)) then
      (at? v2 v1).bind fun y1 =>
      v2[v1.toNat]?.bind fun y2 =>
      laws_markUint64S_l0 (IntKind.i64.wrap (v0 + (1 : Int))) (IntKind.i64.wrap (v1 + (1 : Int))) (v2.set v1.toNat (IntKind.u64.wrap v0))
    else
      some (v0, v2) := (Lw_eq tysOk (getG_con (laws_markUint64S.gok _)) _ _).trans (by kernel_rfl)

end Go.Ev.W
