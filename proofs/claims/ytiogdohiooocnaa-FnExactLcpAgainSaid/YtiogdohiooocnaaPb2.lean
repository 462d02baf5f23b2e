/- What functions of the program come to. -/
import Derived.Test.YtiogdohiooocnaaPbT
namespace Go.Ev.W
open Go.Ev Go.Proofs
set_option maxRecDepth 100000
set_option linter.unusedVariables false

/-! ### laws_szUint64S: loop.example/g00688/laws.szUint64S -/
def laws_szUint64S.ms : List Mode := [.lend, .lend]
def laws_szUint64S.as : List VSh := [.one (.b (.b (.b (.b (.sl false false 117))))), .one (.b (.b (.b (.b (.int .i64)))))]
def laws_szUint64S.rs : RSh := ⟨[.one (.b (.b (.b (.b (.int .i64)))))], [none, none]⟩
noncomputable def laws_szUint64S.gs (δ : Type) : List (Nat × Callee (GT tab) δ) := []
theorem laws_szUint64S.gok (δ : Type) : AllCon Try.prog tab (laws_szUint64S.gs δ) := .nil
noncomputable def laws_szUint64S.c : Ctx (GT tab) (KT tab) (ResT tab laws_szUint64S.rs) := { X := XT tab, ty := tyOf tys, inner := fun _ => true, keep := keepOf 0 laws_szUint64S.ms, cuts := [], live := liveOf [], G := getG (laws_szUint64S.gs _) }
noncomputable def laws_szUint64S.b : Code := bodyOf Try.f131
noncomputable def laws_szUint64S (x0 : List Int) (x1 : Int) : Option (Int) := callW laws_szUint64S.c (fiOf (GT tab) Try.f131 laws_szUint64S.ms) laws_szUint64S.b (decRes tab laws_szUint64S.rs) (encArgs tab laws_szUint64S.as (x0, x1))
theorem laws_szUint64S.fok : FnOk Try.prog 131 Try.f131 laws_szUint64S.ms laws_szUint64S.b := ⟨Try.func131, by kernel_rfl, by kernel_rfl⟩
noncomputable def laws_szUint64S.fn : Args tab laws_szUint64S.as → Option (ResT tab laws_szUint64S.rs) := fun x => laws_szUint64S x.1 x.2
theorem laws_szUint64S.con {δ : Type} : Con Try.prog (KT tab) 131 (calleeS (β := δ) tab laws_szUint64S.ms laws_szUint64S.as laws_szUint64S.rs laws_szUint64S.fn) := con_shape (c := laws_szUint64S.c) mixed tysOk (getG_con (laws_szUint64S.gok _)) laws_szUint64S.fok rfl rfl (fun _ => rfl)
theorem laws_szUint64S.eq (x0 : List Int) (x1 : Int) : laws_szUint64S x0 x1 =
    bif decide (IntKind.i64.wrap (x1 - (x0.length : Int)) < (0 : Int)) then
      some (-1 : Int)
    else
      some (IntKind.i64.wrap (x1 - (x0.length : Int))) := by kernel_rfl

/-! ### laws_szBits: loop.example/g00688/laws.szBits -/
def laws_szBits.ms : List Mode := [.lend, .lend]
def laws_szBits.as : List VSh := [.agg [.int .i64, .sl false false 117], .one (.b (.b (.b (.b (.int .i64)))))]
def laws_szBits.rs : RSh := ⟨[.one (.b (.b (.b (.b (.int .i64)))))], [none, none]⟩
noncomputable def laws_szBits.gs (δ : Type) : List (Nat × Callee (GT tab) δ) := [(131, calleeS tab laws_szUint64S.ms laws_szUint64S.as laws_szUint64S.rs laws_szUint64S.fn)]
theorem laws_szBits.gok (δ : Type) : AllCon Try.prog tab (laws_szBits.gs δ) := .cons laws_szUint64S.con (.nil)
noncomputable def laws_szBits.c : Ctx (GT tab) (KT tab) (ResT tab laws_szBits.rs) := { X := XT tab, ty := tyOf tys, inner := fun _ => true, keep := keepOf 0 laws_szBits.ms, cuts := [], live := liveOf [], G := getG (laws_szBits.gs _) }
noncomputable def laws_szBits.b : Code := bodyOf Try.f77
noncomputable def laws_szBits (x0 : Int × (List Int)) (x1 : Int) : Option (Int) := callW laws_szBits.c (fiOf (GT tab) Try.f77 laws_szBits.ms) laws_szBits.b (decRes tab laws_szBits.rs) (encArgs tab laws_szBits.as (x0, x1))
theorem laws_szBits.fok : FnOk Try.prog 77 Try.f77 laws_szBits.ms laws_szBits.b := ⟨Try.func77, by kernel_rfl, by kernel_rfl⟩
noncomputable def laws_szBits.fn : Args tab laws_szBits.as → Option (ResT tab laws_szBits.rs) := fun x => laws_szBits x.1 x.2
theorem laws_szBits.con {δ : Type} : Con Try.prog (KT tab) 77 (calleeS (β := δ) tab laws_szBits.ms laws_szBits.as laws_szBits.rs laws_szBits.fn) := con_shape (c := laws_szBits.c) mixed tysOk (getG_con (laws_szBits.gok _)) laws_szBits.fok rfl rfl (fun _ => rfl)
theorem laws_szBits.eq (x0 : Int × (List Int)) (x1 : Int) : laws_szBits x0 x1 =
    (laws_szUint64S x0.2 x1).bind fun y1 =>
    bif decide (y1 < (0 : Int)) then
      some (-1 : Int)
    else
      some y1 := by kernel_rfl

/-! ### laws_toUint64S: loop.example/g00688/laws.toUint64S -/
def laws_toUint64S.ms : List Mode := [.lend]
def laws_toUint64S.as : List VSh := [.one (.b (.b (.b (.b (.sl false false 117)))))]
def laws_toUint64S.rs : RSh := ⟨[.one (.b (.b (.b (.b (.sl true true 117)))))], [none]⟩
noncomputable def laws_toUint64S.gs (δ : Type) : List (Nat × Callee (GT tab) δ) := []
theorem laws_toUint64S.gok (δ : Type) : AllCon Try.prog tab (laws_toUint64S.gs δ) := .nil
noncomputable def laws_toUint64S.c : Ctx (GT tab) (KT tab) (ResT tab laws_toUint64S.rs) := { X := XT tab, ty := tyOf tys, inner := fun _ => true, keep := keepOf 0 laws_toUint64S.ms, cuts := [], live := liveOf [(3, [0, 3, 4])], G := getG (laws_toUint64S.gs _) }
noncomputable def laws_toUint64S.b : Code := bodyOf Try.f135
noncomputable def laws_toUint64S (x0 : List Int) : Option (List Int) := callW laws_toUint64S.c (fiOf (GT tab) Try.f135 laws_toUint64S.ms) laws_toUint64S.b (decRes tab laws_toUint64S.rs) (encArgs tab laws_toUint64S.as x0)
theorem laws_toUint64S.fok : FnOk Try.prog 135 Try.f135 laws_toUint64S.ms laws_toUint64S.b := ⟨Try.func135, by kernel_rfl, by kernel_rfl⟩
noncomputable def laws_toUint64S.fn : Args tab laws_toUint64S.as → Option (ResT tab laws_toUint64S.rs) := fun x => laws_toUint64S x
theorem laws_toUint64S.con {δ : Type} : Con Try.prog (KT tab) 135 (calleeS (β := δ) tab laws_toUint64S.ms laws_toUint64S.as laws_toUint64S.rs laws_toUint64S.fn) := con_shape (c := laws_toUint64S.c) mixed tysOk (getG_con (laws_toUint64S.gok _)) laws_toUint64S.fok rfl rfl (fun _ => rfl)
noncomputable def laws_toUint64S_l0 (v0 : List Int) (v1 : Int) (v2 : List Int) : Option (List Int) := Lw laws_toUint64S.c (finish laws_toUint64S.c (fiOf (GT tab) Try.f135 laws_toUint64S.ms) (decRes tab laws_toUint64S.rs)) ((loops laws_toUint64S.c.cuts 1000 laws_toUint64S.b []).getD 0 []) { slots := [.vs false 117 v0, .undef, .undef, .sl 0 0, .int .i64 v1, .undef, .undef, .undef, .undef, .undef, .undef, .undef, .undef, .undef, .undef, .undef, .undef, .undef, .undef, .undef, .undef, .undef], loc := locOf [.row 0 true 117 v2], nx := 1 }
theorem laws_toUint64S.eq (x0 : List Int) : laws_toUint64S x0 =
    bif decide ((0 : Int) ≤ (x0.length : Int)) && decide (((x0.length : Int).toNat) * 8 ≤ 140737488355328) then
      laws_toUint64S_l0 x0 (0 : Int) (List.replicate ((x0.length : Int).toNat) (0 : Int))
    else
      none := by kernel_rfl
theorem laws_toUint64S_l0.eq (v0 : List Int) (v1 : Int) (v2 : List Int) : laws_toUint64S_l0 v0 v1 v2 =
    bif decide (v1 < (v0.length : Int)) then
      (at? v0 v1).bind fun y1 =>
      (at? v2 v1).bind fun y2 =>
      v2[v1.toNat]?.bind fun y3 =>
      laws_toUint64S_l0 v0 (IntKind.i64.wrap (v1 + (1 : Int))) (v2.set v1.toNat y1)
    else
      some v2 := (Lw_eq tysOk (getG_con (laws_toUint64S.gok _)) _ _).trans (by kernel_rfl)

/-! ### laws_toBits: loop.example/g00688/laws.toBits -/
def laws_toBits.ms : List Mode := [.lend]
def laws_toBits.as : List VSh := [.agg [.int .i64, .sl false false 117]]
def laws_toBits.rs : RSh := ⟨[.agg [.int .i64, .sl true true 117]], [none]⟩
noncomputable def laws_toBits.gs (δ : Type) : List (Nat × Callee (GT tab) δ) := [(135, calleeS tab laws_toUint64S.ms laws_toUint64S.as laws_toUint64S.rs laws_toUint64S.fn)]
theorem laws_toBits.gok (δ : Type) : AllCon Try.prog tab (laws_toBits.gs δ) := .cons laws_toUint64S.con (.nil)
noncomputable def laws_toBits.c : Ctx (GT tab) (KT tab) (ResT tab laws_toBits.rs) := { X := XT tab, ty := tyOf tys, inner := fun _ => true, keep := keepOf 0 laws_toBits.ms, cuts := [], live := liveOf [], G := getG (laws_toBits.gs _) }
noncomputable def laws_toBits.b : Code := bodyOf Try.f81
noncomputable def laws_toBits (x0 : Int × (List Int)) : Option (Int × (List Int)) := callW laws_toBits.c (fiOf (GT tab) Try.f81 laws_toBits.ms) laws_toBits.b (decRes tab laws_toBits.rs) (encArgs tab laws_toBits.as x0)
theorem laws_toBits.fok : FnOk Try.prog 81 Try.f81 laws_toBits.ms laws_toBits.b := ⟨Try.func81, by kernel_rfl, by kernel_rfl⟩
noncomputable def laws_toBits.fn : Args tab laws_toBits.as → Option (ResT tab laws_toBits.rs) := fun x => laws_toBits x
theorem laws_toBits.con {δ : Type} : Con Try.prog (KT tab) 81 (calleeS (β := δ) tab laws_toBits.ms laws_toBits.as laws_toBits.rs laws_toBits.fn) := con_shape (c := laws_toBits.c) mixed tysOk (getG_con (laws_toBits.gok _)) laws_toBits.fok rfl rfl (fun _ => rfl)
theorem laws_toBits.eq (x0 : Int × (List Int)) : laws_toBits x0 =
    (laws_toUint64S x0.2).bind fun y1 =>
    some (x0.1, y1) := by kernel_rfl

end Go.Ev.W
