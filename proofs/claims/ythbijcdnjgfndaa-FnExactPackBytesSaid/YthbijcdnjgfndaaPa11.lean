/- What functions of the program come to. -/
import Derived.Test.YthbijcdnjgfndaaPaT
namespace Go.Ev.W
open Go.Ev Go.Proofs
set_option maxRecDepth 100000
set_option linter.unusedVariables false

/-! ### laws_szCopyS: loop.example/g00688/laws.szCopyS -/
def laws_szCopyS.ms : List Mode := [.lend, .lend]
def laws_szCopyS.as : List VSh := [.one (.b (.b (.b (.b (.sl false false 81))))), .one (.b (.b (.b (.b (.int .i64)))))]
def laws_szCopyS.rs : RSh := ⟨[.one (.b (.b (.b (.b (.int .i64)))))], [none, none]⟩
noncomputable def laws_szCopyS.gs (δ : Type) : List (Nat × Callee (GT tab) δ) := []
theorem laws_szCopyS.gok (δ : Type) : AllCon Try.prog tab (laws_szCopyS.gs δ) := .nil
noncomputable def laws_szCopyS.c : Ctx (GT tab) (KT tab) (ResT tab laws_szCopyS.rs) := { X := XT tab, ty := tyOf tys, inner := fun _ => true, keep := keepOf 0 laws_szCopyS.ms, cuts := [], live := liveOf [], G := getG (laws_szCopyS.gs _) }
noncomputable def laws_szCopyS.b : Code := bodyOf Try.f23
noncomputable def laws_szCopyS (x0 : List (Int × Int × Int)) (x1 : Int) : Option (Int) := callW laws_szCopyS.c (fiOf (GT tab) Try.f23 laws_szCopyS.ms) laws_szCopyS.b (decRes tab laws_szCopyS.rs) (encArgs tab laws_szCopyS.as (x0, x1))
theorem laws_szCopyS.fok : FnOk Try.prog 23 Try.f23 laws_szCopyS.ms laws_szCopyS.b := ⟨Try.func23, by kernel_rfl, by kernel_rfl⟩
noncomputable def laws_szCopyS.fn : Args tab laws_szCopyS.as → Option (ResT tab laws_szCopyS.rs) := fun x => laws_szCopyS x.1 x.2
theorem laws_szCopyS.con {δ : Type} : Con Try.prog (KT tab) 23 (calleeS (β := δ) tab laws_szCopyS.ms laws_szCopyS.as laws_szCopyS.rs laws_szCopyS.fn) := con_shape (c := laws_szCopyS.c) mixed tysOk (getG_con (laws_szCopyS.gok _)) laws_szCopyS.fok rfl rfl (fun _ => rfl)
theorem laws_szCopyS.eq (x0 : List (Int × Int × Int)) (x1 : Int) : laws_szCopyS x0 x1 =
    bif decide (IntKind.i64.wrap (x1 - (x0.length : Int)) < (0 : Int)) then
      some (-1 : Int)
    else
      some (IntKind.i64.wrap (x1 - (x0.length : Int))) := by kernel_rfl

/-! ### laws_toCopy: loop.example/g00688/laws.toCopy -/
def laws_toCopy.ms : List Mode := [.lend]
def laws_toCopy.as : List VSh := [.agg [.int .i64, .int .i64, .int .i64]]
def laws_toCopy.rs : RSh := ⟨[.agg [.int .i64, .int .i64, .int .i64]], [none]⟩
noncomputable def laws_toCopy.gs (δ : Type) : List (Nat × Callee (GT tab) δ) := []
theorem laws_toCopy.gok (δ : Type) : AllCon Try.prog tab (laws_toCopy.gs δ) := .nil
noncomputable def laws_toCopy.c : Ctx (GT tab) (KT tab) (ResT tab laws_toCopy.rs) := { X := XT tab, ty := tyOf tys, inner := fun _ => true, keep := keepOf 0 laws_toCopy.ms, cuts := [], live := liveOf [], G := getG (laws_toCopy.gs _) }
noncomputable def laws_toCopy.b : Code := bodyOf Try.f66
noncomputable def laws_toCopy (x0 : Int × Int × Int) : Option (Int × Int × Int) := callW laws_toCopy.c (fiOf (GT tab) Try.f66 laws_toCopy.ms) laws_toCopy.b (decRes tab laws_toCopy.rs) (encArgs tab laws_toCopy.as x0)
theorem laws_toCopy.fok : FnOk Try.prog 66 Try.f66 laws_toCopy.ms laws_toCopy.b := ⟨Try.func66, by kernel_rfl, by kernel_rfl⟩
noncomputable def laws_toCopy.fn : Args tab laws_toCopy.as → Option (ResT tab laws_toCopy.rs) := fun x => laws_toCopy x
theorem laws_toCopy.con {δ : Type} : Con Try.prog (KT tab) 66 (calleeS (β := δ) tab laws_toCopy.ms laws_toCopy.as laws_toCopy.rs laws_toCopy.fn) := con_shape (c := laws_toCopy.c) mixed tysOk (getG_con (laws_toCopy.gok _)) laws_toCopy.fok rfl rfl (fun _ => rfl)
theorem laws_toCopy.eq (x0 : Int × Int × Int) : laws_toCopy x0 =
    some (x0.1, x0.2.1, x0.2.2) := by kernel_rfl

/-! ### laws_toCopyS: loop.example/g00688/laws.toCopyS -/
def laws_toCopyS.ms : List Mode := [.lend]
def laws_toCopyS.as : List VSh := [.one (.b (.b (.b (.b (.sl false false 81)))))]
def laws_toCopyS.rs : RSh := ⟨[.one (.b (.b (.b (.b (.sl true true 61)))))], [none]⟩
noncomputable def laws_toCopyS.gs (δ : Type) : List (Nat × Callee (GT tab) δ) := [(66, calleeS tab laws_toCopy.ms laws_toCopy.as laws_toCopy.rs laws_toCopy.fn)]
theorem laws_toCopyS.gok (δ : Type) : AllCon Try.prog tab (laws_toCopyS.gs δ) := .cons laws_toCopy.con (.nil)
noncomputable def laws_toCopyS.c : Ctx (GT tab) (KT tab) (ResT tab laws_toCopyS.rs) := { X := XT tab, ty := tyOf tys, inner := fun _ => true, keep := keepOf 0 laws_toCopyS.ms, cuts := [], live := liveOf [(3, [0, 3, 4])], G := getG (laws_toCopyS.gs _) }
noncomputable def laws_toCopyS.b : Code := bodyOf Try.f25
noncomputable def laws_toCopyS (x0 : List (Int × Int × Int)) : Option (List (Int × Int × Int)) := callW laws_toCopyS.c (fiOf (GT tab) Try.f25 laws_toCopyS.ms) laws_toCopyS.b (decRes tab laws_toCopyS.rs) (encArgs tab laws_toCopyS.as x0)
theorem laws_toCopyS.fok : FnOk Try.prog 25 Try.f25 laws_toCopyS.ms laws_toCopyS.b := ⟨Try.func25, by kernel_rfl, by kernel_rfl⟩
noncomputable def laws_toCopyS.fn : Args tab laws_toCopyS.as → Option (ResT tab laws_toCopyS.rs) := fun x => laws_toCopyS x
theorem laws_toCopyS.con {δ : Type} : Con Try.prog (KT tab) 25 (calleeS (β := δ) tab laws_toCopyS.ms laws_toCopyS.as laws_toCopyS.rs laws_toCopyS.fn) := con_shape (c := laws_toCopyS.c) mixed tysOk (getG_con (laws_toCopyS.gok _)) laws_toCopyS.fok rfl rfl (fun _ => rfl)
noncomputable def laws_toCopyS_l0 (v0 : List (Int × Int × Int)) (v1 : Int) (v2 : List (Int × Int × Int)) : Option (List (Int × Int × Int)) := Lw laws_toCopyS.c (finish laws_toCopyS.c (fiOf (GT tab) Try.f25 laws_toCopyS.ms) (decRes tab laws_toCopyS.rs)) ((loops laws_toCopyS.c.cuts 1000 laws_toCopyS.b []).getD 0 []) { slots := [.vs false 81 v0, .undef, .undef, .sl 0 0, .int .i64 v1, .undef, .undef, .undef, .undef, .undef, .undef, .undef, .undef, .undef, .undef, .undef, .undef, .undef, .undef, .undef, .undef, .undef, .undef], loc := locOf [.row 0 true 61 v2], nx := 1 }
theorem laws_toCopyS.eq (x0 : List (Int × Int × Int)) : laws_toCopyS x0 =
    bif decide ((0 : Int) ≤ (x0.length : Int)) && decide (((x0.length : Int).toNat) * 24 ≤ 140737488355328) then
      laws_toCopyS_l0 x0 (0 : Int) (List.replicate ((x0.length : Int).toNat) ((0, 0, 0) : Int × Int × Int))
    else
      none := by kernel_rfl
theorem laws_toCopyS_l0.eq (v0 : List (Int × Int × Int)) (v1 : Int) (v2 : List (Int × Int × Int)) : laws_toCopyS_l0 v0 v1 v2 =
    bif decide (v1 < (v0.length : Int)) then
      (at? v0 v1).bind fun y1 =>
      (laws_toCopy (y1.1, y1.2.1, y1.2.2)).bind fun y2 =>
      (at? v2 v1).bind fun y3 =>
      v2[v1.toNat]?.bind fun y4 =>
      laws_toCopyS_l0 v0 (IntKind.i64.wrap (v1 + (1 : Int))) (v2.set v1.toNat (y2.1, y2.2.1, y2.2.2))
    else
      some v2 := (Lw_eq tysOk (getG_con (laws_toCopyS.gok _)) _ _).trans (by kernel_rfl)

end Go.Ev.W
