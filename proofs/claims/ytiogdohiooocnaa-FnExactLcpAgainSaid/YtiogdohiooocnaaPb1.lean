/- What functions of the program come to. -/
import Derived.Test.YtiogdohiooocnaaPbT
import Derived.Test.YtiogdohiooocnaaPb2
import Derived.Test.YtiogdohiooocnaaPb4
import Derived.Test.YtiogdohiooocnaaPb5
namespace Go.Ev.W
open Go.Ev Go.Proofs
set_option maxRecDepth 100000
set_option linter.unusedVariables false

/-! ### laws_szIntS: loop.example/g00688/laws.szIntS -/
def laws_szIntS.ms : List Mode := [.lend, .lend]
def laws_szIntS.as : List VSh := [.one (.b (.b (.b (.b (.sl false false 3))))), .one (.b (.b (.b (.b (.int .i64)))))]
def laws_szIntS.rs : RSh := ⟨[.one (.b (.b (.b (.b (.int .i64)))))], [none, none]⟩
noncomputable def laws_szIntS.gs (δ : Type) : List (Nat × Callee (GT tab) δ) := []
theorem laws_szIntS.gok (δ : Type) : AllCon Try.prog tab (laws_szIntS.gs δ) := .nil
noncomputable def laws_szIntS.c : Ctx (GT tab) (KT tab) (ResT tab laws_szIntS.rs) := { X := XT tab, ty := tyOf tys, inner := fun _ => true, keep := keepOf 0 laws_szIntS.ms, cuts := [], live := liveOf [], G := getG (laws_szIntS.gs _) }
noncomputable def laws_szIntS.b : Code := bodyOf Try.f62
noncomputable def laws_szIntS (x0 : List Int) (x1 : Int) : Option (Int) := callW laws_szIntS.c (fiOf (GT tab) Try.f62 laws_szIntS.ms) laws_szIntS.b (decRes tab laws_szIntS.rs) (encArgs tab laws_szIntS.as (x0, x1))
theorem laws_szIntS.fok : FnOk Try.prog 62 Try.f62 laws_szIntS.ms laws_szIntS.b := ⟨Try.func62, by kernel_rfl, by kernel_rfl⟩
noncomputable def laws_szIntS.fn : Args tab laws_szIntS.as → Option (ResT tab laws_szIntS.rs) := fun x => laws_szIntS x.1 x.2
theorem laws_szIntS.con {δ : Type} : Con Try.prog (KT tab) 62 (calleeS (β := δ) tab laws_szIntS.ms laws_szIntS.as laws_szIntS.rs laws_szIntS.fn) := con_shape (c := laws_szIntS.c) mixed tysOk (getG_con (laws_szIntS.gok _)) laws_szIntS.fok rfl rfl (fun _ => rfl)
theorem laws_szIntS.eq (x0 : List Int) (x1 : Int) : laws_szIntS x0 x1 =
    bif decide (IntKind.i64.wrap (x1 - (x0.length : Int)) < (0 : Int)) then
      some (-1 : Int)
    else
      some (IntKind.i64.wrap (x1 - (x0.length : Int))) := by kernel_rfl

/-! ### laws_szBitsS: loop.example/g00688/laws.szBitsS -/
def laws_szBitsS.ms : List Mode := [.lend, .lend]
def laws_szBitsS.as : List VSh := [.one (.b (.b (.b (.b (.sl false false 44))))), .one (.b (.b (.b (.b (.int .i64)))))]
def laws_szBitsS.rs : RSh := ⟨[.one (.b (.b (.b (.b (.int .i64)))))], [none, none]⟩
noncomputable def laws_szBitsS.gs (δ : Type) : List (Nat × Callee (GT tab) δ) := [(77, calleeS tab laws_szBits.ms laws_szBits.as laws_szBits.rs laws_szBits.fn)]
theorem laws_szBitsS.gok (δ : Type) : AllCon Try.prog tab (laws_szBitsS.gs δ) := .cons laws_szBits.con (.nil)
noncomputable def laws_szBitsS.c : Ctx (GT tab) (KT tab) (ResT tab laws_szBitsS.rs) := { X := XT tab, ty := tyOf tys, inner := fun _ => true, keep := keepOf 0 laws_szBitsS.ms, cuts := [], live := liveOf [(5, [0, 1, 5])], G := getG (laws_szBitsS.gs _) }
noncomputable def laws_szBitsS.b : Code := bodyOf Try.f63
noncomputable def laws_szBitsS (x0 : List (Int × (List Int))) (x1 : Int) : Option (Int) := callW laws_szBitsS.c (fiOf (GT tab) Try.f63 laws_szBitsS.ms) laws_szBitsS.b (decRes tab laws_szBitsS.rs) (encArgs tab laws_szBitsS.as (x0, x1))
theorem laws_szBitsS.fok : FnOk Try.prog 63 Try.f63 laws_szBitsS.ms laws_szBitsS.b := ⟨Try.func63, by kernel_rfl, by kernel_rfl⟩
noncomputable def laws_szBitsS.fn : Args tab laws_szBitsS.as → Option (ResT tab laws_szBitsS.rs) := fun x => laws_szBitsS x.1 x.2
theorem laws_szBitsS.con {δ : Type} : Con Try.prog (KT tab) 63 (calleeS (β := δ) tab laws_szBitsS.ms laws_szBitsS.as laws_szBitsS.rs laws_szBitsS.fn) := con_shape (c := laws_szBitsS.c) mixed tysOk (getG_con (laws_szBitsS.gok _)) laws_szBitsS.fok rfl rfl (fun _ => rfl)
noncomputable def laws_szBitsS_l0 (v0 : List (Int × (List Int))) (v1 : Int) (v2 : Int) : Option (Int) := Lw laws_szBitsS.c (finish laws_szBitsS.c (fiOf (GT tab) Try.f63 laws_szBitsS.ms) (decRes tab laws_szBitsS.rs)) ((loops laws_szBitsS.c.cuts 1000 laws_szBitsS.b []).getD 0 []) { slots := [.vs false 44 v0, .int .i64 v1, .undef, .undef, .undef, .int .i64 v2, .undef, .undef, .undef, .undef, .undef, .undef, .undef, .undef, .undef, .undef, .undef, .undef, .undef, .undef, .undef, .undef, .undef, .undef, .undef, .undef, .undef], loc := locOf [], nx := 0 }
theorem laws_szBitsS.eq (x0 : List (Int × (List Int))) (x1 : Int) : laws_szBitsS x0 x1 =
    bif decide (IntKind.i64.wrap (x1 - (x0.length : Int)) < (0 : Int)) then
      some (-1 : Int)
    else
      laws_szBitsS_l0 x0 (IntKind.i64.wrap (x1 - (x0.length : Int))) (0 : Int) := by kernel_rfl
theorem laws_szBitsS_l0.eq (v0 : List (Int × (List Int))) (v1 : Int) (v2 : Int) : laws_szBitsS_l0 v0 v1 v2 =
    bif decide (v2 < (v0.length : Int)) then
      (at? v0 v2).bind fun y1 =>
      (laws_szBits (y1.1, y1.2) v1).bind fun y2 =>
      bif decide (y2 < (0 : Int)) then
        some (-1 : Int)
      else
        laws_szBitsS_l0 v0 y2 (IntKind.i64.wrap (v2 + (1 : Int)))
    else
      some v1 := (Lw_eq tysOk (getG_con (laws_szBitsS.gok _)) _ _).trans (by kernel_rfl)

/-! ### laws_szWave: loop.example/g00688/laws.szWave -/
def laws_szWave.ms : List Mode := [.lend, .lend]
def laws_szWave.as : List VSh := [.agg [.int .i64, .sl false false 3, .sl false false 44], .one (.b (.b (.b (.b (.int .i64)))))]
def laws_szWave.rs : RSh := ⟨[.one (.b (.b (.b (.b (.int .i64)))))], [none, none]⟩
noncomputable def laws_szWave.gs (δ : Type) : List (Nat × Callee (GT tab) δ) := [(62, calleeS tab laws_szIntS.ms laws_szIntS.as laws_szIntS.rs laws_szIntS.fn), (63, calleeS tab laws_szBitsS.ms laws_szBitsS.as laws_szBitsS.rs laws_szBitsS.fn)]
theorem laws_szWave.gok (δ : Type) : AllCon Try.prog tab (laws_szWave.gs δ) := .cons laws_szIntS.con (.cons laws_szBitsS.con (.nil))
noncomputable def laws_szWave.c : Ctx (GT tab) (KT tab) (ResT tab laws_szWave.rs) := { X := XT tab, ty := tyOf tys, inner := fun _ => true, keep := keepOf 0 laws_szWave.ms, cuts := [], live := liveOf [], G := getG (laws_szWave.gs _) }
noncomputable def laws_szWave.b : Code := bodyOf Try.f11
noncomputable def laws_szWave (x0 : Int × (List Int) × (List (Int × (List Int)))) (x1 : Int) : Option (Int) := callW laws_szWave.c (fiOf (GT tab) Try.f11 laws_szWave.ms) laws_szWave.b (decRes tab laws_szWave.rs) (encArgs tab laws_szWave.as (x0, x1))
theorem laws_szWave.fok : FnOk Try.prog 11 Try.f11 laws_szWave.ms laws_szWave.b := ⟨Try.func11, by kernel_rfl, by kernel_rfl⟩
noncomputable def laws_szWave.fn : Args tab laws_szWave.as → Option (ResT tab laws_szWave.rs) := fun x => laws_szWave x.1 x.2
theorem laws_szWave.con {δ : Type} : Con Try.prog (KT tab) 11 (calleeS (β := δ) tab laws_szWave.ms laws_szWave.as laws_szWave.rs laws_szWave.fn) := con_shape (c := laws_szWave.c) mixed tysOk (getG_con (laws_szWave.gok _)) laws_szWave.fok rfl rfl (fun _ => rfl)
theorem laws_szWave.eq (x0 : Int × (List Int) × (List (Int × (List Int)))) (x1 : Int) : laws_szWave x0 x1 =
    (laws_szIntS x0.2.1 x1).bind fun y1 =>
    bif decide (y1 < (0 : Int)) then
      some (-1 : Int)
    else
      (laws_szBitsS x0.2.2 y1).bind fun y2 =>
      bif decide (y2 < (0 : Int)) then
        some (-1 : Int)
      else
        some y2 := by kernel_rfl

/-! ### laws_toIntS: loop.example/g00688/laws.toIntS -/
def laws_toIntS.ms : List Mode := [.lend]
def laws_toIntS.as : List VSh := [.one (.b (.b (.b (.b (.sl false false 3)))))]
def laws_toIntS.rs : RSh := ⟨[.one (.b (.b (.b (.b (.sl true true 3)))))], [none]⟩
noncomputable def laws_toIntS.gs (δ : Type) : List (Nat × Callee (GT tab) δ) := []
theorem laws_toIntS.gok (δ : Type) : AllCon Try.prog tab (laws_toIntS.gs δ) := .nil
noncomputable def laws_toIntS.c : Ctx (GT tab) (KT tab) (ResT tab laws_toIntS.rs) := { X := XT tab, ty := tyOf tys, inner := fun _ => true, keep := keepOf 0 laws_toIntS.ms, cuts := [], live := liveOf [(3, [0, 3, 4])], G := getG (laws_toIntS.gs _) }
noncomputable def laws_toIntS.b : Code := bodyOf Try.f65
noncomputable def laws_toIntS (x0 : List Int) : Option (List Int) := callW laws_toIntS.c (fiOf (GT tab) Try.f65 laws_toIntS.ms) laws_toIntS.b (decRes tab laws_toIntS.rs) (encArgs tab laws_toIntS.as x0)
theorem laws_toIntS.fok : FnOk Try.prog 65 Try.f65 laws_toIntS.ms laws_toIntS.b := ⟨Try.func65, by kernel_rfl, by kernel_rfl⟩
noncomputable def laws_toIntS.fn : Args tab laws_toIntS.as → Option (ResT tab laws_toIntS.rs) := fun x => laws_toIntS x
theorem laws_toIntS.con {δ : Type} : Con Try.prog (KT tab) 65 (calleeS (β := δ) tab laws_toIntS.ms laws_toIntS.as laws_toIntS.rs laws_toIntS.fn) := con_shape (c := laws_toIntS.c) mixed tysOk (getG_con (laws_toIntS.gok _)) laws_toIntS.fok rfl rfl (fun _ => rfl)
noncomputable def laws_toIntS_l0 (v0 : List Int) (v1 : Int) (v2 : List Int) : Option (List Int) := Lw laws_toIntS.c (finish laws_toIntS.c (fiOf (GT tab) Try.f65 laws_toIntS.ms) (decRes tab laws_toIntS.rs)) ((loops laws_toIntS.c.cuts 1000 laws_toIntS.b []).getD 0 []) { slots := [.vs false 3 v0, .undef, .undef, .sl 0 0, .int .i64 v1, .undef, .undef, .undef, .undef, .undef, .undef, .undef, .undef, .undef, .undef, .undef, .undef, .undef, .undef, .undef, .undef, .undef], loc := locOf [.row 0 true 3 v2], nx := 1 }
theorem laws_toIntS.eq (x0 : List Int) : laws_toIntS x0 =
    bif decide ((0 : Int) ≤ (x0.length : Int)) && decide (((x0.length : Int).toNat) * 8 ≤ 140737488355328) then
      laws_toIntS_l0 x0 (0 : Int) (List.replicate ((x0.length : Int).toNat) (0 : Int))
    else
      none := by kernel_rfl
theorem laws_toIntS_l0.eq (v0 : List Int) (v1 : Int) (v2 : List Int) : laws_toIntS_l0 v0 v1 v2 =
    bif decide (v1 < (v0.length : Int)) then
      (at? v0 v1).bind fun y1 =>
      (at? v2 v1).bind fun y2 =>
      v2[v1.toNat]?.bind fun y3 =>
      laws_toIntS_l0 v0 (IntKind.i64.wrap (v1 + (1 : Int))) (v2.set v1.toNat y1)
    else
      some v2 := (Lw_eq tysOk (getG_con (laws_toIntS.gok _)) _ _).trans (by kernel_rfl)

/-! ### laws_toBitsS: loop.example/g00688/laws.toBitsS -/
def laws_toBitsS.ms : List Mode := [.lend]
def laws_toBitsS.as : List VSh := [.one (.b (.b (.b (.b (.sl false false 44)))))]
def laws_toBitsS.rs : RSh := ⟨[.one (.b (.b (.b (.b (.sl true true 51)))))], [none]⟩
noncomputable def laws_toBitsS.gs (δ : Type) : List (Nat × Callee (GT tab) δ) := [(81, calleeS tab laws_toBits.ms laws_toBits.as laws_toBits.rs laws_toBits.fn)]
theorem laws_toBitsS.gok (δ : Type) : AllCon Try.prog tab (laws_toBitsS.gs δ) := .cons laws_toBits.con (.nil)
noncomputable def laws_toBitsS.c : Ctx (GT tab) (KT tab) (ResT tab laws_toBitsS.rs) := { X := XT tab, ty := tyOf tys, inner := fun _ => true, keep := keepOf 0 laws_toBitsS.ms, cuts := [], live := liveOf [(3, [0, 3, 4])], G := getG (laws_toBitsS.gs _) }
noncomputable def laws_toBitsS.b : Code := bodyOf Try.f66
noncomputable def laws_toBitsS (x0 : List (Int × (List Int))) : Option (List (Int × (List Int))) := callW laws_toBitsS.c (fiOf (GT tab) Try.f66 laws_toBitsS.ms) laws_toBitsS.b (decRes tab laws_toBitsS.rs) (encArgs tab laws_toBitsS.as x0)
theorem laws_toBitsS.fok : FnOk Try.prog 66 Try.f66 laws_toBitsS.ms laws_toBitsS.b := ⟨Try.func66, by kernel_rfl, by kernel_rfl⟩
noncomputable def laws_toBitsS.fn : Args tab laws_toBitsS.as → Option (ResT tab laws_toBitsS.rs) := fun x => laws_toBitsS x
theorem laws_toBitsS.con {δ : Type} : Con Try.prog (KT tab) 66 (calleeS (β := δ) tab laws_toBitsS.ms laws_toBitsS.as laws_toBitsS.rs laws_toBitsS.fn) := con_shape (c := laws_toBitsS.c) mixed tysOk (getG_con (laws_toBitsS.gok _)) laws_toBitsS.fok rfl rfl (fun _ => rfl)
noncomputable def laws_toBitsS_l0 (v0 : List (Int × (List Int))) (v1 : Int) (v2 : List (Int × (List Int))) : Option (List (Int × (List Int))) := Lw laws_toBitsS.c (finish laws_toBitsS.c (fiOf (GT tab) Try.f66 laws_toBitsS.ms) (decRes tab laws_toBitsS.rs)) ((loops laws_toBitsS.c.cuts 1000 laws_toBitsS.b []).getD 0 []) { slots := [.vs false 44 v0, .undef, .undef, .sl 0 0, .int .i64 v1, .undef, .undef, .undef, .undef, .undef, .undef, .undef, .undef, .undef, .undef, .undef, .undef, .undef, .undef, .undef, .undef, .undef, .undef], loc := locOf [.row 0 true 51 v2], nx := 1 }
theorem laws_toBitsS.eq (x0 : List (Int × (List Int))) : laws_toBitsS x0 =
    bif decide ((0 : Int) ≤ (x0.length : Int)) && decide (((x0.length : Int).toNat) * 32 ≤ 140737488355328) then
      laws_toBitsS_l0 x0 (0 : Int) (List.replicate ((x0.length : Int).toNat) ((0, []) : Int × (List Int)))
    else
      none := by kernel_rfl
theorem laws_toBitsS_l0.eq (v0 : List (Int × (List Int))) (v1 : Int) (v2 : List (Int × (List Int))) : laws_toBitsS_l0 v0 v1 v2 =
    bif decide (v1 < (v0.length : Int)) then
      (at? v0 v1).bind fun y1 =>
      (laws_toBits (y1.1, y1.2)).bind fun y2 =>
      (at? v2 v1).bind fun y3 =>
      v2[v1.toNat]?.bind fun y4 =>
      laws_toBitsS_l0 v0 (IntKind.i64.wrap (v1 + (1 : Int))) (v2.set v1.toNat (y2.1, y2.2))
    else
      some v2 := (Lw_eq tysOk (getG_con (laws_toBitsS.gok _)) _ _).trans (by kernel_rfl)

/-! ### laws_toWave: loop.example/g00688/laws.toWave -/
def laws_toWave.ms : List Mode := [.lend]
def laws_toWave.as : List VSh := [.agg [.int .i64, .sl false false 3, .sl false false 44]]
def laws_toWave.rs : RSh := ⟨[.agg [.int .i64, .sl true true 3, .sl true true 51]], [none]⟩
noncomputable def laws_toWave.gs (δ : Type) : List (Nat × Callee (GT tab) δ) := [(65, calleeS tab laws_toIntS.ms laws_toIntS.as laws_toIntS.rs laws_toIntS.fn), (66, calleeS tab laws_toBitsS.ms laws_toBitsS.as laws_toBitsS.rs laws_toBitsS.fn)]
theorem laws_toWave.gok (δ : Type) : AllCon Try.prog tab (laws_toWave.gs δ) := .cons laws_toIntS.con (.cons laws_toBitsS.con (.nil))
noncomputable def laws_toWave.c : Ctx (GT tab) (KT tab) (ResT tab laws_toWave.rs) := { X := XT tab, ty := tyOf tys, inner := fun _ => true, keep := keepOf 0 laws_toWave.ms, cuts := [], live := liveOf [], G := getG (laws_toWave.gs _) }
noncomputable def laws_toWave.b : Code := bodyOf Try.f13
noncomputable def laws_toWave (x0 : Int × (List Int) × (List (Int × (List Int)))) : Option (Int × (List Int) × (List (Int × (List Int)))) := callW laws_toWave.c (fiOf (GT tab) Try.f13 laws_toWave.ms) laws_toWave.b (decRes tab laws_toWave.rs) (encArgs tab laws_toWave.as x0)
theorem laws_toWave.fok : FnOk Try.prog 13 Try.f13 laws_toWave.ms laws_toWave.b := ⟨Try.func13, by kernel_rfl, by kernel_rfl⟩
noncomputable def laws_toWave.fn : Args tab laws_toWave.as → Option (ResT tab laws_toWave.rs) := fun x => laws_toWave x
theorem laws_toWave.con {δ : Type} : Con Try.prog (KT tab) 13 (calleeS (β := δ) tab laws_toWave.ms laws_toWave.as laws_toWave.rs laws_toWave.fn) := con_shape (c := laws_toWave.c) mixed tysOk (getG_con (laws_toWave.gok _)) laws_toWave.fok rfl rfl (fun _ => rfl)
theorem laws_toWave.eq (x0 : Int × (List Int) × (List (Int × (List Int)))) : laws_toWave x0 =
    (laws_toIntS x0.2.1).bind fun y1 =>
    (laws_toBitsS x0.2.2).bind fun y2 =>
    some (x0.1, y1, y2) := by kernel_rfl

/-! ### spec_WaveBytes: loop.example/g00688/spec.WaveBytes -/
def spec_WaveBytes.ms : List Mode := [.lend]
def spec_WaveBytes.as : List VSh := [.agg [.int .i64, .sl false false 3, .sl false false 51]]
def spec_WaveBytes.rs : RSh := ⟨[.one (.b (.b (.b (.b (.sl true true 5)))))], [none]⟩
noncomputable def spec_WaveBytes.gs (δ : Type) : List (Nat × Callee (GT tab) δ) := [(39, calleeS tab spec_WaveOk.ms spec_WaveOk.as spec_WaveOk.rs spec_WaveOk.fn), (64, calleeS tab spec_BitsBytes.ms spec_BitsBytes.as spec_BitsBytes.rs spec_BitsBytes.fn)]
theorem spec_WaveBytes.gok (δ : Type) : AllCon Try.prog tab (spec_WaveBytes.gs δ) := .cons spec_WaveOk.con (.cons spec_BitsBytes.con (.nil))
noncomputable def spec_WaveBytes.c : Ctx (GT tab) (KT tab) (ResT tab spec_WaveBytes.rs) := { X := XT tab, ty := tyOf tys, inner := fun _ => true, keep := keepOf 0 spec_WaveBytes.ms, cuts := [], live := liveOf [(5, [1, 3, 4])], G := getG (spec_WaveBytes.gs _) }
noncomputable def spec_WaveBytes.b : Code := bodyOf Try.f12
noncomputable def spec_WaveBytes (x0 : Int × (List Int) × (List (Int × (List Int)))) : Option (List Int) := callW spec_WaveBytes.c (fiOf (GT tab) Try.f12 spec_WaveBytes.ms) spec_WaveBytes.b (decRes tab spec_WaveBytes.rs) (encArgs tab spec_WaveBytes.as x0)
theorem spec_WaveBytes.fok : FnOk Try.prog 12 Try.f12 spec_WaveBytes.ms spec_WaveBytes.b := ⟨Try.func12, by kernel_rfl, by kernel_rfl⟩
noncomputable def spec_WaveBytes.fn : Args tab spec_WaveBytes.as → Option (ResT tab spec_WaveBytes.rs) := fun x => spec_WaveBytes x
theorem spec_WaveBytes.con {δ : Type} : Con Try.prog (KT tab) 12 (calleeS (β := δ) tab spec_WaveBytes.ms spec_WaveBytes.as spec_WaveBytes.rs spec_WaveBytes.fn) := con_shape (c := spec_WaveBytes.c) mixed tysOk (getG_con (spec_WaveBytes.gok _)) spec_WaveBytes.fok rfl rfl (fun _ => rfl)
noncomputable def spec_WaveBytes_l0 (v0 : Int) (v1 : Int) (v2 : List Int) (v3 : List (Int × (List Int))) (v4 : List Int) : Option (List Int) := Lw spec_WaveBytes.c (finish spec_WaveBytes.c (fiOf (GT tab) Try.f12 spec_WaveBytes.ms) (decRes tab spec_WaveBytes.rs)) ((loops spec_WaveBytes.c.cuts 1000 spec_WaveBytes.b []).getD 0 []) { slots := [.undef, .ptr 0 0, .undef, .sl 1 0, .int .i64 v0, .undef, .undef, .undef, .undef, .undef, .undef, .undef, .undef, .undef, .undef, .undef, .undef, .undef, .undef, .undef, .undef, .undef], loc := locOf [.box 31 [.int .i64 v1, .vs false 3 v2, .vs false 51 v3], .row 0 true 5 v4], nx := 2 }
theorem spec_WaveBytes.eq (x0 : Int × (List Int) × (List (Int × (List Int)))) : spec_WaveBytes x0 =
    (spec_WaveOk (x0.1, x0.2.1, x0.2.2)).bind fun y1 =>
    bif !y1 then
      some ([] : List Int)
    else
      spec_WaveBytes_l0 (0 : Int) x0.1 x0.2.1 x0.2.2 ([] : List Int) := by kernel_rfl
theorem spec_WaveBytes_l0.eq (v0 : Int) (v1 : Int) (v2 : List Int) (v3 : List (Int × (List Int))) (v4 : List Int) : spec_WaveBytes_l0 v0 v1 v2 v3 v4 =
    bif decide (v0 < (9 : Int)) then
      (at? v3 v0).bind fun y1 =>
      (spec_BitsBytes (y1.1, y1.2)).bind fun y2 =>
      bif decide ((v4.length + y2.length) * 1 ≤ 140737488355328) then
        spec_WaveBytes_l0 (IntKind.i64.wrap (v0 + (1 : Int))) v1 v2 v3 (v4 ++ y2)
      else
        none
    else
      some v4 := (Lw_eq tysOk (getG_con (spec_WaveBytes.gok _)) _ _).trans (by kernel_rfl)

/-! ### laws_heldByteS: loop.example/g00688/laws.heldByteS -/
def laws_heldByteS.ms : List Mode := [.lend, .lend]
def laws_heldByteS.as : List VSh := [.one (.b (.b (.b (.b (.sl false false 5))))), .one (.b (.b (.b (.b (.int .i64)))))]
def laws_heldByteS.rs : RSh := ⟨[.one (.b (.b (.b (.b (.int .i64)))))], [none, none]⟩
noncomputable def laws_heldByteS.gs (δ : Type) : List (Nat × Callee (GT tab) δ) := []
theorem laws_heldByteS.gok (δ : Type) : AllCon Try.prog tab (laws_heldByteS.gs δ) := .nil
noncomputable def laws_heldByteS.c : Ctx (GT tab) (KT tab) (ResT tab laws_heldByteS.rs) := { X := XT tab, ty := tyOf tys, inner := fun _ => true, keep := keepOf 0 laws_heldByteS.ms, cuts := [], live := liveOf [(2, [0, 1, 5])], G := getG (laws_heldByteS.gs _) }
noncomputable def laws_heldByteS.b : Code := bodyOf Try.f19
noncomputable def laws_heldByteS (x0 : List Int) (x1 : Int) : Option (Int) := callW laws_heldByteS.c (fiOf (GT tab) Try.f19 laws_heldByteS.ms) laws_heldByteS.b (decRes tab laws_heldByteS.rs) (encArgs tab laws_heldByteS.as (x0, x1))
theorem laws_heldByteS.fok : FnOk Try.prog 19 Try.f19 laws_heldByteS.ms laws_heldByteS.b := ⟨Try.func19, by kernel_rfl, by kernel_rfl⟩
noncomputable def laws_heldByteS.fn : Args tab laws_heldByteS.as → Option (ResT tab laws_heldByteS.rs) := fun x => laws_heldByteS x.1 x.2
theorem laws_heldByteS.con {δ : Type} : Con Try.prog (KT tab) 19 (calleeS (β := δ) tab laws_heldByteS.ms laws_heldByteS.as laws_heldByteS.rs laws_heldByteS.fn) := con_shape (c := laws_heldByteS.c) mixed tysOk (getG_con (laws_heldByteS.gok _)) laws_heldByteS.fok rfl rfl (fun _ => rfl)
noncomputable def laws_heldByteS_l0 (v0 : List Int) (v1 : Int) (v2 : Int) : Option (Int) := Lw laws_heldByteS.c (finish laws_heldByteS.c (fiOf (GT tab) Try.f19 laws_heldByteS.ms) (decRes tab laws_heldByteS.rs)) ((loops laws_heldByteS.c.cuts 1000 laws_heldByteS.b []).getD 0 []) { slots := [.vs false 5 v0, .int .i64 v1, .undef, .undef, .undef, .int .i64 v2, .undef, .undef, .undef, .undef, .undef, .undef, .undef, .undef, .undef, .undef, .undef, .undef, .undef, .undef, .undef, .undef], loc := locOf [], nx := 0 }
theorem laws_heldByteS.eq (x0 : List Int) (x1 : Int) : laws_heldByteS x0 x1 =
    laws_heldByteS_l0 x0 x1 (0 : Int) := by kernel_rfl
theorem laws_heldByteS_l0.eq (v0 : List Int) (v1 : Int) (v2 : Int) : laws_heldByteS_l0 v0 v1 v2 =
    bif decide (v2 < (v0.length : Int)) then
      (at? v0 v2).bind fun y1 =>
      bif y1 != IntKind.u8.wrap v1 then
        some (-1 : Int)
      else
        laws_heldByteS_l0 v0 (IntKind.i64.wrap (v1 + (1 : Int))) (IntKind.i64.wrap (v2 + (1 : Int)))
    else
      some v1 := (Lw_eq tysOk (getG_con (laws_heldByteS.gok _)) _ _).trans (by kernel_rfl)

end Go.Ev.W
