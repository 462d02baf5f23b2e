/- What functions of the program come to. -/
import Derived.Test.YtiogdohiooocnaaPbT
import Derived.Test.YtiogdohiooocnaaPb10
import Derived.Test.YtiogdohiooocnaaPb14
import Derived.Test.YtiogdohiooocnaaPb19
import Derived.Test.YtiogdohiooocnaaPb2
import Derived.Test.YtiogdohiooocnaaPb3
import Derived.Test.YtiogdohiooocnaaPb6
namespace Go.Ev.W
open Go.Ev Go.Proofs
set_option maxRecDepth 100000
set_option linter.unusedVariables false

/-! ### laws_szPacked: loop.example/g00688/laws.szPacked -/
def laws_szPacked.ms : List Mode := [.lend, .lend]
def laws_szPacked.as : List VSh := [.agg [.int .i64, .int .i64, .int .i64, .sl false false 117], .one (.b (.b (.b (.b (.int .i64)))))]
def laws_szPacked.rs : RSh := ⟨[.one (.b (.b (.b (.b (.int .i64)))))], [none, none]⟩
noncomputable def laws_szPacked.gs (δ : Type) : List (Nat × Callee (GT tab) δ) := [(77, calleeS tab laws_szBits.ms laws_szBits.as laws_szBits.rs laws_szBits.fn)]
theorem laws_szPacked.gok (δ : Type) : AllCon Try.prog tab (laws_szPacked.gs δ) := .cons laws_szBits.con (.nil)
noncomputable def laws_szPacked.c : Ctx (GT tab) (KT tab) (ResT tab laws_szPacked.rs) := { X := XT tab, ty := tyOf tys, inner := fun _ => true, keep := keepOf 0 laws_szPacked.ms, cuts := [], live := liveOf [], G := getG (laws_szPacked.gs _) }
noncomputable def laws_szPacked.b : Code := bodyOf Try.f76
noncomputable def laws_szPacked (x0 : Int × Int × Int × (List Int)) (x1 : Int) : Option (Int) := callW laws_szPacked.c (fiOf (GT tab) Try.f76 laws_szPacked.ms) laws_szPacked.b (decRes tab laws_szPacked.rs) (encArgs tab laws_szPacked.as (x0, x1))
theorem laws_szPacked.fok : FnOk Try.prog 76 Try.f76 laws_szPacked.ms laws_szPacked.b := ⟨Try.func76, by kernel_rfl, by kernel_rfl⟩
noncomputable def laws_szPacked.fn : Args tab laws_szPacked.as → Option (ResT tab laws_szPacked.rs) := fun x => laws_szPacked x.1 x.2
theorem laws_szPacked.con {δ : Type} : Con Try.prog (KT tab) 76 (calleeS (β := δ) tab laws_szPacked.ms laws_szPacked.as laws_szPacked.rs laws_szPacked.fn) := con_shape (c := laws_szPacked.c) mixed tysOk (getG_con (laws_szPacked.gok _)) laws_szPacked.fok rfl rfl (fun _ => rfl)
theorem laws_szPacked.eq (x0 : Int × Int × Int × (List Int)) (x1 : Int) : laws_szPacked x0 x1 =
    (laws_szBits (x0.2.2.1, x0.2.2.2) x1).bind fun y1 =>
    bif decide (y1 < (0 : Int)) then
      some (-1 : Int)
    else
      some y1 := by kernel_rfl

/-! ### laws_szSparse: loop.example/g00688/laws.szSparse -/
def laws_szSparse.ms : List Mode := [.lend, .lend]
def laws_szSparse.as : List VSh := [.agg [.int .i64, .int .i64, .int .i64, .int .i64, .int .i64, .sl false false 117, .int .i64, .sl false false 117], .one (.b (.b (.b (.b (.int .i64)))))]
def laws_szSparse.rs : RSh := ⟨[.one (.b (.b (.b (.b (.int .i64)))))], [none, none]⟩
noncomputable def laws_szSparse.gs (δ : Type) : List (Nat × Callee (GT tab) δ) := [(76, calleeS tab laws_szPacked.ms laws_szPacked.as laws_szPacked.rs laws_szPacked.fn), (77, calleeS tab laws_szBits.ms laws_szBits.as laws_szBits.rs laws_szBits.fn)]
theorem laws_szSparse.gok (δ : Type) : AllCon Try.prog tab (laws_szSparse.gs δ) := .cons laws_szPacked.con (.cons laws_szBits.con (.nil))
noncomputable def laws_szSparse.c : Ctx (GT tab) (KT tab) (ResT tab laws_szSparse.rs) := { X := XT tab, ty := tyOf tys, inner := fun _ => true, keep := keepOf 0 laws_szSparse.ms, cuts := [], live := liveOf [], G := getG (laws_szSparse.gs _) }
noncomputable def laws_szSparse.b : Code := bodyOf Try.f24
noncomputable def laws_szSparse (x0 : Int × Int × Int × Int × Int × (List Int) × Int × (List Int)) (x1 : Int) : Option (Int) := callW laws_szSparse.c (fiOf (GT tab) Try.f24 laws_szSparse.ms) laws_szSparse.b (decRes tab laws_szSparse.rs) (encArgs tab laws_szSparse.as (x0, x1))
theorem laws_szSparse.fok : FnOk Try.prog 24 Try.f24 laws_szSparse.ms laws_szSparse.b := ⟨Try.func24, by kernel_rfl, by kernel_rfl⟩
noncomputable def laws_szSparse.fn : Args tab laws_szSparse.as → Option (ResT tab laws_szSparse.rs) := fun x => laws_szSparse x.1 x.2
theorem laws_szSparse.con {δ : Type} : Con Try.prog (KT tab) 24 (calleeS (β := δ) tab laws_szSparse.ms laws_szSparse.as laws_szSparse.rs laws_szSparse.fn) := con_shape (c := laws_szSparse.c) mixed tysOk (getG_con (laws_szSparse.gok _)) laws_szSparse.fok rfl rfl (fun _ => rfl)
theorem laws_szSparse.eq (x0 : Int × Int × Int × Int × Int × (List Int) × Int × (List Int)) (x1 : Int) : laws_szSparse x0 x1 =
    (laws_szPacked (x0.2.2.1, x0.2.2.2.1, x0.2.2.2.2.1, x0.2.2.2.2.2.1) x1).bind fun y1 =>
    bif decide (y1 < (0 : Int)) then
      some (-1 : Int)
    else
      (laws_szBits (x0.2.2.2.2.2.2.1, x0.2.2.2.2.2.2.2) y1).bind fun y2 =>
      bif decide (y2 < (0 : Int)) then
        some (-1 : Int)
      else
        some y2 := by kernel_rfl

/-! ### laws_toPacked: loop.example/g00688/laws.toPacked -/
def laws_toPacked.ms : List Mode := [.lend]
def laws_toPacked.as : List VSh := [.agg [.int .i64, .int .i64, .int .i64, .sl false false 117]]
def laws_toPacked.rs : RSh := ⟨[.agg [.int .i64, .int .i64, .int .i64, .sl true true 117]], [none]⟩
noncomputable def laws_toPacked.gs (δ : Type) : List (Nat × Callee (GT tab) δ) := [(81, calleeS tab laws_toBits.ms laws_toBits.as laws_toBits.rs laws_toBits.fn)]
theorem laws_toPacked.gok (δ : Type) : AllCon Try.prog tab (laws_toPacked.gs δ) := .cons laws_toBits.con (.nil)
noncomputable def laws_toPacked.c : Ctx (GT tab) (KT tab) (ResT tab laws_toPacked.rs) := { X := XT tab, ty := tyOf tys, inner := fun _ => true, keep := keepOf 0 laws_toPacked.ms, cuts := [], live := liveOf [], G := getG (laws_toPacked.gs _) }
noncomputable def laws_toPacked.b : Code := bodyOf Try.f80
noncomputable def laws_toPacked (x0 : Int × Int × Int × (List Int)) : Option (Int × Int × Int × (List Int)) := callW laws_toPacked.c (fiOf (GT tab) Try.f80 laws_toPacked.ms) laws_toPacked.b (decRes tab laws_toPacked.rs) (encArgs tab laws_toPacked.as x0)
theorem laws_toPacked.fok : FnOk Try.prog 80 Try.f80 laws_toPacked.ms laws_toPacked.b := ⟨Try.func80, by kernel_rfl, by kernel_rfl⟩
noncomputable def laws_toPacked.fn : Args tab laws_toPacked.as → Option (ResT tab laws_toPacked.rs) := fun x => laws_toPacked x
theorem laws_toPacked.con {δ : Type} : Con Try.prog (KT tab) 80 (calleeS (β := δ) tab laws_toPacked.ms laws_toPacked.as laws_toPacked.rs laws_toPacked.fn) := con_shape (c := laws_toPacked.c) mixed tysOk (getG_con (laws_toPacked.gok _)) laws_toPacked.fok rfl rfl (fun _ => rfl)
theorem laws_toPacked.eq (x0 : Int × Int × Int × (List Int)) : laws_toPacked x0 =
    (laws_toBits (x0.2.2.1, x0.2.2.2)).bind fun y1 =>
    some (x0.1, x0.2.1, y1.1, y1.2) := by kernel_rfl

/-! ### laws_toSparse: loop.example/g00688/laws.toSparse -/
def laws_toSparse.ms : List Mode := [.lend]
def laws_toSparse.as : List VSh := [.agg [.int .i64, .int .i64, .int .i64, .int .i64, .int .i64, .sl false false 117, .int .i64, .sl false false 117]]
def laws_toSparse.rs : RSh := ⟨[.agg [.int .i64, .int .i64, .int .i64, .int .i64, .int .i64, .sl true true 117, .int .i64, .sl true true 117]], [none]⟩
noncomputable def laws_toSparse.gs (δ : Type) : List (Nat × Callee (GT tab) δ) := [(80, calleeS tab laws_toPacked.ms laws_toPacked.as laws_toPacked.rs laws_toPacked.fn), (81, calleeS tab laws_toBits.ms laws_toBits.as laws_toBits.rs laws_toBits.fn)]
theorem laws_toSparse.gok (δ : Type) : AllCon Try.prog tab (laws_toSparse.gs δ) := .cons laws_toPacked.con (.cons laws_toBits.con (.nil))
noncomputable def laws_toSparse.c : Ctx (GT tab) (KT tab) (ResT tab laws_toSparse.rs) := { X := XT tab, ty := tyOf tys, inner := fun _ => true, keep := keepOf 0 laws_toSparse.ms, cuts := [], live := liveOf [], G := getG (laws_toSparse.gs _) }
noncomputable def laws_toSparse.b : Code := bodyOf Try.f26
noncomputable def laws_toSparse (x0 : Int × Int × Int × Int × Int × (List Int) × Int × (List Int)) : Option (Int × Int × Int × Int × Int × (List Int) × Int × (List Int)) := callW laws_toSparse.c (fiOf (GT tab) Try.f26 laws_toSparse.ms) laws_toSparse.b (decRes tab laws_toSparse.rs) (encArgs tab laws_toSparse.as x0)
theorem laws_toSparse.fok : FnOk Try.prog 26 Try.f26 laws_toSparse.ms laws_toSparse.b := ⟨Try.func26, by kernel_rfl, by kernel_rfl⟩
noncomputable def laws_toSparse.fn : Args tab laws_toSparse.as → Option (ResT tab laws_toSparse.rs) := fun x => laws_toSparse x
theorem laws_toSparse.con {δ : Type} : Con Try.prog (KT tab) 26 (calleeS (β := δ) tab laws_toSparse.ms laws_toSparse.as laws_toSparse.rs laws_toSparse.fn) := con_shape (c := laws_toSparse.c) mixed tysOk (getG_con (laws_toSparse.gok _)) laws_toSparse.fok rfl rfl (fun _ => rfl)
theorem laws_toSparse.eq (x0 : Int × Int × Int × Int × Int × (List Int) × Int × (List Int)) : laws_toSparse x0 =
    (laws_toPacked (x0.2.2.1, x0.2.2.2.1, x0.2.2.2.2.1, x0.2.2.2.2.2.1)).bind fun y1 =>
    (laws_toBits (x0.2.2.2.2.2.2.1, x0.2.2.2.2.2.2.2)).bind fun y2 =>
    some (x0.1, x0.2.1, y1.1, y1.2.1, y1.2.2.1, y1.2.2.2, y2.1, y2.2) := by kernel_rfl

/-! ### spec_PackList: loop.example/g00688/spec.PackList -/
def spec_PackList.ms : List Mode := [.lend]
def spec_PackList.as : List VSh := [.agg [.int .i64, .int .i64, .int .i64, .sl false false 117]]
def spec_PackList.rs : RSh := ⟨[.one (.b (.b (.b (.b (.sl true true 3)))))], [none]⟩
noncomputable def spec_PackList.gs (δ : Type) : List (Nat × Callee (GT tab) δ) := [(38, calleeS tab spec_PackOk.ms spec_PackOk.as spec_PackOk.rs spec_PackOk.fn), (92, calleeS tab spec_l01List.ms spec_l01List.as spec_l01List.rs spec_l01List.fn)]
theorem spec_PackList.gok (δ : Type) : AllCon Try.prog tab (spec_PackList.gs δ) := .cons spec_PackOk.con (.cons spec_l01List.con (.nil))
noncomputable def spec_PackList.c : Ctx (GT tab) (KT tab) (ResT tab spec_PackList.rs) := { X := XT tab, ty := tyOf tys, inner := fun _ => true, keep := keepOf 0 spec_PackList.ms, cuts := [], live := liveOf [(6, [1, 3, 4, 5]), (10, [1, 3, 4, 5, 6, 7])], G := getG (spec_PackList.gs _) }
noncomputable def spec_PackList.b : Code := bodyOf Try.f134
noncomputable def spec_PackList (x0 : Int × Int × Int × (List Int)) : Option (List Int) := callW spec_PackList.c (fiOf (GT tab) Try.f134 spec_PackList.ms) spec_PackList.b (decRes tab spec_PackList.rs) (encArgs tab spec_PackList.as x0)
theorem spec_PackList.fok : FnOk Try.prog 134 Try.f134 spec_PackList.ms spec_PackList.b := ⟨Try.func134, by kernel_rfl, by kernel_rfl⟩
noncomputable def spec_PackList.fn : Args tab spec_PackList.as → Option (ResT tab spec_PackList.rs) := fun x => spec_PackList x
theorem spec_PackList.con {δ : Type} : Con Try.prog (KT tab) 134 (calleeS (β := δ) tab spec_PackList.ms spec_PackList.as spec_PackList.rs spec_PackList.fn) := con_shape (c := spec_PackList.c) mixed tysOk (getG_con (spec_PackList.gok _)) spec_PackList.fok rfl rfl (fun _ => rfl)
noncomputable def spec_PackList_l0 (v0 : Int) (v1 : Int) (v2 : Int) (v3 : Int) (v4 : List Int) (v5 : List Int) (v6 : List Int) : Option (List Int) := Lw spec_PackList.c (finish spec_PackList.c (fiOf (GT tab) Try.f134 spec_PackList.ms) (decRes tab spec_PackList.rs)) ((loops spec_PackList.c.cuts 1000 spec_PackList.b []).getD 0 []) { slots := [.undef, .ptr 0 0, .undef, .sl 1 0, .sl 2 0, .int .i64 v0, .undef, .undef, .undef, .undef, .undef, .undef, .undef, .undef, .undef, .undef, .undef, .undef, .undef, .undef, .undef, .undef, .undef, .undef, .undef, .undef, .undef, .undef, .undef, .undef, .undef, .undef, .undef, .undef, .undef, .undef, .undef, .undef, .undef, .undef, .undef, .undef, .undef, .undef, .undef], loc := locOf [.box 53 [.int .i64 v1, .int .i64 v2, .int .i64 v3, .vs false 117 v4], .row 0 true 3 v5, .row 0 true 3 v6], nx := 3 }
noncomputable def spec_PackList_l1 (v0 : Int) (v1 : Int) (v2 : Int) (v3 : Int) (v4 : Int) (v5 : Int) (v6 : List Int) (v7 : List Int) (v8 : List Int) : Option (List Int) := Lw spec_PackList.c (finish spec_PackList.c (fiOf (GT tab) Try.f134 spec_PackList.ms) (decRes tab spec_PackList.rs)) ((loops spec_PackList.c.cuts 1000 spec_PackList.b []).getD 1 []) { slots := [.undef, .ptr 0 0, .undef, .sl 1 0, .sl 2 0, .int .i64 v0, .int .i64 v1, .int .i64 v2, .undef, .undef, .undef, .undef, .undef, .undef, .undef, .undef, .undef, .undef, .undef, .undef, .undef, .undef, .undef, .undef, .undef, .undef, .undef, .undef, .undef, .undef, .undef, .undef, .undef, .undef, .undef, .undef, .undef, .undef, .undef, .undef, .undef, .undef, .undef, .undef, .undef], loc := locOf [.box 53 [.int .i64 v3, .int .i64 v4, .int .i64 v5, .vs false 117 v6], .row 0 true 3 v7, .row 0 true 3 v8], nx := 3 }
theorem spec_PackList.eq (x0 : Int × Int × Int × (List Int)) : spec_PackList x0 =
    (spec_PackOk (x0.1, x0.2.1, x0.2.2.1, x0.2.2.2)).bind fun y1 =>
    bif !y1 then
      some ([] : List Int)
    else
      (spec_l01List (x0.2.2.1, x0.2.2.2)).bind fun y2 =>
      spec_PackList_l0 (0 : Int) x0.1 x0.2.1 x0.2.2.1 x0.2.2.2 y2 ([] : List Int) := by kernel_rfl
theorem spec_PackList_l0.eq (v0 : Int) (v1 : Int) (v2 : Int) (v3 : Int) (v4 : List Int) (v5 : List Int) (v6 : List Int) : spec_PackList_l0 v0 v1 v2 v3 v4 v5 v6 =
    bif decide (v0 < v2) then
      spec_PackList_l1 v0 (0 : Int) (IntKind.i64.wrap (v1 - (1 : Int))) v1 v2 v3 v4 v5 v6
    else
      some v6 := (Lw_eq tysOk (getG_con (spec_PackList.gok _)) _ _).trans (by kernel_rfl)
theorem spec_PackList_l1.eq (v0 : Int) (v1 : Int) (v2 : Int) (v3 : Int) (v4 : Int) (v5 : Int) (v6 : List Int) (v7 : List Int) (v8 : List Int) : spec_PackList_l1 v0 v1 v2 v3 v4 v5 v6 v7 v8 =
    bif decide (v2 ≥ (0 : Int)) then
      (at? v7 (IntKind.i64.wrap ((IntKind.i64.wrap (v0 * v3)) + v2))).bind fun y1 =>
      v7[(IntKind.i64.wrap ((IntKind.i64.wrap (v0 * v3)) + v2)).toNat]?.bind fun y2 =>
      spec_PackList_l1 v0 (IntKind.i64.wrap ((IntKind.i64.wrap ((2 : Int) * v1)) + y2)) (IntKind.i64.wrap (v2 - (1 : Int))) v3 v4 v5 v6 v7 v8
    else
      bif decide ((v8.length + ([v1] : List Int).length) * 8 ≤ 140737488355328) then
        spec_PackList_l0 (IntKind.i64.wrap (v0 + (1 : Int))) v3 v4 v5 v6 v7 (v8 ++ ([v1] : List Int))
      else
        none := (Lw_eq tysOk (getG_con (spec_PackList.gok _)) _ _).trans (by kernel_rfl)

/-! ### spec_l03List: loop.example/g00688/spec.l03List -/
def spec_l03List.ms : List Mode := [.lend]
def spec_l03List.as : List VSh := [.agg [.int .i64, .int .i64, .int .i64, .int .i64, .int .i64, .sl false false 117, .int .i64, .sl false false 117]]
def spec_l03List.rs : RSh := ⟨[.one (.b (.b (.b (.b (.sl true true 3)))))], [none]⟩
noncomputable def spec_l03List.gs (δ : Type) : List (Nat × Callee (GT tab) δ) := [(92, calleeS tab spec_l01List.ms spec_l01List.as spec_l01List.rs spec_l01List.fn), (126, calleeS tab spec_l02Pow.ms spec_l02Pow.as spec_l02Pow.rs spec_l02Pow.fn), (134, calleeS tab spec_PackList.ms spec_PackList.as spec_PackList.rs spec_PackList.fn)]
theorem spec_l03List.gok (δ : Type) : AllCon Try.prog tab (spec_l03List.gs δ) := .cons spec_l01List.con (.cons spec_l02Pow.con (.cons spec_PackList.con (.nil)))
noncomputable def spec_l03List.c : Ctx (GT tab) (KT tab) (ResT tab spec_l03List.rs) := { X := XT tab, ty := tyOf tys, inner := fun _ => true, keep := keepOf 0 spec_l03List.ms, cuts := [], live := liveOf [(6, [1, 3, 4, 5, 6, 7])], G := getG (spec_l03List.gs _) }
noncomputable def spec_l03List.b : Code := bodyOf Try.f79
noncomputable def spec_l03List (x0 : Int × Int × Int × Int × Int × (List Int) × Int × (List Int)) : Option (List Int) := callW spec_l03List.c (fiOf (GT tab) Try.f79 spec_l03List.ms) spec_l03List.b (decRes tab spec_l03List.rs) (encArgs tab spec_l03List.as x0)
theorem spec_l03List.fok : FnOk Try.prog 79 Try.f79 spec_l03List.ms spec_l03List.b := ⟨Try.func79, by kernel_rfl, by kernel_rfl⟩
noncomputable def spec_l03List.fn : Args tab spec_l03List.as → Option (ResT tab spec_l03List.rs) := fun x => spec_l03List x
theorem spec_l03List.con {δ : Type} : Con Try.prog (KT tab) 79 (calleeS (β := δ) tab spec_l03List.ms spec_l03List.as spec_l03List.rs spec_l03List.fn) := con_shape (c := spec_l03List.c) mixed tysOk (getG_con (spec_l03List.gok _)) spec_l03List.fok rfl rfl (fun _ => rfl)
noncomputable def spec_l03List_l0 (v0 : Int) (v1 : Int) (v2 : Int) (v3 : Int) (v4 : Int) (v5 : Int) (v6 : Int) (v7 : List Int) (v8 : Int) (v9 : List Int) (v10 : List Int) (v11 : List Int) (v12 : List Int) : Option (List Int) := Lw spec_l03List.c (finish spec_l03List.c (fiOf (GT tab) Try.f79 spec_l03List.ms) (decRes tab spec_l03List.rs)) ((loops spec_l03List.c.cuts 1000 spec_l03List.b []).getD 0 []) { slots := [.undef, .ptr 0 0, .undef, .sl 1 0, .sl 2 0, .sl 3 0, .int .i64 v0, .int .i64 v1, .undef, .undef, .undef, .undef, .undef, .undef, .undef, .undef, .undef, .undef, .undef, .undef, .undef, .undef, .undef, .undef, .undef, .undef, .undef, .undef, .undef, .undef, .undef, .undef, .undef, .undef, .undef, .undef, .undef, .undef, .undef, .undef, .undef, .undef, .undef, .undef, .undef, .undef, .undef, .undef, .undef], loc := locOf [.box 55 [.int .i64 v2, .int .i64 v3, .int .i64 v4, .int .i64 v5, .int .i64 v6, .vs false 117 v7, .int .i64 v8, .vs false 117 v9], .row 0 true 3 v10, .row 0 true 3 v11, .row 0 true 3 v12], nx := 4 }
theorem spec_l03List.eq (x0 : Int × Int × Int × Int × Int × (List Int) × Int × (List Int)) : spec_l03List x0 =
    (spec_PackList (x0.2.2.1, x0.2.2.2.1, x0.2.2.2.2.1, x0.2.2.2.2.2.1)).bind fun y1 =>
    (spec_l01List (x0.2.2.2.2.2.2.1, x0.2.2.2.2.2.2.2)).bind fun y2 =>
    spec_l03List_l0 (0 : Int) (0 : Int) x0.1 x0.2.1 x0.2.2.1 x0.2.2.2.1 x0.2.2.2.2.1 x0.2.2.2.2.2.1 x0.2.2.2.2.2.2.1 x0.2.2.2.2.2.2.2 ([] : List Int) y1 y2 := by kernel_rfl
theorem spec_l03List_l0.eq (v0 : Int) (v1 : Int) (v2 : Int) (v3 : Int) (v4 : Int) (v5 : Int) (v6 : Int) (v7 : List Int) (v8 : Int) (v9 : List Int) (v10 : List Int) (v11 : List Int) (v12 : List Int) : spec_l03List_l0 v0 v1 v2 v3 v4 v5 v6 v7 v8 v9 v10 v11 v12 =
    bif decide (v1 < (v12.length : Int)) then
      (at? v12 v1).bind fun y1 =>
      v12[v1.toNat]?.bind fun y2 =>
      bif y2 == (0 : Int) then
        spec_l03List_l0 (IntKind.i64.wrap (v0 + (1 : Int))) (IntKind.i64.wrap (v1 + (1 : Int))) v2 v3 v4 v5 v6 v7 v8 v9 v10 v11 v12
      else
        bif decide ((v10.length : Int) < (v11.length : Int)) then
          (spec_l02Pow v4).bind fun y3 =>
          (at? v11 (v10.length : Int)).bind fun y4 =>
          v11[(v10.length : Int).toNat]?.bind fun y5 =>
          bif decide ((v10.length + ([IntKind.i64.wrap ((IntKind.i64.wrap (v0 * y3)) + y5)] : List Int).length) * 8 ≤ 140737488355328) then
            spec_l03List_l0 v0 (IntKind.i64.wrap (v1 + (1 : Int))) v2 v3 v4 v5 v6 v7 v8 v9 (v10 ++ ([IntKind.i64.wrap ((IntKind.i64.wrap (v0 * y3)) + y5)] : List Int)) v11 v12
          else
            none
        else
          spec_l03List_l0 v0 (IntKind.i64.wrap (v1 + (1 : Int))) v2 v3 v4 v5 v6 v7 v8 v9 v10 v11 v12
    else
      some v10 := (Lw_eq tysOk (getG_con (spec_l03List.gok _)) _ _).trans (by kernel_rfl)

/-! ### spec_WidthOf: loop.example/g00688/spec.WidthOf -/
def spec_WidthOf.ms : List Mode := [.lend]
def spec_WidthOf.as : List VSh := [.one (.b (.b (.b (.b (.int .i64)))))]
def spec_WidthOf.rs : RSh := ⟨[.one (.b (.b (.b (.b (.int .i64)))))], [none]⟩
noncomputable def spec_WidthOf.gs (δ : Type) : List (Nat × Callee (GT tab) δ) := []
theorem spec_WidthOf.gok (δ : Type) : AllCon Try.prog tab (spec_WidthOf.gs δ) := .nil
noncomputable def spec_WidthOf.c : Ctx (GT tab) (KT tab) (ResT tab spec_WidthOf.rs) := { X := XT tab, ty := tyOf tys, inner := fun _ => true, keep := keepOf 0 spec_WidthOf.ms, cuts := [], live := liveOf [(4, [0, 3])], G := getG (spec_WidthOf.gs _) }
noncomputable def spec_WidthOf.b : Code := bodyOf Try.f183
noncomputable def spec_WidthOf (x0 : Int) : Option (Int) := callW spec_WidthOf.c (fiOf (GT tab) Try.f183 spec_WidthOf.ms) spec_WidthOf.b (decRes tab spec_WidthOf.rs) (encArgs tab spec_WidthOf.as x0)
theorem spec_WidthOf.fok : FnOk Try.prog 183 Try.f183 spec_WidthOf.ms spec_WidthOf.b := ⟨Try.func183, by kernel_rfl, by kernel_rfl⟩
noncomputable def spec_WidthOf.fn : Args tab spec_WidthOf.as → Option (ResT tab spec_WidthOf.rs) := fun x => spec_WidthOf x
theorem spec_WidthOf.con {δ : Type} : Con Try.prog (KT tab) 183 (calleeS (β := δ) tab spec_WidthOf.ms spec_WidthOf.as spec_WidthOf.rs spec_WidthOf.fn) := con_shape (c := spec_WidthOf.c) mixed tysOk (getG_con (spec_WidthOf.gok _)) spec_WidthOf.fok rfl rfl (fun _ => rfl)
noncomputable def spec_WidthOf_l0 (v0 : Int) (v1 : Int) : Option (Int) := Lw spec_WidthOf.c (finish spec_WidthOf.c (fiOf (GT tab) Try.f183 spec_WidthOf.ms) (decRes tab spec_WidthOf.rs)) ((loops spec_WidthOf.c.cuts 1000 spec_WidthOf.b []).getD 0 []) { slots := [.int .i64 v0, .undef, .undef, .int .i64 v1, .undef, .undef, .undef, .undef, .undef, .undef, .undef, .undef, .undef], loc := locOf [], nx := 0 }
theorem spec_WidthOf.eq (x0 : Int) : spec_WidthOf x0 =
    bif decide (x0 < (0 : Int)) then
      some (-1 : Int)
    else
      spec_WidthOf_l0 x0 (0 : Int) := by kernel_rfl
theorem spec_WidthOf_l0.eq (v0 : Int) (v1 : Int) : spec_WidthOf_l0 v0 v1 =
    bif decide (v0 > (0 : Int)) then
      spec_WidthOf_l0 (IntKind.i64.wrap (v0.tdiv (2 : Int))) (IntKind.i64.wrap (v1 + (1 : Int)))
    else
      some v1 := (Lw_eq tysOk (getG_con (spec_WidthOf.gok _)) _ _).trans (by kernel_rfl)

/-! ### spec_l03Width: loop.example/g00688/spec.l03Width -/
def spec_l03Width.ms : List Mode := [.lend, .lend]
def spec_l03Width.as : List VSh := [.one (.b (.b (.b (.b (.int .i64))))), .one (.b (.b (.b (.b (.int .i64)))))]
def spec_l03Width.rs : RSh := ⟨[.one (.b (.b (.b (.b (.int .i64)))))], [none, none]⟩
noncomputable def spec_l03Width.gs (δ : Type) : List (Nat × Callee (GT tab) δ) := [(183, calleeS tab spec_WidthOf.ms spec_WidthOf.as spec_WidthOf.rs spec_WidthOf.fn)]
theorem spec_l03Width.gok (δ : Type) : AllCon Try.prog tab (spec_l03Width.gs δ) := .cons spec_WidthOf.con (.nil)
noncomputable def spec_l03Width.c : Ctx (GT tab) (KT tab) (ResT tab spec_l03Width.rs) := { X := XT tab, ty := tyOf tys, inner := fun _ => true, keep := keepOf 0 spec_l03Width.ms, cuts := [], live := liveOf [], G := getG (spec_l03Width.gs _) }
noncomputable def spec_l03Width.b : Code := bodyOf Try.f163
noncomputable def spec_l03Width (x0 : Int) (x1 : Int) : Option (Int) := callW spec_l03Width.c (fiOf (GT tab) Try.f163 spec_l03Width.ms) spec_l03Width.b (decRes tab spec_l03Width.rs) (encArgs tab spec_l03Width.as (x0, x1))
theorem spec_l03Width.fok : FnOk Try.prog 163 Try.f163 spec_l03Width.ms spec_l03Width.b := ⟨Try.func163, by kernel_rfl, by kernel_rfl⟩
noncomputable def spec_l03Width.fn : Args tab spec_l03Width.as → Option (ResT tab spec_l03Width.rs) := fun x => spec_l03Width x.1 x.2
theorem spec_l03Width.con {δ : Type} : Con Try.prog (KT tab) 163 (calleeS (β := δ) tab spec_l03Width.ms spec_l03Width.as spec_l03Width.rs spec_l03Width.fn) := con_shape (c := spec_l03Width.c) mixed tysOk (getG_con (spec_l03Width.gok _)) spec_l03Width.fok rfl rfl (fun _ => rfl)
theorem spec_l03Width.eq (x0 : Int) (x1 : Int) : spec_l03Width x0 x1 =
    bif x0 == (0 : Int) then
      some (0 : Int)
    else
      bif decide (x0 = (0 : Int)) then
        none
      else
        (spec_WidthOf (IntKind.i64.wrap (x1.tdiv x0))).bind fun y1 =>
        some (if IntKind.i64.wrap (y1 - (1 : Int)) > (0 : Int) then IntKind.i64.wrap (y1 - (1 : Int)) else (0 : Int)) := by kernel_rfl

/-! ### spec_SparseOf: loop.example/g00688/spec.SparseOf -/
def spec_SparseOf.ms : List Mode := [.lend, .lend]
def spec_SparseOf.as : List VSh := [.one (.b (.b (.b (.b (.sl false false 3))))), .one (.b (.b (.b (.b (.int .i64)))))]
def spec_SparseOf.rs : RSh := ⟨[.agg [.int .i64, .int .i64, .int .i64, .int .i64, .int .i64, .sl true true 117, .int .i64, .sl true true 117], .one (.b (.b (.b (.b (.bool)))))], [none, none]⟩
noncomputable def spec_SparseOf.gs (δ : Type) : List (Nat × Callee (GT tab) δ) := [(91, calleeS tab spec_BitsOf.ms spec_BitsOf.as spec_BitsOf.rs spec_BitsOf.fn), (126, calleeS tab spec_l02Pow.ms spec_l02Pow.as spec_l02Pow.rs spec_l02Pow.fn), (143, calleeS tab spec_PackOf.ms spec_PackOf.as spec_PackOf.rs spec_PackOf.fn), (163, calleeS tab spec_l03Width.ms spec_l03Width.as spec_l03Width.rs spec_l03Width.fn)]
theorem spec_SparseOf.gok (δ : Type) : AllCon Try.prog tab (spec_SparseOf.gs δ) := .cons spec_BitsOf.con (.cons spec_l02Pow.con (.cons spec_PackOf.con (.cons spec_l03Width.con (.nil))))
noncomputable def spec_SparseOf.c : Ctx (GT tab) (KT tab) (ResT tab spec_SparseOf.rs) := { X := XT tab, ty := tyOf tys, inner := fun _ => true, keep := keepOf 0 spec_SparseOf.ms, cuts := [3, 15, 16], live := liveOf [(3, [0, 1, 4]), (4, [0, 1, 4, 6]), (13, [0, 1, 4, 7, 8, 9, 10, 11]), (15, [0, 1, 4, 7, 8, 9, 10, 11]), (16, [0, 1, 4, 7, 8, 9, 10, 11])], G := getG (spec_SparseOf.gs _) }
noncomputable def spec_SparseOf.b : Code := bodyOf Try.f132
noncomputable def spec_SparseOf (x0 : List Int) (x1 : Int) : Option ((Int × Int × Int × Int × Int × (List Int) × Int × (List Int)) × Bool) := callW spec_SparseOf.c (fiOf (GT tab) Try.f132 spec_SparseOf.ms) spec_SparseOf.b (decRes tab spec_SparseOf.rs) (encArgs tab spec_SparseOf.as (x0, x1))
theorem spec_SparseOf.fok : FnOk Try.prog 132 Try.f132 spec_SparseOf.ms spec_SparseOf.b := ⟨Try.func132, by kernel_rfl, by kernel_rfl⟩
noncomputable def spec_SparseOf.fn : Args tab spec_SparseOf.as → Option (ResT tab spec_SparseOf.rs) := fun x => spec_SparseOf x.1 x.2
theorem spec_SparseOf.con {δ : Type} : Con Try.prog (KT tab) 132 (calleeS (β := δ) tab spec_SparseOf.ms spec_SparseOf.as spec_SparseOf.rs spec_SparseOf.fn) := con_shape (c := spec_SparseOf.c) mixed tysOk (getG_con (spec_SparseOf.gok _)) spec_SparseOf.fok rfl rfl (fun _ => rfl)
noncomputable def spec_SparseOf_l0 (v0 : List Int) (v1 : Int) (v2 : Int) (v3 : Int) (v4 : Int) (v5 : Int) (v6 : Int) (v7 : Int) (v8 : List Int) (v9 : List Int) : Option ((Int × Int × Int × Int × Int × (List Int) × Int × (List Int)) × Bool) := Lw spec_SparseOf.c (finish spec_SparseOf.c (fiOf (GT tab) Try.f132 spec_SparseOf.ms) (decRes tab spec_SparseOf.rs)) ((loops spec_SparseOf.c.cuts 1000 spec_SparseOf.b []).getD 0 []) { slots := [.vs false 3 v0, .int .i64 v1, .undef, .undef, .ptr 0 0, .undef, .undef, .undef, .undef, .undef, .undef, .undef, .undef, .undef, .undef, .undef, .undef, .undef, .undef, .undef, .undef, .undef, .undef, .undef, .undef, .undef, .undef, .undef, .undef, .undef, .undef, .undef, .undef, .undef, .undef, .undef, .undef, .undef, .undef, .undef, .undef, .undef, .undef, .undef, .undef, .undef, .undef, .undef, .undef, .undef, .undef, .undef, .undef, .undef, .undef, .undef, .undef, .undef, .undef, .undef, .undef, .undef, .undef, .undef, .undef, .undef, .undef, .undef, .undef, .undef, .undef, .undef, .undef, .undef, .undef, .undef, .undef, .undef, .undef, .undef, .undef, .undef, .undef, .undef, .undef, .undef, .undef, .undef, .undef, .undef, .undef, .undef, .undef, .undef, .undef, .undef, .undef, .undef, .undef, .undef, .undef, .undef, .undef, .undef, .undef, .undef, .undef, .undef, .undef, .undef, .undef, .undef, .undef, .undef, .undef, .undef, .undef, .undef, .undef, .undef, .undef, .undef, .undef, .undef, .undef, .undef, .undef, .undef, .undef, .undef, .undef, .undef, .undef, .undef, .undef, .undef, .undef, .undef, .undef, .undef, .undef], loc := locOf [.box 55 [.int .i64 v2, .int .i64 v3, .int .i64 v4, .int .i64 v5, .int .i64 v6, .sl 1 0, .int .i64 v7, .sl 2 0], .row 0 true 117 v8, .row 0 true 117 v9], nx := 3 }
noncomputable def spec_SparseOf_l1 (v0 : List Int) (v1 : Int) (v2 : Int) (v3 : Int) (v4 : Int) (v5 : Int) (v6 : Int) (v7 : Int) (v8 : Int) (v9 : List Int) (v10 : List Int) : Option ((Int × Int × Int × Int × Int × (List Int) × Int × (List Int)) × Bool) := Lw spec_SparseOf.c (finish spec_SparseOf.c (fiOf (GT tab) Try.f132 spec_SparseOf.ms) (decRes tab spec_SparseOf.rs)) ((loops spec_SparseOf.c.cuts 1000 spec_SparseOf.b []).getD 1 []) { slots := [.vs false 3 v0, .int .i64 v1, .undef, .undef, .ptr 0 0, .undef, .int .i64 v2, .undef, .undef, .undef, .undef, .undef, .undef, .undef, .undef, .undef, .undef, .undef, .undef, .undef, .undef, .undef, .undef, .undef, .undef, .undef, .undef, .undef, .undef, .undef, .undef, .undef, .undef, .undef, .undef, .undef, .undef, .undef, .undef, .undef, .undef, .undef, .undef, .undef, .undef, .undef, .undef, .undef, .undef, .undef, .undef, .undef, .undef, .undef, .undef, .undef, .undef, .undef, .undef, .undef, .undef, .undef, .undef, .undef, .undef, .undef, .undef, .undef, .undef, .undef, .undef, .undef, .undef, .undef, .undef, .undef, .undef, .undef, .undef, .undef, .undef, .undef, .undef, .undef, .undef, .undef, .undef, .undef, .undef, .undef, .undef, .undef, .undef, .undef, .undef, .undef, .undef, .undef, .undef, .undef, .undef, .undef, .undef, .undef, .undef, .undef, .undef, .undef, .undef, .undef, .undef, .undef, .undef, .undef, .undef, .undef, .undef, .undef, .undef, .undef, .undef, .undef, .undef, .undef, .undef, .undef, .undef, .undef, .undef, .undef, .undef, .undef, .undef, .undef, .undef, .undef, .undef, .undef, .undef, .undef, .undef], loc := locOf [.box 55 [.int .i64 v3, .int .i64 v4, .int .i64 v5, .int .i64 v6, .int .i64 v7, .sl 1 0, .int .i64 v8, .sl 2 0], .row 0 true 117 v9, .row 0 true 117 v10], nx := 3 }
noncomputable def spec_SparseOf_l2 (v0 : List Int) (v1 : Int) (v2 : Int) (v3 : Int) (v4 : Int) (v5 : Int) (v6 : Int) (v7 : Int) (v8 : Int) (v9 : Int) (v10 : Int) (v11 : List Int) (v12 : List Int) (v13 : List Int) (v14 : List Int) : Option ((Int × Int × Int × Int × Int × (List Int) × Int × (List Int)) × Bool) := Lw spec_SparseOf.c (finish spec_SparseOf.c (fiOf (GT tab) Try.f132 spec_SparseOf.ms) (decRes tab spec_SparseOf.rs)) ((loops spec_SparseOf.c.cuts 1000 spec_SparseOf.b []).getD 2 []) { slots := [.vs false 3 v0, .int .i64 v1, .undef, .undef, .ptr 0 0, .undef, .undef, .int .i64 v2, .sl 3 0, .sl 4 0, .int .i64 v3, .int .i64 v4, .undef, .undef, .undef, .undef, .undef, .undef, .undef, .undef, .undef, .undef, .undef, .undef, .undef, .undef, .undef, .undef, .undef, .undef, .undef, .undef, .undef, .undef, .undef, .undef, .undef, .undef, .undef, .undef, .undef, .undef, .undef, .undef, .undef, .undef, .undef, .undef, .undef, .undef, .undef, .undef, .undef, .undef, .undef, .undef, .undef, .undef, .undef, .undef, .undef, .undef, .undef, .undef, .undef, .undef, .undef, .undef, .undef, .undef, .undef, .undef, .undef, .undef, .undef, .undef, .undef, .undef, .undef, .undef, .undef, .undef, .undef, .undef, .undef, .undef, .undef, .undef, .undef, .undef, .undef, .undef, .undef, .undef, .undef, .undef, .undef, .undef, .undef, .undef, .undef, .undef, .undef, .undef, .undef, .undef, .undef, .undef, .undef, .undef, .undef, .undef, .undef, .undef, .undef, .undef, .undef, .undef, .undef, .undef, .undef, .undef, .undef, .undef, .undef, .undef, .undef, .undef, .undef, .undef, .undef, .undef, .undef, .undef, .undef, .undef, .undef, .undef, .undef, .undef, .undef], loc := locOf [.box 55 [.int .i64 v5, .int .i64 v6, .int .i64 v7, .int .i64 v8, .int .i64 v9, .sl 1 0, .int .i64 v10, .sl 2 0], .row 0 true 117 v11, .row 0 true 117 v12, .row 0 true 3 v13, .row 0 true 3 v14], nx := 5 }
noncomputable def spec_SparseOf_l3 (v0 : List Int) (v1 : Int) (v2 : Int) (v3 : Int) (v4 : Int) (v5 : Int) (v6 : Int) (v7 : Int) (v8 : Int) (v9 : Int) (v10 : Int) (v11 : List Int) (v12 : List Int) (v13 : List Int) (v14 : List Int) : Option ((Int × Int × Int × Int × Int × (List Int) × Int × (List Int)) × Bool) := Lw spec_SparseOf.c (finish spec_SparseOf.c (fiOf (GT tab) Try.f132 spec_SparseOf.ms) (decRes tab spec_SparseOf.rs)) ((loops spec_SparseOf.c.cuts 1000 spec_SparseOf.b []).getD 3 []) { slots := [.vs false 3 v0, .int .i64 v1, .undef, .undef, .ptr 0 0, .undef, .undef, .int .i64 v2, .sl 3 0, .sl 4 0, .int .i64 v3, .int .i64 v4, .undef, .undef, .undef, .undef, .undef, .undef, .undef, .undef, .undef, .undef, .undef, .undef, .undef, .undef, .undef, .undef, .undef, .undef, .undef, .undef, .undef, .undef, .undef, .undef, .undef, .undef, .undef, .undef, .undef, .undef, .undef, .undef, .undef, .undef, .undef, .undef, .undef, .undef, .undef, .undef, .undef, .undef, .undef, .undef, .undef, .undef, .undef, .undef, .undef, .undef, .undef, .undef, .undef, .undef, .undef, .undef, .undef, .undef, .undef, .undef, .undef, .undef, .undef, .undef, .undef, .undef, .undef, .undef, .undef, .undef, .undef, .undef, .undef, .undef, .undef, .undef, .undef, .undef, .undef, .undef, .undef, .undef, .undef, .undef, .undef, .undef, .undef, .undef, .undef, .undef, .undef, .undef, .undef, .undef, .undef, .undef, .undef, .undef, .undef, .undef, .undef, .undef, .undef, .undef, .undef, .undef, .undef, .undef, .undef, .undef, .undef, .undef, .undef, .undef, .undef, .undef, .undef, .undef, .undef, .undef, .undef, .undef, .undef, .undef, .undef, .undef, .undef, .undef, .undef], loc := locOf [.box 55 [.int .i64 v5, .int .i64 v6, .int .i64 v7, .int .i64 v8, .int .i64 v9, .sl 1 0, .int .i64 v10, .sl 2 0], .row 0 true 117 v11, .row 0 true 117 v12, .row 0 true 3 v13, .row 0 true 3 v14], nx := 5 }
noncomputable def spec_SparseOf_l4 (v0 : List Int) (v1 : Int) (v2 : Int) (v3 : Int) (v4 : Int) (v5 : Int) (v6 : Int) (v7 : Int) (v8 : Int) (v9 : Int) (v10 : Int) (v11 : List Int) (v12 : List Int) (v13 : List Int) (v14 : List Int) : Option ((Int × Int × Int × Int × Int × (List Int) × Int × (List Int)) × Bool) := Lw spec_SparseOf.c (finish spec_SparseOf.c (fiOf (GT tab) Try.f132 spec_SparseOf.ms) (decRes tab spec_SparseOf.rs)) ((loops spec_SparseOf.c.cuts 1000 spec_SparseOf.b []).getD 4 []) { slots := [.vs false 3 v0, .int .i64 v1, .undef, .undef, .ptr 0 0, .undef, .undef, .int .i64 v2, .sl 3 0, .sl 4 0, .int .i64 v3, .int .i64 v4, .undef, .undef, .undef, .undef, .undef, .undef, .undef, .undef, .undef, .undef, .undef, .undef, .undef, .undef, .undef, .undef, .undef, .undef, .undef, .undef, .undef, .undef, .undef, .undef, .undef, .undef, .undef, .undef, .undef, .undef, .undef, .undef, .undef, .undef, .undef, .undef, .undef, .undef, .undef, .undef, .undef, .undef, .undef, .undef, .undef, .undef, .undef, .undef, .undef, .undef, .undef, .undef, .undef, .undef, .undef, .undef, .undef, .undef, .undef, .undef, .undef, .undef, .undef, .undef, .undef, .undef, .undef, .undef, .undef, .undef, .undef, .undef, .undef, .undef, .undef, .undef, .undef, .undef, .undef, .undef, .undef, .undef, .undef, .undef, .undef, .undef, .undef, .undef, .undef, .undef, .undef, .undef, .undef, .undef, .undef, .undef, .undef, .undef, .undef, .undef, .undef, .undef, .undef, .undef, .undef, .undef, .undef, .undef, .undef, .undef, .undef, .undef, .undef, .undef, .undef, .undef, .undef, .undef, .undef, .undef, .undef, .undef, .undef, .undef, .undef, .undef, .undef, .undef, .undef], loc := locOf [.box 55 [.int .i64 v5, .int .i64 v6, .int .i64 v7, .int .i64 v8, .int .i64 v9, .sl 1 0, .int .i64 v10, .sl 2 0], .row 0 true 117 v11, .row 0 true 117 v12, .row 0 true 3 v13, .row 0 true 3 v14], nx := 5 }
noncomputable def spec_SparseOf_l5 (v0 : List Int) (v1 : Int) (v2 : Int) (v3 : Int) (v4 : Int) (v5 : Int) (v6 : Int) (v7 : Int) (v8 : Int) (v9 : Int) (v10 : Int) (v11 : List Int) (v12 : List Int) (v13 : List Int) (v14 : List Int) : Option ((Int × Int × Int × Int × Int × (List Int) × Int × (List Int)) × Bool) := Lw spec_SparseOf.c (finish spec_SparseOf.c (fiOf (GT tab) Try.f132 spec_SparseOf.ms) (decRes tab spec_SparseOf.rs)) ((loops spec_SparseOf.c.cuts 1000 spec_SparseOf.b []).getD 5 []) { slots := [.vs false 3 v0, .int .i64 v1, .undef, .undef, .ptr 0 0, .undef, .undef, .int .i64 v2, .sl 3 0, .sl 4 0, .int .i64 v3, .int .i64 v4, .undef, .undef, .undef, .undef, .undef, .undef, .undef, .undef, .undef, .undef, .undef, .undef, .undef, .undef, .undef, .undef, .undef, .undef, .undef, .undef, .undef, .undef, .undef, .undef, .undef, .undef, .undef, .undef, .undef, .undef, .undef, .undef, .undef, .undef, .undef, .undef, .undef, .undef, .undef, .undef, .undef, .undef, .undef, .undef, .undef, .undef, .undef, .undef, .undef, .undef, .undef, .undef, .undef, .undef, .undef, .undef, .undef, .undef, .undef, .undef, .undef, .undef, .undef, .undef, .undef, .undef, .undef, .undef, .undef, .undef, .undef, .undef, .undef, .undef, .undef, .undef, .undef, .undef, .undef, .undef, .undef, .undef, .undef, .undef, .undef, .undef, .undef, .undef, .undef, .undef, .undef, .undef, .undef, .undef, .undef, .undef, .undef, .undef, .undef, .undef, .undef, .undef, .undef, .undef, .undef, .undef, .undef, .undef, .undef, .undef, .undef, .undef, .undef, .undef, .undef, .undef, .undef, .undef, .undef, .undef, .undef, .undef, .undef, .undef, .undef, .undef, .undef, .undef, .undef], loc := locOf [.box 55 [.int .i64 v5, .int .i64 v6, .int .i64 v7, .int .i64 v8, .int .i64 v9, .sl 1 0, .int .i64 v10, .sl 2 0], .row 0 true 117 v11, .row 0 true 117 v12, .row 0 true 3 v13, .row 0 true 3 v14], nx := 5 }
theorem spec_SparseOf.eq (x0 : List Int) (x1 : Int) : spec_SparseOf x0 x1 =
    bif decide (x1 < (0 : Int)) then
      some (((0 : Int), (0 : Int), (0 : Int), (0 : Int), (0 : Int), ([] : List Int), (0 : Int), ([] : List Int)), false)
    else
      bif decide (x1 > (1000000 : Int)) then
        some (((0 : Int), (0 : Int), (0 : Int), (0 : Int), (0 : Int), ([] : List Int), (0 : Int), ([] : List Int)), false)
      else
        bif decide ((x0.length : Int) > (5000 : Int)) then
          some (((0 : Int), (0 : Int), (0 : Int), (0 : Int), (0 : Int), ([] : List Int), (0 : Int), ([] : List Int)), false)
        else
          spec_SparseOf_l0 x0 x1 (0 : Int) (0 : Int) (0 : Int) (0 : Int) (0 : Int) (0 : Int) ([] : List Int) ([] : List Int) := by kernel_rfl
theorem spec_SparseOf_l0.eq (v0 : List Int) (v1 : Int) (v2 : Int) (v3 : Int) (v4 : Int) (v5 : Int) (v6 : Int) (v7 : Int) (v8 : List Int) (v9 : List Int) : spec_SparseOf_l0 v0 v1 v2 v3 v4 v5 v6 v7 v8 v9 =
    spec_SparseOf_l1 v0 v1 (0 : Int) v2 v3 v4 v5 v6 v7 v8 v9 := (Lw_eq tysOk (getG_con (spec_SparseOf.gok _)) _ _).trans (by kernel_rfl)
theorem spec_SparseOf_l1.eq (v0 : List Int) (v1 : Int) (v2 : Int) (v3 : Int) (v4 : Int) (v5 : Int) (v6 : Int) (v7 : Int) (v8 : Int) (v9 : List Int) (v10 : List Int) : spec_SparseOf_l1 v0 v1 v2 v3 v4 v5 v6 v7 v8 v9 v10 =
    bif decide (v2 < (v0.length : Int)) then
      (at? v0 v2).bind fun y1 =>
      bif decide (y1 < (0 : Int)) then
        some (((0 : Int), (0 : Int), (0 : Int), (0 : Int), (0 : Int), ([] : List Int), (0 : Int), ([] : List Int)), false)
      else
        (at? v0 v2).bind fun y2 =>
        bif decide (y2 ≥ v1) then
          some (((0 : Int), (0 : Int), (0 : Int), (0 : Int), (0 : Int), ([] : List Int), (0 : Int), ([] : List Int)), false)
        else
          bif decide (v2 > (0 : Int)) then
            (at? v0 (IntKind.i64.wrap (v2 - (1 : Int)))).bind fun y3 =>
            (at? v0 v2).bind fun y4 =>
            bif decide (y3 > y4) then
              some (((0 : Int), (0 : Int), (0 : Int), (0 : Int), (0 : Int), ([] : List Int), (0 : Int), ([] : List Int)), false)
            else
              spec_SparseOf_l1 v0 v1 (IntKind.i64.wrap (v2 + (1 : Int))) v3 v4 v5 v6 v7 v8 v9 v10
          else
            spec_SparseOf_l1 v0 v1 (IntKind.i64.wrap (v2 + (1 : Int))) v3 v4 v5 v6 v7 v8 v9 v10
    else
      (spec_l03Width (v0.length : Int) v1).bind fun y5 =>
      (spec_l02Pow y5).bind fun y6 =>
      spec_SparseOf_l2 v0 v1 y6 (0 : Int) (0 : Int) v3 v4 v5 v6 v7 v8 v9 v10 ([] : List Int) ([] : List Int) := (Lw_eq tysOk (getG_con (spec_SparseOf.gok _)) _ _).trans (by kernel_rfl)
theorem spec_SparseOf_l2.eq (v0 : List Int) (v1 : Int) (v2 : Int) (v3 : Int) (v4 : Int) (v5 : Int) (v6 : Int) (v7 : Int) (v8 : Int) (v9 : Int) (v10 : Int) (v11 : List Int) (v12 : List Int) (v13 : List Int) (v14 : List Int) : spec_SparseOf_l2 v0 v1 v2 v3 v4 v5 v6 v7 v8 v9 v10 v11 v12 v13 v14 =
    bif decide (v2 = (0 : Int)) then
      none
    else
      bif decide (v4 ≤ IntKind.i64.wrap (v1.tdiv v2)) then
        bif decide ((v14.length : Int) ≤ (5000 : Int)) then
          spec_SparseOf_l3 v0 v1 v2 v3 v4 v5 v6 v7 v8 v9 v10 v11 v12 v13 v14
        else
          (spec_l03Width (v0.length : Int) v1).bind fun y1 =>
          (spec_PackOf v13 y1).bind fun y2 =>
          (spec_BitsOf v14).bind fun y3 =>
          bif !y2.2 then
            some (((0 : Int), (0 : Int), (0 : Int), (0 : Int), (0 : Int), ([] : List Int), (0 : Int), ([] : List Int)), false)
          else
            bif !y3.2 then
              some (((0 : Int), (0 : Int), (0 : Int), (0 : Int), (0 : Int), ([] : List Int), (0 : Int), ([] : List Int)), false)
            else
              some ((v1, (v0.length : Int), y2.1.1, y2.1.2.1, y2.1.2.2.1, y2.1.2.2.2, y3.1.1, y3.1.2), true)
      else
        (spec_l03Width (v0.length : Int) v1).bind fun y4 =>
        (spec_PackOf v13 y4).bind fun y5 =>
        (spec_BitsOf v14).bind fun y6 =>
        bif !y5.2 then
          some (((0 : Int), (0 : Int), (0 : Int), (0 : Int), (0 : Int), ([] : List Int), (0 : Int), ([] : List Int)), false)
        else
          bif !y6.2 then
            some (((0 : Int), (0 : Int), (0 : Int), (0 : Int), (0 : Int), ([] : List Int), (0 : Int), ([] : List Int)), false)
          else
            some ((v1, (v0.length : Int), y5.1.1, y5.1.2.1, y5.1.2.2.1, y5.1.2.2.2, y6.1.1, y6.1.2), true) := (Lw_eq tysOk (getG_con (spec_SparseOf.gok _)) _ _).trans (by kernel_rfl)
theorem spec_SparseOf_l3.eq (v0 : List Int) (v1 : Int) (v2 : Int) (v3 : Int) (v4 : Int) (v5 : Int) (v6 : Int) (v7 : Int) (v8 : Int) (v9 : Int) (v10 : Int) (v11 : List Int) (v12 : List Int) (v13 : List Int) (v14 : List Int) : spec_SparseOf_l3 v0 v1 v2 v3 v4 v5 v6 v7 v8 v9 v10 v11 v12 v13 v14 =
    spec_SparseOf_l4 v0 v1 v2 v3 v4 v5 v6 v7 v8 v9 v10 v11 v12 v13 v14 := (Lw_eq tysOk (getG_con (spec_SparseOf.gok _)) _ _).trans (by kernel_rfl)
theorem spec_SparseOf_l4.eq (v0 : List Int) (v1 : Int) (v2 : Int) (v3 : Int) (v4 : Int) (v5 : Int) (v6 : Int) (v7 : Int) (v8 : Int) (v9 : Int) (v10 : Int) (v11 : List Int) (v12 : List Int) (v13 : List Int) (v14 : List Int) : spec_SparseOf_l4 v0 v1 v2 v3 v4 v5 v6 v7 v8 v9 v10 v11 v12 v13 v14 =
    bif decide (v3 < (v0.length : Int)) then
      (at? v0 v3).bind fun y1 =>
      bif decide (v2 = (0 : Int)) then
        none
      else
        bif IntKind.i64.wrap (y1.tdiv v2) == v4 then
          spec_SparseOf_l5 v0 v1 v2 v3 v4 v5 v6 v7 v8 v9 v10 v11 v12 v13 v14
        else
          bif decide ((v14.length + ([(0 : Int)] : List Int).length) * 8 ≤ 140737488355328) then
            spec_SparseOf_l2 v0 v1 v2 v3 (IntKind.i64.wrap (v4 + (1 : Int))) v5 v6 v7 v8 v9 v10 v11 v12 v13 (v14 ++ ([(0 : Int)] : List Int))
          else
            none
    else
      bif decide ((v14.length + ([(0 : Int)] : List Int).length) * 8 ≤ 140737488355328) then
        spec_SparseOf_l2 v0 v1 v2 v3 (IntKind.i64.wrap (v4 + (1 : Int))) v5 v6 v7 v8 v9 v10 v11 v12 v13 (v14 ++ ([(0 : Int)] : List Int))
      else
        none := (Lw_eq tysOk (getG_con (spec_SparseOf.gok _)) _ _).trans (by kernel_rfl)
theorem spec_SparseOf_l5.eq (v0 : List Int) (v1 : Int) (v2 : Int) (v3 : Int) (v4 : Int) (v5 : Int) (v6 : Int) (v7 : Int) (v8 : Int) (v9 : Int) (v10 : Int) (v11 : List Int) (v12 : List Int) (v13 : List Int) (v14 : List Int) : spec_SparseOf_l5 v0 v1 v2 v3 v4 v5 v6 v7 v8 v9 v10 v11 v12 v13 v14 =
    (at? v0 v3).bind fun y1 =>
    bif decide (v2 = (0 : Int)) then
      none
    else
      bif decide ((v13.length + ([y1.tmod v2] : List Int).length) * 8 ≤ 140737488355328) then
        bif decide ((v14.length + ([(1 : Int)] : List Int).length) * 8 ≤ 140737488355328) then
          spec_SparseOf_l4 v0 v1 v2 (IntKind.i64.wrap (v3 + (1 : Int))) v4 v5 v6 v7 v8 v9 v10 v11 v12 (v13 ++ ([y1.tmod v2] : List Int)) (v14 ++ ([(1 : Int)] : List Int))
        else
          none
      else
        none := (Lw_eq tysOk (getG_con (spec_SparseOf.gok _)) _ _).trans (by kernel_rfl)

/-! ### spec_l03Same: loop.example/g00688/spec.l03Same -/
def spec_l03Same.ms : List Mode := [.lend, .lend]
def spec_l03Same.as : List VSh := [.agg [.int .i64, .sl false false 117], .agg [.int .i64, .sl false false 117]]
def spec_l03Same.rs : RSh := ⟨[.one (.b (.b (.b (.b (.bool)))))], [none, none]⟩
noncomputable def spec_l03Same.gs (δ : Type) : List (Nat × Callee (GT tab) δ) := []
theorem spec_l03Same.gok (δ : Type) : AllCon Try.prog tab (spec_l03Same.gs δ) := .nil
noncomputable def spec_l03Same.c : Ctx (GT tab) (KT tab) (ResT tab spec_l03Same.rs) := { X := XT tab, ty := tyOf tys, inner := fun _ => true, keep := keepOf 0 spec_l03Same.ms, cuts := [3], live := liveOf [(3, [2, 3]), (4, [2, 3, 5])], G := getG (spec_l03Same.gs _) }
noncomputable def spec_l03Same.b : Code := bodyOf Try.f133
noncomputable def spec_l03Same (x0 : Int × (List Int)) (x1 : Int × (List Int)) : Option (Bool) := callW spec_l03Same.c (fiOf (GT tab) Try.f133 spec_l03Same.ms) spec_l03Same.b (decRes tab spec_l03Same.rs) (encArgs tab spec_l03Same.as (x0, x1))
theorem spec_l03Same.fok : FnOk Try.prog 133 Try.f133 spec_l03Same.ms spec_l03Same.b := ⟨Try.func133, by kernel_rfl, by kernel_rfl⟩
noncomputable def spec_l03Same.fn : Args tab spec_l03Same.as → Option (ResT tab spec_l03Same.rs) := fun x => spec_l03Same x.1 x.2
theorem spec_l03Same.con {δ : Type} : Con Try.prog (KT tab) 133 (calleeS (β := δ) tab spec_l03Same.ms spec_l03Same.as spec_l03Same.rs spec_l03Same.fn) := con_shape (c := spec_l03Same.c) mixed tysOk (getG_con (spec_l03Same.gok _)) spec_l03Same.fok rfl rfl (fun _ => rfl)
noncomputable def spec_l03Same_l0 (v0 : Int) (v1 : List Int) (v2 : Int) (v3 : List Int) : Option (Bool) := Lw spec_l03Same.c (finish spec_l03Same.c (fiOf (GT tab) Try.f133 spec_l03Same.ms) (decRes tab spec_l03Same.rs)) ((loops spec_l03Same.c.cuts 1000 spec_l03Same.b []).getD 0 []) { slots := [.undef, .undef, .ptr 0 0, .ptr 1 0, .undef, .undef, .undef, .undef, .undef, .undef, .undef, .undef, .undef, .undef, .undef, .undef, .undef, .undef, .undef, .undef, .undef, .undef, .undef, .undef, .undef, .undef, .undef, .undef, .undef, .undef, .undef, .undef, .undef, .undef, .undef, .undef, .undef, .undef], loc := locOf [.box 51 [.int .i64 v0, .vs false 117 v1], .box 51 [.int .i64 v2, .vs false 117 v3]], nx := 2 }
noncomputable def spec_l03Same_l1 (v0 : Int) (v1 : Int) (v2 : List Int) (v3 : Int) (v4 : List Int) : Option (Bool) := Lw spec_l03Same.c (finish spec_l03Same.c (fiOf (GT tab) Try.f133 spec_l03Same.ms) (decRes tab spec_l03Same.rs)) ((loops spec_l03Same.c.cuts 1000 spec_l03Same.b []).getD 1 []) { slots := [.undef, .undef, .ptr 0 0, .ptr 1 0, .undef, .int .i64 v0, .undef, .undef, .undef, .undef, .undef, .undef, .undef, .undef, .undef, .undef, .undef, .undef, .undef, .undef, .undef, .undef, .undef, .undef, .undef, .undef, .undef, .undef, .undef, .undef, .undef, .undef, .undef, .undef, .undef, .undef, .undef, .undef], loc := locOf [.box 51 [.int .i64 v1, .vs false 117 v2], .box 51 [.int .i64 v3, .vs false 117 v4]], nx := 2 }
theorem spec_l03Same.eq (x0 : Int × (List Int)) (x1 : Int × (List Int)) : spec_l03Same x0 x1 =
    bif x0.1 != x1.1 then
      some false
    else
      bif (x0.2.length : Int) != (x1.2.length : Int) then
        some false
      else
        spec_l03Same_l0 x0.1 x0.2 x1.1 x1.2 := by kernel_rfl
theorem spec_l03Same_l0.eq (v0 : Int) (v1 : List Int) (v2 : Int) (v3 : List Int) : spec_l03Same_l0 v0 v1 v2 v3 =
    spec_l03Same_l1 (0 : Int) v0 v1 v2 v3 := (Lw_eq tysOk (getG_con (spec_l03Same.gok _)) _ _).trans (by kernel_rfl)
theorem spec_l03Same_l1.eq (v0 : Int) (v1 : Int) (v2 : List Int) (v3 : Int) (v4 : List Int) : spec_l03Same_l1 v0 v1 v2 v3 v4 =
    bif decide (v0 < (v2.length : Int)) then
      (at? v2 v0).bind fun y1 =>
      (at? v4 v0).bind fun y2 =>
      bif y1 != y2 then
        some false
      else
        spec_l03Same_l1 (IntKind.i64.wrap (v0 + (1 : Int))) v1 v2 v3 v4
    else
      some true := (Lw_eq tysOk (getG_con (spec_l03Same.gok _)) _ _).trans (by kernel_rfl)

/-! ### spec_SparseOk: loop.example/g00688/spec.SparseOk -/
def spec_SparseOk.ms : List Mode := [.lend]
def spec_SparseOk.as : List VSh := [.agg [.int .i64, .int .i64, .int .i64, .int .i64, .int .i64, .sl false false 117, .int .i64, .sl false false 117]]
def spec_SparseOk.rs : RSh := ⟨[.one (.b (.b (.b (.b (.bool)))))], [none]⟩
noncomputable def spec_SparseOk.gs (δ : Type) : List (Nat × Callee (GT tab) δ) := [(37, calleeS tab spec_BitsOk.ms spec_BitsOk.as spec_BitsOk.rs spec_BitsOk.fn), (38, calleeS tab spec_PackOk.ms spec_PackOk.as spec_PackOk.rs spec_PackOk.fn), (79, calleeS tab spec_l03List.ms spec_l03List.as spec_l03List.rs spec_l03List.fn), (132, calleeS tab spec_SparseOf.ms spec_SparseOf.as spec_SparseOf.rs spec_SparseOf.fn), (133, calleeS tab spec_l03Same.ms spec_l03Same.as spec_l03Same.rs spec_l03Same.fn)]
theorem spec_SparseOk.gok (δ : Type) : AllCon Try.prog tab (spec_SparseOk.gs δ) := .cons spec_BitsOk.con (.cons spec_PackOk.con (.cons spec_l03List.con (.cons spec_SparseOf.con (.cons spec_l03Same.con (.nil)))))
noncomputable def spec_SparseOk.c : Ctx (GT tab) (KT tab) (ResT tab spec_SparseOk.rs) := { X := XT tab, ty := tyOf tys, inner := fun _ => true, keep := keepOf 0 spec_SparseOk.ms, cuts := [], live := liveOf [], G := getG (spec_SparseOk.gs _) }
noncomputable def spec_SparseOk.b : Code := bodyOf Try.f78
noncomputable def spec_SparseOk (x0 : Int × Int × Int × Int × Int × (List Int) × Int × (List Int)) : Option (Bool) := callW spec_SparseOk.c (fiOf (GT tab) Try.f78 spec_SparseOk.ms) spec_SparseOk.b (decRes tab spec_SparseOk.rs) (encArgs tab spec_SparseOk.as x0)
theorem spec_SparseOk.fok : FnOk Try.prog 78 Try.f78 spec_SparseOk.ms spec_SparseOk.b := ⟨Try.func78, by kernel_rfl, by kernel_rfl⟩
noncomputable def spec_SparseOk.fn : Args tab spec_SparseOk.as → Option (ResT tab spec_SparseOk.rs) := fun x => spec_SparseOk x
theorem spec_SparseOk.con {δ : Type} : Con Try.prog (KT tab) 78 (calleeS (β := δ) tab spec_SparseOk.ms spec_SparseOk.as spec_SparseOk.rs spec_SparseOk.fn) := con_shape (c := spec_SparseOk.c) mixed tysOk (getG_con (spec_SparseOk.gok _)) spec_SparseOk.fok rfl rfl (fun _ => rfl)
theorem spec_SparseOk.eq (x0 : Int × Int × Int × Int × Int × (List Int) × Int × (List Int)) : spec_SparseOk x0 =
    (spec_PackOk (x0.2.2.1, x0.2.2.2.1, x0.2.2.2.2.1, x0.2.2.2.2.2.1)).bind fun y1 =>
    bif !y1 then
      some false
    else
      (spec_BitsOk (x0.2.2.2.2.2.2.1, x0.2.2.2.2.2.2.2)).bind fun y2 =>
      bif !y2 then
        some false
      else
        bif decide (x0.2.2.1 > (20 : Int)) then
          some false
        else
          (spec_l03List (x0.1, x0.2.1, x0.2.2.1, x0.2.2.2.1, x0.2.2.2.2.1, x0.2.2.2.2.2.1, x0.2.2.2.2.2.2.1, x0.2.2.2.2.2.2.2)).bind fun y3 =>
          (spec_SparseOf y3 x0.1).bind fun y4 =>
          bif y4.2 then
            bif y4.1.2.1 == x0.2.1 then
              bif y4.1.2.2.1 == x0.2.2.1 then
                bif y4.1.2.2.2.1 == x0.2.2.2.1 then
                  (spec_l03Same (y4.1.2.2.2.2.1, y4.1.2.2.2.2.2.1) (x0.2.2.2.2.1, x0.2.2.2.2.2.1)).bind fun y5 =>
                  bif y5 then
                    (spec_l03Same (y4.1.2.2.2.2.2.2.1, y4.1.2.2.2.2.2.2.2) (x0.2.2.2.2.2.2.1, x0.2.2.2.2.2.2.2)).bind fun y6 =>
                    some y6
                  else
                    some false
                else
                  some false
              else
                some false
            else
              some false
          else
            some false := by kernel_rfl

/-! ### spec_SparseList: loop.example/g00688/spec.SparseList -/
def spec_SparseList.ms : List Mode := [.lend]
def spec_SparseList.as : List VSh := [.agg [.int .i64, .int .i64, .int .i64, .int .i64, .int .i64, .sl false false 117, .int .i64, .sl false false 117]]
def spec_SparseList.rs : RSh := ⟨[.one (.b (.b (.b (.b (.sl true true 3)))))], [none]⟩
noncomputable def spec_SparseList.gs (δ : Type) : List (Nat × Callee (GT tab) δ) := [(78, calleeS tab spec_SparseOk.ms spec_SparseOk.as spec_SparseOk.rs spec_SparseOk.fn), (79, calleeS tab spec_l03List.ms spec_l03List.as spec_l03List.rs spec_l03List.fn)]
theorem spec_SparseList.gok (δ : Type) : AllCon Try.prog tab (spec_SparseList.gs δ) := .cons spec_SparseOk.con (.cons spec_l03List.con (.nil))
noncomputable def spec_SparseList.c : Ctx (GT tab) (KT tab) (ResT tab spec_SparseList.rs) := { X := XT tab, ty := tyOf tys, inner := fun _ => true, keep := keepOf 0 spec_SparseList.ms, cuts := [], live := liveOf [], G := getG (spec_SparseList.gs _) }
noncomputable def spec_SparseList.b : Code := bodyOf Try.f25
noncomputable def spec_SparseList (x0 : Int × Int × Int × Int × Int × (List Int) × Int × (List Int)) : Option (List Int) := callW spec_SparseList.c (fiOf (GT tab) Try.f25 spec_SparseList.ms) spec_SparseList.b (decRes tab spec_SparseList.rs) (encArgs tab spec_SparseList.as x0)
theorem spec_SparseList.fok : FnOk Try.prog 25 Try.f25 spec_SparseList.ms spec_SparseList.b := ⟨Try.func25, by kernel_rfl, by kernel_rfl⟩
noncomputable def spec_SparseList.fn : Args tab spec_SparseList.as → Option (ResT tab spec_SparseList.rs) := fun x => spec_SparseList x
theorem spec_SparseList.con {δ : Type} : Con Try.prog (KT tab) 25 (calleeS (β := δ) tab spec_SparseList.ms spec_SparseList.as spec_SparseList.rs spec_SparseList.fn) := con_shape (c := spec_SparseList.c) mixed tysOk (getG_con (spec_SparseList.gok _)) spec_SparseList.fok rfl rfl (fun _ => rfl)
theorem spec_SparseList.eq (x0 : Int × Int × Int × Int × Int × (List Int) × Int × (List Int)) : spec_SparseList x0 =
    (spec_SparseOk (x0.1, x0.2.1, x0.2.2.1, x0.2.2.2.1, x0.2.2.2.2.1, x0.2.2.2.2.2.1, x0.2.2.2.2.2.2.1, x0.2.2.2.2.2.2.2)).bind fun y1 =>
    bif !y1 then
      some ([] : List Int)
    else
      (spec_l03List (x0.1, x0.2.1, x0.2.2.1, x0.2.2.2.1, x0.2.2.2.2.1, x0.2.2.2.2.2.1, x0.2.2.2.2.2.2.1, x0.2.2.2.2.2.2.2)).bind fun y2 =>
      some y2 := by kernel_rfl

/-! ### impl_Packed_at: (loop.example/g00688/impl.Packed).at -/
def impl_Packed_at.ms : List Mode := [.lend, .lend]
def impl_Packed_at.as : List VSh := [.agg [.int .i64, .int .i64, .int .i64, .sl false false 117], .one (.b (.b (.b (.b (.int .i64)))))]
def impl_Packed_at.rs : RSh := ⟨[.one (.b (.b (.b (.b (.int .i64)))))], [none, none]⟩
noncomputable def impl_Packed_at.gs (δ : Type) : List (Nat × Callee (GT tab) δ) := [(129, calleeS tab impl_Bits_at.ms impl_Bits_at.as impl_Bits_at.rs impl_Bits_at.fn)]
theorem impl_Packed_at.gok (δ : Type) : AllCon Try.prog tab (impl_Packed_at.gs δ) := .cons impl_Bits_at.con (.nil)
noncomputable def impl_Packed_at.c : Ctx (GT tab) (KT tab) (ResT tab impl_Packed_at.rs) := { X := XT tab, ty := tyOf tys, inner := fun _ => true, keep := keepOf 0 impl_Packed_at.ms, cuts := [], live := liveOf [(3, [1, 2, 5, 6])], G := getG (impl_Packed_at.gs _) }
noncomputable def impl_Packed_at.b : Code := bodyOf Try.f164
noncomputable def impl_Packed_at (x0 : Int × Int × Int × (List Int)) (x1 : Int) : Option (Int) := callW impl_Packed_at.c (fiOf (GT tab) Try.f164 impl_Packed_at.ms) impl_Packed_at.b (decRes tab impl_Packed_at.rs) (encArgs tab impl_Packed_at.as (x0, x1))
theorem impl_Packed_at.fok : FnOk Try.prog 164 Try.f164 impl_Packed_at.ms impl_Packed_at.b := ⟨Try.func164, by kernel_rfl, by kernel_rfl⟩
noncomputable def impl_Packed_at.fn : Args tab impl_Packed_at.as → Option (ResT tab impl_Packed_at.rs) := fun x => impl_Packed_at x.1 x.2
theorem impl_Packed_at.con {δ : Type} : Con Try.prog (KT tab) 164 (calleeS (β := δ) tab impl_Packed_at.ms impl_Packed_at.as impl_Packed_at.rs impl_Packed_at.fn) := con_shape (c := impl_Packed_at.c) mixed tysOk (getG_con (impl_Packed_at.gok _)) impl_Packed_at.fok rfl rfl (fun _ => rfl)
noncomputable def impl_Packed_at_l0 (v0 : Int) (v1 : Int) (v2 : Int) (v3 : Int) (v4 : Int) (v5 : Int) (v6 : List Int) : Option (Int) := Lw impl_Packed_at.c (finish impl_Packed_at.c (fiOf (GT tab) Try.f164 impl_Packed_at.ms) (decRes tab impl_Packed_at.rs)) ((loops impl_Packed_at.c.cuts 1000 impl_Packed_at.b []).getD 0 []) { slots := [.undef, .int .i64 v0, .ptr 0 0, .undef, .undef, .int .i64 v1, .int .i64 v2, .undef, .undef, .undef, .undef, .undef, .undef, .undef, .undef, .undef, .undef, .undef, .undef, .undef, .undef, .undef, .undef, .undef, .undef, .undef, .undef], loc := locOf [.box 53 [.int .i64 v3, .int .i64 v4, .int .i64 v5, .vs false 117 v6]], nx := 1 }
theorem impl_Packed_at.eq (x0 : Int × Int × Int × (List Int)) (x1 : Int) : impl_Packed_at x0 x1 =
    impl_Packed_at_l0 x1 (0 : Int) (IntKind.i64.wrap (x0.1 - (1 : Int))) x0.1 x0.2.1 x0.2.2.1 x0.2.2.2 := by kernel_rfl
theorem impl_Packed_at_l0.eq (v0 : Int) (v1 : Int) (v2 : Int) (v3 : Int) (v4 : Int) (v5 : Int) (v6 : List Int) : impl_Packed_at_l0 v0 v1 v2 v3 v4 v5 v6 =
    bif decide (v2 ≥ (0 : Int)) then
      (impl_Bits_at (v5, v6) (IntKind.i64.wrap ((IntKind.i64.wrap (v0 * v3)) + v2))).bind fun y1 =>
      impl_Packed_at_l0 v0 (IntKind.i64.wrap (((BitVec.ofInt 64 (IntKind.i64.wrap (v1 * 2 ^ 1))) ||| (BitVec.ofInt 64 y1)).toNat : Int)) (IntKind.i64.wrap (v2 - (1 : Int))) v3 v4 v5 v6
    else
      some v1 := (Lw_eq tysOk (getG_con (impl_Packed_at.gok _)) _ _).trans (by kernel_rfl)

/-! ### impl_PackList: loop.example/g00688/impl.PackList -/
def impl_PackList.ms : List Mode := [.lend]
def impl_PackList.as : List VSh := [.agg [.int .i64, .int .i64, .int .i64, .sl false false 117]]
def impl_PackList.rs : RSh := ⟨[.one (.b (.b (.b (.b (.sl true true 3)))))], [none]⟩
noncomputable def impl_PackList.gs (δ : Type) : List (Nat × Callee (GT tab) δ) := [(95, calleeS tab impl_PackOk.ms impl_PackOk.as impl_PackOk.rs impl_PackOk.fn), (164, calleeS tab impl_Packed_at.ms impl_Packed_at.as impl_Packed_at.rs impl_Packed_at.fn)]
theorem impl_PackList.gok (δ : Type) : AllCon Try.prog tab (impl_PackList.gs δ) := .cons impl_PackOk.con (.cons impl_Packed_at.con (.nil))
noncomputable def impl_PackList.c : Ctx (GT tab) (KT tab) (ResT tab impl_PackList.rs) := { X := XT tab, ty := tyOf tys, inner := fun _ => true, keep := keepOf 0 impl_PackList.ms, cuts := [], live := liveOf [(5, [1, 3, 9, 10])], G := getG (impl_PackList.gs _) }
noncomputable def impl_PackList.b : Code := bodyOf Try.f136
noncomputable def impl_PackList (x0 : Int × Int × Int × (List Int)) : Option (List Int) := callW impl_PackList.c (fiOf (GT tab) Try.f136 impl_PackList.ms) impl_PackList.b (decRes tab impl_PackList.rs) (encArgs tab impl_PackList.as x0)
theorem impl_PackList.fok : FnOk Try.prog 136 Try.f136 impl_PackList.ms impl_PackList.b := ⟨Try.func136, by kernel_rfl, by kernel_rfl⟩
noncomputable def impl_PackList.fn : Args tab impl_PackList.as → Option (ResT tab impl_PackList.rs) := fun x => impl_PackList x
theorem impl_PackList.con {δ : Type} : Con Try.prog (KT tab) 136 (calleeS (β := δ) tab impl_PackList.ms impl_PackList.as impl_PackList.rs impl_PackList.fn) := con_shape (c := impl_PackList.c) mixed tysOk (getG_con (impl_PackList.gok _)) impl_PackList.fok rfl rfl (fun _ => rfl)
noncomputable def impl_PackList_l0 (v0 : Int) (v1 : Int) (v2 : Int) (v3 : Int) (v4 : Int) (v5 : List Int) (v6 : List Int) : Option (List Int) := Lw impl_PackList.c (finish impl_PackList.c (fiOf (GT tab) Try.f136 impl_PackList.ms) (decRes tab impl_PackList.rs)) ((loops impl_PackList.c.cuts 1000 impl_PackList.b []).getD 0 []) { slots := [.undef, .ptr 0 0, .undef, .sl 1 0, .undef, .undef, .undef, .undef, .undef, .int .i64 v0, .int .i64 v1, .undef, .undef, .undef, .undef, .undef, .undef, .undef, .undef, .undef, .undef], loc := locOf [.box 53 [.int .i64 v2, .int .i64 v3, .int .i64 v4, .vs false 117 v5], .row 0 true 3 v6], nx := 2 }
theorem impl_PackList.eq (x0 : Int × Int × Int × (List Int)) : impl_PackList x0 =
    (impl_PackOk (x0.1, x0.2.1, x0.2.2.1, x0.2.2.2)).bind fun y1 =>
    bif !y1 then
      some ([] : List Int)
    else
      impl_PackList_l0 x0.2.1 (0 : Int) x0.1 x0.2.1 x0.2.2.1 x0.2.2.2 ([] : List Int) := by kernel_rfl
theorem impl_PackList_l0.eq (v0 : Int) (v1 : Int) (v2 : Int) (v3 : Int) (v4 : Int) (v5 : List Int) (v6 : List Int) : impl_PackList_l0 v0 v1 v2 v3 v4 v5 v6 =
    bif decide (v1 < v0) then
      (impl_Packed_at (v2, v3, v4, v5) v1).bind fun y1 =>
      bif decide ((v6.length + ([y1] : List Int).length) * 8 ≤ 140737488355328) then
        impl_PackList_l0 v0 (IntKind.i64.wrap (v1 + (1 : Int))) v2 v3 v4 v5 (v6 ++ ([y1] : List Int))
      else
        none
    else
      some v6 := (Lw_eq tysOk (getG_con (impl_PackList.gok _)) _ _).trans (by kernel_rfl)

/-! ### cmp_isNaN_int: cmp.isNaN[int] -/
def cmp_isNaN_int.ms : List Mode := [.lend]
def cmp_isNaN_int.as : List VSh := [.one (.b (.b (.b (.b (.int .i64)))))]
def cmp_isNaN_int.rs : RSh := ⟨[.one (.b (.b (.b (.b (.bool)))))], [none]⟩
noncomputable def cmp_isNaN_int.gs (δ : Type) : List (Nat × Callee (GT tab) δ) := []
theorem cmp_isNaN_int.gok (δ : Type) : AllCon Try.prog tab (cmp_isNaN_int.gs δ) := .nil
noncomputable def cmp_isNaN_int.c : Ctx (GT tab) (KT tab) (ResT tab cmp_isNaN_int.rs) := { X := XT tab, ty := tyOf tys, inner := fun _ => true, keep := keepOf 0 cmp_isNaN_int.ms, cuts := [], live := liveOf [], G := getG (cmp_isNaN_int.gs _) }
noncomputable def cmp_isNaN_int.b : Code := bodyOf Try.f202
noncomputable def cmp_isNaN_int (x0 : Int) : Option (Bool) := callW cmp_isNaN_int.c (fiOf (GT tab) Try.f202 cmp_isNaN_int.ms) cmp_isNaN_int.b (decRes tab cmp_isNaN_int.rs) (encArgs tab cmp_isNaN_int.as x0)
theorem cmp_isNaN_int.fok : FnOk Try.prog 202 Try.f202 cmp_isNaN_int.ms cmp_isNaN_int.b := ⟨Try.func202, by kernel_rfl, by kernel_rfl⟩
noncomputable def cmp_isNaN_int.fn : Args tab cmp_isNaN_int.as → Option (ResT tab cmp_isNaN_int.rs) := fun x => cmp_isNaN_int x
theorem cmp_isNaN_int.con {δ : Type} : Con Try.prog (KT tab) 202 (calleeS (β := δ) tab cmp_isNaN_int.ms cmp_isNaN_int.as cmp_isNaN_int.rs cmp_isNaN_int.fn) := con_shape (c := cmp_isNaN_int.c) mixed tysOk (getG_con (cmp_isNaN_int.gok _)) cmp_isNaN_int.fok rfl rfl (fun _ => rfl)
theorem cmp_isNaN_int.eq (x0 : Int) : cmp_isNaN_int x0 =
    some (x0 != x0) := by kernel_rfl

/-! ### cmp_Less_int: cmp.Less[int] -/
def cmp_Less_int.ms : List Mode := [.lend, .lend]
def cmp_Less_int.as : List VSh := [.one (.b (.b (.b (.b (.int .i64))))), .one (.b (.b (.b (.b (.int .i64)))))]
def cmp_Less_int.rs : RSh := ⟨[.one (.b (.b (.b (.b (.bool)))))], [none, none]⟩
noncomputable def cmp_Less_int.gs (δ : Type) : List (Nat × Callee (GT tab) δ) := [(202, calleeS tab cmp_isNaN_int.ms cmp_isNaN_int.as cmp_isNaN_int.rs cmp_isNaN_int.fn)]
theorem cmp_Less_int.gok (δ : Type) : AllCon Try.prog tab (cmp_Less_int.gs δ) := .cons cmp_isNaN_int.con (.nil)
noncomputable def cmp_Less_int.c : Ctx (GT tab) (KT tab) (ResT tab cmp_Less_int.rs) := { X := XT tab, ty := tyOf tys, inner := fun _ => true, keep := keepOf 0 cmp_Less_int.ms, cuts := [], live := liveOf [], G := getG (cmp_Less_int.gs _) }
noncomputable def cmp_Less_int.b : Code := bodyOf Try.f184
noncomputable def cmp_Less_int (x0 : Int) (x1 : Int) : Option (Bool) := callW cmp_Less_int.c (fiOf (GT tab) Try.f184 cmp_Less_int.ms) cmp_Less_int.b (decRes tab cmp_Less_int.rs) (encArgs tab cmp_Less_int.as (x0, x1))
theorem cmp_Less_int.fok : FnOk Try.prog 184 Try.f184 cmp_Less_int.ms cmp_Less_int.b := ⟨Try.func184, by kernel_rfl, by kernel_rfl⟩
noncomputable def cmp_Less_int.fn : Args tab cmp_Less_int.as → Option (ResT tab cmp_Less_int.rs) := fun x => cmp_Less_int x.1 x.2
theorem cmp_Less_int.con {δ : Type} : Con Try.prog (KT tab) 184 (calleeS (β := δ) tab cmp_Less_int.ms cmp_Less_int.as cmp_Less_int.rs cmp_Less_int.fn) := con_shape (c := cmp_Less_int.c) mixed tysOk (getG_con (cmp_Less_int.gok _)) cmp_Less_int.fok rfl rfl (fun _ => rfl)
theorem cmp_Less_int.eq (x0 : Int) (x1 : Int) : cmp_Less_int x0 x1 =
    (cmp_isNaN_int x0).bind fun y1 =>
    bif y1 then
      (cmp_isNaN_int x1).bind fun y2 =>
      bif !y2 then
        some true
      else
        some (decide (x0 < x1))
    else
      some (decide (x0 < x1)) := by kernel_rfl

/-! ### slices_IsSorted_int_int: slices.IsSorted[[]int,int] -/
def slices_IsSorted_int_int.ms : List Mode := [.lend]
def slices_IsSorted_int_int.as : List VSh := [.one (.b (.b (.b (.b (.sl false false 3)))))]
def slices_IsSorted_int_int.rs : RSh := ⟨[.one (.b (.b (.b (.b (.bool)))))], [none]⟩
noncomputable def slices_IsSorted_int_int.gs (δ : Type) : List (Nat × Callee (GT tab) δ) := [(184, calleeS tab cmp_Less_int.ms cmp_Less_int.as cmp_Less_int.rs cmp_Less_int.fn)]
theorem slices_IsSorted_int_int.gok (δ : Type) : AllCon Try.prog tab (slices_IsSorted_int_int.gs δ) := .cons cmp_Less_int.con (.nil)
noncomputable def slices_IsSorted_int_int.c : Ctx (GT tab) (KT tab) (ResT tab slices_IsSorted_int_int.rs) := { X := XT tab, ty := tyOf tys, inner := fun _ => true, keep := keepOf 0 slices_IsSorted_int_int.ms, cuts := [], live := liveOf [(2, [0, 3])], G := getG (slices_IsSorted_int_int.gs _) }
noncomputable def slices_IsSorted_int_int.b : Code := bodyOf Try.f165
noncomputable def slices_IsSorted_int_int (x0 : List Int) : Option (Bool) := callW slices_IsSorted_int_int.c (fiOf (GT tab) Try.f165 slices_IsSorted_int_int.ms) slices_IsSorted_int_int.b (decRes tab slices_IsSorted_int_int.rs) (encArgs tab slices_IsSorted_int_int.as x0)
theorem slices_IsSorted_int_int.fok : FnOk Try.prog 165 Try.f165 slices_IsSorted_int_int.ms slices_IsSorted_int_int.b := ⟨Try.func165, by kernel_rfl, by kernel_rfl⟩
noncomputable def slices_IsSorted_int_int.fn : Args tab slices_IsSorted_int_int.as → Option (ResT tab slices_IsSorted_int_int.rs) := fun x => slices_IsSorted_int_int x
theorem slices_IsSorted_int_int.con {δ : Type} : Con Try.prog (KT tab) 165 (calleeS (β := δ) tab slices_IsSorted_int_int.ms slices_IsSorted_int_int.as slices_IsSorted_int_int.rs slices_IsSorted_int_int.fn) := con_shape (c := slices_IsSorted_int_int.c) mixed tysOk (getG_con (slices_IsSorted_int_int.gok _)) slices_IsSorted_int_int.fok rfl rfl (fun _ => rfl)
noncomputable def slices_IsSorted_int_int_l0 (v0 : List Int) (v1 : Int) : Option (Bool) := Lw slices_IsSorted_int_int.c (finish slices_IsSorted_int_int.c (fiOf (GT tab) Try.f165 slices_IsSorted_int_int.ms) (decRes tab slices_IsSorted_int_int.rs)) ((loops slices_IsSorted_int_int.c.cuts 1000 slices_IsSorted_int_int.b []).getD 0 []) { slots := [.vs false 3 v0, .undef, .undef, .int .i64 v1, .undef, .undef, .undef, .undef, .undef, .undef, .undef, .undef, .undef, .undef, .undef, .undef, .undef, .undef, .undef, .undef, .undef], loc := locOf [], nx := 0 }
theorem slices_IsSorted_int_int.eq (x0 : List Int) : slices_IsSorted_int_int x0 =
    slices_IsSorted_int_int_l0 x0 (IntKind.i64.wrap ((x0.length : Int) - (1 : Int))) := by kernel_rfl
theorem slices_IsSorted_int_int_l0.eq (v0 : List Int) (v1 : Int) : slices_IsSorted_int_int_l0 v0 v1 =
    bif decide (v1 > (0 : Int)) then
      (at? v0 v1).bind fun y1 =>
      (at? v0 (IntKind.i64.wrap (v1 - (1 : Int)))).bind fun y2 =>
      (cmp_Less_int y1 y2).bind fun y3 =>
      bif y3 then
        some false
      else
        slices_IsSorted_int_int_l0 v0 (IntKind.i64.wrap (v1 - (1 : Int)))
    else
      some true := (Lw_eq tysOk (getG_con (slices_IsSorted_int_int.gok _)) _ _).trans (by kernel_rfl)

/-! ### impl_SparseOf_1: loop.example/g00688/impl.SparseOf$1 -/
def impl_SparseOf_1.ms : List Mode := [.lend, .lend]
def impl_SparseOf_1.as : List VSh := [.one (.b (.b (.b (.b (.int .i64))))), .one (.ptr false 0 [.b (.b (.b (.int .i64)))])]
def impl_SparseOf_1.rs : RSh := ⟨[.one (.b (.b (.b (.b (.bool)))))], [none, none]⟩
noncomputable def impl_SparseOf_1.gs (δ : Type) : List (Nat × Callee (GT tab) δ) := [(117, calleeS tab impl_within.ms impl_within.as impl_within.rs impl_within.fn)]
theorem impl_SparseOf_1.gok (δ : Type) : AllCon Try.prog tab (impl_SparseOf_1.gs δ) := .cons impl_within.con (.nil)
noncomputable def impl_SparseOf_1.c : Ctx (GT tab) (KT tab) (ResT tab impl_SparseOf_1.rs) := { X := XT tab, ty := tyOf tys, inner := fun _ => true, keep := keepOf 0 impl_SparseOf_1.ms, cuts := [], live := liveOf [], G := getG (impl_SparseOf_1.gs _) }
noncomputable def impl_SparseOf_1.b : Code := bodyOf Try.f167
noncomputable def impl_SparseOf_1 (x0 : Int) (x1 : Int) : Option (Bool) := callW impl_SparseOf_1.c (fiOf (GT tab) Try.f167 impl_SparseOf_1.ms) impl_SparseOf_1.b (decRes tab impl_SparseOf_1.rs) (encArgs tab impl_SparseOf_1.as (x0, x1))
theorem impl_SparseOf_1.fok : FnOk Try.prog 167 Try.f167 impl_SparseOf_1.ms impl_SparseOf_1.b := ⟨Try.func167, by kernel_rfl, by kernel_rfl⟩
noncomputable def impl_SparseOf_1.fn : Args tab impl_SparseOf_1.as → Option (ResT tab impl_SparseOf_1.rs) := fun x => impl_SparseOf_1 x.1 x.2
theorem impl_SparseOf_1.con {δ : Type} : Con Try.prog (KT tab) 167 (calleeS (β := δ) tab impl_SparseOf_1.ms impl_SparseOf_1.as impl_SparseOf_1.rs impl_SparseOf_1.fn) := con_shape (c := impl_SparseOf_1.c) mixed tysOk (getG_con (impl_SparseOf_1.gok _)) impl_SparseOf_1.fok rfl rfl (fun _ => rfl)
theorem impl_SparseOf_1.eq (x0 : Int) (x1 : Int) : impl_SparseOf_1 x0 x1 =
    (impl_within x0 (0 : Int) (IntKind.i64.wrap (x1 - (1 : Int)))).bind fun y1 =>
    some y1 := by kernel_rfl

/-! ### impl_areAll_int_1_SparseOf_1: loop.example/g00688/impl.areAll[int]$1 -/
def impl_areAll_int_1_SparseOf_1.ms : List Mode := [.lend, .lend]
def impl_areAll_int_1_SparseOf_1.as : List VSh := [.one (.b (.b (.b (.b (.int .i64))))), .one (.ptr false 0 [.fn 167 [.ptr false 0 [.b (.int .i64)]]])]
def impl_areAll_int_1_SparseOf_1.rs : RSh := ⟨[.one (.b (.b (.b (.b (.bool)))))], [none, none]⟩
noncomputable def impl_areAll_int_1_SparseOf_1.gs (δ : Type) : List (Nat × Callee (GT tab) δ) := [(167, calleeS tab impl_SparseOf_1.ms impl_SparseOf_1.as impl_SparseOf_1.rs impl_SparseOf_1.fn)]
theorem impl_areAll_int_1_SparseOf_1.gok (δ : Type) : AllCon Try.prog tab (impl_areAll_int_1_SparseOf_1.gs δ) := .cons impl_SparseOf_1.con (.nil)
noncomputable def impl_areAll_int_1_SparseOf_1.c : Ctx (GT tab) (KT tab) (ResT tab impl_areAll_int_1_SparseOf_1.rs) := { X := XT tab, ty := tyOf tys, inner := fun _ => true, keep := keepOf 0 impl_areAll_int_1_SparseOf_1.ms, cuts := [], live := liveOf [], G := getG (impl_areAll_int_1_SparseOf_1.gs _) }
noncomputable def impl_areAll_int_1_SparseOf_1.b : Code := bodyOf Try.f186
noncomputable def impl_areAll_int_1_SparseOf_1 (x0 : Int) (x1 : Int) : Option (Bool) := callW impl_areAll_int_1_SparseOf_1.c (fiOf (GT tab) Try.f186 impl_areAll_int_1_SparseOf_1.ms) impl_areAll_int_1_SparseOf_1.b (decRes tab impl_areAll_int_1_SparseOf_1.rs) (encArgs tab impl_areAll_int_1_SparseOf_1.as (x0, x1))
theorem impl_areAll_int_1_SparseOf_1.fok : FnOk Try.prog 186 Try.f186 impl_areAll_int_1_SparseOf_1.ms impl_areAll_int_1_SparseOf_1.b := ⟨Try.func186, by kernel_rfl, by kernel_rfl⟩
noncomputable def impl_areAll_int_1_SparseOf_1.fn : Args tab impl_areAll_int_1_SparseOf_1.as → Option (ResT tab impl_areAll_int_1_SparseOf_1.rs) := fun x => impl_areAll_int_1_SparseOf_1 x.1 x.2
theorem impl_areAll_int_1_SparseOf_1.con {δ : Type} : Con Try.prog (KT tab) 186 (calleeS (β := δ) tab impl_areAll_int_1_SparseOf_1.ms impl_areAll_int_1_SparseOf_1.as impl_areAll_int_1_SparseOf_1.rs impl_areAll_int_1_SparseOf_1.fn) := con_shape (c := impl_areAll_int_1_SparseOf_1.c) mixed tysOk (getG_con (impl_areAll_int_1_SparseOf_1.gok _)) impl_areAll_int_1_SparseOf_1.fok rfl rfl (fun _ => rfl)
theorem impl_areAll_int_1_SparseOf_1.eq (x0 : Int) (x1 : Int) : impl_areAll_int_1_SparseOf_1 x0 x1 =
    (impl_SparseOf_1 x0 x1).bind fun y1 =>
    some (!y1) := by kernel_rfl

/-! ### slices_IndexFunc_int_int_areAll_int_1_SparseOf_1: slices.IndexFunc[[]int,int] -/
def slices_IndexFunc_int_int_areAll_int_1_SparseOf_1.ms : List Mode := [.lend, .lend]
def slices_IndexFunc_int_int_areAll_int_1_SparseOf_1.as : List VSh := [.one (.b (.b (.b (.b (.sl false false 3))))), .one (.fn 186 [.ptr false 0 [.fn 167 [.ptr false 0 [.int .i64]]]])]
def slices_IndexFunc_int_int_areAll_int_1_SparseOf_1.rs : RSh := ⟨[.one (.b (.b (.b (.b (.int .i64)))))], [none, none]⟩
noncomputable def slices_IndexFunc_int_int_areAll_int_1_SparseOf_1.gs (δ : Type) : List (Nat × Callee (GT tab) δ) := [(186, calleeS tab impl_areAll_int_1_SparseOf_1.ms impl_areAll_int_1_SparseOf_1.as impl_areAll_int_1_SparseOf_1.rs impl_areAll_int_1_SparseOf_1.fn)]
theorem slices_IndexFunc_int_int_areAll_int_1_SparseOf_1.gok (δ : Type) : AllCon Try.prog tab (slices_IndexFunc_int_int_areAll_int_1_SparseOf_1.gs δ) := .cons impl_areAll_int_1_SparseOf_1.con (.nil)
noncomputable def slices_IndexFunc_int_int_areAll_int_1_SparseOf_1.c : Ctx (GT tab) (KT tab) (ResT tab slices_IndexFunc_int_int_areAll_int_1_SparseOf_1.rs) := { X := XT tab, ty := tyOf tys, inner := fun _ => true, keep := keepOf 0 slices_IndexFunc_int_int_areAll_int_1_SparseOf_1.ms, cuts := [], live := liveOf [(2, [0, 1, 7, 8])], G := getG (slices_IndexFunc_int_int_areAll_int_1_SparseOf_1.gs _) }
noncomputable def slices_IndexFunc_int_int_areAll_int_1_SparseOf_1.b : Code := bodyOf Try.f203
noncomputable def slices_IndexFunc_int_int_areAll_int_1_SparseOf_1 (x0 : List Int) (x1 : Int) : Option (Int) := callW slices_IndexFunc_int_int_areAll_int_1_SparseOf_1.c (fiOf (GT tab) Try.f203 slices_IndexFunc_int_int_areAll_int_1_SparseOf_1.ms) slices_IndexFunc_int_int_areAll_int_1_SparseOf_1.b (decRes tab slices_IndexFunc_int_int_areAll_int_1_SparseOf_1.rs) (encArgs tab slices_IndexFunc_int_int_areAll_int_1_SparseOf_1.as (x0, x1))
theorem slices_IndexFunc_int_int_areAll_int_1_SparseOf_1.fok : FnOk Try.prog 203 Try.f203 slices_IndexFunc_int_int_areAll_int_1_SparseOf_1.ms slices_IndexFunc_int_int_areAll_int_1_SparseOf_1.b := ⟨Try.func203, by kernel_rfl, by kernel_rfl⟩
noncomputable def slices_IndexFunc_int_int_areAll_int_1_SparseOf_1.fn : Args tab slices_IndexFunc_int_int_areAll_int_1_SparseOf_1.as → Option (ResT tab slices_IndexFunc_int_int_areAll_int_1_SparseOf_1.rs) := fun x => slices_IndexFunc_int_int_areAll_int_1_SparseOf_1 x.1 x.2
theorem slices_IndexFunc_int_int_areAll_int_1_SparseOf_1.con {δ : Type} : Con Try.prog (KT tab) 203 (calleeS (β := δ) tab slices_IndexFunc_int_int_areAll_int_1_SparseOf_1.ms slices_IndexFunc_int_int_areAll_int_1_SparseOf_1.as slices_IndexFunc_int_int_areAll_int_1_SparseOf_1.rs slices_IndexFunc_int_int_areAll_int_1_SparseOf_1.fn) := con_shape (c := slices_IndexFunc_int_int_areAll_int_1_SparseOf_1.c) mixed tysOk (getG_con (slices_IndexFunc_int_int_areAll_int_1_SparseOf_1.gok _)) slices_IndexFunc_int_int_areAll_int_1_SparseOf_1.fok rfl rfl (fun _ => rfl)
noncomputable def slices_IndexFunc_int_int_areAll_int_1_SparseOf_1_l0 (v0 : List Int) (v1 : Int) (v2 : Int) (v3 : Int) : Option (Int) := Lw slices_IndexFunc_int_int_areAll_int_1_SparseOf_1.c (finish slices_IndexFunc_int_int_areAll_int_1_SparseOf_1.c (fiOf (GT tab) Try.f203 slices_IndexFunc_int_int_areAll_int_1_SparseOf_1.ms) (decRes tab slices_IndexFunc_int_int_areAll_int_1_SparseOf_1.rs)) ((loops slices_IndexFunc_int_int_areAll_int_1_SparseOf_1.c.cuts 1000 slices_IndexFunc_int_int_areAll_int_1_SparseOf_1.b []).getD 0 []) { slots := [.vs false 3 v0, .fn 186 [.vp [.fn 167 [.ptr false 0 [.int .i64 v1]]]], .undef, .undef, .undef, .undef, .undef, .int .i64 v2, .int .i64 v3, .undef, .undef, .undef, .undef, .undef, .undef, .undef, .undef, .undef, .undef], loc := locOf [], nx := 0 }
theorem slices_IndexFunc_int_int_areAll_int_1_SparseOf_1.eq (x0 : List Int) (x1 : Int) : slices_IndexFunc_int_int_areAll_int_1_SparseOf_1 x0 x1 =
    slices_IndexFunc_int_int_areAll_int_1_SparseOf_1_l0 x0 x1 (x0.length : Int) (0 : Int) := by kernel_rfl
theorem slices_IndexFunc_int_int_areAll_int_1_SparseOf_1_l0.eq (v0 : List Int) (v1 : Int) (v2 : Int) (v3 : Int) : slices_IndexFunc_int_int_areAll_int_1_SparseOf_1_l0 v0 v1 v2 v3 =
    bif decide (v3 < v2) then
      (at? v0 v3).bind fun y1 =>
      (impl_areAll_int_1_SparseOf_1 y1 v1).bind fun y2 =>
      bif y2 then
        some v3
      else
        slices_IndexFunc_int_int_areAll_int_1_SparseOf_1_l0 v0 v1 v2 (IntKind.i64.wrap (v3 + (1 : Int)))
    else
      some (-1 : Int) := (Lw_eq tysOk (getG_con (slices_IndexFunc_int_int_areAll_int_1_SparseOf_1.gok _)) _ _).trans (by kernel_rfl)

/-! ### slices_ContainsFunc_int_int_areAll_int_1_SparseOf_1: slices.ContainsFunc[[]int,int] -/
def slices_ContainsFunc_int_int_areAll_int_1_SparseOf_1.ms : List Mode := [.lend, .lend]
def slices_ContainsFunc_int_int_areAll_int_1_SparseOf_1.as : List VSh := [.one (.b (.b (.b (.b (.sl false false 3))))), .one (.fn 186 [.ptr false 143 [.fn 167 [.ptr false 0 [.int .i64]]]])]
def slices_ContainsFunc_int_int_areAll_int_1_SparseOf_1.rs : RSh := ⟨[.one (.b (.b (.b (.b (.bool)))))], [none, none]⟩
noncomputable def slices_ContainsFunc_int_int_areAll_int_1_SparseOf_1.gs (δ : Type) : List (Nat × Callee (GT tab) δ) := [(203, calleeS tab slices_IndexFunc_int_int_areAll_int_1_SparseOf_1.ms slices_IndexFunc_int_int_areAll_int_1_SparseOf_1.as slices_IndexFunc_int_int_areAll_int_1_SparseOf_1.rs slices_IndexFunc_int_int_areAll_int_1_SparseOf_1.fn)]
theorem slices_ContainsFunc_int_int_areAll_int_1_SparseOf_1.gok (δ : Type) : AllCon Try.prog tab (slices_ContainsFunc_int_int_areAll_int_1_SparseOf_1.gs δ) := .cons slices_IndexFunc_int_int_areAll_int_1_SparseOf_1.con (.nil)
noncomputable def slices_ContainsFunc_int_int_areAll_int_1_SparseOf_1.c : Ctx (GT tab) (KT tab) (ResT tab slices_ContainsFunc_int_int_areAll_int_1_SparseOf_1.rs) := { X := XT tab, ty := tyOf tys, inner := fun _ => true, keep := keepOf 0 slices_ContainsFunc_int_int_areAll_int_1_SparseOf_1.ms, cuts := [], live := liveOf [], G := getG (slices_ContainsFunc_int_int_areAll_int_1_SparseOf_1.gs _) }
noncomputable def slices_ContainsFunc_int_int_areAll_int_1_SparseOf_1.b : Code := bodyOf Try.f185
noncomputable def slices_ContainsFunc_int_int_areAll_int_1_SparseOf_1 (x0 : List Int) (x1 : Int) : Option (Bool) := callW slices_ContainsFunc_int_int_areAll_int_1_SparseOf_1.c (fiOf (GT tab) Try.f185 slices_ContainsFunc_int_int_areAll_int_1_SparseOf_1.ms) slices_ContainsFunc_int_int_areAll_int_1_SparseOf_1.b (decRes tab slices_ContainsFunc_int_int_areAll_int_1_SparseOf_1.rs) (encArgs tab slices_ContainsFunc_int_int_areAll_int_1_SparseOf_1.as (x0, x1))
theorem slices_ContainsFunc_int_int_areAll_int_1_SparseOf_1.fok : FnOk Try.prog 185 Try.f185 slices_ContainsFunc_int_int_areAll_int_1_SparseOf_1.ms slices_ContainsFunc_int_int_areAll_int_1_SparseOf_1.b := ⟨Try.func185, by kernel_rfl, by kernel_rfl⟩
noncomputable def slices_ContainsFunc_int_int_areAll_int_1_SparseOf_1.fn : Args tab slices_ContainsFunc_int_int_areAll_int_1_SparseOf_1.as → Option (ResT tab slices_ContainsFunc_int_int_areAll_int_1_SparseOf_1.rs) := fun x => slices_ContainsFunc_int_int_areAll_int_1_SparseOf_1 x.1 x.2
theorem slices_ContainsFunc_int_int_areAll_int_1_SparseOf_1.con {δ : Type} : Con Try.prog (KT tab) 185 (calleeS (β := δ) tab slices_ContainsFunc_int_int_areAll_int_1_SparseOf_1.ms slices_ContainsFunc_int_int_areAll_int_1_SparseOf_1.as slices_ContainsFunc_int_int_areAll_int_1_SparseOf_1.rs slices_ContainsFunc_int_int_areAll_int_1_SparseOf_1.fn) := con_shape (c := slices_ContainsFunc_int_int_areAll_int_1_SparseOf_1.c) mixed tysOk (getG_con (slices_ContainsFunc_int_int_areAll_int_1_SparseOf_1.gok _)) slices_ContainsFunc_int_int_areAll_int_1_SparseOf_1.fok rfl rfl (fun _ => rfl)
theorem slices_ContainsFunc_int_int_areAll_int_1_SparseOf_1.eq (x0 : List Int) (x1 : Int) : slices_ContainsFunc_int_int_areAll_int_1_SparseOf_1 x0 x1 =
    (slices_IndexFunc_int_int_areAll_int_1_SparseOf_1 x0 x1).bind fun y1 =>
    some (decide (y1 ≥ (0 : Int))) := by kernel_rfl

/-! ### impl_areAll_int_SparseOf_1: loop.example/g00688/impl.areAll[int] -/
def impl_areAll_int_SparseOf_1.ms : List Mode := [.lend, .lend]
def impl_areAll_int_SparseOf_1.as : List VSh := [.one (.b (.b (.b (.b (.sl false false 3))))), .one (.fn 167 [.ptr false 3 [.b (.b (.int .i64))]])]
def impl_areAll_int_SparseOf_1.rs : RSh := ⟨[.one (.b (.b (.b (.b (.bool)))))], [none, none]⟩
noncomputable def impl_areAll_int_SparseOf_1.gs (δ : Type) : List (Nat × Callee (GT tab) δ) := [(185, calleeS tab slices_ContainsFunc_int_int_areAll_int_1_SparseOf_1.ms slices_ContainsFunc_int_int_areAll_int_1_SparseOf_1.as slices_ContainsFunc_int_int_areAll_int_1_SparseOf_1.rs slices_ContainsFunc_int_int_areAll_int_1_SparseOf_1.fn)]
theorem impl_areAll_int_SparseOf_1.gok (δ : Type) : AllCon Try.prog tab (impl_areAll_int_SparseOf_1.gs δ) := .cons slices_ContainsFunc_int_int_areAll_int_1_SparseOf_1.con (.nil)
noncomputable def impl_areAll_int_SparseOf_1.c : Ctx (GT tab) (KT tab) (ResT tab impl_areAll_int_SparseOf_1.rs) := { X := XT tab, ty := tyOf tys, inner := fun _ => true, keep := keepOf 0 impl_areAll_int_SparseOf_1.ms, cuts := [], live := liveOf [], G := getG (impl_areAll_int_SparseOf_1.gs _) }
noncomputable def impl_areAll_int_SparseOf_1.b : Code := bodyOf Try.f166
noncomputable def impl_areAll_int_SparseOf_1 (x0 : List Int) (x1 : Int) : Option (Bool) := callW impl_areAll_int_SparseOf_1.c (fiOf (GT tab) Try.f166 impl_areAll_int_SparseOf_1.ms) impl_areAll_int_SparseOf_1.b (decRes tab impl_areAll_int_SparseOf_1.rs) (encArgs tab impl_areAll_int_SparseOf_1.as (x0, x1))
theorem impl_areAll_int_SparseOf_1.fok : FnOk Try.prog 166 Try.f166 impl_areAll_int_SparseOf_1.ms impl_areAll_int_SparseOf_1.b := ⟨Try.func166, by kernel_rfl, by kernel_rfl⟩
noncomputable def impl_areAll_int_SparseOf_1.fn : Args tab impl_areAll_int_SparseOf_1.as → Option (ResT tab impl_areAll_int_SparseOf_1.rs) := fun x => impl_areAll_int_SparseOf_1 x.1 x.2
theorem impl_areAll_int_SparseOf_1.con {δ : Type} : Con Try.prog (KT tab) 166 (calleeS (β := δ) tab impl_areAll_int_SparseOf_1.ms impl_areAll_int_SparseOf_1.as impl_areAll_int_SparseOf_1.rs impl_areAll_int_SparseOf_1.fn) := con_shape (c := impl_areAll_int_SparseOf_1.c) mixed tysOk (getG_con (impl_areAll_int_SparseOf_1.gok _)) impl_areAll_int_SparseOf_1.fok rfl rfl (fun _ => rfl)
theorem impl_areAll_int_SparseOf_1.eq (x0 : List Int) (x1 : Int) : impl_areAll_int_SparseOf_1 x0 x1 =
    (slices_ContainsFunc_int_int_areAll_int_1_SparseOf_1 x0 x1).bind fun y1 =>
    some (!y1) := by kernel_rfl

/-! ### bits_Len64: math/bits.Len64 -/
def bits_Len64.ms : List Mode := [.lend]
def bits_Len64.as : List VSh := [.one (.b (.b (.b (.b (.int .u64)))))]
def bits_Len64.rs : RSh := ⟨[.one (.b (.b (.b (.b (.int .i64)))))], [none]⟩
noncomputable def bits_Len64.gs (δ : Type) : List (Nat × Callee (GT tab) δ) := []
theorem bits_Len64.gok (δ : Type) : AllCon Try.prog tab (bits_Len64.gs δ) := .nil
noncomputable def bits_Len64.c : Ctx (GT tab) (KT tab) (ResT tab bits_Len64.rs) := { X := XT tab, ty := tyOf tys, inner := fun _ => true, keep := keepOf 0 bits_Len64.ms, cuts := [4, 7], live := liveOf [(4, [0, 2]), (7, [0, 2])], G := getG (bits_Len64.gs _) }
noncomputable def bits_Len64.b : Code := bodyOf Try.f201
noncomputable def bits_Len64 (x0 : Int) : Option (Int) := callW bits_Len64.c (fiOf (GT tab) Try.f201 bits_Len64.ms) bits_Len64.b (decRes tab bits_Len64.rs) (encArgs tab bits_Len64.as x0)
theorem bits_Len64.fok : FnOk Try.prog 201 Try.f201 bits_Len64.ms bits_Len64.b := ⟨Try.func201, by kernel_rfl, by kernel_rfl⟩
noncomputable def bits_Len64.fn : Args tab bits_Len64.as → Option (ResT tab bits_Len64.rs) := fun x => bits_Len64 x
theorem bits_Len64.con {δ : Type} : Con Try.prog (KT tab) 201 (calleeS (β := δ) tab bits_Len64.ms bits_Len64.as bits_Len64.rs bits_Len64.fn) := con_shape (c := bits_Len64.c) mixed tysOk (getG_con (bits_Len64.gok _)) bits_Len64.fok rfl rfl (fun _ => rfl)
noncomputable def bits_Len64_l0 (v0 : Int) (v1 : Int) : Option (Int) := Lw bits_Len64.c (finish bits_Len64.c (fiOf (GT tab) Try.f201 bits_Len64.ms) (decRes tab bits_Len64.rs)) ((loops bits_Len64.c.cuts 1000 bits_Len64.b []).getD 0 []) { slots := [.int .u64 v0, .undef, .int .i64 v1, .undef, .undef, .undef, .undef, .undef, .undef, .undef, .undef, .undef, .undef, .undef, .undef, .undef, .undef, .undef, .undef, .undef, .undef, .undef, .undef, .undef, .undef], loc := locOf [], nx := 0 }
noncomputable def bits_Len64_l1 (v0 : Int) (v1 : Int) : Option (Int) := Lw bits_Len64.c (finish bits_Len64.c (fiOf (GT tab) Try.f201 bits_Len64.ms) (decRes tab bits_Len64.rs)) ((loops bits_Len64.c.cuts 1000 bits_Len64.b []).getD 1 []) { slots := [.int .u64 v0, .undef, .int .i64 v1, .undef, .undef, .undef, .undef, .undef, .undef, .undef, .undef, .undef, .undef, .undef, .undef, .undef, .undef, .undef, .undef, .undef, .undef, .undef, .undef, .undef, .undef], loc := locOf [], nx := 0 }
theorem bits_Len64.eq (x0 : Int) : bits_Len64 x0 =
    bif decide (x0 ≥ (4294967296 : Int)) then
      bits_Len64_l0 (x0.fdiv (2 ^ 32)) (32 : Int)
    else
      bits_Len64_l0 x0 (0 : Int) := by kernel_rfl
theorem bits_Len64_l0.eq (v0 : Int) (v1 : Int) : bits_Len64_l0 v0 v1 =
    bif decide (v0 ≥ (65536 : Int)) then
      bits_Len64_l1 (v0.fdiv (2 ^ 16)) (IntKind.i64.wrap (v1 + (16 : Int)))
    else
      bits_Len64_l1 v0 v1 := (Lw_eq tysOk (getG_con (bits_Len64.gok _)) _ _).trans (by kernel_rfl)
theorem bits_Len64_l1.eq (v0 : Int) (v1 : Int) : bits_Len64_l1 v0 v1 =
    bif decide (v0 ≥ (256 : Int)) then
      (at? ((⟨(List.toArray ([0, 1, 2, 2, 3, 3, 3, 3, 4, 4, 4, 4, 4, 4, 4, 4, 5, 5, 5, 5, 5, 5, 5, 5, 5, 5, 5, 5, 5, 5, 5, 5, 6, 6, 6, 6, 6, 6, 6, 6, 6, 6, 6, 6, 6, 6, 6, 6, 6, 6, 6, 6, 6, 6, 6, 6, 6, 6, 6, 6, 6, 6, 6, 6, 7, 7, 7, 7, 7, 7, 7, 7, 7, 7, 7, 7, 7, 7, 7, 7, 7, 7, 7, 7, 7, 7, 7, 7, 7, 7, 7, 7, 7, 7, 7, 7, 7, 7, 7, 7, 7, 7, 7, 7, 7, 7, 7, 7, 7, 7, 7, 7, 7, 7, 7, 7, 7, 7, 7, 7, 7, 7, 7, 7, 7, 7, 7, 7] ++ [8, 8, 8, 8, 8, 8, 8, 8, 8, 8, 8, 8, 8, 8, 8, 8, 8, 8, 8, 8, 8, 8, 8, 8, 8, 8, 8, 8, 8, 8, 8, 8, 8, 8, 8, 8, 8, 8, 8, 8, 8, 8, 8, 8, 8, 8, 8, 8, 8, 8, 8, 8, 8, 8, 8, 8, 8, 8, 8, 8, 8, 8, 8, 8, 8, 8, 8, 8, 8, 8, 8, 8, 8, 8, 8, 8, 8, 8, 8, 8, 8, 8, 8, 8, 8, 8, 8, 8, 8, 8, 8, 8, 8, 8, 8, 8, 8, 8, 8, 8, 8, 8, 8, 8, 8, 8, 8, 8, 8, 8, 8, 8, 8, 8, 8, 8, 8, 8, 8, 8, 8, 8, 8, 8, 8, 8, 8, 8]))⟩ : ByteArray).data.toList) (IntKind.u8.wrap (v0.fdiv (2 ^ 8)))).bind fun y1 =>
      some (IntKind.i64.wrap ((IntKind.i64.wrap (v1 + (8 : Int))) + (IntKind.i64.wrap (y1.toNat : Int))))
    else
      (at? ((⟨(List.toArray ([0, 1, 2, 2, 3, 3, 3, 3, 4, 4, 4, 4, 4, 4, 4, 4, 5, 5, 5, 5, 5, 5, 5, 5, 5, 5, 5, 5, 5, 5, 5, 5, 6, 6, 6, 6, 6, 6, 6, 6, 6, 6, 6, 6, 6, 6, 6, 6, 6, 6, 6, 6, 6, 6, 6, 6, 6, 6, 6, 6, 6, 6, 6, 6, 7, 7, 7, 7, 7, 7, 7, 7, 7, 7, 7, 7, 7, 7, 7, 7, 7, 7, 7, 7, 7, 7, 7, 7, 7, 7, 7, 7, 7, 7, 7, 7, 7, 7, 7, 7, 7, 7, 7, 7, 7, 7, 7, 7, 7, 7, 7, 7, 7, 7, 7, 7, 7, 7, 7, 7, 7, 7, 7, 7, 7, 7, 7, 7] ++ [8, 8, 8, 8, 8, 8, 8, 8, 8, 8, 8, 8, 8, 8, 8, 8, 8, 8, 8, 8, 8, 8, 8, 8, 8, 8, 8, 8, 8, 8, 8, 8, 8, 8, 8, 8, 8, 8, 8, 8, 8, 8, 8, 8, 8, 8, 8, 8, 8, 8, 8, 8, 8, 8, 8, 8, 8, 8, 8, 8, 8, 8, 8, 8, 8, 8, 8, 8, 8, 8, 8, 8, 8, 8, 8, 8, 8, 8, 8, 8, 8, 8, 8, 8, 8, 8, 8, 8, 8, 8, 8, 8, 8, 8, 8, 8, 8, 8, 8, 8, 8, 8, 8, 8, 8, 8, 8, 8, 8, 8, 8, 8, 8, 8, 8, 8, 8, 8, 8, 8, 8, 8, 8, 8, 8, 8, 8, 8]))⟩ : ByteArray).data.toList) (IntKind.u8.wrap v0)).bind fun y2 =>
      some (IntKind.i64.wrap (v1 + (IntKind.i64.wrap (y2.toNat : Int)))) := (Lw_eq tysOk (getG_con (bits_Len64.gok _)) _ _).trans (by kernel_rfl)

/-! ### bits_Len: math/bits.Len -/
def bits_Len.ms : List Mode := [.lend]
def bits_Len.as : List VSh := [.one (.b (.b (.b (.b (.int .u64)))))]
def bits_Len.rs : RSh := ⟨[.one (.b (.b (.b (.b (.int .i64)))))], [none]⟩
noncomputable def bits_Len.gs (δ : Type) : List (Nat × Callee (GT tab) δ) := [(201, calleeS tab bits_Len64.ms bits_Len64.as bits_Len64.rs bits_Len64.fn)]
theorem bits_Len.gok (δ : Type) : AllCon Try.prog tab (bits_Len.gs δ) := .cons bits_Len64.con (.nil)
noncomputable def bits_Len.c : Ctx (GT tab) (KT tab) (ResT tab bits_Len.rs) := { X := XT tab, ty := tyOf tys, inner := fun _ => true, keep := keepOf 0 bits_Len.ms, cuts := [], live := liveOf [], G := getG (bits_Len.gs _) }
noncomputable def bits_Len.b : Code := bodyOf Try.f182
noncomputable def bits_Len (x0 : Int) : Option (Int) := callW bits_Len.c (fiOf (GT tab) Try.f182 bits_Len.ms) bits_Len.b (decRes tab bits_Len.rs) (encArgs tab bits_Len.as x0)
theorem bits_Len.fok : FnOk Try.prog 182 Try.f182 bits_Len.ms bits_Len.b := ⟨Try.func182, by kernel_rfl, by kernel_rfl⟩
noncomputable def bits_Len.fn : Args tab bits_Len.as → Option (ResT tab bits_Len.rs) := fun x => bits_Len x
theorem bits_Len.con {δ : Type} : Con Try.prog (KT tab) 182 (calleeS (β := δ) tab bits_Len.ms bits_Len.as bits_Len.rs bits_Len.fn) := con_shape (c := bits_Len.c) mixed tysOk (getG_con (bits_Len.gok _)) bits_Len.fok rfl rfl (fun _ => rfl)
theorem bits_Len.eq (x0 : Int) : bits_Len x0 =
    (bits_Len64 x0).bind fun y1 =>
    some y1 := by kernel_rfl

/-! ### impl_WidthOf: loop.example/g00688/impl.WidthOf -/
def impl_WidthOf.ms : List Mode := [.lend]
def impl_WidthOf.as : List VSh := [.one (.b (.b (.b (.b (.int .i64)))))]
def impl_WidthOf.rs : RSh := ⟨[.one (.b (.b (.b (.b (.int .i64)))))], [none]⟩
noncomputable def impl_WidthOf.gs (δ : Type) : List (Nat × Callee (GT tab) δ) := [(182, calleeS tab bits_Len.ms bits_Len.as bits_Len.rs bits_Len.fn)]
theorem impl_WidthOf.gok (δ : Type) : AllCon Try.prog tab (impl_WidthOf.gs δ) := .cons bits_Len.con (.nil)
noncomputable def impl_WidthOf.c : Ctx (GT tab) (KT tab) (ResT tab impl_WidthOf.rs) := { X := XT tab, ty := tyOf tys, inner := fun _ => true, keep := keepOf 0 impl_WidthOf.ms, cuts := [], live := liveOf [], G := getG (impl_WidthOf.gs _) }
noncomputable def impl_WidthOf.b : Code := bodyOf Try.f187
noncomputable def impl_WidthOf (x0 : Int) : Option (Int) := callW impl_WidthOf.c (fiOf (GT tab) Try.f187 impl_WidthOf.ms) impl_WidthOf.b (decRes tab impl_WidthOf.rs) (encArgs tab impl_WidthOf.as x0)
theorem impl_WidthOf.fok : FnOk Try.prog 187 Try.f187 impl_WidthOf.ms impl_WidthOf.b := ⟨Try.func187, by kernel_rfl, by kernel_rfl⟩
noncomputable def impl_WidthOf.fn : Args tab impl_WidthOf.as → Option (ResT tab impl_WidthOf.rs) := fun x => impl_WidthOf x
theorem impl_WidthOf.con {δ : Type} : Con Try.prog (KT tab) 187 (calleeS (β := δ) tab impl_WidthOf.ms impl_WidthOf.as impl_WidthOf.rs impl_WidthOf.fn) := con_shape (c := impl_WidthOf.c) mixed tysOk (getG_con (impl_WidthOf.gok _)) impl_WidthOf.fok rfl rfl (fun _ => rfl)
theorem impl_WidthOf.eq (x0 : Int) : impl_WidthOf x0 =
    bif decide (x0 < (0 : Int)) then
      some (-1 : Int)
    else
      (bits_Len (IntKind.u64.wrap x0)).bind fun y1 =>
      some y1 := by kernel_rfl

/-! ### impl_lowWidth: loop.example/g00688/impl.lowWidth -/
def impl_lowWidth.ms : List Mode := [.lend, .lend]
def impl_lowWidth.as : List VSh := [.one (.b (.b (.b (.b (.int .i64))))), .one (.b (.b (.b (.b (.int .i64)))))]
def impl_lowWidth.rs : RSh := ⟨[.one (.b (.b (.b (.b (.int .i64)))))], [none, none]⟩
noncomputable def impl_lowWidth.gs (δ : Type) : List (Nat × Callee (GT tab) δ) := [(187, calleeS tab impl_WidthOf.ms impl_WidthOf.as impl_WidthOf.rs impl_WidthOf.fn)]
theorem impl_lowWidth.gok (δ : Type) : AllCon Try.prog tab (impl_lowWidth.gs δ) := .cons impl_WidthOf.con (.nil)
noncomputable def impl_lowWidth.c : Ctx (GT tab) (KT tab) (ResT tab impl_lowWidth.rs) := { X := XT tab, ty := tyOf tys, inner := fun _ => true, keep := keepOf 0 impl_lowWidth.ms, cuts := [], live := liveOf [], G := getG (impl_lowWidth.gs _) }
noncomputable def impl_lowWidth.b : Code := bodyOf Try.f168
noncomputable def impl_lowWidth (x0 : Int) (x1 : Int) : Option (Int) := callW impl_lowWidth.c (fiOf (GT tab) Try.f168 impl_lowWidth.ms) impl_lowWidth.b (decRes tab impl_lowWidth.rs) (encArgs tab impl_lowWidth.as (x0, x1))
theorem impl_lowWidth.fok : FnOk Try.prog 168 Try.f168 impl_lowWidth.ms impl_lowWidth.b := ⟨Try.func168, by kernel_rfl, by kernel_rfl⟩
noncomputable def impl_lowWidth.fn : Args tab impl_lowWidth.as → Option (ResT tab impl_lowWidth.rs) := fun x => impl_lowWidth x.1 x.2
theorem impl_lowWidth.con {δ : Type} : Con Try.prog (KT tab) 168 (calleeS (β := δ) tab impl_lowWidth.ms impl_lowWidth.as impl_lowWidth.rs impl_lowWidth.fn) := con_shape (c := impl_lowWidth.c) mixed tysOk (getG_con (impl_lowWidth.gok _)) impl_lowWidth.fok rfl rfl (fun _ => rfl)
theorem impl_lowWidth.eq (x0 : Int) (x1 : Int) : impl_lowWidth x0 x1 =
    bif x1 == (0 : Int) then
      some (0 : Int)
    else
      bif decide (x1 = (0 : Int)) then
        none
      else
        (impl_WidthOf (IntKind.i64.wrap (x0.tdiv x1))).bind fun y1 =>
        some (if (0 : Int) > IntKind.i64.wrap (y1 - (1 : Int)) then (0 : Int) else IntKind.i64.wrap (y1 - (1 : Int))) := by kernel_rfl

/-! ### impl_PackOf_1: loop.example/g00688/impl.PackOf$1 -/
def impl_PackOf_1.ms : List Mode := [.lend, .lend]
def impl_PackOf_1.as : List VSh := [.one (.b (.b (.b (.b (.int .i64))))), .one (.ptr false 0 [.b (.b (.b (.int .i64)))])]
def impl_PackOf_1.rs : RSh := ⟨[.one (.b (.b (.b (.b (.bool)))))], [none, none]⟩
noncomputable def impl_PackOf_1.gs (δ : Type) : List (Nat × Callee (GT tab) δ) := [(117, calleeS tab impl_within.ms impl_within.as impl_within.rs impl_within.fn)]
theorem impl_PackOf_1.gok (δ : Type) : AllCon Try.prog tab (impl_PackOf_1.gs δ) := .cons impl_within.con (.nil)
noncomputable def impl_PackOf_1.c : Ctx (GT tab) (KT tab) (ResT tab impl_PackOf_1.rs) := { X := XT tab, ty := tyOf tys, inner := fun _ => true, keep := keepOf 0 impl_PackOf_1.ms, cuts := [], live := liveOf [], G := getG (impl_PackOf_1.gs _) }
noncomputable def impl_PackOf_1.b : Code := bodyOf Try.f188
noncomputable def impl_PackOf_1 (x0 : Int) (x1 : Int) : Option (Bool) := callW impl_PackOf_1.c (fiOf (GT tab) Try.f188 impl_PackOf_1.ms) impl_PackOf_1.b (decRes tab impl_PackOf_1.rs) (encArgs tab impl_PackOf_1.as (x0, x1))
theorem impl_PackOf_1.fok : FnOk Try.prog 188 Try.f188 impl_PackOf_1.ms impl_PackOf_1.b := ⟨Try.func188, by kernel_rfl, by kernel_rfl⟩
noncomputable def impl_PackOf_1.fn : Args tab impl_PackOf_1.as → Option (ResT tab impl_PackOf_1.rs) := fun x => impl_PackOf_1 x.1 x.2
theorem impl_PackOf_1.con {δ : Type} : Con Try.prog (KT tab) 188 (calleeS (β := δ) tab impl_PackOf_1.ms impl_PackOf_1.as impl_PackOf_1.rs impl_PackOf_1.fn) := con_shape (c := impl_PackOf_1.c) mixed tysOk (getG_con (impl_PackOf_1.gok _)) impl_PackOf_1.fok rfl rfl (fun _ => rfl)
theorem impl_PackOf_1.eq (x0 : Int) (x1 : Int) : impl_PackOf_1 x0 x1 =
    bif decide (x1 < (0 : Int)) then
      none
    else
      (impl_within x0 (0 : Int) (IntKind.i64.wrap ((IntKind.i64.wrap ((1 : Int) * 2 ^ (min x1.toNat 64))) - (1 : Int)))).bind fun y1 =>
      some y1 := by kernel_rfl

/-! ### impl_areAll_int_1_PackOf_1: loop.example/g00688/impl.areAll[int]$1 -/
def impl_areAll_int_1_PackOf_1.ms : List Mode := [.lend, .lend]
def impl_areAll_int_1_PackOf_1.as : List VSh := [.one (.b (.b (.b (.b (.int .i64))))), .one (.ptr false 0 [.fn 188 [.ptr false 0 [.b (.int .i64)]]])]
def impl_areAll_int_1_PackOf_1.rs : RSh := ⟨[.one (.b (.b (.b (.b (.bool)))))], [none, none]⟩
noncomputable def impl_areAll_int_1_PackOf_1.gs (δ : Type) : List (Nat × Callee (GT tab) δ) := [(188, calleeS tab impl_PackOf_1.ms impl_PackOf_1.as impl_PackOf_1.rs impl_PackOf_1.fn)]
theorem impl_areAll_int_1_PackOf_1.gok (δ : Type) : AllCon Try.prog tab (impl_areAll_int_1_PackOf_1.gs δ) := .cons impl_PackOf_1.con (.nil)
noncomputable def impl_areAll_int_1_PackOf_1.c : Ctx (GT tab) (KT tab) (ResT tab impl_areAll_int_1_PackOf_1.rs) := { X := XT tab, ty := tyOf tys, inner := fun _ => true, keep := keepOf 0 impl_areAll_int_1_PackOf_1.ms, cuts := [], live := liveOf [], G := getG (impl_areAll_int_1_PackOf_1.gs _) }
noncomputable def impl_areAll_int_1_PackOf_1.b : Code := bodyOf Try.f186
noncomputable def impl_areAll_int_1_PackOf_1 (x0 : Int) (x1 : Int) : Option (Bool) := callW impl_areAll_int_1_PackOf_1.c (fiOf (GT tab) Try.f186 impl_areAll_int_1_PackOf_1.ms) impl_areAll_int_1_PackOf_1.b (decRes tab impl_areAll_int_1_PackOf_1.rs) (encArgs tab impl_areAll_int_1_PackOf_1.as (x0, x1))
theorem impl_areAll_int_1_PackOf_1.fok : FnOk Try.prog 186 Try.f186 impl_areAll_int_1_PackOf_1.ms impl_areAll_int_1_PackOf_1.b := ⟨Try.func186, by kernel_rfl, by kernel_rfl⟩
noncomputable def impl_areAll_int_1_PackOf_1.fn : Args tab impl_areAll_int_1_PackOf_1.as → Option (ResT tab impl_areAll_int_1_PackOf_1.rs) := fun x => impl_areAll_int_1_PackOf_1 x.1 x.2
theorem impl_areAll_int_1_PackOf_1.con {δ : Type} : Con Try.prog (KT tab) 186 (calleeS (β := δ) tab impl_areAll_int_1_PackOf_1.ms impl_areAll_int_1_PackOf_1.as impl_areAll_int_1_PackOf_1.rs impl_areAll_int_1_PackOf_1.fn) := con_shape (c := impl_areAll_int_1_PackOf_1.c) mixed tysOk (getG_con (impl_areAll_int_1_PackOf_1.gok _)) impl_areAll_int_1_PackOf_1.fok rfl rfl (fun _ => rfl)
theorem impl_areAll_int_1_PackOf_1.eq (x0 : Int) (x1 : Int) : impl_areAll_int_1_PackOf_1 x0 x1 =
    (impl_PackOf_1 x0 x1).bind fun y1 =>
    some (!y1) := by kernel_rfl

/-! ### slices_IndexFunc_int_int_areAll_int_1_PackOf_1: slices.IndexFunc[[]int,int] -/
def slices_IndexFunc_int_int_areAll_int_1_PackOf_1.ms : List Mode := [.lend, .lend]
def slices_IndexFunc_int_int_areAll_int_1_PackOf_1.as : List VSh := [.one (.b (.b (.b (.b (.sl false false 3))))), .one (.fn 186 [.ptr false 0 [.fn 188 [.ptr false 0 [.int .i64]]]])]
def slices_IndexFunc_int_int_areAll_int_1_PackOf_1.rs : RSh := ⟨[.one (.b (.b (.b (.b (.int .i64)))))], [none, none]⟩
noncomputable def slices_IndexFunc_int_int_areAll_int_1_PackOf_1.gs (δ : Type) : List (Nat × Callee (GT tab) δ) := [(186, calleeS tab impl_areAll_int_1_PackOf_1.ms impl_areAll_int_1_PackOf_1.as impl_areAll_int_1_PackOf_1.rs impl_areAll_int_1_PackOf_1.fn)]
theorem slices_IndexFunc_int_int_areAll_int_1_PackOf_1.gok (δ : Type) : AllCon Try.prog tab (slices_IndexFunc_int_int_areAll_int_1_PackOf_1.gs δ) := .cons impl_areAll_int_1_PackOf_1.con (.nil)
noncomputable def slices_IndexFunc_int_int_areAll_int_1_PackOf_1.c : Ctx (GT tab) (KT tab) (ResT tab slices_IndexFunc_int_int_areAll_int_1_PackOf_1.rs) := { X := XT tab, ty := tyOf tys, inner := fun _ => true, keep := keepOf 0 slices_IndexFunc_int_int_areAll_int_1_PackOf_1.ms, cuts := [], live := liveOf [(2, [0, 1, 7, 8])], G := getG (slices_IndexFunc_int_int_areAll_int_1_PackOf_1.gs _) }
noncomputable def slices_IndexFunc_int_int_areAll_int_1_PackOf_1.b : Code := bodyOf Try.f203
noncomputable def slices_IndexFunc_int_int_areAll_int_1_PackOf_1 (x0 : List Int) (x1 : Int) : Option (Int) := callW slices_IndexFunc_int_int_areAll_int_1_PackOf_1.c (fiOf (GT tab) Try.f203 slices_IndexFunc_int_int_areAll_int_1_PackOf_1.ms) slices_IndexFunc_int_int_areAll_int_1_PackOf_1.b (decRes tab slices_IndexFunc_int_int_areAll_int_1_PackOf_1.rs) (encArgs tab slices_IndexFunc_int_int_areAll_int_1_PackOf_1.as (x0, x1))
theorem slices_IndexFunc_int_int_areAll_int_1_PackOf_1.fok : FnOk Try.prog 203 Try.f203 slices_IndexFunc_int_int_areAll_int_1_PackOf_1.ms slices_IndexFunc_int_int_areAll_int_1_PackOf_1.b := ⟨Try.func203, by kernel_rfl, by kernel_rfl⟩
noncomputable def slices_IndexFunc_int_int_areAll_int_1_PackOf_1.fn : Args tab slices_IndexFunc_int_int_areAll_int_1_PackOf_1.as → Option (ResT tab slices_IndexFunc_int_int_areAll_int_1_PackOf_1.rs) := fun x => slices_IndexFunc_int_int_areAll_int_1_PackOf_1 x.1 x.2
theorem slices_IndexFunc_int_int_areAll_int_1_PackOf_1.con {δ : Type} : Con Try.prog (KT tab) 203 (calleeS (β := δ) tab slices_IndexFunc_int_int_areAll_int_1_PackOf_1.ms slices_IndexFunc_int_int_areAll_int_1_PackOf_1.as slices_IndexFunc_int_int_areAll_int_1_PackOf_1.rs slices_IndexFunc_int_int_areAll_int_1_PackOf_1.fn) := con_shape (c := slices_IndexFunc_int_int_areAll_int_1_PackOf_1.c) mixed tysOk (getG_con (slices_IndexFunc_int_int_areAll_int_1_PackOf_1.gok _)) slices_IndexFunc_int_int_areAll_int_1_PackOf_1.fok rfl rfl (fun _ => rfl)
noncomputable def slices_IndexFunc_int_int_areAll_int_1_PackOf_1_l0 (v0 : List Int) (v1 : Int) (v2 : Int) (v3 : Int) : Option (Int) := Lw slices_IndexFunc_int_int_areAll_int_1_PackOf_1.c (finish slices_IndexFunc_int_int_areAll_int_1_PackOf_1.c (fiOf (GT tab) Try.f203 slices_IndexFunc_int_int_areAll_int_1_PackOf_1.ms) (decRes tab slices_IndexFunc_int_int_areAll_int_1_PackOf_1.rs)) ((loops slices_IndexFunc_int_int_areAll_int_1_PackOf_1.c.cuts 1000 slices_IndexFunc_int_int_areAll_int_1_PackOf_1.b []).getD 0 []) { slots := [.vs false 3 v0, .fn 186 [.vp [.fn 188 [.ptr false 0 [.int .i64 v1]]]], .undef, .undef, .undef, .undef, .undef, .int .i64 v2, .int .i64 v3, .undef, .undef, .undef, .undef, .undef, .undef, .undef, .undef, .undef, .undef], loc := locOf [], nx := 0 }
theorem slices_IndexFunc_int_int_areAll_int_1_PackOf_1.eq (x0 : List Int) (x1 : Int) : slices_IndexFunc_int_int_areAll_int_1_PackOf_1 x0 x1 =
    slices_IndexFunc_int_int_areAll_int_1_PackOf_1_l0 x0 x1 (x0.length : Int) (0 : Int) := by kernel_rfl
theorem slices_IndexFunc_int_int_areAll_int_1_PackOf_1_l0.eq (v0 : List Int) (v1 : Int) (v2 : Int) (v3 : Int) : slices_IndexFunc_int_int_areAll_int_1_PackOf_1_l0 v0 v1 v2 v3 =
    bif decide (v3 < v2) then
      (at? v0 v3).bind fun y1 =>
      (impl_areAll_int_1_PackOf_1 y1 v1).bind fun y2 =>
      bif y2 then
        some v3
      else
        slices_IndexFunc_int_int_areAll_int_1_PackOf_1_l0 v0 v1 v2 (IntKind.i64.wrap (v3 + (1 : Int)))
    else
      some (-1 : Int) := (Lw_eq tysOk (getG_con (slices_IndexFunc_int_int_areAll_int_1_PackOf_1.gok _)) _ _).trans (by kernel_rfl)

/-! ### slices_ContainsFunc_int_int_areAll_int_1_PackOf_1: slices.ContainsFunc[[]int,int] -/
def slices_ContainsFunc_int_int_areAll_int_1_PackOf_1.ms : List Mode := [.lend, .lend]
def slices_ContainsFunc_int_int_areAll_int_1_PackOf_1.as : List VSh := [.one (.b (.b (.b (.b (.sl false false 3))))), .one (.fn 186 [.ptr false 143 [.fn 188 [.ptr false 0 [.int .i64]]]])]
def slices_ContainsFunc_int_int_areAll_int_1_PackOf_1.rs : RSh := ⟨[.one (.b (.b (.b (.b (.bool)))))], [none, none]⟩
noncomputable def slices_ContainsFunc_int_int_areAll_int_1_PackOf_1.gs (δ : Type) : List (Nat × Callee (GT tab) δ) := [(203, calleeS tab slices_IndexFunc_int_int_areAll_int_1_PackOf_1.ms slices_IndexFunc_int_int_areAll_int_1_PackOf_1.as slices_IndexFunc_int_int_areAll_int_1_PackOf_1.rs slices_IndexFunc_int_int_areAll_int_1_PackOf_1.fn)]
theorem slices_ContainsFunc_int_int_areAll_int_1_PackOf_1.gok (δ : Type) : AllCon Try.prog tab (slices_ContainsFunc_int_int_areAll_int_1_PackOf_1.gs δ) := .cons slices_IndexFunc_int_int_areAll_int_1_PackOf_1.con (.nil)
noncomputable def slices_ContainsFunc_int_int_areAll_int_1_PackOf_1.c : Ctx (GT tab) (KT tab) (ResT tab slices_ContainsFunc_int_int_areAll_int_1_PackOf_1.rs) := { X := XT tab, ty := tyOf tys, inner := fun _ => true, keep := keepOf 0 slices_ContainsFunc_int_int_areAll_int_1_PackOf_1.ms, cuts := [], live := liveOf [], G := getG (slices_ContainsFunc_int_int_areAll_int_1_PackOf_1.gs _) }
noncomputable def slices_ContainsFunc_int_int_areAll_int_1_PackOf_1.b : Code := bodyOf Try.f185
noncomputable def slices_ContainsFunc_int_int_areAll_int_1_PackOf_1 (x0 : List Int) (x1 : Int) : Option (Bool) := callW slices_ContainsFunc_int_int_areAll_int_1_PackOf_1.c (fiOf (GT tab) Try.f185 slices_ContainsFunc_int_int_areAll_int_1_PackOf_1.ms) slices_ContainsFunc_int_int_areAll_int_1_PackOf_1.b (decRes tab slices_ContainsFunc_int_int_areAll_int_1_PackOf_1.rs) (encArgs tab slices_ContainsFunc_int_int_areAll_int_1_PackOf_1.as (x0, x1))
theorem slices_ContainsFunc_int_int_areAll_int_1_PackOf_1.fok : FnOk Try.prog 185 Try.f185 slices_ContainsFunc_int_int_areAll_int_1_PackOf_1.ms slices_ContainsFunc_int_int_areAll_int_1_PackOf_1.b := ⟨Try.func185, by kernel_rfl, by kernel_rfl⟩
noncomputable def slices_ContainsFunc_int_int_areAll_int_1_PackOf_1.fn : Args tab slices_ContainsFunc_int_int_areAll_int_1_PackOf_1.as → Option (ResT tab slices_ContainsFunc_int_int_areAll_int_1_PackOf_1.rs) := fun x => slices_ContainsFunc_int_int_areAll_int_1_PackOf_1 x.1 x.2
theorem slices_ContainsFunc_int_int_areAll_int_1_PackOf_1.con {δ : Type} : Con Try.prog (KT tab) 185 (calleeS (β := δ) tab slices_ContainsFunc_int_int_areAll_int_1_PackOf_1.ms slices_ContainsFunc_int_int_areAll_int_1_PackOf_1.as slices_ContainsFunc_int_int_areAll_int_1_PackOf_1.rs slices_ContainsFunc_int_int_areAll_int_1_PackOf_1.fn) := con_shape (c := slices_ContainsFunc_int_int_areAll_int_1_PackOf_1.c) mixed tysOk (getG_con (slices_ContainsFunc_int_int_areAll_int_1_PackOf_1.gok _)) slices_ContainsFunc_int_int_areAll_int_1_PackOf_1.fok rfl rfl (fun _ => rfl)
theorem slices_ContainsFunc_int_int_areAll_int_1_PackOf_1.eq (x0 : List Int) (x1 : Int) : slices_ContainsFunc_int_int_areAll_int_1_PackOf_1 x0 x1 =
    (slices_IndexFunc_int_int_areAll_int_1_PackOf_1 x0 x1).bind fun y1 =>
    some (decide (y1 ≥ (0 : Int))) := by kernel_rfl

/-! ### impl_areAll_int_PackOf_1: loop.example/g00688/impl.areAll[int] -/
def impl_areAll_int_PackOf_1.ms : List Mode := [.lend, .lend]
def impl_areAll_int_PackOf_1.as : List VSh := [.one (.b (.b (.b (.b (.sl false false 3))))), .one (.fn 188 [.ptr false 3 [.b (.b (.int .i64))]])]
def impl_areAll_int_PackOf_1.rs : RSh := ⟨[.one (.b (.b (.b (.b (.bool)))))], [none, none]⟩
noncomputable def impl_areAll_int_PackOf_1.gs (δ : Type) : List (Nat × Callee (GT tab) δ) := [(185, calleeS tab slices_ContainsFunc_int_int_areAll_int_1_PackOf_1.ms slices_ContainsFunc_int_int_areAll_int_1_PackOf_1.as slices_ContainsFunc_int_int_areAll_int_1_PackOf_1.rs slices_ContainsFunc_int_int_areAll_int_1_PackOf_1.fn)]
theorem impl_areAll_int_PackOf_1.gok (δ : Type) : AllCon Try.prog tab (impl_areAll_int_PackOf_1.gs δ) := .cons slices_ContainsFunc_int_int_areAll_int_1_PackOf_1.con (.nil)
noncomputable def impl_areAll_int_PackOf_1.c : Ctx (GT tab) (KT tab) (ResT tab impl_areAll_int_PackOf_1.rs) := { X := XT tab, ty := tyOf tys, inner := fun _ => true, keep := keepOf 0 impl_areAll_int_PackOf_1.ms, cuts := [], live := liveOf [], G := getG (impl_areAll_int_PackOf_1.gs _) }
noncomputable def impl_areAll_int_PackOf_1.b : Code := bodyOf Try.f166
noncomputable def impl_areAll_int_PackOf_1 (x0 : List Int) (x1 : Int) : Option (Bool) := callW impl_areAll_int_PackOf_1.c (fiOf (GT tab) Try.f166 impl_areAll_int_PackOf_1.ms) impl_areAll_int_PackOf_1.b (decRes tab impl_areAll_int_PackOf_1.rs) (encArgs tab impl_areAll_int_PackOf_1.as (x0, x1))
theorem impl_areAll_int_PackOf_1.fok : FnOk Try.prog 166 Try.f166 impl_areAll_int_PackOf_1.ms impl_areAll_int_PackOf_1.b := ⟨Try.func166, by kernel_rfl, by kernel_rfl⟩
noncomputable def impl_areAll_int_PackOf_1.fn : Args tab impl_areAll_int_PackOf_1.as → Option (ResT tab impl_areAll_int_PackOf_1.rs) := fun x => impl_areAll_int_PackOf_1 x.1 x.2
theorem impl_areAll_int_PackOf_1.con {δ : Type} : Con Try.prog (KT tab) 166 (calleeS (β := δ) tab impl_areAll_int_PackOf_1.ms impl_areAll_int_PackOf_1.as impl_areAll_int_PackOf_1.rs impl_areAll_int_PackOf_1.fn) := con_shape (c := impl_areAll_int_PackOf_1.c) mixed tysOk (getG_con (impl_areAll_int_PackOf_1.gok _)) impl_areAll_int_PackOf_1.fok rfl rfl (fun _ => rfl)
theorem impl_areAll_int_PackOf_1.eq (x0 : List Int) (x1 : Int) : impl_areAll_int_PackOf_1 x0 x1 =
    (slices_ContainsFunc_int_int_areAll_int_1_PackOf_1 x0 x1).bind fun y1 =>
    some (!y1) := by kernel_rfl

/-! ### impl_digits: loop.example/g00688/impl.digits -/
def impl_digits.ms : List Mode := [.lend, .lend]
def impl_digits.as : List VSh := [.one (.b (.b (.b (.b (.int .i64))))), .one (.b (.b (.b (.b (.int .i64)))))]
def impl_digits.rs : RSh := ⟨[.one (.b (.b (.b (.b (.sl true true 3)))))], [none, none]⟩
noncomputable def impl_digits.gs (δ : Type) : List (Nat × Callee (GT tab) δ) := []
theorem impl_digits.gok (δ : Type) : AllCon Try.prog tab (impl_digits.gs δ) := .nil
noncomputable def impl_digits.c : Ctx (GT tab) (KT tab) (ResT tab impl_digits.rs) := { X := XT tab, ty := tyOf tys, inner := fun _ => true, keep := keepOf 0 impl_digits.ms, cuts := [], live := liveOf [(3, [0, 5, 6, 7])], G := getG (impl_digits.gs _) }
noncomputable def impl_digits.b : Code := bodyOf Try.f189
noncomputable def impl_digits (x0 : Int) (x1 : Int) : Option (List Int) := callW impl_digits.c (fiOf (GT tab) Try.f189 impl_digits.ms) impl_digits.b (decRes tab impl_digits.rs) (encArgs tab impl_digits.as (x0, x1))
theorem impl_digits.fok : FnOk Try.prog 189 Try.f189 impl_digits.ms impl_digits.b := ⟨Try.func189, by kernel_rfl, by kernel_rfl⟩
noncomputable def impl_digits.fn : Args tab impl_digits.as → Option (ResT tab impl_digits.rs) := fun x => impl_digits x.1 x.2
theorem impl_digits.con {δ : Type} : Con Try.prog (KT tab) 189 (calleeS (β := δ) tab impl_digits.ms impl_digits.as impl_digits.rs impl_digits.fn) := con_shape (c := impl_digits.c) mixed tysOk (getG_con (impl_digits.gok _)) impl_digits.fok rfl rfl (fun _ => rfl)
noncomputable def impl_digits_l0 (v0 : Int) (v1 : Int) (v2 : Int) (v3 : List Int) : Option (List Int) := Lw impl_digits.c (finish impl_digits.c (fiOf (GT tab) Try.f189 impl_digits.ms) (decRes tab impl_digits.rs)) ((loops impl_digits.c.cuts 1000 impl_digits.b []).getD 0 []) { slots := [.int .i64 v0, .undef, .undef, .undef, .undef, .sl 0 0, .int .i64 v1, .int .i64 v2, .undef, .undef, .undef, .undef, .undef, .undef, .undef, .undef, .undef, .undef], loc := locOf [.row 0 true 3 v3], nx := 1 }
theorem impl_digits.eq (x0 : Int) (x1 : Int) : impl_digits x0 x1 =
    impl_digits_l0 x0 x1 (0 : Int) ([] : List Int) := by kernel_rfl
theorem impl_digits_l0.eq (v0 : Int) (v1 : Int) (v2 : Int) (v3 : List Int) : impl_digits_l0 v0 v1 v2 v3 =
    bif decide (v2 < v1) then
      bif decide ((v3.length + ([IntKind.i64.wrap (((BitVec.ofInt 64 v0) &&& (BitVec.ofInt 64 (1 : Int))).toNat : Int)] : List Int).length) * 8 ≤ 140737488355328) then
        impl_digits_l0 (v0.fdiv (2 ^ 1)) v1 (IntKind.i64.wrap (v2 + (1 : Int))) (v3 ++ ([IntKind.i64.wrap (((BitVec.ofInt 64 v0) &&& (BitVec.ofInt 64 (1 : Int))).toNat : Int)] : List Int))
      else
        none
    else
      some v3 := (Lw_eq tysOk (getG_con (impl_digits.gok _)) _ _).trans (by kernel_rfl)

/-! ### impl_bitsOf: loop.example/g00688/impl.bitsOf -/
def impl_bitsOf.ms : List Mode := [.lend]
def impl_bitsOf.as : List VSh := [.one (.b (.b (.b (.b (.sl false false 3)))))]
def impl_bitsOf.rs : RSh := ⟨[.agg [.int .i64, .sl true true 117]], [none]⟩
noncomputable def impl_bitsOf.gs (δ : Type) : List (Nat × Callee (GT tab) δ) := []
theorem impl_bitsOf.gok (δ : Type) : AllCon Try.prog tab (impl_bitsOf.gs δ) := .nil
noncomputable def impl_bitsOf.c : Ctx (GT tab) (KT tab) (ResT tab impl_bitsOf.rs) := { X := XT tab, ty := tyOf tys, inner := fun _ => true, keep := keepOf 0 impl_bitsOf.ms, cuts := [], live := liveOf [(3, [2, 3, 15, 16, 17])], G := getG (impl_bitsOf.gs _) }
noncomputable def impl_bitsOf.b : Code := bodyOf Try.f170
noncomputable def impl_bitsOf (x0 : List Int) : Option (Int × (List Int)) := callW impl_bitsOf.c (fiOf (GT tab) Try.f170 impl_bitsOf.ms) impl_bitsOf.b (decRes tab impl_bitsOf.rs) (encArgs tab impl_bitsOf.as x0)
theorem impl_bitsOf.fok : FnOk Try.prog 170 Try.f170 impl_bitsOf.ms impl_bitsOf.b := ⟨Try.func170, by kernel_rfl, by kernel_rfl⟩
noncomputable def impl_bitsOf.fn : Args tab impl_bitsOf.as → Option (ResT tab impl_bitsOf.rs) := fun x => impl_bitsOf x
theorem impl_bitsOf.con {δ : Type} : Con Try.prog (KT tab) 170 (calleeS (β := δ) tab impl_bitsOf.ms impl_bitsOf.as impl_bitsOf.rs impl_bitsOf.fn) := con_shape (c := impl_bitsOf.c) mixed tysOk (getG_con (impl_bitsOf.gok _)) impl_bitsOf.fok rfl rfl (fun _ => rfl)
noncomputable def impl_bitsOf_l0 (v0 : List Int) (v1 : Int) (v2 : Int) (v3 : Int) (v4 : List Int) (v5 : Int) (v6 : List Int) : Option (Int × (List Int)) := Lw impl_bitsOf.c (finish impl_bitsOf.c (fiOf (GT tab) Try.f170 impl_bitsOf.ms) (decRes tab impl_bitsOf.rs)) ((loops impl_bitsOf.c.cuts 1000 impl_bitsOf.b []).getD 0 []) { slots := [.undef, .undef, .ptr 0 0, .ptr 2 0, .undef, .undef, .undef, .undef, .undef, .undef, .undef, .undef, .undef, .undef, .undef, .vs false 3 v0, .int .i64 v1, .int .i64 v2, .undef, .undef, .undef, .undef, .undef, .undef, .undef, .undef, .undef, .undef, .undef, .undef, .undef, .undef, .undef, .undef, .undef, .undef, .undef], loc := locOf [.box 51 [.int .i64 v3, .sl 1 0], .row 0 true 117 v4, .box 51 [.int .i64 v5, .sl 3 0], .row 0 true 117 v6], nx := 4 }
theorem impl_bitsOf.eq (x0 : List Int) : impl_bitsOf x0 =
    bif decide ((0 : Int) ≤ IntKind.i64.wrap ((IntKind.i64.wrap ((IntKind.i64.wrap ((x0.length : Int) + (64 : Int))) - (1 : Int))).tdiv (64 : Int))) && decide (((IntKind.i64.wrap ((IntKind.i64.wrap ((IntKind.i64.wrap ((x0.length : Int) + (64 : Int))) - (1 : Int))).tdiv (64 : Int))).toNat) * 8 ≤ 140737488355328) then
      impl_bitsOf_l0 x0 (x0.length : Int) (0 : Int) (0 : Int) ([] : List Int) (x0.length : Int) (List.replicate ((IntKind.i64.wrap ((IntKind.i64.wrap ((IntKind.i64.wrap ((x0.length : Int) + (64 : Int))) - (1 : Int))).tdiv (64 : Int))).toNat) (0 : Int))
    else
      none := by kernel_rfl
theorem impl_bitsOf_l0.eq (v0 : List Int) (v1 : Int) (v2 : Int) (v3 : Int) (v4 : List Int) (v5 : Int) (v6 : List Int) : impl_bitsOf_l0 v0 v1 v2 v3 v4 v5 v6 =
    bif decide (v2 < v1) then
      (at? v0 v2).bind fun y1 =>
      (at? v6 (IntKind.i64.wrap (v2.tdiv (64 : Int)))).bind fun y2 =>
      v6[(IntKind.i64.wrap (v2.tdiv (64 : Int))).toNat]?.bind fun y3 =>
      bif decide (v2.tmod (64 : Int) < (0 : Int)) then
        none
      else
        (at? v6 (IntKind.i64.wrap (v2.tdiv (64 : Int)))).bind fun y4 =>
        v6[(IntKind.i64.wrap (v2.tdiv (64 : Int))).toNat]?.bind fun y5 =>
        impl_bitsOf_l0 v0 v1 (IntKind.i64.wrap (v2 + (1 : Int))) v3 v4 v5 (v6.set ((IntKind.i64.wrap (v2.tdiv (64 : Int))).toNat) (IntKind.u64.wrap (((BitVec.ofInt 64 y3) ||| (BitVec.ofInt 64 (IntKind.u64.wrap ((IntKind.u64.wrap y1) * 2 ^ (min (v2.tmod (64 : Int)).toNat 64))))).toNat : Int)))
    else
      some (v5, v6) := (Lw_eq tysOk (getG_con (impl_bitsOf.gok _)) _ _).trans (by kernel_rfl)

/-! ### impl_PackOf: loop.example/g00688/impl.PackOf -/
def impl_PackOf.ms : List Mode := [.lend, .lend]
def impl_PackOf.as : List VSh := [.one (.b (.b (.b (.b (.sl false false 3))))), .one (.b (.b (.b (.b (.int .i64)))))]
def impl_PackOf.rs : RSh := ⟨[.agg [.int .i64, .int .i64, .int .i64, .sl true true 117], .one (.b (.b (.b (.b (.bool)))))], [none, none]⟩
noncomputable def impl_PackOf.gs (δ : Type) : List (Nat × Callee (GT tab) δ) := [(117, calleeS tab impl_within.ms impl_within.as impl_within.rs impl_within.fn), (166, calleeS tab impl_areAll_int_PackOf_1.ms impl_areAll_int_PackOf_1.as impl_areAll_int_PackOf_1.rs impl_areAll_int_PackOf_1.fn), (170, calleeS tab impl_bitsOf.ms impl_bitsOf.as impl_bitsOf.rs impl_bitsOf.fn), (189, calleeS tab impl_digits.ms impl_digits.as impl_digits.rs impl_digits.fn)]
theorem impl_PackOf.gok (δ : Type) : AllCon Try.prog tab (impl_PackOf.gs δ) := .cons impl_within.con (.cons impl_areAll_int_PackOf_1.con (.cons impl_bitsOf.con (.cons impl_digits.con (.nil))))
noncomputable def impl_PackOf.c : Ctx (GT tab) (KT tab) (ResT tab impl_PackOf.rs) := { X := XT tab, ty := tyOf tys, inner := fun _ => true, keep := keepOf 0 impl_PackOf.ms, cuts := [3], live := liveOf [(3, [0, 3, 4]), (5, [0, 3, 4, 6, 31, 32, 33])], G := getG (impl_PackOf.gs _) }
noncomputable def impl_PackOf.b : Code := bodyOf Try.f169
noncomputable def impl_PackOf (x0 : List Int) (x1 : Int) : Option ((Int × Int × Int × (List Int)) × Bool) := callW impl_PackOf.c (fiOf (GT tab) Try.f169 impl_PackOf.ms) impl_PackOf.b (decRes tab impl_PackOf.rs) (encArgs tab impl_PackOf.as (x0, x1))
theorem impl_PackOf.fok : FnOk Try.prog 169 Try.f169 impl_PackOf.ms impl_PackOf.b := ⟨Try.func169, by kernel_rfl, by kernel_rfl⟩
noncomputable def impl_PackOf.fn : Args tab impl_PackOf.as → Option (ResT tab impl_PackOf.rs) := fun x => impl_PackOf x.1 x.2
theorem impl_PackOf.con {δ : Type} : Con Try.prog (KT tab) 169 (calleeS (β := δ) tab impl_PackOf.ms impl_PackOf.as impl_PackOf.rs impl_PackOf.fn) := con_shape (c := impl_PackOf.c) mixed tysOk (getG_con (impl_PackOf.gok _)) impl_PackOf.fok rfl rfl (fun _ => rfl)
noncomputable def impl_PackOf_l0 (v0 : List Int) (v1 : Int) (v2 : Int) (v3 : Int) (v4 : Int) (v5 : List Int) : Option ((Int × Int × Int × (List Int)) × Bool) := Lw impl_PackOf.c (finish impl_PackOf.c (fiOf (GT tab) Try.f169 impl_PackOf.ms) (decRes tab impl_PackOf.rs)) ((loops impl_PackOf.c.cuts 1000 impl_PackOf.b []).getD 0 []) { slots := [.vs false 3 v0, .undef, .undef, .ptr 0 0, .ptr 1 0, .undef, .undef, .undef, .undef, .undef, .undef, .undef, .undef, .undef, .undef, .undef, .undef, .undef, .undef, .undef, .undef, .undef, .undef, .undef, .undef, .undef, .undef, .undef, .undef, .undef, .undef, .undef, .undef, .undef, .undef, .undef, .undef, .undef, .undef, .undef, .undef, .undef, .undef, .undef, .undef, .undef, .undef, .undef, .undef], loc := locOf [.box 3 [.int .i64 v1], .box 53 [.int .i64 v2, .int .i64 v3, .int .i64 v4, .sl 2 0], .row 0 true 117 v5], nx := 3 }
noncomputable def impl_PackOf_l1 (v0 : List Int) (v1 : List Int) (v2 : Int) (v3 : Int) (v4 : Int) (v5 : Int) (v6 : Int) (v7 : Int) (v8 : List Int) (v9 : List Int) : Option ((Int × Int × Int × (List Int)) × Bool) := Lw impl_PackOf.c (finish impl_PackOf.c (fiOf (GT tab) Try.f169 impl_PackOf.ms) (decRes tab impl_PackOf.rs)) ((loops impl_PackOf.c.cuts 1000 impl_PackOf.b []).getD 1 []) { slots := [.vs false 3 v0, .undef, .undef, .ptr 0 0, .ptr 1 0, .undef, .sl 3 0, .undef, .undef, .undef, .undef, .undef, .undef, .undef, .undef, .undef, .undef, .undef, .undef, .undef, .undef, .undef, .undef, .undef, .undef, .undef, .undef, .undef, .undef, .undef, .undef, .vs false 3 v1, .int .i64 v2, .int .i64 v3, .undef, .undef, .undef, .undef, .undef, .undef, .undef, .undef, .undef, .undef, .undef, .undef, .undef, .undef, .undef], loc := locOf [.box 3 [.int .i64 v4], .box 53 [.int .i64 v5, .int .i64 v6, .int .i64 v7, .sl 2 0], .row 0 true 117 v8, .row 0 true 3 v9], nx := 4 }
theorem impl_PackOf.eq (x0 : List Int) (x1 : Int) : impl_PackOf x0 x1 =
    (impl_within x1 (0 : Int) (32 : Int)).bind fun y1 =>
    bif !y1 then
      some (((0 : Int), (0 : Int), (0 : Int), ([] : List Int)), false)
    else
      bif decide ((x0.length : Int) > (5000 : Int)) then
        some (((0 : Int), (0 : Int), (0 : Int), ([] : List Int)), false)
      else
        bif decide (IntKind.i64.wrap ((x0.length : Int) * x1) > (5000 : Int)) then
          some (((0 : Int), (0 : Int), (0 : Int), ([] : List Int)), false)
        else
          (impl_areAll_int_PackOf_1 x0 x1).bind fun y2 =>
          bif !y2 then
            some (((0 : Int), (0 : Int), (0 : Int), ([] : List Int)), false)
          else
            impl_PackOf_l0 x0 x1 (0 : Int) (0 : Int) (0 : Int) ([] : List Int) := by kernel_rfl
theorem impl_PackOf_l0.eq (v0 : List Int) (v1 : Int) (v2 : Int) (v3 : Int) (v4 : Int) (v5 : List Int) : impl_PackOf_l0 v0 v1 v2 v3 v4 v5 =
    impl_PackOf_l1 v0 v0 (v0.length : Int) (0 : Int) v1 v2 v3 v4 v5 ([] : List Int) := (Lw_eq tysOk (getG_con (impl_PackOf.gok _)) _ _).trans (by kernel_rfl)
theorem impl_PackOf_l1.eq (v0 : List Int) (v1 : List Int) (v2 : Int) (v3 : Int) (v4 : Int) (v5 : Int) (v6 : Int) (v7 : Int) (v8 : List Int) (v9 : List Int) : impl_PackOf_l1 v0 v1 v2 v3 v4 v5 v6 v7 v8 v9 =
    bif decide (v3 < v2) then
      (at? v1 v3).bind fun y1 =>
      (impl_digits y1 v4).bind fun y2 =>
      bif decide ((v9.length + y2.length) * 8 ≤ 140737488355328) then
        impl_PackOf_l1 v0 v1 v2 (IntKind.i64.wrap (v3 + (1 : Int))) v4 v5 v6 v7 v8 (v9 ++ y2)
      else
        none
    else
      (impl_bitsOf v9).bind fun y3 =>
      some ((v4, (v0.length : Int), y3.1, y3.2), true) := (Lw_eq tysOk (getG_con (impl_PackOf.gok _)) _ _).trans (by kernel_rfl)

/-! ### impl_SparseOf: loop.example/g00688/impl.SparseOf -/
def impl_SparseOf.ms : List Mode := [.lend, .lend]
def impl_SparseOf.as : List VSh := [.one (.b (.b (.b (.b (.sl false false 3))))), .one (.b (.b (.b (.b (.int .i64)))))]
def impl_SparseOf.rs : RSh := ⟨[.agg [.int .i64, .int .i64, .int .i64, .int .i64, .int .i64, .sl true true 117, .int .i64, .sl true true 117], .one (.b (.b (.b (.b (.bool)))))], [none, none]⟩
noncomputable def impl_SparseOf.gs (δ : Type) : List (Nat × Callee (GT tab) δ) := [(117, calleeS tab impl_within.ms impl_within.as impl_within.rs impl_within.fn), (165, calleeS tab slices_IsSorted_int_int.ms slices_IsSorted_int_int.as slices_IsSorted_int_int.rs slices_IsSorted_int_int.fn), (166, calleeS tab impl_areAll_int_SparseOf_1.ms impl_areAll_int_SparseOf_1.as impl_areAll_int_SparseOf_1.rs impl_areAll_int_SparseOf_1.fn), (168, calleeS tab impl_lowWidth.ms impl_lowWidth.as impl_lowWidth.rs impl_lowWidth.fn), (169, calleeS tab impl_PackOf.ms impl_PackOf.as impl_PackOf.rs impl_PackOf.fn), (170, calleeS tab impl_bitsOf.ms impl_bitsOf.as impl_bitsOf.rs impl_bitsOf.fn)]
theorem impl_SparseOf.gok (δ : Type) : AllCon Try.prog tab (impl_SparseOf.gs δ) := .cons impl_within.con (.cons slices_IsSorted_int_int.con (.cons impl_areAll_int_SparseOf_1.con (.cons impl_lowWidth.con (.cons impl_PackOf.con (.cons impl_bitsOf.con (.nil))))))
noncomputable def impl_SparseOf.c : Ctx (GT tab) (KT tab) (ResT tab impl_SparseOf.rs) := { X := XT tab, ty := tyOf tys, inner := fun _ => true, keep := keepOf 0 impl_SparseOf.ms, cuts := [3], live := liveOf [(3, [0, 3, 4]), (8, [0, 3, 4, 6, 7, 8, 41, 42, 43]), (10, [0, 3, 4, 6, 7, 8, 10, 41, 42, 43]), (14, [0, 3, 4, 6, 7, 8])], G := getG (impl_SparseOf.gs _) }
noncomputable def impl_SparseOf.b : Code := bodyOf Try.f138
noncomputable def impl_SparseOf (x0 : List Int) (x1 : Int) : Option ((Int × Int × Int × Int × Int × (List Int) × Int × (List Int)) × Bool) := callW impl_SparseOf.c (fiOf (GT tab) Try.f138 impl_SparseOf.ms) impl_SparseOf.b (decRes tab impl_SparseOf.rs) (encArgs tab impl_SparseOf.as (x0, x1))
theorem impl_SparseOf.fok : FnOk Try.prog 138 Try.f138 impl_SparseOf.ms impl_SparseOf.b := ⟨Try.func138, by kernel_rfl, by kernel_rfl⟩
noncomputable def impl_SparseOf.fn : Args tab impl_SparseOf.as → Option (ResT tab impl_SparseOf.rs) := fun x => impl_SparseOf x.1 x.2
theorem impl_SparseOf.con {δ : Type} : Con Try.prog (KT tab) 138 (calleeS (β := δ) tab impl_SparseOf.ms impl_SparseOf.as impl_SparseOf.rs impl_SparseOf.fn) := con_shape (c := impl_SparseOf.c) mixed tysOk (getG_con (impl_SparseOf.gok _)) impl_SparseOf.fok rfl rfl (fun _ => rfl)
noncomputable def impl_SparseOf_l0 (v0 : List Int) (v1 : Int) (v2 : Int) (v3 : Int) (v4 : Int) (v5 : Int) (v6 : Int) (v7 : Int) (v8 : List Int) (v9 : List Int) : Option ((Int × Int × Int × Int × Int × (List Int) × Int × (List Int)) × Bool) := Lw impl_SparseOf.c (finish impl_SparseOf.c (fiOf (GT tab) Try.f138 impl_SparseOf.ms) (decRes tab impl_SparseOf.rs)) ((loops impl_SparseOf.c.cuts 1000 impl_SparseOf.b []).getD 0 []) { slots := [.vs false 3 v0, .undef, .undef, .ptr 0 0, .ptr 1 0, .undef, .undef, .undef, .undef, .undef, .undef, .undef, .undef, .undef, .undef, .undef, .undef, .undef, .undef, .undef, .undef, .undef, .undef, .undef, .undef, .undef, .undef, .undef, .undef, .undef, .undef, .undef, .undef, .undef, .undef, .undef, .undef, .undef, .undef, .undef, .undef, .undef, .undef, .undef, .undef, .undef, .undef, .undef, .undef, .undef, .undef, .undef, .undef, .undef, .undef, .undef, .undef, .undef, .undef, .undef, .undef, .undef, .undef, .undef, .undef, .undef, .undef, .undef, .undef, .undef, .undef, .undef, .undef, .undef, .undef, .undef, .undef, .undef, .undef, .undef, .undef, .undef, .undef, .undef, .undef, .undef, .undef, .undef, .undef, .undef, .undef, .undef, .undef, .undef, .undef, .undef, .undef, .undef, .undef], loc := locOf [.box 3 [.int .i64 v1], .box 55 [.int .i64 v2, .int .i64 v3, .int .i64 v4, .int .i64 v5, .int .i64 v6, .sl 2 0, .int .i64 v7, .sl 3 0], .row 0 true 117 v8, .row 0 true 117 v9], nx := 4 }
noncomputable def impl_SparseOf_l1 (v0 : List Int) (v1 : Int) (v2 : List Int) (v3 : Int) (v4 : Int) (v5 : Int) (v6 : Int) (v7 : Int) (v8 : Int) (v9 : Int) (v10 : Int) (v11 : Int) (v12 : List Int) (v13 : List Int) (v14 : List Int) (v15 : List Int) : Option ((Int × Int × Int × Int × Int × (List Int) × Int × (List Int)) × Bool) := Lw impl_SparseOf.c (finish impl_SparseOf.c (fiOf (GT tab) Try.f138 impl_SparseOf.ms) (decRes tab impl_SparseOf.rs)) ((loops impl_SparseOf.c.cuts 1000 impl_SparseOf.b []).getD 1 []) { slots := [.vs false 3 v0, .undef, .undef, .ptr 0 0, .ptr 1 0, .undef, .int .i64 v1, .sl 4 0, .sl 5 0, .undef, .undef, .undef, .undef, .undef, .undef, .undef, .undef, .undef, .undef, .undef, .undef, .undef, .undef, .undef, .undef, .undef, .undef, .undef, .undef, .undef, .undef, .undef, .undef, .undef, .undef, .undef, .undef, .undef, .undef, .undef, .undef, .vs false 3 v2, .int .i64 v3, .int .i64 v4, .undef, .undef, .undef, .undef, .undef, .undef, .undef, .undef, .undef, .undef, .undef, .undef, .undef, .undef, .undef, .undef, .undef, .undef, .undef, .undef, .undef, .undef, .undef, .undef, .undef, .undef, .undef, .undef, .undef, .undef, .undef, .undef, .undef, .undef, .undef, .undef, .undef, .undef, .undef, .undef, .undef, .undef, .undef, .undef, .undef, .undef, .undef, .undef, .undef, .undef, .undef, .undef, .undef, .undef, .undef], loc := locOf [.box 3 [.int .i64 v5], .box 55 [.int .i64 v6, .int .i64 v7, .int .i64 v8, .int .i64 v9, .int .i64 v10, .sl 2 0, .int .i64 v11, .sl 3 0], .row 0 true 117 v12, .row 0 true 117 v13, .row 0 true 3 v14, .row 0 true 3 v15], nx := 6 }
noncomputable def impl_SparseOf_l2 (v0 : List Int) (v1 : Int) (v2 : Int) (v3 : List Int) (v4 : Int) (v5 : Int) (v6 : Int) (v7 : Int) (v8 : Int) (v9 : Int) (v10 : Int) (v11 : Int) (v12 : Int) (v13 : List Int) (v14 : List Int) (v15 : List Int) (v16 : List Int) : Option ((Int × Int × Int × Int × Int × (List Int) × Int × (List Int)) × Bool) := Lw impl_SparseOf.c (finish impl_SparseOf.c (fiOf (GT tab) Try.f138 impl_SparseOf.ms) (decRes tab impl_SparseOf.rs)) ((loops impl_SparseOf.c.cuts 1000 impl_SparseOf.b []).getD 2 []) { slots := [.vs false 3 v0, .undef, .undef, .ptr 0 0, .ptr 1 0, .undef, .int .i64 v1, .sl 4 0, .sl 5 0, .undef, .int .i64 v2, .undef, .undef, .undef, .undef, .undef, .undef, .undef, .undef, .undef, .undef, .undef, .undef, .undef, .undef, .undef, .undef, .undef, .undef, .undef, .undef, .undef, .undef, .undef, .undef, .undef, .undef, .undef, .undef, .undef, .undef, .vs false 3 v3, .int .i64 v4, .int .i64 v5, .undef, .undef, .undef, .undef, .undef, .undef, .undef, .undef, .undef, .undef, .undef, .undef, .undef, .undef, .undef, .undef, .undef, .undef, .undef, .undef, .undef, .undef, .undef, .undef, .undef, .undef, .undef, .undef, .undef, .undef, .undef, .undef, .undef, .undef, .undef, .undef, .undef, .undef, .undef, .undef, .undef, .undef, .undef, .undef, .undef, .undef, .undef, .undef, .undef, .undef, .undef, .undef, .undef, .undef, .undef], loc := locOf [.box 3 [.int .i64 v6], .box 55 [.int .i64 v7, .int .i64 v8, .int .i64 v9, .int .i64 v10, .int .i64 v11, .sl 2 0, .int .i64 v12, .sl 3 0], .row 0 true 117 v13, .row 0 true 117 v14, .row 0 true 3 v15, .row 0 true 3 v16], nx := 6 }
noncomputable def impl_SparseOf_l3 (v0 : List Int) (v1 : Int) (v2 : Int) (v3 : Int) (v4 : Int) (v5 : Int) (v6 : Int) (v7 : Int) (v8 : Int) (v9 : List Int) (v10 : List Int) (v11 : List Int) (v12 : List Int) : Option ((Int × Int × Int × Int × Int × (List Int) × Int × (List Int)) × Bool) := Lw impl_SparseOf.c (finish impl_SparseOf.c (fiOf (GT tab) Try.f138 impl_SparseOf.ms) (decRes tab impl_SparseOf.rs)) ((loops impl_SparseOf.c.cuts 1000 impl_SparseOf.b []).getD 3 []) { slots := [.vs false 3 v0, .undef, .undef, .ptr 0 0, .ptr 1 0, .undef, .int .i64 v1, .sl 4 0, .sl 5 0, .undef, .undef, .undef, .undef, .undef, .undef, .undef, .undef, .undef, .undef, .undef, .undef, .undef, .undef, .undef, .undef, .undef, .undef, .undef, .undef, .undef, .undef, .undef, .undef, .undef, .undef, .undef, .undef, .undef, .undef, .undef, .undef, .undef, .undef, .undef, .undef, .undef, .undef, .undef, .undef, .undef, .undef, .undef, .undef, .undef, .undef, .undef, .undef, .undef, .undef, .undef, .undef, .undef, .undef, .undef, .undef, .undef, .undef, .undef, .undef, .undef, .undef, .undef, .undef, .undef, .undef, .undef, .undef, .undef, .undef, .undef, .undef, .undef, .undef, .undef, .undef, .undef, .undef, .undef, .undef, .undef, .undef, .undef, .undef, .undef, .undef, .undef, .undef, .undef, .undef], loc := locOf [.box 3 [.int .i64 v2], .box 55 [.int .i64 v3, .int .i64 v4, .int .i64 v5, .int .i64 v6, .int .i64 v7, .sl 2 0, .int .i64 v8, .sl 3 0], .row 0 true 117 v9, .row 0 true 117 v10, .row 0 true 3 v11, .row 0 true 3 v12], nx := 6 }
theorem impl_SparseOf.eq (x0 : List Int) (x1 : Int) : impl_SparseOf x0 x1 =
    (impl_within x1 (0 : Int) (1000000 : Int)).bind fun y1 =>
    bif !y1 then
      some (((0 : Int), (0 : Int), (0 : Int), (0 : Int), (0 : Int), ([] : List Int), (0 : Int), ([] : List Int)), false)
    else
      (slices_IsSorted_int_int x0).bind fun y2 =>
      bif !y2 then
        some (((0 : Int), (0 : Int), (0 : Int), (0 : Int), (0 : Int), ([] : List Int), (0 : Int), ([] : List Int)), false)
      else
        (impl_areAll_int_SparseOf_1 x0 x1).bind fun y3 =>
        bif !y3 then
          some (((0 : Int), (0 : Int), (0 : Int), (0 : Int), (0 : Int), ([] : List Int), (0 : Int), ([] : List Int)), false)
        else
          impl_SparseOf_l0 x0 x1 (0 : Int) (0 : Int) (0 : Int) (0 : Int) (0 : Int) (0 : Int) ([] : List Int) ([] : List Int) := by kernel_rfl
theorem impl_SparseOf_l0.eq (v0 : List Int) (v1 : Int) (v2 : Int) (v3 : Int) (v4 : Int) (v5 : Int) (v6 : Int) (v7 : Int) (v8 : List Int) (v9 : List Int) : impl_SparseOf_l0 v0 v1 v2 v3 v4 v5 v6 v7 v8 v9 =
    (impl_lowWidth v1 (v0.length : Int)).bind fun y1 =>
    bif decide (y1 < (0 : Int)) then
      none
    else
      bif decide (IntKind.i64.wrap ((IntKind.i64.wrap ((v0.length : Int) + (v1.fdiv (2 ^ (min y1.toNat 64))))) + (1 : Int)) > (5000 : Int)) then
        some (((0 : Int), (0 : Int), (0 : Int), (0 : Int), (0 : Int), ([] : List Int), (0 : Int), ([] : List Int)), false)
      else
        impl_SparseOf_l1 v0 y1 v0 (v0.length : Int) (0 : Int) v1 v2 v3 v4 v5 v6 v7 v8 v9 ([] : List Int) ([] : List Int) := (Lw_eq tysOk (getG_con (impl_SparseOf.gok _)) _ _).trans (by kernel_rfl)
theorem impl_SparseOf_l1.eq (v0 : List Int) (v1 : Int) (v2 : List Int) (v3 : Int) (v4 : Int) (v5 : Int) (v6 : Int) (v7 : Int) (v8 : Int) (v9 : Int) (v10 : Int) (v11 : Int) (v12 : List Int) (v13 : List Int) (v14 : List Int) (v15 : List Int) : impl_SparseOf_l1 v0 v1 v2 v3 v4 v5 v6 v7 v8 v9 v10 v11 v12 v13 v14 v15 =
    bif decide (v4 < v3) then
      (at? v2 v4).bind fun y1 =>
      impl_SparseOf_l2 v0 v1 y1 v2 v3 v4 v5 v6 v7 v8 v9 v10 v11 v12 v13 v14 v15
    else
      impl_SparseOf_l3 v0 v1 v5 v6 v7 v8 v9 v10 v11 v12 v13 v14 v15 := (Lw_eq tysOk (getG_con (impl_SparseOf.gok _)) _ _).trans (by kernel_rfl)
theorem impl_SparseOf_l2.eq (v0 : List Int) (v1 : Int) (v2 : Int) (v3 : List Int) (v4 : Int) (v5 : Int) (v6 : Int) (v7 : Int) (v8 : Int) (v9 : Int) (v10 : Int) (v11 : Int) (v12 : Int) (v13 : List Int) (v14 : List Int) (v15 : List Int) (v16 : List Int) : impl_SparseOf_l2 v0 v1 v2 v3 v4 v5 v6 v7 v8 v9 v10 v11 v12 v13 v14 v15 v16 =
    bif decide (v1 < (0 : Int)) then
      none
    else
      bif decide (IntKind.i64.wrap ((v16.length : Int) - (v15.length : Int)) < v2.fdiv (2 ^ (min v1.toNat 64))) then
        bif decide ((v16.length + ([(0 : Int)] : List Int).length) * 8 ≤ 140737488355328) then
          impl_SparseOf_l2 v0 v1 v2 v3 v4 v5 v6 v7 v8 v9 v10 v11 v12 v13 v14 v15 (v16 ++ ([(0 : Int)] : List Int))
        else
          none
      else
        bif decide ((v16.length + ([(1 : Int)] : List Int).length) * 8 ≤ 140737488355328) then
          bif decide (v1 < (0 : Int)) then
            none
          else
            bif decide ((v15.length + ([IntKind.i64.wrap (((BitVec.ofInt 64 v2) &&& (BitVec.ofInt 64 (IntKind.i64.wrap ((IntKind.i64.wrap ((1 : Int) * 2 ^ (min v1.toNat 64))) - (1 : Int))))).toNat : Int)] : List Int).length) * 8 ≤ 140737488355328) then
              impl_SparseOf_l1 v0 v1 v3 v4 (IntKind.i64.wrap (v5 + (1 : Int))) v6 v7 v8 v9 v10 v11 v12 v13 v14 (v15 ++ ([IntKind.i64.wrap (((BitVec.ofInt 64 v2) &&& (BitVec.ofInt 64 (IntKind.i64.wrap ((IntKind.i64.wrap ((1 : Int) * 2 ^ (min v1.toNat 64))) - (1 : Int))))).toNat : Int)] : List Int)) (v16 ++ ([(1 : Int)] : List Int))
            else
              none
        else
          none := (Lw_eq tysOk (getG_con (impl_SparseOf.gok _)) _ _).trans (by kernel_rfl)
theorem impl_SparseOf_l3.eq (v0 : List Int) (v1 : Int) (v2 : Int) (v3 : Int) (v4 : Int) (v5 : Int) (v6 : Int) (v7 : Int) (v8 : Int) (v9 : List Int) (v10 : List Int) (v11 : List Int) (v12 : List Int) : impl_SparseOf_l3 v0 v1 v2 v3 v4 v5 v6 v7 v8 v9 v10 v11 v12 =
    bif decide (v1 < (0 : Int)) then
      none
    else
      bif decide (IntKind.i64.wrap ((v12.length : Int) - (v11.length : Int)) ≤ v2.fdiv (2 ^ (min v1.toNat 64))) then
        bif decide ((v12.length + ([(0 : Int)] : List Int).length) * 8 ≤ 140737488355328) then
          impl_SparseOf_l3 v0 v1 v2 v3 v4 v5 v6 v7 v8 v9 v10 v11 (v12 ++ ([(0 : Int)] : List Int))
        else
          none
      else
        (impl_PackOf v11 v1).bind fun y1 =>
        bif !y1.2 then
          some (((0 : Int), (0 : Int), (0 : Int), (0 : Int), (0 : Int), ([] : List Int), (0 : Int), ([] : List Int)), false)
        else
          (impl_bitsOf v12).bind fun y2 =>
          some ((v2, (v0.length : Int), y1.1.1, y1.1.2.1, y1.1.2.2.1, y1.1.2.2.2, y2.1, y2.2), true) := (Lw_eq tysOk (getG_con (impl_SparseOf.gok _)) _ _).trans (by kernel_rfl)

/-! ### slices_Equal_uint64_uint64: slices.Equal[[]uint64,uint64] -/
def slices_Equal_uint64_uint64.ms : List Mode := [.lend, .lend]
def slices_Equal_uint64_uint64.as : List VSh := [.one (.b (.b (.b (.b (.sl false false 117))))), .one (.b (.b (.b (.b (.sl false false 117)))))]
def slices_Equal_uint64_uint64.rs : RSh := ⟨[.one (.b (.b (.b (.b (.bool)))))], [none, none]⟩
noncomputable def slices_Equal_uint64_uint64.gs (δ : Type) : List (Nat × Callee (GT tab) δ) := []
theorem slices_Equal_uint64_uint64.gok (δ : Type) : AllCon Try.prog tab (slices_Equal_uint64_uint64.gs δ) := .nil
noncomputable def slices_Equal_uint64_uint64.c : Ctx (GT tab) (KT tab) (ResT tab slices_Equal_uint64_uint64.rs) := { X := XT tab, ty := tyOf tys, inner := fun _ => true, keep := keepOf 0 slices_Equal_uint64_uint64.ms, cuts := [], live := liveOf [(4, [0, 1, 12, 13])], G := getG (slices_Equal_uint64_uint64.gs _) }
noncomputable def slices_Equal_uint64_uint64.b : Code := bodyOf Try.f171
noncomputable def slices_Equal_uint64_uint64 (x0 : List Int) (x1 : List Int) : Option (Bool) := callW slices_Equal_uint64_uint64.c (fiOf (GT tab) Try.f171 slices_Equal_uint64_uint64.ms) slices_Equal_uint64_uint64.b (decRes tab slices_Equal_uint64_uint64.rs) (encArgs tab slices_Equal_uint64_uint64.as (x0, x1))
theorem slices_Equal_uint64_uint64.fok : FnOk Try.prog 171 Try.f171 slices_Equal_uint64_uint64.ms slices_Equal_uint64_uint64.b := ⟨Try.func171, by kernel_rfl, by kernel_rfl⟩
noncomputable def slices_Equal_uint64_uint64.fn : Args tab slices_Equal_uint64_uint64.as → Option (ResT tab slices_Equal_uint64_uint64.rs) := fun x => slices_Equal_uint64_uint64 x.1 x.2
theorem slices_Equal_uint64_uint64.con {δ : Type} : Con Try.prog (KT tab) 171 (calleeS (β := δ) tab slices_Equal_uint64_uint64.ms slices_Equal_uint64_uint64.as slices_Equal_uint64_uint64.rs slices_Equal_uint64_uint64.fn) := con_shape (c := slices_Equal_uint64_uint64.c) mixed tysOk (getG_con (slices_Equal_uint64_uint64.gok _)) slices_Equal_uint64_uint64.fok rfl rfl (fun _ => rfl)
noncomputable def slices_Equal_uint64_uint64_l0 (v0 : List Int) (v1 : List Int) (v2 : Int) (v3 : Int) : Option (Bool) := Lw slices_Equal_uint64_uint64.c (finish slices_Equal_uint64_uint64.c (fiOf (GT tab) Try.f171 slices_Equal_uint64_uint64.ms) (decRes tab slices_Equal_uint64_uint64.rs)) ((loops slices_Equal_uint64_uint64.c.cuts 1000 slices_Equal_uint64_uint64.b []).getD 0 []) { slots := [.vs false 117 v0, .vs false 117 v1, .undef, .undef, .undef, .undef, .undef, .undef, .undef, .undef, .undef, .undef, .int .i64 v2, .int .i64 v3, .undef, .undef, .undef, .undef, .undef, .undef, .undef, .undef, .undef, .undef, .undef, .undef], loc := locOf [], nx := 0 }
theorem slices_Equal_uint64_uint64.eq (x0 : List Int) (x1 : List Int) : slices_Equal_uint64_uint64 x0 x1 =
    bif (x0.length : Int) != (x1.length : Int) then
      some false
    else
      slices_Equal_uint64_uint64_l0 x0 x1 (x0.length : Int) (0 : Int) := by kernel_rfl
theorem slices_Equal_uint64_uint64_l0.eq (v0 : List Int) (v1 : List Int) (v2 : Int) (v3 : Int) : slices_Equal_uint64_uint64_l0 v0 v1 v2 v3 =
    bif decide (v3 < v2) then
      (at? v0 v3).bind fun y1 =>
      (at? v1 v3).bind fun y2 =>
      bif y1 != y2 then
        some false
      else
        slices_Equal_uint64_uint64_l0 v0 v1 v2 (IntKind.i64.wrap (v3 + (1 : Int)))
    else
      some true := (Lw_eq tysOk (getG_con (slices_Equal_uint64_uint64.gok _)) _ _).trans (by kernel_rfl)

/-! ### impl_sameBits: loop.example/g00688/impl.sameBits -/
def impl_sameBits.ms : List Mode := [.lend, .lend]
def impl_sameBits.as : List VSh := [.agg [.int .i64, .sl false false 117], .agg [.int .i64, .sl false false 117]]
def impl_sameBits.rs : RSh := ⟨[.one (.b (.b (.b (.b (.bool)))))], [none, none]⟩
noncomputable def impl_sameBits.gs (δ : Type) : List (Nat × Callee (GT tab) δ) := [(171, calleeS tab slices_Equal_uint64_uint64.ms slices_Equal_uint64_uint64.as slices_Equal_uint64_uint64.rs slices_Equal_uint64_uint64.fn)]
theorem impl_sameBits.gok (δ : Type) : AllCon Try.prog tab (impl_sameBits.gs δ) := .cons slices_Equal_uint64_uint64.con (.nil)
noncomputable def impl_sameBits.c : Ctx (GT tab) (KT tab) (ResT tab impl_sameBits.rs) := { X := XT tab, ty := tyOf tys, inner := fun _ => true, keep := keepOf 0 impl_sameBits.ms, cuts := [], live := liveOf [], G := getG (impl_sameBits.gs _) }
noncomputable def impl_sameBits.b : Code := bodyOf Try.f140
noncomputable def impl_sameBits (x0 : Int × (List Int)) (x1 : Int × (List Int)) : Option (Bool) := callW impl_sameBits.c (fiOf (GT tab) Try.f140 impl_sameBits.ms) impl_sameBits.b (decRes tab impl_sameBits.rs) (encArgs tab impl_sameBits.as (x0, x1))
theorem impl_sameBits.fok : FnOk Try.prog 140 Try.f140 impl_sameBits.ms impl_sameBits.b := ⟨Try.func140, by kernel_rfl, by kernel_rfl⟩
noncomputable def impl_sameBits.fn : Args tab impl_sameBits.as → Option (ResT tab impl_sameBits.rs) := fun x => impl_sameBits x.1 x.2
theorem impl_sameBits.con {δ : Type} : Con Try.prog (KT tab) 140 (calleeS (β := δ) tab impl_sameBits.ms impl_sameBits.as impl_sameBits.rs impl_sameBits.fn) := con_shape (c := impl_sameBits.c) mixed tysOk (getG_con (impl_sameBits.gok _)) impl_sameBits.fok rfl rfl (fun _ => rfl)
theorem impl_sameBits.eq (x0 : Int × (List Int)) (x1 : Int × (List Int)) : impl_sameBits x0 x1 =
    bif x0.1 == x1.1 then
      (slices_Equal_uint64_uint64 x0.2 x1.2).bind fun y1 =>
      some y1
    else
      some false := by kernel_rfl

/-! ### impl_samePacked: loop.example/g00688/impl.samePacked -/
def impl_samePacked.ms : List Mode := [.lend, .lend]
def impl_samePacked.as : List VSh := [.agg [.int .i64, .int .i64, .int .i64, .sl false false 117], .agg [.int .i64, .int .i64, .int .i64, .sl false false 117]]
def impl_samePacked.rs : RSh := ⟨[.one (.b (.b (.b (.b (.bool)))))], [none, none]⟩
noncomputable def impl_samePacked.gs (δ : Type) : List (Nat × Callee (GT tab) δ) := [(140, calleeS tab impl_sameBits.ms impl_sameBits.as impl_sameBits.rs impl_sameBits.fn)]
theorem impl_samePacked.gok (δ : Type) : AllCon Try.prog tab (impl_samePacked.gs δ) := .cons impl_sameBits.con (.nil)
noncomputable def impl_samePacked.c : Ctx (GT tab) (KT tab) (ResT tab impl_samePacked.rs) := { X := XT tab, ty := tyOf tys, inner := fun _ => true, keep := keepOf 0 impl_samePacked.ms, cuts := [], live := liveOf [], G := getG (impl_samePacked.gs _) }
noncomputable def impl_samePacked.b : Code := bodyOf Try.f139
noncomputable def impl_samePacked (x0 : Int × Int × Int × (List Int)) (x1 : Int × Int × Int × (List Int)) : Option (Bool) := callW impl_samePacked.c (fiOf (GT tab) Try.f139 impl_samePacked.ms) impl_samePacked.b (decRes tab impl_samePacked.rs) (encArgs tab impl_samePacked.as (x0, x1))
theorem impl_samePacked.fok : FnOk Try.prog 139 Try.f139 impl_samePacked.ms impl_samePacked.b := ⟨Try.func139, by kernel_rfl, by kernel_rfl⟩
noncomputable def impl_samePacked.fn : Args tab impl_samePacked.as → Option (ResT tab impl_samePacked.rs) := fun x => impl_samePacked x.1 x.2
theorem impl_samePacked.con {δ : Type} : Con Try.prog (KT tab) 139 (calleeS (β := δ) tab impl_samePacked.ms impl_samePacked.as impl_samePacked.rs impl_samePacked.fn) := con_shape (c := impl_samePacked.c) mixed tysOk (getG_con (impl_samePacked.gok _)) impl_samePacked.fok rfl rfl (fun _ => rfl)
theorem impl_samePacked.eq (x0 : Int × Int × Int × (List Int)) (x1 : Int × Int × Int × (List Int)) : impl_samePacked x0 x1 =
    bif x0.1 == x1.1 then
      bif x0.2.1 == x1.2.1 then
        (impl_sameBits (x0.2.2.1, x0.2.2.2) (x1.2.2.1, x1.2.2.2)).bind fun y1 =>
        some y1
      else
        some false
    else
      some false := by kernel_rfl

/-! ### impl_Sparse_read: (loop.example/g00688/impl.Sparse).read -/
def impl_Sparse_read.ms : List Mode := [.lend]
def impl_Sparse_read.as : List VSh := [.agg [.int .i64, .int .i64, .int .i64, .int .i64, .int .i64, .sl false false 117, .int .i64, .sl false false 117]]
def impl_Sparse_read.rs : RSh := ⟨[.one (.b (.b (.b (.b (.sl true true 3))))), .one (.b (.b (.b (.b (.bool)))))], [none]⟩
noncomputable def impl_Sparse_read.gs (δ : Type) : List (Nat × Callee (GT tab) δ) := [(136, calleeS tab impl_PackList.ms impl_PackList.as impl_PackList.rs impl_PackList.fn), (137, calleeS tab impl_BitsList.ms impl_BitsList.as impl_BitsList.rs impl_BitsList.fn), (138, calleeS tab impl_SparseOf.ms impl_SparseOf.as impl_SparseOf.rs impl_SparseOf.fn), (139, calleeS tab impl_samePacked.ms impl_samePacked.as impl_samePacked.rs impl_samePacked.fn), (140, calleeS tab impl_sameBits.ms impl_sameBits.as impl_sameBits.rs impl_sameBits.fn)]
theorem impl_Sparse_read.gok (δ : Type) : AllCon Try.prog tab (impl_Sparse_read.gs δ) := .cons impl_PackList.con (.cons impl_BitsList.con (.cons impl_SparseOf.con (.cons impl_samePacked.con (.cons impl_sameBits.con (.nil)))))
noncomputable def impl_Sparse_read.c : Ctx (GT tab) (KT tab) (ResT tab impl_Sparse_read.rs) := { X := XT tab, ty := tyOf tys, inner := fun _ => true, keep := keepOf 0 impl_Sparse_read.ms, cuts := [], live := liveOf [(5, [1, 4, 6, 7, 18, 19, 20])], G := getG (impl_Sparse_read.gs _) }
noncomputable def impl_Sparse_read.b : Code := bodyOf Try.f82
noncomputable def impl_Sparse_read (x0 : Int × Int × Int × Int × Int × (List Int) × Int × (List Int)) : Option ((List Int) × Bool) := callW impl_Sparse_read.c (fiOf (GT tab) Try.f82 impl_Sparse_read.ms) impl_Sparse_read.b (decRes tab impl_Sparse_read.rs) (encArgs tab impl_Sparse_read.as x0)
theorem impl_Sparse_read.fok : FnOk Try.prog 82 Try.f82 impl_Sparse_read.ms impl_Sparse_read.b := ⟨Try.func82, by kernel_rfl, by kernel_rfl⟩
noncomputable def impl_Sparse_read.fn : Args tab impl_Sparse_read.as → Option (ResT tab impl_Sparse_read.rs) := fun x => impl_Sparse_read x
theorem impl_Sparse_read.con {δ : Type} : Con Try.prog (KT tab) 82 (calleeS (β := δ) tab impl_Sparse_read.ms impl_Sparse_read.as impl_Sparse_read.rs impl_Sparse_read.fn) := con_shape (c := impl_Sparse_read.c) mixed tysOk (getG_con (impl_Sparse_read.gok _)) impl_Sparse_read.fok rfl rfl (fun _ => rfl)
noncomputable def impl_Sparse_read_l0 (v0 : Int) (v1 : Int) (v2 : Int) (v3 : Int) (v4 : Int) (v5 : Int) (v6 : Int) (v7 : Int) (v8 : List Int) (v9 : Int) (v10 : List Int) (v11 : List Int) (v12 : List Int) (v13 : List Int) : Option ((List Int) × Bool) := Lw impl_Sparse_read.c (finish impl_Sparse_read.c (fiOf (GT tab) Try.f82 impl_Sparse_read.ms) (decRes tab impl_Sparse_read.rs)) ((loops impl_Sparse_read.c.cuts 1000 impl_Sparse_read.b []).getD 0 []) { slots := [.undef, .ptr 0 0, .undef, .undef, .sl 1 0, .undef, .sl 2 0, .int .i64 v0, .undef, .undef, .undef, .undef, .undef, .undef, .undef, .undef, .undef, .undef, .sl 3 0, .int .i64 v1, .int .i64 v2, .undef, .undef, .undef, .undef, .undef, .undef, .undef, .undef, .undef, .undef, .undef, .undef, .undef, .undef, .undef, .undef, .undef, .undef, .undef, .undef, .undef, .undef, .undef, .undef, .undef, .undef, .undef, .undef, .undef, .undef, .undef, .undef, .undef, .undef, .undef, .undef, .undef, .undef, .undef, .undef, .undef, .undef, .undef, .undef, .undef, .undef, .undef, .undef, .undef, .undef, .undef, .undef, .undef, .undef, .undef, .undef, .undef, .undef, .undef], loc := locOf [.box 55 [.int .i64 v3, .int .i64 v4, .int .i64 v5, .int .i64 v6, .int .i64 v7, .vs false 117 v8, .int .i64 v9, .vs false 117 v10], .row 0 true 3 v11, .row 0 true 3 v12, .row 0 true 3 v13], nx := 4 }
theorem impl_Sparse_read.eq (x0 : Int × Int × Int × Int × Int × (List Int) × Int × (List Int)) : impl_Sparse_read x0 =
    (impl_PackList (x0.2.2.1, x0.2.2.2.1, x0.2.2.2.2.1, x0.2.2.2.2.2.1)).bind fun y1 =>
    (impl_BitsList (x0.2.2.2.2.2.2.1, x0.2.2.2.2.2.2.2)).bind fun y2 =>
    impl_Sparse_read_l0 (0 : Int) (y2.length : Int) (0 : Int) x0.1 x0.2.1 x0.2.2.1 x0.2.2.2.1 x0.2.2.2.2.1 x0.2.2.2.2.2.1 x0.2.2.2.2.2.2.1 x0.2.2.2.2.2.2.2 y1 ([] : List Int) y2 := by kernel_rfl
theorem impl_Sparse_read_l0.eq (v0 : Int) (v1 : Int) (v2 : Int) (v3 : Int) (v4 : Int) (v5 : Int) (v6 : Int) (v7 : Int) (v8 : List Int) (v9 : Int) (v10 : List Int) (v11 : List Int) (v12 : List Int) (v13 : List Int) : impl_Sparse_read_l0 v0 v1 v2 v3 v4 v5 v6 v7 v8 v9 v10 v11 v12 v13 =
    bif decide (v2 < v1) then
      (at? v13 v2).bind fun y1 =>
      v13[v2.toNat]?.bind fun y2 =>
      bif y2 == (0 : Int) then
        impl_Sparse_read_l0 (IntKind.i64.wrap (v0 + (1 : Int))) v1 (IntKind.i64.wrap (v2 + (1 : Int))) v3 v4 v5 v6 v7 v8 v9 v10 v11 v12 v13
      else
        bif (v12.length : Int) == (v11.length : Int) then
          some (([] : List Int), false)
        else
          bif decide (v5 < (0 : Int)) then
            none
          else
            (at? v11 (v12.length : Int)).bind fun y3 =>
            v11[(v12.length : Int).toNat]?.bind fun y4 =>
            bif decide ((v12.length + ([IntKind.i64.wrap (((BitVec.ofInt 64 (IntKind.i64.wrap (v0 * 2 ^ (min v5.toNat 64)))) ||| (BitVec.ofInt 64 y4)).toNat : Int)] : List Int).length) * 8 ≤ 140737488355328) then
              impl_Sparse_read_l0 v0 v1 (IntKind.i64.wrap (v2 + (1 : Int))) v3 v4 v5 v6 v7 v8 v9 v10 v11 (v12 ++ ([IntKind.i64.wrap (((BitVec.ofInt 64 (IntKind.i64.wrap (v0 * 2 ^ (min v5.toNat 64)))) ||| (BitVec.ofInt 64 y4)).toNat : Int)] : List Int)) v13
            else
              none
    else
      (impl_SparseOf v12 v3).bind fun y5 =>
      bif y5.2 then
        bif y5.1.2.1 == v4 then
          (impl_samePacked (y5.1.2.2.1, y5.1.2.2.2.1, y5.1.2.2.2.2.1, y5.1.2.2.2.2.2.1) (v5, v6, v7, v8)).bind fun y6 =>
          bif y6 then
            (impl_sameBits (y5.1.2.2.2.2.2.2.1, y5.1.2.2.2.2.2.2.2) (v9, v10)).bind fun y7 =>
            some (v12, y7)
          else
            some (v12, false)
        else
          some (v12, false)
      else
        some (v12, false) := (Lw_eq tysOk (getG_con (impl_Sparse_read.gok _)) _ _).trans (by kernel_rfl)

/-! ### impl_SparseList: loop.example/g00688/impl.SparseList -/
def impl_SparseList.ms : List Mode := [.lend]
def impl_SparseList.as : List VSh := [.agg [.int .i64, .int .i64, .int .i64, .int .i64, .int .i64, .sl false false 117, .int .i64, .sl false false 117]]
def impl_SparseList.rs : RSh := ⟨[.one (.b (.b (.b (.b (.sl true true 3)))))], [none]⟩
noncomputable def impl_SparseList.gs (δ : Type) : List (Nat × Callee (GT tab) δ) := [(82, calleeS tab impl_Sparse_read.ms impl_Sparse_read.as impl_Sparse_read.rs impl_Sparse_read.fn)]
theorem impl_SparseList.gok (δ : Type) : AllCon Try.prog tab (impl_SparseList.gs δ) := .cons impl_Sparse_read.con (.nil)
noncomputable def impl_SparseList.c : Ctx (GT tab) (KT tab) (ResT tab impl_SparseList.rs) := { X := XT tab, ty := tyOf tys, inner := fun _ => true, keep := keepOf 0 impl_SparseList.ms, cuts := [], live := liveOf [], G := getG (impl_SparseList.gs _) }
noncomputable def impl_SparseList.b : Code := bodyOf Try.f27
noncomputable def impl_SparseList (x0 : Int × Int × Int × Int × Int × (List Int) × Int × (List Int)) : Option (List Int) := callW impl_SparseList.c (fiOf (GT tab) Try.f27 impl_SparseList.ms) impl_SparseList.b (decRes tab impl_SparseList.rs) (encArgs tab impl_SparseList.as x0)
theorem impl_SparseList.fok : FnOk Try.prog 27 Try.f27 impl_SparseList.ms impl_SparseList.b := ⟨Try.func27, by kernel_rfl, by kernel_rfl⟩
noncomputable def impl_SparseList.fn : Args tab impl_SparseList.as → Option (ResT tab impl_SparseList.rs) := fun x => impl_SparseList x
theorem impl_SparseList.con {δ : Type} : Con Try.prog (KT tab) 27 (calleeS (β := δ) tab impl_SparseList.ms impl_SparseList.as impl_SparseList.rs impl_SparseList.fn) := con_shape (c := impl_SparseList.c) mixed tysOk (getG_con (impl_SparseList.gok _)) impl_SparseList.fok rfl rfl (fun _ => rfl)
theorem impl_SparseList.eq (x0 : Int × Int × Int × Int × Int × (List Int) × Int × (List Int)) : impl_SparseList x0 =
    (impl_Sparse_read (x0.1, x0.2.1, x0.2.2.1, x0.2.2.2.1, x0.2.2.2.2.1, x0.2.2.2.2.2.1, x0.2.2.2.2.2.2.1, x0.2.2.2.2.2.2.2)).bind fun y1 =>
    bif !y1.2 then
      some ([] : List Int)
    else
      some y1.1 := by kernel_rfl

/-! ### laws_eqPacked: loop.example/g00688/laws.eqPacked -/
def laws_eqPacked.ms : List Mode := [.lend, .lend]
def laws_eqPacked.as : List VSh := [.agg [.int .i64, .int .i64, .int .i64, .sl false false 117], .agg [.int .i64, .int .i64, .int .i64, .sl false false 117]]
def laws_eqPacked.rs : RSh := ⟨[.one (.b (.b (.b (.b (.bool)))))], [none, none]⟩
noncomputable def laws_eqPacked.gs (δ : Type) : List (Nat × Callee (GT tab) δ) := [(84, calleeS tab laws_eqBits.ms laws_eqBits.as laws_eqBits.rs laws_eqBits.fn)]
theorem laws_eqPacked.gok (δ : Type) : AllCon Try.prog tab (laws_eqPacked.gs δ) := .cons laws_eqBits.con (.nil)
noncomputable def laws_eqPacked.c : Ctx (GT tab) (KT tab) (ResT tab laws_eqPacked.rs) := { X := XT tab, ty := tyOf tys, inner := fun _ => true, keep := keepOf 0 laws_eqPacked.ms, cuts := [], live := liveOf [], G := getG (laws_eqPacked.gs _) }
noncomputable def laws_eqPacked.b : Code := bodyOf Try.f83
noncomputable def laws_eqPacked (x0 : Int × Int × Int × (List Int)) (x1 : Int × Int × Int × (List Int)) : Option (Bool) := callW laws_eqPacked.c (fiOf (GT tab) Try.f83 laws_eqPacked.ms) laws_eqPacked.b (decRes tab laws_eqPacked.rs) (encArgs tab laws_eqPacked.as (x0, x1))
theorem laws_eqPacked.fok : FnOk Try.prog 83 Try.f83 laws_eqPacked.ms laws_eqPacked.b := ⟨Try.func83, by kernel_rfl, by kernel_rfl⟩
noncomputable def laws_eqPacked.fn : Args tab laws_eqPacked.as → Option (ResT tab laws_eqPacked.rs) := fun x => laws_eqPacked x.1 x.2
theorem laws_eqPacked.con {δ : Type} : Con Try.prog (KT tab) 83 (calleeS (β := δ) tab laws_eqPacked.ms laws_eqPacked.as laws_eqPacked.rs laws_eqPacked.fn) := con_shape (c := laws_eqPacked.c) mixed tysOk (getG_con (laws_eqPacked.gok _)) laws_eqPacked.fok rfl rfl (fun _ => rfl)
theorem laws_eqPacked.eq (x0 : Int × Int × Int × (List Int)) (x1 : Int × Int × Int × (List Int)) : laws_eqPacked x0 x1 =
    bif x0.1 != x1.1 then
      some false
    else
      bif x0.2.1 != x1.2.1 then
        some false
      else
        (laws_eqBits (x0.2.2.1, x0.2.2.2) (x1.2.2.1, x1.2.2.2)).bind fun y1 =>
        bif !y1 then
          some false
        else
          some true := by kernel_rfl

/-! ### laws_eqSparse: loop.example/g00688/laws.eqSparse -/
def laws_eqSparse.ms : List Mode := [.lend, .lend]
def laws_eqSparse.as : List VSh := [.agg [.int .i64, .int .i64, .int .i64, .int .i64, .int .i64, .sl false false 117, .int .i64, .sl false false 117], .agg [.int .i64, .int .i64, .int .i64, .int .i64, .int .i64, .sl false false 117, .int .i64, .sl false false 117]]
def laws_eqSparse.rs : RSh := ⟨[.one (.b (.b (.b (.b (.bool)))))], [none, none]⟩
noncomputable def laws_eqSparse.gs (δ : Type) : List (Nat × Callee (GT tab) δ) := [(83, calleeS tab laws_eqPacked.ms laws_eqPacked.as laws_eqPacked.rs laws_eqPacked.fn), (84, calleeS tab laws_eqBits.ms laws_eqBits.as laws_eqBits.rs laws_eqBits.fn)]
theorem laws_eqSparse.gok (δ : Type) : AllCon Try.prog tab (laws_eqSparse.gs δ) := .cons laws_eqPacked.con (.cons laws_eqBits.con (.nil))
noncomputable def laws_eqSparse.c : Ctx (GT tab) (KT tab) (ResT tab laws_eqSparse.rs) := { X := XT tab, ty := tyOf tys, inner := fun _ => true, keep := keepOf 0 laws_eqSparse.ms, cuts := [], live := liveOf [], G := getG (laws_eqSparse.gs _) }
noncomputable def laws_eqSparse.b : Code := bodyOf Try.f29
noncomputable def laws_eqSparse (x0 : Int × Int × Int × Int × Int × (List Int) × Int × (List Int)) (x1 : Int × Int × Int × Int × Int × (List Int) × Int × (List Int)) : Option (Bool) := callW laws_eqSparse.c (fiOf (GT tab) Try.f29 laws_eqSparse.ms) laws_eqSparse.b (decRes tab laws_eqSparse.rs) (encArgs tab laws_eqSparse.as (x0, x1))
theorem laws_eqSparse.fok : FnOk Try.prog 29 Try.f29 laws_eqSparse.ms laws_eqSparse.b := ⟨Try.func29, by kernel_rfl, by kernel_rfl⟩
noncomputable def laws_eqSparse.fn : Args tab laws_eqSparse.as → Option (ResT tab laws_eqSparse.rs) := fun x => laws_eqSparse x.1 x.2
theorem laws_eqSparse.con {δ : Type} : Con Try.prog (KT tab) 29 (calleeS (β := δ) tab laws_eqSparse.ms laws_eqSparse.as laws_eqSparse.rs laws_eqSparse.fn) := con_shape (c := laws_eqSparse.c) mixed tysOk (getG_con (laws_eqSparse.gok _)) laws_eqSparse.fok rfl rfl (fun _ => rfl)
theorem laws_eqSparse.eq (x0 : Int × Int × Int × Int × Int × (List Int) × Int × (List Int)) (x1 : Int × Int × Int × Int × Int × (List Int) × Int × (List Int)) : laws_eqSparse x0 x1 =
    bif x0.1 != x1.1 then
      some false
    else
      bif x0.2.1 != x1.2.1 then
        some false
      else
        (laws_eqPacked (x0.2.2.1, x0.2.2.2.1, x0.2.2.2.2.1, x0.2.2.2.2.2.1) (x1.2.2.1, x1.2.2.2.1, x1.2.2.2.2.1, x1.2.2.2.2.2.1)).bind fun y1 =>
        bif !y1 then
          some false
        else
          (laws_eqBits (x0.2.2.2.2.2.2.1, x0.2.2.2.2.2.2.2) (x1.2.2.2.2.2.2.1, x1.2.2.2.2.2.2.2)).bind fun y2 =>
          bif !y2 then
            some false
          else
            some true := by kernel_rfl

/-! ### laws_markBits: loop.example/g00688/laws.markBits -/
def laws_markBits.ms : List Mode := [.keep, .lend]
def laws_markBits.as : List VSh := [.agg [.int .i64, .sl true true 117], .one (.b (.b (.b (.b (.int .i64)))))]
def laws_markBits.rs : RSh := ⟨[.one (.b (.b (.b (.b (.int .i64)))))], [some (.agg [.int .i64, .sl true true 117]), none]⟩
noncomputable def laws_markBits.gs (δ : Type) : List (Nat × Callee (GT tab) δ) := [(124, calleeS tab laws_markUint64S.ms laws_markUint64S.as laws_markUint64S.rs laws_markUint64S.fn)]
theorem laws_markBits.gok (δ : Type) : AllCon Try.prog tab (laws_markBits.gs δ) := .cons laws_markUint64S.con (.nil)
noncomputable def laws_markBits.c : Ctx (GT tab) (KT tab) (ResT tab laws_markBits.rs) := { X := XT tab, ty := tyOf tys, inner := fun _ => true, keep := keepOf 0 laws_markBits.ms, cuts := [], live := liveOf [], G := getG (laws_markBits.gs _) }
noncomputable def laws_markBits.b : Code := bodyOf Try.f86
noncomputable def laws_markBits (x0 : Int × (List Int)) (x1 : Int) : Option (Int × (Int × (List Int))) := callW laws_markBits.c (fiOf (GT tab) Try.f86 laws_markBits.ms) laws_markBits.b (decRes tab laws_markBits.rs) (encArgs tab laws_markBits.as (x0, x1))
theorem laws_markBits.fok : FnOk Try.prog 86 Try.f86 laws_markBits.ms laws_markBits.b := ⟨Try.func86, by kernel_rfl, by kernel_rfl⟩
noncomputable def laws_markBits.fn : Args tab laws_markBits.as → Option (ResT tab laws_markBits.rs) := fun x => laws_markBits x.1 x.2
theorem laws_markBits.con {δ : Type} : Con Try.prog (KT tab) 86 (calleeS (β := δ) tab laws_markBits.ms laws_markBits.as laws_markBits.rs laws_markBits.fn) := con_shape (c := laws_markBits.c) mixed tysOk (getG_con (laws_markBits.gok _)) laws_markBits.fok rfl rfl (fun _ => rfl)
theorem laws_markBits.eq (x0 : Int × (List Int)) (x1 : Int) : laws_markBits x0 x1 =
    (laws_markUint64S x0.2 x1).bind fun y1 =>
    some (y1.1, (x0.1, y1.2)) := by kernel_rfl

/-! ### laws_markPacked: loop.example/g00688/laws.markPacked -/
def laws_markPacked.ms : List Mode := [.keep, .lend]
def laws_markPacked.as : List VSh := [.agg [.int .i64, .int .i64, .int .i64, .sl true true 117], .one (.b (.b (.b (.b (.int .i64)))))]
def laws_markPacked.rs : RSh := ⟨[.one (.b (.b (.b (.b (.int .i64)))))], [some (.agg [.int .i64, .int .i64, .int .i64, .sl true true 117]), none]⟩
noncomputable def laws_markPacked.gs (δ : Type) : List (Nat × Callee (GT tab) δ) := [(86, calleeS tab laws_markBits.ms laws_markBits.as laws_markBits.rs laws_markBits.fn)]
theorem laws_markPacked.gok (δ : Type) : AllCon Try.prog tab (laws_markPacked.gs δ) := .cons laws_markBits.con (.nil)
noncomputable def laws_markPacked.c : Ctx (GT tab) (KT tab) (ResT tab laws_markPacked.rs) := { X := XT tab, ty := tyOf tys, inner := fun _ => true, keep := keepOf 0 laws_markPacked.ms, cuts := [], live := liveOf [], G := getG (laws_markPacked.gs _) }
noncomputable def laws_markPacked.b : Code := bodyOf Try.f85
noncomputable def laws_markPacked (x0 : Int × Int × Int × (List Int)) (x1 : Int) : Option (Int × (Int × Int × Int × (List Int))) := callW laws_markPacked.c (fiOf (GT tab) Try.f85 laws_markPacked.ms) laws_markPacked.b (decRes tab laws_markPacked.rs) (encArgs tab laws_markPacked.as (x0, x1))
theorem laws_markPacked.fok : FnOk Try.prog 85 Try.f85 laws_markPacked.ms laws_markPacked.b := ⟨Try.func85, by kernel_rfl, by kernel_rfl⟩
noncomputable def laws_markPacked.fn : Args tab laws_markPacked.as → Option (ResT tab laws_markPacked.rs) := fun x => laws_markPacked x.1 x.2
theorem laws_markPacked.con {δ : Type} : Con Try.prog (KT tab) 85 (calleeS (β := δ) tab laws_markPacked.ms laws_markPacked.as laws_markPacked.rs laws_markPacked.fn) := con_shape (c := laws_markPacked.c) mixed tysOk (getG_con (laws_markPacked.gok _)) laws_markPacked.fok rfl rfl (fun _ => rfl)
theorem laws_markPacked.eq (x0 : Int × Int × Int × (List Int)) (x1 : Int) : laws_markPacked x0 x1 =
    (laws_markBits (x0.2.2.1, x0.2.2.2) x1).bind fun y1 =>
    some (y1.1, (x0.1, x0.2.1, x0.2.2.1, y1.2.2)) := by kernel_rfl

/-! ### laws_markSparse: loop.example/g00688/laws.markSparse -/
def laws_markSparse.ms : List Mode := [.keep, .lend]
def laws_markSparse.as : List VSh := [.agg [.int .i64, .int .i64, .int .i64, .int .i64, .int .i64, .sl true true 117, .int .i64, .sl true true 117], .one (.b (.b (.b (.b (.int .i64)))))]
def laws_markSparse.rs : RSh := ⟨[.one (.b (.b (.b (.b (.int .i64)))))], [some (.agg [.int .i64, .int .i64, .int .i64, .int .i64, .int .i64, .sl true true 117, .int .i64, .sl true true 117]), none]⟩
noncomputable def laws_markSparse.gs (δ : Type) : List (Nat × Callee (GT tab) δ) := [(85, calleeS tab laws_markPacked.ms laws_markPacked.as laws_markPacked.rs laws_markPacked.fn), (86, calleeS tab laws_markBits.ms laws_markBits.as laws_markBits.rs laws_markBits.fn)]
theorem laws_markSparse.gok (δ : Type) : AllCon Try.prog tab (laws_markSparse.gs δ) := .cons laws_markPacked.con (.cons laws_markBits.con (.nil))
noncomputable def laws_markSparse.c : Ctx (GT tab) (KT tab) (ResT tab laws_markSparse.rs) := { X := XT tab, ty := tyOf tys, inner := fun _ => true, keep := keepOf 0 laws_markSparse.ms, cuts := [], live := liveOf [], G := getG (laws_markSparse.gs _) }
noncomputable def laws_markSparse.b : Code := bodyOf Try.f30
noncomputable def laws_markSparse (x0 : Int × Int × Int × Int × Int × (List Int) × Int × (List Int)) (x1 : Int) : Option (Int × (Int × Int × Int × Int × Int × (List Int) × Int × (List Int))) := callW laws_markSparse.c (fiOf (GT tab) Try.f30 laws_markSparse.ms) laws_markSparse.b (decRes tab laws_markSparse.rs) (encArgs tab laws_markSparse.as (x0, x1))
theorem laws_markSparse.fok : FnOk Try.prog 30 Try.f30 laws_markSparse.ms laws_markSparse.b := ⟨Try.func30, by kernel_rfl, by kernel_rfl⟩
noncomputable def laws_markSparse.fn : Args tab laws_markSparse.as → Option (ResT tab laws_markSparse.rs) := fun x => laws_markSparse x.1 x.2
theorem laws_markSparse.con {δ : Type} : Con Try.prog (KT tab) 30 (calleeS (β := δ) tab laws_markSparse.ms laws_markSparse.as laws_markSparse.rs laws_markSparse.fn) := con_shape (c := laws_markSparse.c) mixed tysOk (getG_con (laws_markSparse.gok _)) laws_markSparse.fok rfl rfl (fun _ => rfl)
theorem laws_markSparse.eq (x0 : Int × Int × Int × Int × Int × (List Int) × Int × (List Int)) (x1 : Int) : laws_markSparse x0 x1 =
    (laws_markPacked (x0.2.2.1, x0.2.2.2.1, x0.2.2.2.2.1, x0.2.2.2.2.2.1) x1).bind fun y1 =>
    (laws_markBits (x0.2.2.2.2.2.2.1, x0.2.2.2.2.2.2.2) y1.1).bind fun y2 =>
    some (y2.1, (x0.1, x0.2.1, x0.2.2.1, x0.2.2.2.1, x0.2.2.2.2.1, y1.2.2.2.2, x0.2.2.2.2.2.2.1, y2.2.2)) := by kernel_rfl

end Go.Ev.W
