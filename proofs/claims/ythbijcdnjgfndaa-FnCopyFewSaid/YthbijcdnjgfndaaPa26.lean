/- What functions of the program come to. -/
import Derived.Test.YthbijcdnjgfndaaPaT
import Derived.Test.YthbijcdnjgfndaaPa14
import Derived.Test.YthbijcdnjgfndaaPa15
import Derived.Test.YthbijcdnjgfndaaPa19
import Derived.Test.YthbijcdnjgfndaaPa21
import Derived.Test.YthbijcdnjgfndaaPa22
namespace Go.Ev.W
open Go.Ev Go.Proofs
set_option maxRecDepth 100000
set_option linter.unusedVariables false

/-! ### spec_DrawCopyOf: loop.example/g00688/spec.DrawCopyOf -/
def spec_DrawCopyOf.ms : List Mode := [.lend]
def spec_DrawCopyOf.as : List VSh := [.one (.b (.b (.b (.b (.sl false false 5)))))]
def spec_DrawCopyOf.rs : RSh := ⟨[.one (.b (.b (.b (.b (.sl true true 3))))), .one (.b (.b (.b (.b (.sl true true 3)))))], [none]⟩
noncomputable def spec_DrawCopyOf.gs (δ : Type) : List (Nat × Callee (GT tab) δ) := [(70, calleeS tab spec_l01Open.ms spec_l01Open.as spec_l01Open.rs spec_l01Open.fn), (71, calleeS tab spec_l01Cur_badRow.ms spec_l01Cur_badRow.as spec_l01Cur_badRow.rs spec_l01Cur_badRow.fn), (81, calleeS tab spec_l01Cur_rows.ms spec_l01Cur_rows.as spec_l01Cur_rows.rs spec_l01Cur_rows.fn), (82, calleeS tab spec_l01Cur_once.ms spec_l01Cur_once.as spec_l01Cur_once.rs spec_l01Cur_once.fn)]
theorem spec_DrawCopyOf.gok (δ : Type) : AllCon Try.prog tab (spec_DrawCopyOf.gs δ) := .cons spec_l01Open.con (.cons spec_l01Cur_badRow.con (.cons spec_l01Cur_rows.con (.cons spec_l01Cur_once.con (.nil))))
noncomputable def spec_DrawCopyOf.c : Ctx (GT tab) (KT tab) (ResT tab spec_DrawCopyOf.rs) := { X := XT tab, ty := tyOf tys, inner := fun _ => true, keep := keepOf 0 spec_DrawCopyOf.ms, cuts := [], live := liveOf [], G := getG (spec_DrawCopyOf.gs _) }
noncomputable def spec_DrawCopyOf.b : Code := bodyOf Try.f46
noncomputable def spec_DrawCopyOf (x0 : List Int) : Option ((List Int) × (List Int)) := callW spec_DrawCopyOf.c (fiOf (GT tab) Try.f46 spec_DrawCopyOf.ms) spec_DrawCopyOf.b (decRes tab spec_DrawCopyOf.rs) (encArgs tab spec_DrawCopyOf.as x0)
theorem spec_DrawCopyOf.fok : FnOk Try.prog 46 Try.f46 spec_DrawCopyOf.ms spec_DrawCopyOf.b := ⟨Try.func46, by kernel_rfl, by kernel_rfl⟩
noncomputable def spec_DrawCopyOf.fn : Args tab spec_DrawCopyOf.as → Option (ResT tab spec_DrawCopyOf.rs) := fun x => spec_DrawCopyOf x
theorem spec_DrawCopyOf.con {δ : Type} : Con Try.prog (KT tab) 46 (calleeS (β := δ) tab spec_DrawCopyOf.ms spec_DrawCopyOf.as spec_DrawCopyOf.rs spec_DrawCopyOf.fn) := con_shape (c := spec_DrawCopyOf.c) mixed tysOk (getG_con (spec_DrawCopyOf.gok _)) spec_DrawCopyOf.fok rfl rfl (fun _ => rfl)
theorem spec_DrawCopyOf.eq (x0 : List Int) : spec_DrawCopyOf x0 =
    (spec_l01Open x0).bind fun y1 =>
    (spec_l01Cur_rows (y1.1, y1.2.1, y1.2.2)).bind fun y2 =>
    (spec_l01Cur_once (y2.2.2.1, y2.2.2.2.1, y2.2.2.2.2) (9 : Int)).bind fun y3 =>
    bif y3.1 then
      (spec_l01Cur_badRow (y3.2.1, y3.2.2.1, y3.2.2.2)).bind fun y4 =>
      some (y2.1, y4.1)
    else
      some (y2.1, y2.2.1) := by kernel_rfl

/-! ### laws_pick: loop.example/g00688/laws.pick -/
def laws_pick.ms : List Mode := [.lend, .lend, .lend]
def laws_pick.as : List VSh := [.one (.b (.b (.b (.b (.sl false false 5))))), .one (.b (.b (.b (.b (.int .i64))))), .one (.b (.b (.b (.b (.int .i64)))))]
def laws_pick.rs : RSh := ⟨[.one (.b (.b (.b (.b (.int .i64)))))], [none, none, none]⟩
noncomputable def laws_pick.gs (δ : Type) : List (Nat × Callee (GT tab) δ) := []
theorem laws_pick.gok (δ : Type) : AllCon Try.prog tab (laws_pick.gs δ) := .nil
noncomputable def laws_pick.c : Ctx (GT tab) (KT tab) (ResT tab laws_pick.rs) := { X := XT tab, ty := tyOf tys, inner := fun _ => true, keep := keepOf 0 laws_pick.ms, cuts := [3], live := liveOf [(3, [0, 1, 2]), (5, [0, 1, 2, 7, 8])], G := getG (laws_pick.gs _) }
noncomputable def laws_pick.b : Code := bodyOf Try.f47
noncomputable def laws_pick (x0 : List Int) (x1 : Int) (x2 : Int) : Option (Int) := callW laws_pick.c (fiOf (GT tab) Try.f47 laws_pick.ms) laws_pick.b (decRes tab laws_pick.rs) (encArgs tab laws_pick.as (x0, x1, x2))
theorem laws_pick.fok : FnOk Try.prog 47 Try.f47 laws_pick.ms laws_pick.b := ⟨Try.func47, by kernel_rfl, by kernel_rfl⟩
noncomputable def laws_pick.fn : Args tab laws_pick.as → Option (ResT tab laws_pick.rs) := fun x => laws_pick x.1 x.2.1 x.2.2
theorem laws_pick.con {δ : Type} : Con Try.prog (KT tab) 47 (calleeS (β := δ) tab laws_pick.ms laws_pick.as laws_pick.rs laws_pick.fn) := con_shape (c := laws_pick.c) mixed tysOk (getG_con (laws_pick.gok _)) laws_pick.fok rfl rfl (fun _ => rfl)
noncomputable def laws_pick_l0 (v0 : List Int) (v1 : Int) (v2 : Int) : Option (Int) := Lw laws_pick.c (finish laws_pick.c (fiOf (GT tab) Try.f47 laws_pick.ms) (decRes tab laws_pick.rs)) ((loops laws_pick.c.cuts 1000 laws_pick.b []).getD 0 []) { slots := [.vs false 5 v0, .int .i64 v1, .int .i64 v2, .undef, .undef, .undef, .undef, .undef, .undef, .undef, .undef, .undef, .undef, .undef, .undef, .undef, .undef, .undef, .undef, .undef, .undef, .undef, .undef, .undef, .undef, .undef, .undef, .undef, .undef, .undef, .undef, .undef, .undef, .undef, .undef, .undef, .undef, .undef], loc := locOf [], nx := 0 }
noncomputable def laws_pick_l1 (v0 : List Int) (v1 : Int) (v2 : Int) (v3 : Int) (v4 : Int) : Option (Int) := Lw laws_pick.c (finish laws_pick.c (fiOf (GT tab) Try.f47 laws_pick.ms) (decRes tab laws_pick.rs)) ((loops laws_pick.c.cuts 1000 laws_pick.b []).getD 1 []) { slots := [.vs false 5 v0, .int .i64 v1, .int .i64 v2, .undef, .undef, .undef, .undef, .int .i64 v3, .int .i64 v4, .undef, .undef, .undef, .undef, .undef, .undef, .undef, .undef, .undef, .undef, .undef, .undef, .undef, .undef, .undef, .undef, .undef, .undef, .undef, .undef, .undef, .undef, .undef, .undef, .undef, .undef, .undef, .undef, .undef], loc := locOf [], nx := 0 }
theorem laws_pick.eq (x0 : List Int) (x1 : Int) (x2 : Int) : laws_pick x0 x1 x2 =
    bif (x0.length : Int) == (0 : Int) then
      some (0 : Int)
    else
      bif decide (x2 < (2 : Int)) then
        some (0 : Int)
      else
        laws_pick_l0 x0 x1 x2 := by kernel_rfl
theorem laws_pick_l0.eq (v0 : List Int) (v1 : Int) (v2 : Int) : laws_pick_l0 v0 v1 v2 =
    laws_pick_l1 v0 v1 v2 (0 : Int) (0 : Int) := (Lw_eq tysOk (getG_con (laws_pick.gok _)) _ _).trans (by kernel_rfl)
theorem laws_pick_l1.eq (v0 : List Int) (v1 : Int) (v2 : Int) (v3 : Int) (v4 : Int) : laws_pick_l1 v0 v1 v2 v3 v4 =
    bif decide (v4 < (3 : Int)) then
      bif decide ((v0.length : Int) = (0 : Int)) then
        none
      else
        (at? v0 ((IntKind.i64.wrap (v1 + v4)).tmod (v0.length : Int))).bind fun y1 =>
        laws_pick_l1 v0 v1 v2 (IntKind.i64.wrap ((IntKind.i64.wrap ((31 : Int) * v3)) + (IntKind.i64.wrap y1))) (IntKind.i64.wrap (v4 + (1 : Int)))
    else
      bif decide (v2 = (0 : Int)) then
        none
      else
        some ((IntKind.i64.wrap (v3 + v1)).tmod v2) := (Lw_eq tysOk (getG_con (laws_pick.gok _)) _ _).trans (by kernel_rfl)

/-! ### laws_FnCopyBack: loop.example/g00688/laws.FnCopyBack -/
def laws_FnCopyBack.ms : List Mode := [.lend]
def laws_FnCopyBack.as : List VSh := [.one (.b (.b (.b (.b (.sl false false 5)))))]
def laws_FnCopyBack.rs : RSh := ⟨[.one (.b (.b (.b (.b (.bool)))))], [none]⟩
noncomputable def laws_FnCopyBack.gs (δ : Type) : List (Nat × Callee (GT tab) δ) := [(26, calleeS tab impl_CopyAt.ms impl_CopyAt.as impl_CopyAt.rs impl_CopyAt.fn), (29, calleeS tab impl_CopyDo.ms impl_CopyDo.as impl_CopyDo.rs impl_CopyDo.fn), (31, calleeS tab spec_CopyOf.ms spec_CopyOf.as spec_CopyOf.rs spec_CopyOf.fn), (32, calleeS tab impl_CopyOf.ms impl_CopyOf.as impl_CopyOf.rs impl_CopyOf.fn), (34, calleeS tab laws_big.ms laws_big.as laws_big.rs laws_big.fn), (36, calleeS tab laws_same.ms laws_same.as laws_same.rs laws_same.fn), (46, calleeS tab spec_DrawCopyOf.ms spec_DrawCopyOf.as spec_DrawCopyOf.rs spec_DrawCopyOf.fn), (47, calleeS tab laws_pick.ms laws_pick.as laws_pick.rs laws_pick.fn)]
theorem laws_FnCopyBack.gok (δ : Type) : AllCon Try.prog tab (laws_FnCopyBack.gs δ) := .cons impl_CopyAt.con (.cons impl_CopyDo.con (.cons spec_CopyOf.con (.cons impl_CopyOf.con (.cons laws_big.con (.cons laws_same.con (.cons spec_DrawCopyOf.con (.cons laws_pick.con (.nil))))))))
noncomputable def laws_FnCopyBack.c : Ctx (GT tab) (KT tab) (ResT tab laws_FnCopyBack.rs) := { X := XT tab, ty := tyOf tys, inner := fun _ => true, keep := keepOf 0 laws_FnCopyBack.ms, cuts := [8, 11], live := liveOf [(8, [0, 3, 4, 7]), (11, [0, 3, 4, 7]), (17, [3, 4, 7, 11, 12, 13, 14, 15]), (22, [3, 4, 7, 11, 12, 13, 14, 16, 17]), (25, [3, 4, 7, 11, 12, 13, 14, 16, 17, 18])], G := getG (laws_FnCopyBack.gs _) }
noncomputable def laws_FnCopyBack.b : Code := bodyOf Try.f10
noncomputable def laws_FnCopyBack (x0 : List Int) : Option (Bool) := callW laws_FnCopyBack.c (fiOf (GT tab) Try.f10 laws_FnCopyBack.ms) laws_FnCopyBack.b (decRes tab laws_FnCopyBack.rs) (encArgs tab laws_FnCopyBack.as x0)
theorem laws_FnCopyBack.fok : FnOk Try.prog 10 Try.f10 laws_FnCopyBack.ms laws_FnCopyBack.b := ⟨Try.func10, by kernel_rfl, by kernel_rfl⟩
noncomputable def laws_FnCopyBack.fn : Args tab laws_FnCopyBack.as → Option (ResT tab laws_FnCopyBack.rs) := fun x => laws_FnCopyBack x
theorem laws_FnCopyBack.con {δ : Type} : Con Try.prog (KT tab) 10 (calleeS (β := δ) tab laws_FnCopyBack.ms laws_FnCopyBack.as laws_FnCopyBack.rs laws_FnCopyBack.fn) := con_shape (c := laws_FnCopyBack.c) mixed tysOk (getG_con (laws_FnCopyBack.gok _)) laws_FnCopyBack.fok rfl rfl (fun _ => rfl)
noncomputable def laws_FnCopyBack_l0 (v0 : List Int) (v1 : List Int) (v2 : List Int) (v3 : List (Int × Int × Int)) : Option (Bool) := Lw laws_FnCopyBack.c (finish laws_FnCopyBack.c (fiOf (GT tab) Try.f10 laws_FnCopyBack.ms) (decRes tab laws_FnCopyBack.rs)) ((loops laws_FnCopyBack.c.cuts 1000 laws_FnCopyBack.b []).getD 0 []) { slots := [.vs false 5 v0, .undef, .undef, .sl 0 0, .sl 1 0, .undef, .undef, .sl 2 0, .undef, .undef, .undef, .undef, .undef, .undef, .undef, .undef, .undef, .undef, .undef, .undef, .undef, .undef, .undef, .undef, .undef, .undef, .undef, .undef, .undef, .undef, .undef, .undef, .undef, .undef, .undef, .undef, .undef, .undef, .undef, .undef, .undef, .undef, .undef, .undef, .undef, .undef, .undef, .undef, .undef, .undef, .undef, .undef, .undef, .undef, .undef, .undef, .undef, .undef, .undef, .undef, .undef, .undef, .undef, .undef, .undef, .undef, .undef, .undef, .undef, .undef, .undef, .undef, .undef, .undef, .undef, .undef, .undef, .undef, .undef, .undef, .undef, .undef, .undef, .undef, .undef, .undef, .undef, .undef, .undef, .undef, .undef, .undef, .undef, .undef, .undef, .undef, .undef, .undef, .undef, .undef, .undef, .undef, .undef, .undef, .undef, .undef, .undef, .undef, .undef, .undef, .undef, .undef, .undef, .undef, .undef, .undef, .undef, .undef, .undef, .undef, .undef, .undef, .undef, .undef, .undef, .undef, .undef, .undef, .undef, .undef, .undef, .undef, .undef, .undef, .undef, .undef, .undef, .undef, .undef, .undef, .undef, .undef, .undef, .undef, .undef, .undef, .undef, .undef, .undef, .undef, .undef, .undef, .undef], loc := locOf [.row 0 true 3 v1, .row 0 true 3 v2, .row 0 true 61 v3], nx := 3 }
noncomputable def laws_FnCopyBack_l1 (v0 : List Int) (v1 : List Int) (v2 : List Int) (v3 : List (Int × Int × Int)) : Option (Bool) := Lw laws_FnCopyBack.c (finish laws_FnCopyBack.c (fiOf (GT tab) Try.f10 laws_FnCopyBack.ms) (decRes tab laws_FnCopyBack.rs)) ((loops laws_FnCopyBack.c.cuts 1000 laws_FnCopyBack.b []).getD 1 []) { slots := [.vs false 5 v0, .undef, .undef, .sl 0 0, .sl 1 0, .undef, .undef, .sl 2 0, .undef, .undef, .undef, .undef, .undef, .undef, .undef, .undef, .undef, .undef, .undef, .undef, .undef, .undef, .undef, .undef, .undef, .undef, .undef, .undef, .undef, .undef, .undef, .undef, .undef, .undef, .undef, .undef, .undef, .undef, .undef, .undef, .undef, .undef, .undef, .undef, .undef, .undef, .undef, .undef, .undef, .undef, .undef, .undef, .undef, .undef, .undef, .undef, .undef, .undef, .undef, .undef, .undef, .undef, .undef, .undef, .undef, .undef, .undef, .undef, .undef, .undef, .undef, .undef, .undef, .undef, .undef, .undef, .undef, .undef, .undef, .undef, .undef, .undef, .undef, .undef, .undef, .undef, .undef, .undef, .undef, .undef, .undef, .undef, .undef, .undef, .undef, .undef, .undef, .undef, .undef, .undef, .undef, .undef, .undef, .undef, .undef, .undef, .undef, .undef, .undef, .undef, .undef, .undef, .undef, .undef, .undef, .undef, .undef, .undef, .undef, .undef, .undef, .undef, .undef, .undef, .undef, .undef, .undef, .undef, .undef, .undef, .undef, .undef, .undef, .undef, .undef, .undef, .undef, .undef, .undef, .undef, .undef, .undef, .undef, .undef, .undef, .undef, .undef, .undef, .undef, .undef, .undef, .undef, .undef], loc := locOf [.row 0 true 3 v1, .row 0 true 3 v2, .row 0 true 61 v3], nx := 3 }
noncomputable def laws_FnCopyBack_l2 (v0 : Int) (v1 : Int) (v2 : Bool) (v3 : Int) (v4 : Int) (v5 : List Int) (v6 : List Int) (v7 : List (Int × Int × Int)) : Option (Bool) := Lw laws_FnCopyBack.c (finish laws_FnCopyBack.c (fiOf (GT tab) Try.f10 laws_FnCopyBack.ms) (decRes tab laws_FnCopyBack.rs)) ((loops laws_FnCopyBack.c.cuts 1000 laws_FnCopyBack.b []).getD 2 []) { slots := [.undef, .undef, .undef, .sl 0 0, .sl 1 0, .undef, .undef, .sl 2 0, .undef, .undef, .undef, .int .i64 v0, .int .i64 v1, .bool v2, .int .i64 v3, .int .i64 v4, .undef, .undef, .undef, .undef, .undef, .undef, .undef, .undef, .undef, .undef, .undef, .undef, .undef, .undef, .undef, .undef, .undef, .undef, .undef, .undef, .undef, .undef, .undef, .undef, .undef, .undef, .undef, .undef, .undef, .undef, .undef, .undef, .undef, .undef, .undef, .undef, .undef, .undef, .undef, .undef, .undef, .undef, .undef, .undef, .undef, .undef, .undef, .undef, .undef, .undef, .undef, .undef, .undef, .undef, .undef, .undef, .undef, .undef, .undef, .undef, .undef, .undef, .undef, .undef, .undef, .undef, .undef, .undef, .undef, .undef, .undef, .undef, .undef, .undef, .undef, .undef, .undef, .undef, .undef, .undef, .undef, .undef, .undef, .undef, .undef, .undef, .undef, .undef, .undef, .undef, .undef, .undef, .undef, .undef, .undef, .undef, .undef, .undef, .undef, .undef, .undef, .undef, .undef, .undef, .undef, .undef, .undef, .undef, .undef, .undef, .undef, .undef, .undef, .undef, .undef, .undef, .undef, .undef, .undef, .undef, .undef, .undef, .undef, .undef, .undef, .undef, .undef, .undef, .undef, .undef, .undef, .undef, .undef, .undef, .undef, .undef, .undef], loc := locOf [.row 0 true 3 v5, .row 0 true 3 v6, .row 0 true 61 v7], nx := 3 }
noncomputable def laws_FnCopyBack_l3 (v0 : Int) (v1 : Int) (v2 : Bool) (v3 : Int) (v4 : Int) (v5 : Int) (v6 : List Int) (v7 : List Int) (v8 : List (Int × Int × Int)) : Option (Bool) := Lw laws_FnCopyBack.c (finish laws_FnCopyBack.c (fiOf (GT tab) Try.f10 laws_FnCopyBack.ms) (decRes tab laws_FnCopyBack.rs)) ((loops laws_FnCopyBack.c.cuts 1000 laws_FnCopyBack.b []).getD 3 []) { slots := [.undef, .undef, .undef, .sl 0 0, .sl 1 0, .undef, .undef, .sl 2 0, .undef, .undef, .undef, .int .i64 v0, .int .i64 v1, .bool v2, .int .i64 v3, .undef, .int .i64 v4, .int .i64 v5, .undef, .undef, .undef, .undef, .undef, .undef, .undef, .undef, .undef, .undef, .undef, .undef, .undef, .undef, .undef, .undef, .undef, .undef, .undef, .undef, .undef, .undef, .undef, .undef, .undef, .undef, .undef, .undef, .undef, .undef, .undef, .undef, .undef, .undef, .undef, .undef, .undef, .undef, .undef, .undef, .undef, .undef, .undef, .undef, .undef, .undef, .undef, .undef, .undef, .undef, .undef, .undef, .undef, .undef, .undef, .undef, .undef, .undef, .undef, .undef, .undef, .undef, .undef, .undef, .undef, .undef, .undef, .undef, .undef, .undef, .undef, .undef, .undef, .undef, .undef, .undef, .undef, .undef, .undef, .undef, .undef, .undef, .undef, .undef, .undef, .undef, .undef, .undef, .undef, .undef, .undef, .undef, .undef, .undef, .undef, .undef, .undef, .undef, .undef, .undef, .undef, .undef, .undef, .undef, .undef, .undef, .undef, .undef, .undef, .undef, .undef, .undef, .undef, .undef, .undef, .undef, .undef, .undef, .undef, .undef, .undef, .undef, .undef, .undef, .undef, .undef, .undef, .undef, .undef, .undef, .undef, .undef, .undef, .undef, .undef], loc := locOf [.row 0 true 3 v6, .row 0 true 3 v7, .row 0 true 61 v8], nx := 3 }
noncomputable def laws_FnCopyBack_l4 (v0 : Int) (v1 : Int) (v2 : Bool) (v3 : Int) (v4 : Int) (v5 : Int) (v6 : Int) (v7 : List Int) (v8 : List Int) (v9 : List (Int × Int × Int)) : Option (Bool) := Lw laws_FnCopyBack.c (finish laws_FnCopyBack.c (fiOf (GT tab) Try.f10 laws_FnCopyBack.ms) (decRes tab laws_FnCopyBack.rs)) ((loops laws_FnCopyBack.c.cuts 1000 laws_FnCopyBack.b []).getD 4 []) { slots := [.undef, .undef, .undef, .sl 0 0, .sl 1 0, .undef, .undef, .sl 2 0, .undef, .undef, .undef, .int .i64 v0, .int .i64 v1, .bool v2, .int .i64 v3, .undef, .int .i64 v4, .int .i64 v5, .int .i64 v6, .undef, .undef, .undef, .undef, .undef, .undef, .undef, .undef, .undef, .undef, .undef, .undef, .undef, .undef, .undef, .undef, .undef, .undef, .undef, .undef, .undef, .undef, .undef, .undef, .undef, .undef, .undef, .undef, .undef, .undef, .undef, .undef, .undef, .undef, .undef, .undef, .undef, .undef, .undef, .undef, .undef, .undef, .undef, .undef, .undef, .undef, .undef, .undef, .undef, .undef, .undef, .undef, .undef, .undef, .undef, .undef, .undef, .undef, .undef, .undef, .undef, .undef, .undef, .undef, .undef, .undef, .undef, .undef, .undef, .undef, .undef, .undef, .undef, .undef, .undef, .undef, .undef, .undef, .undef, .undef, .undef, .undef, .undef, .undef, .undef, .undef, .undef, .undef, .undef, .undef, .undef, .undef, .undef, .undef, .undef, .undef, .undef, .undef, .undef, .undef, .undef, .undef, .undef, .undef, .undef, .undef, .undef, .undef, .undef, .undef, .undef, .undef, .undef, .undef, .undef, .undef, .undef, .undef, .undef, .undef, .undef, .undef, .undef, .undef, .undef, .undef, .undef, .undef, .undef, .undef, .undef, .undef, .undef, .undef], loc := locOf [.row 0 true 3 v7, .row 0 true 3 v8, .row 0 true 61 v9], nx := 3 }
theorem laws_FnCopyBack.eq (x0 : List Int) : laws_FnCopyBack x0 =
    (laws_big x0).bind fun y1 =>
    bif y1 then
      some true
    else
      (spec_DrawCopyOf x0).bind fun y2 =>
      (spec_CopyOf y2.1 y2.2).bind fun y3 =>
      (impl_CopyOf y2.1 y2.2).bind fun y4 =>
      bif !(y4.2 == y3.2) then
        some (y4.2 == y3.2)
      else
        bif !y4.2 then
          some (y4.2 == y3.2)
        else
          laws_FnCopyBack_l0 x0 y2.1 y2.2 y4.1 := by kernel_rfl
theorem laws_FnCopyBack_l0.eq (v0 : List Int) (v1 : List Int) (v2 : List Int) (v3 : List (Int × Int × Int)) : laws_FnCopyBack_l0 v0 v1 v2 v3 =
    bif decide ((([] : List (Int × Int × Int)).length + v3.length) * 24 ≤ 140737488355328) then
      (impl_CopyDo v1 (([] : List (Int × Int × Int)) ++ v3)).bind fun y1 =>
      bif !y1.2 then
        some false
      else
        (laws_same y1.1 v2).bind fun y2 =>
        bif !y2 then
          some false
        else
          laws_FnCopyBack_l1 v0 v1 v2 v3
    else
      none := (Lw_eq tysOk (getG_con (laws_FnCopyBack.gok _)) _ _).trans (by kernel_rfl)
theorem laws_FnCopyBack_l1.eq (v0 : List Int) (v1 : List Int) (v2 : List Int) (v3 : List (Int × Int × Int)) : laws_FnCopyBack_l1 v0 v1 v2 v3 =
    bif (v2.length : Int) == (0 : Int) then
      some ((v3.length : Int) == (0 : Int))
    else
      (laws_pick v0 (3 : Int) (v2.length : Int)).bind fun y1 =>
      (impl_CopyAt v1 v3 y1).bind fun y2 =>
      laws_FnCopyBack_l2 y1 y2.1 y2.2 (0 : Int) (0 : Int) v1 v2 v3 := (Lw_eq tysOk (getG_con (laws_FnCopyBack.gok _)) _ _).trans (by kernel_rfl)
theorem laws_FnCopyBack_l2.eq (v0 : Int) (v1 : Int) (v2 : Bool) (v3 : Int) (v4 : Int) (v5 : List Int) (v6 : List Int) (v7 : List (Int × Int × Int)) : laws_FnCopyBack_l2 v0 v1 v2 v3 v4 v5 v6 v7 =
    bif decide (v4 < (v7.length : Int)) then
      (at? v7 v4).bind fun y1 =>
      v7[v4.toNat]?.bind fun y2 =>
      laws_FnCopyBack_l2 v0 v1 v2 (if y2.2.1 > v3 then y2.2.1 else v3) (IntKind.i64.wrap (v4 + (1 : Int))) v5 v6 v7
    else
      laws_FnCopyBack_l3 v0 v1 v2 v3 (0 : Int) (0 : Int) v5 v6 v7 := (Lw_eq tysOk (getG_con (laws_FnCopyBack.gok _)) _ _).trans (by kernel_rfl)
theorem laws_FnCopyBack_l3.eq (v0 : Int) (v1 : Int) (v2 : Bool) (v3 : Int) (v4 : Int) (v5 : Int) (v6 : List Int) (v7 : List Int) (v8 : List (Int × Int × Int)) : laws_FnCopyBack_l3 v0 v1 v2 v3 v4 v5 v6 v7 v8 =
    bif decide (v5 < (v6.length : Int)) then
      laws_FnCopyBack_l4 v0 v1 v2 v3 v4 v5 (0 : Int) v6 v7 v8
    else
      bif v2 then
        (at? v7 v0).bind fun y1 =>
        v7[v0.toNat]?.bind fun y2 =>
        bif v1 == y2 then
          (at? v8 (0 : Int)).bind fun y3 =>
          v8[0]?.bind fun y4 =>
          bif y4.2.1 == v4 then
            some (decide (v3 ≥ v4))
          else
            some false
        else
          some false
      else
        some false := (Lw_eq tysOk (getG_con (laws_FnCopyBack.gok _)) _ _).trans (by kernel_rfl)
theorem laws_FnCopyBack_l4.eq (v0 : Int) (v1 : Int) (v2 : Bool) (v3 : Int) (v4 : Int) (v5 : Int) (v6 : Int) (v7 : List Int) (v8 : List Int) (v9 : List (Int × Int × Int)) : laws_FnCopyBack_l4 v0 v1 v2 v3 v4 v5 v6 v7 v8 v9 =
    bif decide (IntKind.i64.wrap (v5 + v6) < (v7.length : Int)) then
      bif decide (v6 < IntKind.i64.wrap ((v8.length : Int) - (1 : Int))) then
        (at? v7 (IntKind.i64.wrap (v5 + v6))).bind fun y1 =>
        v7[(IntKind.i64.wrap (v5 + v6)).toNat]?.bind fun y2 =>
        (at? v8 v6).bind fun y3 =>
        v8[v6.toNat]?.bind fun y4 =>
        bif y2 == y4 then
          laws_FnCopyBack_l4 v0 v1 v2 v3 v4 v5 (IntKind.i64.wrap (v6 + (1 : Int))) v7 v8 v9
        else
          laws_FnCopyBack_l3 v0 v1 v2 v3 (if v6 > v4 then v6 else v4) (IntKind.i64.wrap (v5 + (1 : Int))) v7 v8 v9
      else
        laws_FnCopyBack_l3 v0 v1 v2 v3 (if v6 > v4 then v6 else v4) (IntKind.i64.wrap (v5 + (1 : Int))) v7 v8 v9
    else
      laws_FnCopyBack_l3 v0 v1 v2 v3 (if v6 > v4 then v6 else v4) (IntKind.i64.wrap (v5 + (1 : Int))) v7 v8 v9 := (Lw_eq tysOk (getG_con (laws_FnCopyBack.gok _)) _ _).trans (by kernel_rfl)

end Go.Ev.W
