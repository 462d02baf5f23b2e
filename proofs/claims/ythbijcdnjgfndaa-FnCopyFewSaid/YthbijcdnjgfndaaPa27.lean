/- What functions of the program come to. -/
import Derived.Test.YthbijcdnjgfndaaPaT
import Derived.Test.YthbijcdnjgfndaaPa12
import Derived.Test.YthbijcdnjgfndaaPa14
import Derived.Test.YthbijcdnjgfndaaPa19
import Derived.Test.YthbijcdnjgfndaaPa21
namespace Go.Ev.W
open Go.Ev Go.Proofs
set_option maxRecDepth 100000
set_option linter.unusedVariables false

/-! ### spec_l01Cur_badCopies: (*loop.example/g00688/spec.l01Cur).badCopies -/
def spec_l01Cur_badCopies.ms : List Mode := [.keep, .give]
def spec_l01Cur_badCopies.as : List VSh := [.one (.ptr true 108 [.b (.b (.b (.sl false false 5))), .b (.b (.b (.int .i64))), .b (.b (.b (.int .i64)))]), .one (.b (.b (.b (.b (.sl true true 61)))))]
def spec_l01Cur_badCopies.rs : RSh := ⟨[.one (.b (.b (.b (.b (.sl true true 61)))))], [some (.one (.ptr true 108 [.b (.b (.b (.sl false false 5))), .b (.b (.b (.int .i64))), .b (.b (.b (.int .i64)))])), none]⟩
noncomputable def spec_l01Cur_badCopies.gs (δ : Type) : List (Nat × Callee (GT tab) δ) := [(96, calleeS tab spec_l01Cur_pick.ms spec_l01Cur_pick.as spec_l01Cur_pick.rs spec_l01Cur_pick.fn), (97, calleeS tab spec_l01Cur_raw.ms spec_l01Cur_raw.as spec_l01Cur_raw.rs spec_l01Cur_raw.fn)]
theorem spec_l01Cur_badCopies.gok (δ : Type) : AllCon Try.prog tab (spec_l01Cur_badCopies.gs δ) := .cons spec_l01Cur_pick.con (.cons spec_l01Cur_raw.con (.nil))
noncomputable def spec_l01Cur_badCopies.c : Ctx (GT tab) (KT tab) (ResT tab spec_l01Cur_badCopies.rs) := { X := XT tab, ty := tyOf tys, inner := fun _ => true, keep := keepOf 0 spec_l01Cur_badCopies.ms, cuts := [], live := liveOf [], G := getG (spec_l01Cur_badCopies.gs _) }
noncomputable def spec_l01Cur_badCopies.b : Code := bodyOf Try.f83
noncomputable def spec_l01Cur_badCopies (x0 : (List Int) × Int × Int) (x1 : List (Int × Int × Int)) : Option ((List (Int × Int × Int)) × ((List Int) × Int × Int)) := callW spec_l01Cur_badCopies.c (fiOf (GT tab) Try.f83 spec_l01Cur_badCopies.ms) spec_l01Cur_badCopies.b (decRes tab spec_l01Cur_badCopies.rs) (encArgs tab spec_l01Cur_badCopies.as (x0, x1))
theorem spec_l01Cur_badCopies.fok : FnOk Try.prog 83 Try.f83 spec_l01Cur_badCopies.ms spec_l01Cur_badCopies.b := ⟨Try.func83, by kernel_rfl, by kernel_rfl⟩
noncomputable def spec_l01Cur_badCopies.fn : Args tab spec_l01Cur_badCopies.as → Option (ResT tab spec_l01Cur_badCopies.rs) := fun x => spec_l01Cur_badCopies x.1 x.2
theorem spec_l01Cur_badCopies.con {δ : Type} : Con Try.prog (KT tab) 83 (calleeS (β := δ) tab spec_l01Cur_badCopies.ms spec_l01Cur_badCopies.as spec_l01Cur_badCopies.rs spec_l01Cur_badCopies.fn) := con_shape (c := spec_l01Cur_badCopies.c) mixed tysOk (getG_con (spec_l01Cur_badCopies.gok _)) spec_l01Cur_badCopies.fok rfl rfl (fun _ => rfl)
theorem spec_l01Cur_badCopies.eq (x0 : (List Int) × Int × Int) (x1 : List (Int × Int × Int)) : spec_l01Cur_badCopies x0 x1 =
    bif decide ((x1.length : Int) > (0 : Int)) then
      (spec_l01Cur_pick (x0.1, x0.2.1, x0.2.2) (if (x1.length : Int) < (200 : Int) then (x1.length : Int) else (200 : Int))).bind fun y1 =>
      (spec_l01Cur_pick (y1.2.1, y1.2.2.1, y1.2.2.2) (7 : Int)).bind fun y2 =>
      bif y2.1 == (0 : Int) then
        (spec_l01Cur_raw (y2.2.1, y2.2.2.1, y2.2.2.2)).bind fun y3 =>
        (spec_l01Cur_pick (y3.2.1, y3.2.2.1, y3.2.2.2) (9 : Int)).bind fun y4 =>
        (spec_l01Cur_pick (y4.2.1, y4.2.2.1, y4.2.2.2) (2 : Int)).bind fun y5 =>
        (at? ([y3.1, y4.1] : List Int) y5.1).bind fun y6 =>
        ([y3.1, y4.1] : List Int)[y5.1.toNat]?.bind fun y7 =>
        (at? x1 y1.1).bind fun y8 =>
        x1[y1.1.toNat]?.bind fun y9 =>
        some (x1.set y1.1.toNat (y7, y9.2.1, y9.2.2), (y5.2.1, y5.2.2.1, y5.2.2.2))
      else
        bif y2.1 == (1 : Int) then
          (spec_l01Cur_raw (y2.2.1, y2.2.2.1, y2.2.2.2)).bind fun y10 =>
          (spec_l01Cur_pick (y10.2.1, y10.2.2.1, y10.2.2.2) (9 : Int)).bind fun y11 =>
          (spec_l01Cur_pick (y11.2.1, y11.2.2.1, y11.2.2.2) (2 : Int)).bind fun y12 =>
          (at? ([y10.1, y11.1] : List Int) y12.1).bind fun y13 =>
          ([y10.1, y11.1] : List Int)[y12.1.toNat]?.bind fun y14 =>
          (at? x1 y1.1).bind fun y15 =>
          x1[y1.1.toNat]?.bind fun y16 =>
          some (x1.set y1.1.toNat (y16.1, y14, y16.2.2), (y12.2.1, y12.2.2.1, y12.2.2.2))
        else
          bif y2.1 == (2 : Int) then
            (spec_l01Cur_raw (y2.2.1, y2.2.2.1, y2.2.2.2)).bind fun y17 =>
            (at? x1 y1.1).bind fun y18 =>
            x1[y1.1.toNat]?.bind fun y19 =>
            some (x1.set y1.1.toNat (y19.1, y19.2.1, y17.1), (y17.2.1, y17.2.2.1, y17.2.2.2))
          else
            some (x1, (y2.2.1, y2.2.2.1, y2.2.2.2))
    else
      some (x1, (x0.1, x0.2.1, x0.2.2)) := by kernel_rfl

/-! ### spec_DrawCopyDo: loop.example/g00688/spec.DrawCopyDo -/
def spec_DrawCopyDo.ms : List Mode := [.lend]
def spec_DrawCopyDo.as : List VSh := [.one (.b (.b (.b (.b (.sl false false 5)))))]
def spec_DrawCopyDo.rs : RSh := ⟨[.one (.b (.b (.b (.b (.sl true true 3))))), .one (.b (.b (.b (.b (.sl true true 61)))))], [none]⟩
noncomputable def spec_DrawCopyDo.gs (δ : Type) : List (Nat × Callee (GT tab) δ) := [(31, calleeS tab spec_CopyOf.ms spec_CopyOf.as spec_CopyOf.rs spec_CopyOf.fn), (70, calleeS tab spec_l01Open.ms spec_l01Open.as spec_l01Open.rs spec_l01Open.fn), (81, calleeS tab spec_l01Cur_rows.ms spec_l01Cur_rows.as spec_l01Cur_rows.rs spec_l01Cur_rows.fn), (83, calleeS tab spec_l01Cur_badCopies.ms spec_l01Cur_badCopies.as spec_l01Cur_badCopies.rs spec_l01Cur_badCopies.fn)]
theorem spec_DrawCopyDo.gok (δ : Type) : AllCon Try.prog tab (spec_DrawCopyDo.gs δ) := .cons spec_CopyOf.con (.cons spec_l01Open.con (.cons spec_l01Cur_rows.con (.cons spec_l01Cur_badCopies.con (.nil))))
noncomputable def spec_DrawCopyDo.c : Ctx (GT tab) (KT tab) (ResT tab spec_DrawCopyDo.rs) := { X := XT tab, ty := tyOf tys, inner := fun _ => true, keep := keepOf 0 spec_DrawCopyDo.ms, cuts := [], live := liveOf [], G := getG (spec_DrawCopyDo.gs _) }
noncomputable def spec_DrawCopyDo.b : Code := bodyOf Try.f48
noncomputable def spec_DrawCopyDo (x0 : List Int) : Option ((List Int) × (List (Int × Int × Int))) := callW spec_DrawCopyDo.c (fiOf (GT tab) Try.f48 spec_DrawCopyDo.ms) spec_DrawCopyDo.b (decRes tab spec_DrawCopyDo.rs) (encArgs tab spec_DrawCopyDo.as x0)
theorem spec_DrawCopyDo.fok : FnOk Try.prog 48 Try.f48 spec_DrawCopyDo.ms spec_DrawCopyDo.b := ⟨Try.func48, by kernel_rfl, by kernel_rfl⟩
noncomputable def spec_DrawCopyDo.fn : Args tab spec_DrawCopyDo.as → Option (ResT tab spec_DrawCopyDo.rs) := fun x => spec_DrawCopyDo x
theorem spec_DrawCopyDo.con {δ : Type} : Con Try.prog (KT tab) 48 (calleeS (β := δ) tab spec_DrawCopyDo.ms spec_DrawCopyDo.as spec_DrawCopyDo.rs spec_DrawCopyDo.fn) := con_shape (c := spec_DrawCopyDo.c) mixed tysOk (getG_con (spec_DrawCopyDo.gok _)) spec_DrawCopyDo.fok rfl rfl (fun _ => rfl)
theorem spec_DrawCopyDo.eq (x0 : List Int) : spec_DrawCopyDo x0 =
    (spec_l01Open x0).bind fun y1 =>
    (spec_l01Cur_rows (y1.1, y1.2.1, y1.2.2)).bind fun y2 =>
    (spec_CopyOf y2.1 y2.2.1).bind fun y3 =>
    (spec_l01Cur_badCopies (y2.2.2.1, y2.2.2.2.1, y2.2.2.2.2) y3.1).bind fun y4 =>
    some (y2.1, y4.1) := by kernel_rfl

/-! ### laws_FnCopyFew: loop.example/g00688/laws.FnCopyFew -/
def laws_FnCopyFew.ms : List Mode := [.lend]
def laws_FnCopyFew.as : List VSh := [.one (.b (.b (.b (.b (.sl false false 5)))))]
def laws_FnCopyFew.rs : RSh := ⟨[.one (.b (.b (.b (.b (.bool)))))], [none]⟩
noncomputable def laws_FnCopyFew.gs (δ : Type) : List (Nat × Callee (GT tab) δ) := [(28, calleeS tab spec_CopyDo.ms spec_CopyDo.as spec_CopyDo.rs spec_CopyDo.fn), (29, calleeS tab impl_CopyDo.ms impl_CopyDo.as impl_CopyDo.rs impl_CopyDo.fn), (32, calleeS tab impl_CopyOf.ms impl_CopyOf.as impl_CopyOf.rs impl_CopyOf.fn), (34, calleeS tab laws_big.ms laws_big.as laws_big.rs laws_big.fn), (36, calleeS tab laws_same.ms laws_same.as laws_same.rs laws_same.fn), (48, calleeS tab spec_DrawCopyDo.ms spec_DrawCopyDo.as spec_DrawCopyDo.rs spec_DrawCopyDo.fn)]
theorem laws_FnCopyFew.gok (δ : Type) : AllCon Try.prog tab (laws_FnCopyFew.gs δ) := .cons spec_CopyDo.con (.cons impl_CopyDo.con (.cons impl_CopyOf.con (.cons laws_big.con (.cons laws_same.con (.cons spec_DrawCopyDo.con (.nil))))))
noncomputable def laws_FnCopyFew.c : Ctx (GT tab) (KT tab) (ResT tab laws_FnCopyFew.rs) := { X := XT tab, ty := tyOf tys, inner := fun _ => true, keep := keepOf 0 laws_FnCopyFew.ms, cuts := [], live := liveOf [], G := getG (laws_FnCopyFew.gs _) }
noncomputable def laws_FnCopyFew.b : Code := bodyOf Try.f11
noncomputable def laws_FnCopyFew (x0 : List Int) : Option (Bool) := callW laws_FnCopyFew.c (fiOf (GT tab) Try.f11 laws_FnCopyFew.ms) laws_FnCopyFew.b (decRes tab laws_FnCopyFew.rs) (encArgs tab laws_FnCopyFew.as x0)
theorem laws_FnCopyFew.fok : FnOk Try.prog 11 Try.f11 laws_FnCopyFew.ms laws_FnCopyFew.b := ⟨Try.func11, by kernel_rfl, by kernel_rfl⟩
noncomputable def laws_FnCopyFew.fn : Args tab laws_FnCopyFew.as → Option (ResT tab laws_FnCopyFew.rs) := fun x => laws_FnCopyFew x
theorem laws_FnCopyFew.con {δ : Type} : Con Try.prog (KT tab) 11 (calleeS (β := δ) tab laws_FnCopyFew.ms laws_FnCopyFew.as laws_FnCopyFew.rs laws_FnCopyFew.fn) := con_shape (c := laws_FnCopyFew.c) mixed tysOk (getG_con (laws_FnCopyFew.gok _)) laws_FnCopyFew.fok rfl rfl (fun _ => rfl)
theorem laws_FnCopyFew.eq (x0 : List Int) : laws_FnCopyFew x0 =
    (laws_big x0).bind fun y1 =>
    bif y1 then
      some true
    else
      (spec_DrawCopyDo x0).bind fun y2 =>
      (spec_CopyDo y2.1 y2.2).bind fun y3 =>
      (impl_CopyDo y2.1 y2.2).bind fun y4 =>
      bif !(y4.2 == y3.2) then
        some (y4.2 == y3.2)
      else
        bif !y4.2 then
          some (y4.2 == y3.2)
        else
          (impl_CopyOf y2.1 y3.1).bind fun y5 =>
          (laws_same y4.1 y3.1).bind fun y6 =>
          bif y6 then
            bif y5.2 then
              some (decide ((y5.1.length : Int) ≤ (y2.2.length : Int)))
            else
              some false
          else
            some false := by kernel_rfl

end Go.Ev.W
