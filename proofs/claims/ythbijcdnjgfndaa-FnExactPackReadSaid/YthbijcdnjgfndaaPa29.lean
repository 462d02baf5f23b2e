/- What functions of the program come to. -/
import Derived.Test.YthbijcdnjgfndaaPaT
import Derived.Test.YthbijcdnjgfndaaPa25
import Derived.Test.YthbijcdnjgfndaaPa28
namespace Go.Ev.W
open Go.Ev Go.Proofs
set_option maxRecDepth 100000
set_option linter.unusedVariables false

/-! ### laws_FnExactBitsRead: loop.example/g00688/laws.FnExactBitsRead -/
def laws_FnExactBitsRead.ms : List Mode := [.lend, .lend]
def laws_FnExactBitsRead.as : List VSh := [.one (.b (.b (.b (.b (.sl false false 5))))), .one (.b (.b (.b (.b (.int .i64)))))]
def laws_FnExactBitsRead.rs : RSh := ⟨[.one (.b (.b (.b (.b (.bool)))))], [none, none]⟩
noncomputable def laws_FnExactBitsRead.gs (δ : Type) : List (Nat × Callee (GT tab) δ) := [(41, calleeS tab laws_eqByteS.ms laws_eqByteS.as laws_eqByteS.rs laws_eqByteS.fn), (42, calleeS tab laws_eqBits.ms laws_eqBits.as laws_eqBits.rs laws_eqBits.fn), (43, calleeS tab laws_markBits.ms laws_markBits.as laws_markBits.rs laws_markBits.fn), (44, calleeS tab laws_markByteS.ms laws_markByteS.as laws_markByteS.rs laws_markByteS.fn), (49, calleeS tab spec_BitsRead.ms spec_BitsRead.as spec_BitsRead.rs spec_BitsRead.fn), (50, calleeS tab laws_toByteS.ms laws_toByteS.as laws_toByteS.rs laws_toByteS.fn), (51, calleeS tab impl_BitsRead.ms impl_BitsRead.as impl_BitsRead.rs impl_BitsRead.fn), (52, calleeS tab laws_heldBits.ms laws_heldBits.as laws_heldBits.rs laws_heldBits.fn)]
theorem laws_FnExactBitsRead.gok (δ : Type) : AllCon Try.prog tab (laws_FnExactBitsRead.gs δ) := .cons laws_eqByteS.con (.cons laws_eqBits.con (.cons laws_markBits.con (.cons laws_markByteS.con (.cons spec_BitsRead.con (.cons laws_toByteS.con (.cons impl_BitsRead.con (.cons laws_heldBits.con (.nil))))))))
noncomputable def laws_FnExactBitsRead.c : Ctx (GT tab) (KT tab) (ResT tab laws_FnExactBitsRead.rs) := { X := XT tab, ty := tyOf tys, inner := fun _ => true, keep := keepOf 0 laws_FnExactBitsRead.ms, cuts := [8, 14, 25], live := liveOf [(8, [0, 1, 5, 6, 7, 8, 9, 10, 11]), (14, [0, 1, 5, 6, 7, 9]), (25, [9, 13])], G := getG (laws_FnExactBitsRead.gs _) }
noncomputable def laws_FnExactBitsRead.b : Code := bodyOf Try.f12
noncomputable def laws_FnExactBitsRead (x0 : List Int) (x1 : Int) : Option (Bool) := callW laws_FnExactBitsRead.c (fiOf (GT tab) Try.f12 laws_FnExactBitsRead.ms) laws_FnExactBitsRead.b (decRes tab laws_FnExactBitsRead.rs) (encArgs tab laws_FnExactBitsRead.as (x0, x1))
theorem laws_FnExactBitsRead.fok : FnOk Try.prog 12 Try.f12 laws_FnExactBitsRead.ms laws_FnExactBitsRead.b := ⟨Try.func12, by kernel_rfl, by kernel_rfl⟩
noncomputable def laws_FnExactBitsRead.fn : Args tab laws_FnExactBitsRead.as → Option (ResT tab laws_FnExactBitsRead.rs) := fun x => laws_FnExactBitsRead x.1 x.2
theorem laws_FnExactBitsRead.con {δ : Type} : Con Try.prog (KT tab) 12 (calleeS (β := δ) tab laws_FnExactBitsRead.ms laws_FnExactBitsRead.as laws_FnExactBitsRead.rs laws_FnExactBitsRead.fn) := con_shape (c := laws_FnExactBitsRead.c) mixed tysOk (getG_con (laws_FnExactBitsRead.gok _)) laws_FnExactBitsRead.fok rfl rfl (fun _ => rfl)
noncomputable def laws_FnExactBitsRead_l0 (v0 : List Int) (v1 : Int) (v2 : Int) (v3 : Bool) (v4 : Int) (v5 : Bool) (v6 : Int) (v7 : List Int) (v8 : List Int) (v9 : Int) (v10 : List Int) : Option (Bool) := Lw laws_FnExactBitsRead.c (finish laws_FnExactBitsRead.c (fiOf (GT tab) Try.f12 laws_FnExactBitsRead.ms) (decRes tab laws_FnExactBitsRead.rs)) ((loops laws_FnExactBitsRead.c.cuts 1000 laws_FnExactBitsRead.b []).getD 0 []) { slots := [.vs false 5 v0, .int .i64 v1, .undef, .undef, .undef, .ptr 0 0, .int .i64 v2, .bool v3, .sl 2 0, .ptr 3 0, .int .i64 v4, .bool v5, .undef, .undef, .undef, .undef, .undef, .undef, .undef, .undef, .undef, .undef, .undef, .undef, .undef, .undef, .undef, .undef, .undef, .undef, .undef, .undef, .undef, .undef, .undef, .undef, .undef, .undef, .undef, .undef, .undef, .undef, .undef, .undef, .undef, .undef, .undef, .undef, .undef, .undef, .undef, .undef, .undef, .undef, .undef, .undef, .undef, .undef, .undef, .undef, .undef, .undef, .undef, .undef, .undef, .undef, .undef, .undef, .undef, .undef, .undef, .undef, .undef, .undef, .undef, .undef, .undef, .undef, .undef, .undef, .undef, .undef, .undef, .undef, .undef, .undef, .undef, .undef, .undef, .undef, .undef, .undef, .undef, .undef, .undef, .undef, .undef, .undef, .undef, .undef, .undef, .undef, .undef, .undef, .undef, .undef, .undef, .undef, .undef, .undef, .undef, .undef, .undef, .undef, .undef, .undef, .undef, .undef, .undef], loc := locOf [.box 50 [.int .i64 v6, .sl 1 0], .row 0 true 103 v7, .row 0 true 5 v8, .box 50 [.int .i64 v9, .sl 4 0], .row 0 true 103 v10], nx := 5 }
noncomputable def laws_FnExactBitsRead_l1 (v0 : List Int) (v1 : Int) (v2 : Int) (v3 : Bool) (v4 : Int) (v5 : List Int) (v6 : Int) (v7 : List Int) : Option (Bool) := Lw laws_FnExactBitsRead.c (finish laws_FnExactBitsRead.c (fiOf (GT tab) Try.f12 laws_FnExactBitsRead.ms) (decRes tab laws_FnExactBitsRead.rs)) ((loops laws_FnExactBitsRead.c.cuts 1000 laws_FnExactBitsRead.b []).getD 1 []) { slots := [.vs false 5 v0, .int .i64 v1, .undef, .undef, .undef, .ptr 0 0, .int .i64 v2, .bool v3, .undef, .ptr 2 0, .undef, .undef, .undef, .undef, .undef, .undef, .undef, .undef, .undef, .undef, .undef, .undef, .undef, .undef, .undef, .undef, .undef, .undef, .undef, .undef, .undef, .undef, .undef, .undef, .undef, .undef, .undef, .undef, .undef, .undef, .undef, .undef, .undef, .undef, .undef, .undef, .undef, .undef, .undef, .undef, .undef, .undef, .undef, .undef, .undef, .undef, .undef, .undef, .undef, .undef, .undef, .undef, .undef, .undef, .undef, .undef, .undef, .undef, .undef, .undef, .undef, .undef, .undef, .undef, .undef, .undef, .undef, .undef, .undef, .undef, .undef, .undef, .undef, .undef, .undef, .undef, .undef, .undef, .undef, .undef, .undef, .undef, .undef, .undef, .undef, .undef, .undef, .undef, .undef, .undef, .undef, .undef, .undef, .undef, .undef, .undef, .undef, .undef, .undef, .undef, .undef, .undef, .undef, .undef, .undef, .undef, .undef, .undef, .undef], loc := locOf [.box 50 [.int .i64 v4, .sl 1 0], .row 0 true 103 v5, .box 50 [.int .i64 v6, .sl 3 0], .row 0 true 103 v7], nx := 4 }
noncomputable def laws_FnExactBitsRead_l2 (v0 : Int) (v1 : Int) (v2 : List Int) : Option (Bool) := Lw laws_FnExactBitsRead.c (finish laws_FnExactBitsRead.c (fiOf (GT tab) Try.f12 laws_FnExactBitsRead.ms) (decRes tab laws_FnExactBitsRead.rs)) ((loops laws_FnExactBitsRead.c.cuts 1000 laws_FnExactBitsRead.b []).getD 2 []) { slots := [.undef, .undef, .undef, .undef, .undef, .undef, .undef, .undef, .undef, .ptr 0 0, .undef, .undef, .undef, .int .i64 v0, .undef, .undef, .undef, .undef, .undef, .undef, .undef, .undef, .undef, .undef, .undef, .undef, .undef, .undef, .undef, .undef, .undef, .undef, .undef, .undef, .undef, .undef, .undef, .undef, .undef, .undef, .undef, .undef, .undef, .undef, .undef, .undef, .undef, .undef, .undef, .undef, .undef, .undef, .undef, .undef, .undef, .undef, .undef, .undef, .undef, .undef, .undef, .undef, .undef, .undef, .undef, .undef, .undef, .undef, .undef, .undef, .undef, .undef, .undef, .undef, .undef, .undef, .undef, .undef, .undef, .undef, .undef, .undef, .undef, .undef, .undef, .undef, .undef, .undef, .undef, .undef, .undef, .undef, .undef, .undef, .undef, .undef, .undef, .undef, .undef, .undef, .undef, .undef, .undef, .undef, .undef, .undef, .undef, .undef, .undef, .undef, .undef, .undef, .undef, .undef, .undef, .undef, .undef, .undef, .undef], loc := locOf [.box 50 [.int .i64 v1, .sl 1 0], .row 0 true 103 v2], nx := 2 }
theorem laws_FnExactBitsRead.eq (x0 : List Int) (x1 : Int) : laws_FnExactBitsRead x0 x1 =
    bif decide ((x0.length : Int) > (1048576 : Int)) then
      some true
    else
      (laws_toByteS x0).bind fun y1 =>
      (spec_BitsRead y1 x1).bind fun y2 =>
      (laws_toByteS x0).bind fun y3 =>
      (impl_BitsRead y3 x1).bind fun y4 =>
      (laws_eqBits (y4.1.1, y4.1.2) (y2.1.1, y2.1.2)).bind fun y5 =>
      bif !y5 then
        some false
      else
        bif y4.2.1 != y2.2.1 then
          some false
        else
          bif !(y4.2.2 == y2.2.2) then
            some false
          else
            laws_FnExactBitsRead_l0 x0 x1 y2.2.1 y2.2.2 y4.2.1 y4.2.2 y2.1.1 y2.1.2 y3 y4.1.1 y4.1.2 := by kernel_rfl
theorem laws_FnExactBitsRead_l0.eq (v0 : List Int) (v1 : Int) (v2 : Int) (v3 : Bool) (v4 : Int) (v5 : Bool) (v6 : Int) (v7 : List Int) (v8 : List Int) (v9 : Int) (v10 : List Int) : laws_FnExactBitsRead_l0 v0 v1 v2 v3 v4 v5 v6 v7 v8 v9 v10 =
    (laws_toByteS v0).bind fun y1 =>
    (laws_eqByteS v8 y1).bind fun y2 =>
    bif !y2 then
      some false
    else
      (laws_markByteS v8 (1 : Int)).bind fun y3 =>
      bif decide (y3.1 < (0 : Int)) then
        some false
      else
        (laws_eqBits (v9, v10) (v6, v7)).bind fun y4 =>
        bif !y4 then
          some false
        else
          bif v4 != v2 then
            some false
          else
            bif !(v5 == v3) then
              some false
            else
              laws_FnExactBitsRead_l1 v0 v1 v2 v3 v6 v7 v9 v10 := (Lw_eq tysOk (getG_con (laws_FnExactBitsRead.gok _)) _ _).trans (by kernel_rfl)
theorem laws_FnExactBitsRead_l1.eq (v0 : List Int) (v1 : Int) (v2 : Int) (v3 : Bool) (v4 : Int) (v5 : List Int) (v6 : Int) (v7 : List Int) : laws_FnExactBitsRead_l1 v0 v1 v2 v3 v4 v5 v6 v7 =
    (laws_markBits (v6, v7) (1 : Int)).bind fun y1 =>
    (laws_heldBits (v6, y1.2.2) (1 : Int)).bind fun y2 =>
    bif decide (y2 < (0 : Int)) then
      some false
    else
      bif y2 != y1.1 then
        some false
      else
        (laws_toByteS v0).bind fun y3 =>
        (impl_BitsRead y3 v1).bind fun y4 =>
        (laws_eqBits (y4.1.1, y4.1.2) (v4, v5)).bind fun y5 =>
        bif !y5 then
          some false
        else
          bif y4.2.1 != v2 then
            some false
          else
            bif !(y4.2.2 == v3) then
              some false
            else
              laws_FnExactBitsRead_l2 y1.1 v6 y1.2.2 := (Lw_eq tysOk (getG_con (laws_FnExactBitsRead.gok _)) _ _).trans (by kernel_rfl)
theorem laws_FnExactBitsRead_l2.eq (v0 : Int) (v1 : Int) (v2 : List Int) : laws_FnExactBitsRead_l2 v0 v1 v2 =
    (laws_heldBits (v1, v2) (1 : Int)).bind fun y1 =>
    bif decide (y1 < (0 : Int)) then
      some false
    else
      bif y1 != v0 then
        some false
      else
        some true := (Lw_eq tysOk (getG_con (laws_FnExactBitsRead.gok _)) _ _).trans (by kernel_rfl)

end Go.Ev.W
