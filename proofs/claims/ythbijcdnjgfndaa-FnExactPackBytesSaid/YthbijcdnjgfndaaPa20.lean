/- What functions of the program come to. -/
import Derived.Test.YthbijcdnjgfndaaPaT
import Derived.Test.YthbijcdnjgfndaaPa1
import Derived.Test.YthbijcdnjgfndaaPa16
import Derived.Test.YthbijcdnjgfndaaPa17
import Derived.Test.YthbijcdnjgfndaaPa19
import Derived.Test.YthbijcdnjgfndaaPa7
namespace Go.Ev.W
open Go.Ev Go.Proofs
set_option maxRecDepth 100000
set_option linter.unusedVariables false

/-! ### laws_heldCopyS: loop.example/g00688/laws.heldCopyS -/
def laws_heldCopyS.ms : List Mode := [.lend, .lend]
def laws_heldCopyS.as : List VSh := [.one (.b (.b (.b (.b (.sl false false 61))))), .one (.b (.b (.b (.b (.int .i64)))))]
def laws_heldCopyS.rs : RSh := ⟨[.one (.b (.b (.b (.b (.int .i64)))))], [none, none]⟩
noncomputable def laws_heldCopyS.gs (δ : Type) : List (Nat × Callee (GT tab) δ) := []
theorem laws_heldCopyS.gok (δ : Type) : AllCon Try.prog tab (laws_heldCopyS.gs δ) := .nil
noncomputable def laws_heldCopyS.c : Ctx (GT tab) (KT tab) (ResT tab laws_heldCopyS.rs) := { X := XT tab, ty := tyOf tys, inner := fun _ => true, keep := keepOf 0 laws_heldCopyS.ms, cuts := [], live := liveOf [(2, [0, 1, 5])], G := getG (laws_heldCopyS.gs _) }
noncomputable def laws_heldCopyS.b : Code := bodyOf Try.f33
noncomputable def laws_heldCopyS (x0 : List (Int × Int × Int)) (x1 : Int) : Option (Int) := callW laws_heldCopyS.c (fiOf (GT tab) Try.f33 laws_heldCopyS.ms) laws_heldCopyS.b (decRes tab laws_heldCopyS.rs) (encArgs tab laws_heldCopyS.as (x0, x1))
theorem laws_heldCopyS.fok : FnOk Try.prog 33 Try.f33 laws_heldCopyS.ms laws_heldCopyS.b := ⟨Try.func33, by kernel_rfl, by kernel_rfl⟩
noncomputable def laws_heldCopyS.fn : Args tab laws_heldCopyS.as → Option (ResT tab laws_heldCopyS.rs) := fun x => laws_heldCopyS x.1 x.2
theorem laws_heldCopyS.con {δ : Type} : Con Try.prog (KT tab) 33 (calleeS (β := δ) tab laws_heldCopyS.ms laws_heldCopyS.as laws_heldCopyS.rs laws_heldCopyS.fn) := con_shape (c := laws_heldCopyS.c) mixed tysOk (getG_con (laws_heldCopyS.gok _)) laws_heldCopyS.fok rfl rfl (fun _ => rfl)
noncomputable def laws_heldCopyS_l0 (v0 : List (Int × Int × Int)) (v1 : Int) (v2 : Int) : Option (Int) := Lw laws_heldCopyS.c (finish laws_heldCopyS.c (fiOf (GT tab) Try.f33 laws_heldCopyS.ms) (decRes tab laws_heldCopyS.rs)) ((loops laws_heldCopyS.c.cuts 1000 laws_heldCopyS.b []).getD 0 []) { slots := [.vs false 61 v0, .int .i64 v1, .undef, .undef, .undef, .int .i64 v2, .undef, .undef, .undef, .undef, .undef, .undef, .undef, .undef, .undef, .undef, .undef, .undef, .undef, .undef, .undef, .undef, .undef, .undef, .undef, .undef, .undef, .undef, .undef, .undef, .undef, .undef, .undef, .undef, .undef, .undef, .undef, .undef, .undef, .undef], loc := locOf [], nx := 0 }
theorem laws_heldCopyS.eq (x0 : List (Int × Int × Int)) (x1 : Int) : laws_heldCopyS x0 x1 =
    laws_heldCopyS_l0 x0 x1 (0 : Int) := by kernel_rfl
theorem laws_heldCopyS_l0.eq (v0 : List (Int × Int × Int)) (v1 : Int) (v2 : Int) : laws_heldCopyS_l0 v0 v1 v2 =
    bif decide (v2 < (v0.length : Int)) then
      (at? v0 v2).bind fun y1 =>
      bif y1.1 != v1 then
        some (-1 : Int)
      else
        (at? v0 v2).bind fun y2 =>
        bif y2.2.1 != IntKind.i64.wrap (v1 + (1 : Int)) then
          some (-1 : Int)
        else
          (at? v0 v2).bind fun y3 =>
          bif y3.2.2 != IntKind.i64.wrap ((IntKind.i64.wrap (v1 + (1 : Int))) + (1 : Int)) then
            some (-1 : Int)
          else
            laws_heldCopyS_l0 v0 (IntKind.i64.wrap ((IntKind.i64.wrap ((IntKind.i64.wrap (v1 + (1 : Int))) + (1 : Int))) + (1 : Int))) (IntKind.i64.wrap (v2 + (1 : Int)))
    else
      some v1 := (Lw_eq tysOk (getG_con (laws_heldCopyS.gok _)) _ _).trans (by kernel_rfl)

/-! ### laws_FnExactCopyOf: loop.example/g00688/laws.FnExactCopyOf -/
def laws_FnExactCopyOf.ms : List Mode := [.lend, .lend]
def laws_FnExactCopyOf.as : List VSh := [.one (.b (.b (.b (.b (.sl false false 3))))), .one (.b (.b (.b (.b (.sl false false 3)))))]
def laws_FnExactCopyOf.rs : RSh := ⟨[.one (.b (.b (.b (.b (.bool)))))], [none, none]⟩
noncomputable def laws_FnExactCopyOf.gs (δ : Type) : List (Nat × Callee (GT tab) δ) := [(16, calleeS tab laws_toIntS.ms laws_toIntS.as laws_toIntS.rs laws_toIntS.fn), (18, calleeS tab laws_eqIntS.ms laws_eqIntS.as laws_eqIntS.rs laws_eqIntS.fn), (19, calleeS tab laws_markIntS.ms laws_markIntS.as laws_markIntS.rs laws_markIntS.fn), (27, calleeS tab laws_eqCopyS.ms laws_eqCopyS.as laws_eqCopyS.rs laws_eqCopyS.fn), (30, calleeS tab laws_markCopyS.ms laws_markCopyS.as laws_markCopyS.rs laws_markCopyS.fn), (31, calleeS tab spec_CopyOf.ms spec_CopyOf.as spec_CopyOf.rs spec_CopyOf.fn), (32, calleeS tab impl_CopyOf.ms impl_CopyOf.as impl_CopyOf.rs impl_CopyOf.fn), (33, calleeS tab laws_heldCopyS.ms laws_heldCopyS.as laws_heldCopyS.rs laws_heldCopyS.fn)]
theorem laws_FnExactCopyOf.gok (δ : Type) : AllCon Try.prog tab (laws_FnExactCopyOf.gs δ) := .cons laws_toIntS.con (.cons laws_eqIntS.con (.cons laws_markIntS.con (.cons laws_eqCopyS.con (.cons laws_markCopyS.con (.cons spec_CopyOf.con (.cons impl_CopyOf.con (.cons laws_heldCopyS.con (.nil))))))))
noncomputable def laws_FnExactCopyOf.c : Ctx (GT tab) (KT tab) (ResT tab laws_FnExactCopyOf.rs) := { X := XT tab, ty := tyOf tys, inner := fun _ => true, keep := keepOf 0 laws_FnExactCopyOf.ms, cuts := [11, 20, 31], live := liveOf [(11, [0, 1, 5, 6, 7, 8, 9, 10]), (20, [0, 1, 5, 6, 9]), (31, [9, 12])], G := getG (laws_FnExactCopyOf.gs _) }
noncomputable def laws_FnExactCopyOf.b : Code := bodyOf Try.f7
noncomputable def laws_FnExactCopyOf (x0 : List Int) (x1 : List Int) : Option (Bool) := callW laws_FnExactCopyOf.c (fiOf (GT tab) Try.f7 laws_FnExactCopyOf.ms) laws_FnExactCopyOf.b (decRes tab laws_FnExactCopyOf.rs) (encArgs tab laws_FnExactCopyOf.as (x0, x1))
theorem laws_FnExactCopyOf.fok : FnOk Try.prog 7 Try.f7 laws_FnExactCopyOf.ms laws_FnExactCopyOf.b := ⟨Try.func7, by kernel_rfl, by kernel_rfl⟩
noncomputable def laws_FnExactCopyOf.fn : Args tab laws_FnExactCopyOf.as → Option (ResT tab laws_FnExactCopyOf.rs) := fun x => laws_FnExactCopyOf x.1 x.2
theorem laws_FnExactCopyOf.con {δ : Type} : Con Try.prog (KT tab) 7 (calleeS (β := δ) tab laws_FnExactCopyOf.ms laws_FnExactCopyOf.as laws_FnExactCopyOf.rs laws_FnExactCopyOf.fn) := con_shape (c := laws_FnExactCopyOf.c) mixed tysOk (getG_con (laws_FnExactCopyOf.gok _)) laws_FnExactCopyOf.fok rfl rfl (fun _ => rfl)
noncomputable def laws_FnExactCopyOf_l0 (v0 : List Int) (v1 : List Int) (v2 : Bool) (v3 : Bool) (v4 : List (Int × Int × Int)) (v5 : List Int) (v6 : List Int) (v7 : List (Int × Int × Int)) : Option (Bool) := Lw laws_FnExactCopyOf.c (finish laws_FnExactCopyOf.c (fiOf (GT tab) Try.f7 laws_FnExactCopyOf.ms) (decRes tab laws_FnExactCopyOf.rs)) ((loops laws_FnExactCopyOf.c.cuts 1000 laws_FnExactCopyOf.b []).getD 0 []) { slots := [.vs false 3 v0, .vs false 3 v1, .undef, .undef, .undef, .sl 0 0, .bool v2, .sl 1 0, .sl 2 0, .sl 3 0, .bool v3, .undef, .undef, .undef, .undef, .undef, .undef, .undef, .undef, .undef, .undef, .undef, .undef, .undef, .undef, .undef, .undef, .undef, .undef, .undef, .undef, .undef, .undef, .undef, .undef, .undef, .undef, .undef, .undef, .undef, .undef, .undef, .undef, .undef, .undef, .undef, .undef, .undef, .undef, .undef, .undef, .undef, .undef, .undef, .undef, .undef, .undef, .undef, .undef, .undef, .undef, .undef, .undef, .undef, .undef, .undef, .undef, .undef, .undef, .undef, .undef, .undef, .undef, .undef, .undef, .undef, .undef, .undef, .undef, .undef, .undef, .undef, .undef, .undef, .undef, .undef, .undef, .undef, .undef, .undef, .undef, .undef, .undef, .undef, .undef, .undef, .undef, .undef, .undef, .undef, .undef, .undef, .undef, .undef, .undef, .undef, .undef, .undef, .undef, .undef, .undef, .undef, .undef, .undef], loc := locOf [.row 0 true 61 v4, .row 0 true 3 v5, .row 0 true 3 v6, .row 0 true 61 v7], nx := 4 }
noncomputable def laws_FnExactCopyOf_l1 (v0 : List Int) (v1 : List Int) (v2 : Bool) (v3 : List (Int × Int × Int)) (v4 : List (Int × Int × Int)) : Option (Bool) := Lw laws_FnExactCopyOf.c (finish laws_FnExactCopyOf.c (fiOf (GT tab) Try.f7 laws_FnExactCopyOf.ms) (decRes tab laws_FnExactCopyOf.rs)) ((loops laws_FnExactCopyOf.c.cuts 1000 laws_FnExactCopyOf.b []).getD 1 []) { slots := [.vs false 3 v0, .vs false 3 v1, .undef, .undef, .undef, .sl 0 0, .bool v2, .undef, .undef, .sl 1 0, .undef, .undef, .undef, .undef, .undef, .undef, .undef, .undef, .undef, .undef, .undef, .undef, .undef, .undef, .undef, .undef, .undef, .undef, .undef, .undef, .undef, .undef, .undef, .undef, .undef, .undef, .undef, .undef, .undef, .undef, .undef, .undef, .undef, .undef, .undef, .undef, .undef, .undef, .undef, .undef, .undef, .undef, .undef, .undef, .undef, .undef, .undef, .undef, .undef, .undef, .undef, .undef, .undef, .undef, .undef, .undef, .undef, .undef, .undef, .undef, .undef, .undef, .undef, .undef, .undef, .undef, .undef, .undef, .undef, .undef, .undef, .undef, .undef, .undef, .undef, .undef, .undef, .undef, .undef, .undef, .undef, .undef, .undef, .undef, .undef, .undef, .undef, .undef, .undef, .undef, .undef, .undef, .undef, .undef, .undef, .undef, .undef, .undef, .undef, .undef, .undef, .undef, .undef, .undef], loc := locOf [.row 0 true 61 v3, .row 0 true 61 v4], nx := 2 }
noncomputable def laws_FnExactCopyOf_l2 (v0 : Int) (v1 : List (Int × Int × Int)) : Option (Bool) := Lw laws_FnExactCopyOf.c (finish laws_FnExactCopyOf.c (fiOf (GT tab) Try.f7 laws_FnExactCopyOf.ms) (decRes tab laws_FnExactCopyOf.rs)) ((loops laws_FnExactCopyOf.c.cuts 1000 laws_FnExactCopyOf.b []).getD 2 []) { slots := [.undef, .undef, .undef, .undef, .undef, .undef, .undef, .undef, .undef, .sl 0 0, .undef, .undef, .int .i64 v0, .undef, .undef, .undef, .undef, .undef, .undef, .undef, .undef, .undef, .undef, .undef, .undef, .undef, .undef, .undef, .undef, .undef, .undef, .undef, .undef, .undef, .undef, .undef, .undef, .undef, .undef, .undef, .undef, .undef, .undef, .undef, .undef, .undef, .undef, .undef, .undef, .undef, .undef, .undef, .undef, .undef, .undef, .undef, .undef, .undef, .undef, .undef, .undef, .undef, .undef, .undef, .undef, .undef, .undef, .undef, .undef, .undef, .undef, .undef, .undef, .undef, .undef, .undef, .undef, .undef, .undef, .undef, .undef, .undef, .undef, .undef, .undef, .undef, .undef, .undef, .undef, .undef, .undef, .undef, .undef, .undef, .undef, .undef, .undef, .undef, .undef, .undef, .undef, .undef, .undef, .undef, .undef, .undef, .undef, .undef, .undef, .undef, .undef, .undef, .undef, .undef], loc := locOf [.row 0 true 61 v1], nx := 1 }
theorem laws_FnExactCopyOf.eq (x0 : List Int) (x1 : List Int) : laws_FnExactCopyOf x0 x1 =
    bif decide ((x0.length : Int) > (1048576 : Int)) then
      some true
    else
      bif decide ((x1.length : Int) > (1048576 : Int)) then
        some true
      else
        (laws_toIntS x0).bind fun y1 =>
        (laws_toIntS x1).bind fun y2 =>
        (spec_CopyOf y1 y2).bind fun y3 =>
        (laws_toIntS x0).bind fun y4 =>
        (laws_toIntS x1).bind fun y5 =>
        (impl_CopyOf y4 y5).bind fun y6 =>
        (laws_eqCopyS y6.1 y3.1).bind fun y7 =>
        bif !y7 then
          some false
        else
          bif !(y6.2 == y3.2) then
            some false
          else
            laws_FnExactCopyOf_l0 x0 x1 y3.2 y6.2 y3.1 y4 y5 y6.1 := by kernel_rfl
theorem laws_FnExactCopyOf_l0.eq (v0 : List Int) (v1 : List Int) (v2 : Bool) (v3 : Bool) (v4 : List (Int × Int × Int)) (v5 : List Int) (v6 : List Int) (v7 : List (Int × Int × Int)) : laws_FnExactCopyOf_l0 v0 v1 v2 v3 v4 v5 v6 v7 =
    (laws_toIntS v0).bind fun y1 =>
    (laws_eqIntS v5 y1).bind fun y2 =>
    bif !y2 then
      some false
    else
      (laws_toIntS v1).bind fun y3 =>
      (laws_eqIntS v6 y3).bind fun y4 =>
      bif !y4 then
        some false
      else
        (laws_markIntS v5 (1 : Int)).bind fun y5 =>
        (laws_markIntS v6 y5.1).bind fun y6 =>
        bif decide (y6.1 < (0 : Int)) then
          some false
        else
          (laws_eqCopyS v7 v4).bind fun y7 =>
          bif !y7 then
            some false
          else
            bif !(v3 == v2) then
              some false
            else
              laws_FnExactCopyOf_l1 v0 v1 v2 v4 v7 := (Lw_eq tysOk (getG_con (laws_FnExactCopyOf.gok _)) _ _).trans (by kernel_rfl)
theorem laws_FnExactCopyOf_l1.eq (v0 : List Int) (v1 : List Int) (v2 : Bool) (v3 : List (Int × Int × Int)) (v4 : List (Int × Int × Int)) : laws_FnExactCopyOf_l1 v0 v1 v2 v3 v4 =
    (laws_markCopyS v4 (1 : Int)).bind fun y1 =>
    (laws_heldCopyS y1.2 (1 : Int)).bind fun y2 =>
    bif decide (y2 < (0 : Int)) then
      some false
    else
      bif y2 != y1.1 then
        some false
      else
        (laws_toIntS v0).bind fun y3 =>
        (laws_toIntS v1).bind fun y4 =>
        (impl_CopyOf y3 y4).bind fun y5 =>
        (laws_eqCopyS y5.1 v3).bind fun y6 =>
        bif !y6 then
          some false
        else
          bif !(y5.2 == v2) then
            some false
          else
            laws_FnExactCopyOf_l2 y1.1 y1.2 := (Lw_eq tysOk (getG_con (laws_FnExactCopyOf.gok _)) _ _).trans (by kernel_rfl)
theorem laws_FnExactCopyOf_l2.eq (v0 : Int) (v1 : List (Int × Int × Int)) : laws_FnExactCopyOf_l2 v0 v1 =
    (laws_heldCopyS v1 (1 : Int)).bind fun y1 =>
    bif decide (y1 < (0 : Int)) then
      some false
    else
      bif y1 != v0 then
        some false
      else
        some true := (Lw_eq tysOk (getG_con (laws_FnExactCopyOf.gok _)) _ _).trans (by kernel_rfl)

end Go.Ev.W
