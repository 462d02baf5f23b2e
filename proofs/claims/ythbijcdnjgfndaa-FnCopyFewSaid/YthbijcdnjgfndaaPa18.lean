/- What functions of the program come to. -/
import Derived.Test.YthbijcdnjgfndaaPaT
import Derived.Test.YthbijcdnjgfndaaPa1
import Derived.Test.YthbijcdnjgfndaaPa11
import Derived.Test.YthbijcdnjgfndaaPa12
import Derived.Test.YthbijcdnjgfndaaPa14
import Derived.Test.YthbijcdnjgfndaaPa16
import Derived.Test.YthbijcdnjgfndaaPa17
import Derived.Test.YthbijcdnjgfndaaPa7
import Derived.Test.YthbijcdnjgfndaaPa8
namespace Go.Ev.W
open Go.Ev Go.Proofs
set_option maxRecDepth 100000
set_option linter.unusedVariables false

/-! ### laws_FnExactCopyDo: loop.example/g00688/laws.FnExactCopyDo -/
def laws_FnExactCopyDo.ms : List Mode := [.lend, .lend]
def laws_FnExactCopyDo.as : List VSh := [.one (.b (.b (.b (.b (.sl false false 3))))), .one (.b (.b (.b (.b (.sl false false 81)))))]
def laws_FnExactCopyDo.rs : RSh := ⟨[.one (.b (.b (.b (.b (.bool)))))], [none, none]⟩
noncomputable def laws_FnExactCopyDo.gs (δ : Type) : List (Nat × Callee (GT tab) δ) := [(16, calleeS tab laws_toIntS.ms laws_toIntS.as laws_toIntS.rs laws_toIntS.fn), (18, calleeS tab laws_eqIntS.ms laws_eqIntS.as laws_eqIntS.rs laws_eqIntS.fn), (19, calleeS tab laws_markIntS.ms laws_markIntS.as laws_markIntS.rs laws_markIntS.fn), (20, calleeS tab laws_heldIntS.ms laws_heldIntS.as laws_heldIntS.rs laws_heldIntS.fn), (23, calleeS tab laws_szCopyS.ms laws_szCopyS.as laws_szCopyS.rs laws_szCopyS.fn), (25, calleeS tab laws_toCopyS.ms laws_toCopyS.as laws_toCopyS.rs laws_toCopyS.fn), (27, calleeS tab laws_eqCopyS.ms laws_eqCopyS.as laws_eqCopyS.rs laws_eqCopyS.fn), (28, calleeS tab spec_CopyDo.ms spec_CopyDo.as spec_CopyDo.rs spec_CopyDo.fn), (29, calleeS tab impl_CopyDo.ms impl_CopyDo.as impl_CopyDo.rs impl_CopyDo.fn), (30, calleeS tab laws_markCopyS.ms laws_markCopyS.as laws_markCopyS.rs laws_markCopyS.fn)]
theorem laws_FnExactCopyDo.gok (δ : Type) : AllCon Try.prog tab (laws_FnExactCopyDo.gs δ) := .cons laws_toIntS.con (.cons laws_eqIntS.con (.cons laws_markIntS.con (.cons laws_heldIntS.con (.cons laws_szCopyS.con (.cons laws_toCopyS.con (.cons laws_eqCopyS.con (.cons spec_CopyDo.con (.cons impl_CopyDo.con (.cons laws_markCopyS.con (.nil))))))))))
noncomputable def laws_FnExactCopyDo.c : Ctx (GT tab) (KT tab) (ResT tab laws_FnExactCopyDo.rs) := { X := XT tab, ty := tyOf tys, inner := fun _ => true, keep := keepOf 0 laws_FnExactCopyDo.ms, cuts := [13, 22, 33], live := liveOf [(13, [0, 1, 6, 7, 8, 9, 10, 11]), (22, [0, 1, 6, 7, 10]), (33, [10, 13])], G := getG (laws_FnExactCopyDo.gs _) }
noncomputable def laws_FnExactCopyDo.b : Code := bodyOf Try.f6
noncomputable def laws_FnExactCopyDo (x0 : List Int) (x1 : List (Int × Int × Int)) : Option (Bool) := callW laws_FnExactCopyDo.c (fiOf (GT tab) Try.f6 laws_FnExactCopyDo.ms) laws_FnExactCopyDo.b (decRes tab laws_FnExactCopyDo.rs) (encArgs tab laws_FnExactCopyDo.as (x0, x1))
theorem laws_FnExactCopyDo.fok : FnOk Try.prog 6 Try.f6 laws_FnExactCopyDo.ms laws_FnExactCopyDo.b := ⟨Try.func6, by kernel_rfl, by kernel_rfl⟩
noncomputable def laws_FnExactCopyDo.fn : Args tab laws_FnExactCopyDo.as → Option (ResT tab laws_FnExactCopyDo.rs) := fun x => laws_FnExactCopyDo x.1 x.2
theorem laws_FnExactCopyDo.con {δ : Type} : Con Try.prog (KT tab) 6 (calleeS (β := δ) tab laws_FnExactCopyDo.ms laws_FnExactCopyDo.as laws_FnExactCopyDo.rs laws_FnExactCopyDo.fn) := con_shape (c := laws_FnExactCopyDo.c) mixed tysOk (getG_con (laws_FnExactCopyDo.gok _)) laws_FnExactCopyDo.fok rfl rfl (fun _ => rfl)
noncomputable def laws_FnExactCopyDo_l0 (v0 : List Int) (v1 : List (Int × Int × Int)) (v2 : Bool) (v3 : Bool) (v4 : List Int) (v5 : List Int) (v6 : List (Int × Int × Int)) (v7 : List Int) : Option (Bool) := Lw laws_FnExactCopyDo.c (finish laws_FnExactCopyDo.c (fiOf (GT tab) Try.f6 laws_FnExactCopyDo.ms) (decRes tab laws_FnExactCopyDo.rs)) ((loops laws_FnExactCopyDo.c.cuts 1000 laws_FnExactCopyDo.b []).getD 0 []) { slots := [.vs false 3 v0, .vs false 81 v1, .undef, .undef, .undef, .undef, .sl 0 0, .bool v2, .sl 1 0, .sl 2 0, .sl 3 0, .bool v3, .undef, .undef, .undef, .undef, .undef, .undef, .undef, .undef, .undef, .undef, .undef, .undef, .undef, .undef, .undef, .undef, .undef, .undef, .undef, .undef, .undef, .undef, .undef, .undef, .undef, .undef, .undef, .undef, .undef, .undef, .undef, .undef, .undef, .undef, .undef, .undef, .undef, .undef, .undef, .undef, .undef, .undef, .undef, .undef, .undef, .undef, .undef, .undef, .undef, .undef, .undef, .undef, .undef, .undef, .undef, .undef, .undef, .undef, .undef, .undef, .undef, .undef, .undef, .undef, .undef, .undef, .undef, .undef, .undef, .undef, .undef, .undef, .undef, .undef, .undef, .undef, .undef, .undef, .undef, .undef, .undef, .undef, .undef, .undef, .undef, .undef, .undef, .undef, .undef, .undef, .undef, .undef, .undef, .undef, .undef, .undef, .undef, .undef, .undef, .undef, .undef, .undef, .undef, .undef, .undef], loc := locOf [.row 0 true 3 v4, .row 0 true 3 v5, .row 0 true 61 v6, .row 0 true 3 v7], nx := 4 }
noncomputable def laws_FnExactCopyDo_l1 (v0 : List Int) (v1 : List (Int × Int × Int)) (v2 : Bool) (v3 : List Int) (v4 : List Int) : Option (Bool) := Lw laws_FnExactCopyDo.c (finish laws_FnExactCopyDo.c (fiOf (GT tab) Try.f6 laws_FnExactCopyDo.ms) (decRes tab laws_FnExactCopyDo.rs)) ((loops laws_FnExactCopyDo.c.cuts 1000 laws_FnExactCopyDo.b []).getD 1 []) { slots := [.vs false 3 v0, .vs false 81 v1, .undef, .undef, .undef, .undef, .sl 0 0, .bool v2, .undef, .undef, .sl 1 0, .undef, .undef, .undef, .undef, .undef, .undef, .undef, .undef, .undef, .undef, .undef, .undef, .undef, .undef, .undef, .undef, .undef, .undef, .undef, .undef, .undef, .undef, .undef, .undef, .undef, .undef, .undef, .undef, .undef, .undef, .undef, .undef, .undef, .undef, .undef, .undef, .undef, .undef, .undef, .undef, .undef, .undef, .undef, .undef, .undef, .undef, .undef, .undef, .undef, .undef, .undef, .undef, .undef, .undef, .undef, .undef, .undef, .undef, .undef, .undef, .undef, .undef, .undef, .undef, .undef, .undef, .undef, .undef, .undef, .undef, .undef, .undef, .undef, .undef, .undef, .undef, .undef, .undef, .undef, .undef, .undef, .undef, .undef, .undef, .undef, .undef, .undef, .undef, .undef, .undef, .undef, .undef, .undef, .undef, .undef, .undef, .undef, .undef, .undef, .undef, .undef, .undef, .undef, .undef, .undef, .undef], loc := locOf [.row 0 true 3 v3, .row 0 true 3 v4], nx := 2 }
noncomputable def laws_FnExactCopyDo_l2 (v0 : Int) (v1 : List Int) : Option (Bool) := Lw laws_FnExactCopyDo.c (finish laws_FnExactCopyDo.c (fiOf (GT tab) Try.f6 laws_FnExactCopyDo.ms) (decRes tab laws_FnExactCopyDo.rs)) ((loops laws_FnExactCopyDo.c.cuts 1000 laws_FnExactCopyDo.b []).getD 2 []) { slots := [.undef, .undef, .undef, .undef, .undef, .undef, .undef, .undef, .undef, .undef, .sl 0 0, .undef, .undef, .int .i64 v0, .undef, .undef, .undef, .undef, .undef, .undef, .undef, .undef, .undef, .undef, .undef, .undef, .undef, .undef, .undef, .undef, .undef, .undef, .undef, .undef, .undef, .undef, .undef, .undef, .undef, .undef, .undef, .undef, .undef, .undef, .undef, .undef, .undef, .undef, .undef, .undef, .undef, .undef, .undef, .undef, .undef, .undef, .undef, .undef, .undef, .undef, .undef, .undef, .undef, .undef, .undef, .undef, .undef, .undef, .undef, .undef, .undef, .undef, .undef, .undef, .undef, .undef, .undef, .undef, .undef, .undef, .undef, .undef, .undef, .undef, .undef, .undef, .undef, .undef, .undef, .undef, .undef, .undef, .undef, .undef, .undef, .undef, .undef, .undef, .undef, .undef, .undef, .undef, .undef, .undef, .undef, .undef, .undef, .undef, .undef, .undef, .undef, .undef, .undef, .undef, .undef, .undef, .undef], loc := locOf [.row 0 true 3 v1], nx := 1 }
theorem laws_FnExactCopyDo.eq (x0 : List Int) (x1 : List (Int × Int × Int)) : laws_FnExactCopyDo x0 x1 =
    bif decide ((x0.length : Int) > (1048576 : Int)) then
      some true
    else
      (laws_szCopyS x1 (1048576 : Int)).bind fun y1 =>
      bif decide (y1 < (0 : Int)) then
        some true
      else
        (laws_toIntS x0).bind fun y2 =>
        (laws_toCopyS x1).bind fun y3 =>
        (spec_CopyDo y2 y3).bind fun y4 =>
        (laws_toIntS x0).bind fun y5 =>
        (laws_toCopyS x1).bind fun y6 =>
        (impl_CopyDo y5 y6).bind fun y7 =>
        (laws_eqIntS y7.1 y4.1).bind fun y8 =>
        bif !y8 then
          some false
        else
          bif !(y7.2 == y4.2) then
            some false
          else
            laws_FnExactCopyDo_l0 x0 x1 y4.2 y7.2 y4.1 y5 y6 y7.1 := by kernel_rfl
theorem laws_FnExactCopyDo_l0.eq (v0 : List Int) (v1 : List (Int × Int × Int)) (v2 : Bool) (v3 : Bool) (v4 : List Int) (v5 : List Int) (v6 : List (Int × Int × Int)) (v7 : List Int) : laws_FnExactCopyDo_l0 v0 v1 v2 v3 v4 v5 v6 v7 =
    (laws_toIntS v0).bind fun y1 =>
    (laws_eqIntS v5 y1).bind fun y2 =>
    bif !y2 then
      some false
    else
      (laws_toCopyS v1).bind fun y3 =>
      (laws_eqCopyS v6 y3).bind fun y4 =>
      bif !y4 then
        some false
      else
        (laws_markIntS v5 (1 : Int)).bind fun y5 =>
        (laws_markCopyS v6 y5.1).bind fun y6 =>
        bif decide (y6.1 < (0 : Int)) then
          some false
        else
          (laws_eqIntS v7 v4).bind fun y7 =>
          bif !y7 then
            some false
          else
            bif !(v3 == v2) then
              some false
            else
              laws_FnExactCopyDo_l1 v0 v1 v2 v4 v7 := (Lw_eq tysOk (getG_con (laws_FnExactCopyDo.gok _)) _ _).trans (by kernel_rfl)
theorem laws_FnExactCopyDo_l1.eq (v0 : List Int) (v1 : List (Int × Int × Int)) (v2 : Bool) (v3 : List Int) (v4 : List Int) : laws_FnExactCopyDo_l1 v0 v1 v2 v3 v4 =
    (laws_markIntS v4 (1 : Int)).bind fun y1 =>
    (laws_heldIntS y1.2 (1 : Int)).bind fun y2 =>
    bif decide (y2 < (0 : Int)) then
      some false
    else
      bif y2 != y1.1 then
        some false
      else
        (laws_toIntS v0).bind fun y3 =>
        (laws_toCopyS v1).bind fun y4 =>
        (impl_CopyDo y3 y4).bind fun y5 =>
        (laws_eqIntS y5.1 v3).bind fun y6 =>
        bif !y6 then
          some false
        else
          bif !(y5.2 == v2) then
            some false
          else
            laws_FnExactCopyDo_l2 y1.1 y1.2 := (Lw_eq tysOk (getG_con (laws_FnExactCopyDo.gok _)) _ _).trans (by kernel_rfl)
theorem laws_FnExactCopyDo_l2.eq (v0 : Int) (v1 : List Int) : laws_FnExactCopyDo_l2 v0 v1 =
    (laws_heldIntS v1 (1 : Int)).bind fun y1 =>
    bif decide (y1 < (0 : Int)) then
      some false
    else
      bif y1 != v0 then
        some false
      else
        some true := (Lw_eq tysOk (getG_con (laws_FnExactCopyDo.gok _)) _ _).trans (by kernel_rfl)

end Go.Ev.W
