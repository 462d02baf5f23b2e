/- What functions of the program come to. -/
import Derived.Test.YthbijcdnjgfndaaPaT
import Derived.Test.YthbijcdnjgfndaaPa1
import Derived.Test.YthbijcdnjgfndaaPa2
import Derived.Test.YthbijcdnjgfndaaPa6
import Derived.Test.YthbijcdnjgfndaaPa7
import Derived.Test.YthbijcdnjgfndaaPa8
namespace Go.Ev.W
open Go.Ev Go.Proofs
set_option maxRecDepth 100000
set_option linter.unusedVariables false

/-! ### spec_Undelta: loop.example/g00688/spec.Undelta -/
def spec_Undelta.ms : List Mode := [.lend]
def spec_Undelta.as : List VSh := [.one (.b (.b (.b (.b (.sl false false 3)))))]
def spec_Undelta.rs : RSh := ⟨[.one (.b (.b (.b (.b (.sl true true 3))))), .one (.b (.b (.b (.b (.bool)))))], [none]⟩
noncomputable def spec_Undelta.gs (δ : Type) : List (Nat × Callee (GT tab) δ) := [(62, calleeS tab spec_l15Right.ms spec_l15Right.as spec_l15Right.rs spec_l15Right.fn)]
theorem spec_Undelta.gok (δ : Type) : AllCon Try.prog tab (spec_Undelta.gs δ) := .cons spec_l15Right.con (.nil)
noncomputable def spec_Undelta.c : Ctx (GT tab) (KT tab) (ResT tab spec_Undelta.rs) := { X := XT tab, ty := tyOf tys, inner := fun _ => true, keep := keepOf 0 spec_Undelta.ms, cuts := [], live := liveOf [(6, [0, 4, 5, 6])], G := getG (spec_Undelta.gs _) }
noncomputable def spec_Undelta.b : Code := bodyOf Try.f15
noncomputable def spec_Undelta (x0 : List Int) : Option ((List Int) × Bool) := callW spec_Undelta.c (fiOf (GT tab) Try.f15 spec_Undelta.ms) spec_Undelta.b (decRes tab spec_Undelta.rs) (encArgs tab spec_Undelta.as x0)
theorem spec_Undelta.fok : FnOk Try.prog 15 Try.f15 spec_Undelta.ms spec_Undelta.b := ⟨Try.func15, by kernel_rfl, by kernel_rfl⟩
noncomputable def spec_Undelta.fn : Args tab spec_Undelta.as → Option (ResT tab spec_Undelta.rs) := fun x => spec_Undelta x
theorem spec_Undelta.con {δ : Type} : Con Try.prog (KT tab) 15 (calleeS (β := δ) tab spec_Undelta.ms spec_Undelta.as spec_Undelta.rs spec_Undelta.fn) := con_shape (c := spec_Undelta.c) mixed tysOk (getG_con (spec_Undelta.gok _)) spec_Undelta.fok rfl rfl (fun _ => rfl)
noncomputable def spec_Undelta_l0 (v0 : List Int) (v1 : Int) (v2 : Int) (v3 : List Int) : Option ((List Int) × Bool) := Lw spec_Undelta.c (finish spec_Undelta.c (fiOf (GT tab) Try.f15 spec_Undelta.ms) (decRes tab spec_Undelta.rs)) ((loops spec_Undelta.c.cuts 1000 spec_Undelta.b []).getD 0 []) { slots := [.vs false 3 v0, .undef, .undef, .undef, .sl 0 0, .int .i64 v1, .int .i64 v2, .undef, .undef, .undef, .undef, .undef, .undef, .undef, .undef, .undef, .undef, .undef, .undef, .undef, .undef, .undef, .undef, .undef, .undef, .undef, .undef, .undef, .undef, .undef, .undef], loc := locOf [.row 0 true 3 v3], nx := 1 }
theorem spec_Undelta.eq (x0 : List Int) : spec_Undelta x0 =
    (spec_l15Right x0).bind fun y1 =>
    bif !y1 then
      some (([] : List Int), false)
    else
      spec_Undelta_l0 x0 (0 : Int) (0 : Int) ([] : List Int) := by kernel_rfl
theorem spec_Undelta_l0.eq (v0 : List Int) (v1 : Int) (v2 : Int) (v3 : List Int) : spec_Undelta_l0 v0 v1 v2 v3 =
    bif decide (v2 < (v0.length : Int)) then
      (at? v0 v2).bind fun y1 =>
      bif decide ((v3.length + ([IntKind.i64.wrap (v1 + y1)] : List Int).length) * 8 ≤ 140737488355328) then
        spec_Undelta_l0 v0 (IntKind.i64.wrap (v1 + y1)) (IntKind.i64.wrap (v2 + (1 : Int))) (v3 ++ ([IntKind.i64.wrap (v1 + y1)] : List Int))
      else
        none
    else
      (spec_l15Right v3).bind fun y2 =>
      bif !y2 then
        some (([] : List Int), false)
      else
        some (v3, true) := (Lw_eq tysOk (getG_con (spec_Undelta.gok _)) _ _).trans (by kernel_rfl)

/-! ### laws_FnExactUndelta: loop.example/g00688/laws.FnExactUndelta -/
def laws_FnExactUndelta.ms : List Mode := [.lend]
def laws_FnExactUndelta.as : List VSh := [.one (.b (.b (.b (.b (.sl false false 3)))))]
def laws_FnExactUndelta.rs : RSh := ⟨[.one (.b (.b (.b (.b (.bool)))))], [none]⟩
noncomputable def laws_FnExactUndelta.gs (δ : Type) : List (Nat × Callee (GT tab) δ) := [(15, calleeS tab spec_Undelta.ms spec_Undelta.as spec_Undelta.rs spec_Undelta.fn), (16, calleeS tab laws_toIntS.ms laws_toIntS.as laws_toIntS.rs laws_toIntS.fn), (17, calleeS tab impl_Undelta.ms impl_Undelta.as impl_Undelta.rs impl_Undelta.fn), (18, calleeS tab laws_eqIntS.ms laws_eqIntS.as laws_eqIntS.rs laws_eqIntS.fn), (19, calleeS tab laws_markIntS.ms laws_markIntS.as laws_markIntS.rs laws_markIntS.fn), (20, calleeS tab laws_heldIntS.ms laws_heldIntS.as laws_heldIntS.rs laws_heldIntS.fn)]
theorem laws_FnExactUndelta.gok (δ : Type) : AllCon Try.prog tab (laws_FnExactUndelta.gs δ) := .cons spec_Undelta.con (.cons laws_toIntS.con (.cons impl_Undelta.con (.cons laws_eqIntS.con (.cons laws_markIntS.con (.cons laws_heldIntS.con (.nil))))))
noncomputable def laws_FnExactUndelta.c : Ctx (GT tab) (KT tab) (ResT tab laws_FnExactUndelta.rs) := { X := XT tab, ty := tyOf tys, inner := fun _ => true, keep := keepOf 0 laws_FnExactUndelta.ms, cuts := [8, 14, 25], live := liveOf [(8, [0, 3, 4, 5, 6, 7]), (14, [0, 3, 4, 6]), (25, [6, 9])], G := getG (laws_FnExactUndelta.gs _) }
noncomputable def laws_FnExactUndelta.b : Code := bodyOf Try.f3
noncomputable def laws_FnExactUndelta (x0 : List Int) : Option (Bool) := callW laws_FnExactUndelta.c (fiOf (GT tab) Try.f3 laws_FnExactUndelta.ms) laws_FnExactUndelta.b (decRes tab laws_FnExactUndelta.rs) (encArgs tab laws_FnExactUndelta.as x0)
theorem laws_FnExactUndelta.fok : FnOk Try.prog 3 Try.f3 laws_FnExactUndelta.ms laws_FnExactUndelta.b := ⟨Try.func3, by kernel_rfl, by kernel_rfl⟩
noncomputable def laws_FnExactUndelta.fn : Args tab laws_FnExactUndelta.as → Option (ResT tab laws_FnExactUndelta.rs) := fun x => laws_FnExactUndelta x
theorem laws_FnExactUndelta.con {δ : Type} : Con Try.prog (KT tab) 3 (calleeS (β := δ) tab laws_FnExactUndelta.ms laws_FnExactUndelta.as laws_FnExactUndelta.rs laws_FnExactUndelta.fn) := con_shape (c := laws_FnExactUndelta.c) mixed tysOk (getG_con (laws_FnExactUndelta.gok _)) laws_FnExactUndelta.fok rfl rfl (fun _ => rfl)
noncomputable def laws_FnExactUndelta_l0 (v0 : List Int) (v1 : Bool) (v2 : Bool) (v3 : List Int) (v4 : List Int) (v5 : List Int) : Option (Bool) := Lw laws_FnExactUndelta.c (finish laws_FnExactUndelta.c (fiOf (GT tab) Try.f3 laws_FnExactUndelta.ms) (decRes tab laws_FnExactUndelta.rs)) ((loops laws_FnExactUndelta.c.cuts 1000 laws_FnExactUndelta.b []).getD 0 []) { slots := [.vs false 3 v0, .undef, .undef, .sl 0 0, .bool v1, .sl 1 0, .sl 2 0, .bool v2, .undef, .undef, .undef, .undef, .undef, .undef, .undef, .undef, .undef, .undef, .undef, .undef, .undef, .undef, .undef, .undef, .undef, .undef, .undef, .undef, .undef, .undef, .undef, .undef, .undef, .undef, .undef, .undef, .undef, .undef, .undef, .undef, .undef, .undef, .undef, .undef, .undef, .undef, .undef, .undef, .undef, .undef, .undef, .undef, .undef, .undef, .undef, .undef, .undef, .undef, .undef, .undef, .undef, .undef, .undef, .undef, .undef, .undef, .undef, .undef, .undef, .undef, .undef, .undef, .undef, .undef, .undef, .undef, .undef, .undef, .undef, .undef, .undef, .undef, .undef, .undef, .undef, .undef, .undef, .undef, .undef, .undef, .undef, .undef, .undef], loc := locOf [.row 0 true 3 v3, .row 0 true 3 v4, .row 0 true 3 v5], nx := 3 }
noncomputable def laws_FnExactUndelta_l1 (v0 : List Int) (v1 : Bool) (v2 : List Int) (v3 : List Int) : Option (Bool) := Lw laws_FnExactUndelta.c (finish laws_FnExactUndelta.c (fiOf (GT tab) Try.f3 laws_FnExactUndelta.ms) (decRes tab laws_FnExactUndelta.rs)) ((loops laws_FnExactUndelta.c.cuts 1000 laws_FnExactUndelta.b []).getD 1 []) { slots := [.vs false 3 v0, .undef, .undef, .sl 0 0, .bool v1, .undef, .sl 1 0, .undef, .undef, .undef, .undef, .undef, .undef, .undef, .undef, .undef, .undef, .undef, .undef, .undef, .undef, .undef, .undef, .undef, .undef, .undef, .undef, .undef, .undef, .undef, .undef, .undef, .undef, .undef, .undef, .undef, .undef, .undef, .undef, .undef, .undef, .undef, .undef, .undef, .undef, .undef, .undef, .undef, .undef, .undef, .undef, .undef, .undef, .undef, .undef, .undef, .undef, .undef, .undef, .undef, .undef, .undef, .undef, .undef, .undef, .undef, .undef, .undef, .undef, .undef, .undef, .undef, .undef, .undef, .undef, .undef, .undef, .undef, .undef, .undef, .undef, .undef, .undef, .undef, .undef, .undef, .undef, .undef, .undef, .undef, .undef, .undef, .undef], loc := locOf [.row 0 true 3 v2, .row 0 true 3 v3], nx := 2 }
noncomputable def laws_FnExactUndelta_l2 (v0 : Int) (v1 : List Int) : Option (Bool) := Lw laws_FnExactUndelta.c (finish laws_FnExactUndelta.c (fiOf (GT tab) Try.f3 laws_FnExactUndelta.ms) (decRes tab laws_FnExactUndelta.rs)) ((loops laws_FnExactUndelta.c.cuts 1000 laws_FnExactUndelta.b []).getD 2 []) { slots := [.undef, .undef, .undef, .undef, .undef, .undef, .sl 0 0, .undef, .undef, .int .i64 v0, .undef, .undef, .undef, .undef, .undef, .undef, .undef, .undef, .undef, .undef, .undef, .undef, .undef, .undef, .undef, .undef, .undef, .undef, .undef, .undef, .undef, .undef, .undef, .undef, .undef, .undef, .undef, .undef, .undef, .undef, .undef, .undef, .undef, .undef, .undef, .undef, .undef, .undef, .undef, .undef, .undef, .undef, .undef, .undef, .undef, .undef, .undef, .undef, .undef, .undef, .undef, .undef, .undef, .undef, .undef, .undef, .undef, .undef, .undef, .undef, .undef, .undef, .undef, .undef, .undef, .undef, .undef, .undef, .undef, .undef, .undef, .undef, .undef, .undef, .undef, .undef, .undef, .undef, .undef, .undef, .undef, .undef, .undef], loc := locOf [.row 0 true 3 v1], nx := 1 }
theorem laws_FnExactUndelta.eq (x0 : List Int) : laws_FnExactUndelta x0 =
    bif decide ((x0.length : Int) > (1048576 : Int)) then
      some true
    else
      (laws_toIntS x0).bind fun y1 =>
      (spec_Undelta y1).bind fun y2 =>
      (laws_toIntS x0).bind fun y3 =>
      (impl_Undelta y3).bind fun y4 =>
      (laws_eqIntS y4.1 y2.1).bind fun y5 =>
      bif !y5 then
        some false
      else
        bif !(y4.2 == y2.2) then
          some false
        else
          laws_FnExactUndelta_l0 x0 y2.2 y4.2 y2.1 y3 y4.1 := by kernel_rfl
theorem laws_FnExactUndelta_l0.eq (v0 : List Int) (v1 : Bool) (v2 : Bool) (v3 : List Int) (v4 : List Int) (v5 : List Int) : laws_FnExactUndelta_l0 v0 v1 v2 v3 v4 v5 =
    (laws_toIntS v0).bind fun y1 =>
    (laws_eqIntS v4 y1).bind fun y2 =>
    bif !y2 then
      some false
    else
      (laws_markIntS v4 (1 : Int)).bind fun y3 =>
      bif decide (y3.1 < (0 : Int)) then
        some false
      else
        (laws_eqIntS v5 v3).bind fun y4 =>
        bif !y4 then
          some false
        else
          bif !(v2 == v1) then
            some false
          else
            laws_FnExactUndelta_l1 v0 v1 v3 v5 := (Lw_eq tysOk (getG_con (laws_FnExactUndelta.gok _)) _ _).trans (by kernel_rfl)
theorem laws_FnExactUndelta_l1.eq (v0 : List Int) (v1 : Bool) (v2 : List Int) (v3 : List Int) : laws_FnExactUndelta_l1 v0 v1 v2 v3 =
    (laws_markIntS v3 (1 : Int)).bind fun y1 =>
    (laws_heldIntS y1.2 (1 : Int)).bind fun y2 =>
    bif decide (y2 < (0 : Int)) then
      some false
    else
      bif y2 != y1.1 then
        some false
      else
        (laws_toIntS v0).bind fun y3 =>
        (impl_Undelta y3).bind fun y4 =>
        (laws_eqIntS y4.1 v2).bind fun y5 =>
        bif !y5 then
          some false
        else
          bif !(y4.2 == v1) then
            some false
          else
            laws_FnExactUndelta_l2 y1.1 y1.2 := (Lw_eq tysOk (getG_con (laws_FnExactUndelta.gok _)) _ _).trans (by kernel_rfl)
theorem laws_FnExactUndelta_l2.eq (v0 : Int) (v1 : List Int) : laws_FnExactUndelta_l2 v0 v1 =
    (laws_heldIntS v1 (1 : Int)).bind fun y1 =>
    bif decide (y1 < (0 : Int)) then
      some false
    else
      bif y1 != v0 then
        some false
      else
        some true := (Lw_eq tysOk (getG_con (laws_FnExactUndelta.gok _)) _ _).trans (by kernel_rfl)

end Go.Ev.W
