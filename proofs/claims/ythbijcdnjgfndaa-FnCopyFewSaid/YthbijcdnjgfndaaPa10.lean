/- What functions of the program come to. -/
import Derived.Test.YthbijcdnjgfndaaPaT
import Derived.Test.YthbijcdnjgfndaaPa1
import Derived.Test.YthbijcdnjgfndaaPa7
import Derived.Test.YthbijcdnjgfndaaPa8
import Derived.Test.YthbijcdnjgfndaaPa9
namespace Go.Ev.W
open Go.Ev Go.Proofs
set_option maxRecDepth 100000
set_option linter.unusedVariables false

/-! ### laws_FnExactDeltas: loop.example/g00688/laws.FnExactDeltas -/
def laws_FnExactDeltas.ms : List Mode := [.lend]
def laws_FnExactDeltas.as : List VSh := [.one (.b (.b (.b (.b (.sl false false 3)))))]
def laws_FnExactDeltas.rs : RSh := ⟨[.one (.b (.b (.b (.b (.bool)))))], [none]⟩
noncomputable def laws_FnExactDeltas.gs (δ : Type) : List (Nat × Callee (GT tab) δ) := [(16, calleeS tab laws_toIntS.ms laws_toIntS.as laws_toIntS.rs laws_toIntS.fn), (18, calleeS tab laws_eqIntS.ms laws_eqIntS.as laws_eqIntS.rs laws_eqIntS.fn), (19, calleeS tab laws_markIntS.ms laws_markIntS.as laws_markIntS.rs laws_markIntS.fn), (20, calleeS tab laws_heldIntS.ms laws_heldIntS.as laws_heldIntS.rs laws_heldIntS.fn), (21, calleeS tab spec_Deltas.ms spec_Deltas.as spec_Deltas.rs spec_Deltas.fn), (22, calleeS tab impl_Deltas.ms impl_Deltas.as impl_Deltas.rs impl_Deltas.fn)]
theorem laws_FnExactDeltas.gok (δ : Type) : AllCon Try.prog tab (laws_FnExactDeltas.gs δ) := .cons laws_toIntS.con (.cons laws_eqIntS.con (.cons laws_markIntS.con (.cons laws_heldIntS.con (.cons spec_Deltas.con (.cons impl_Deltas.con (.nil))))))
noncomputable def laws_FnExactDeltas.c : Ctx (GT tab) (KT tab) (ResT tab laws_FnExactDeltas.rs) := { X := XT tab, ty := tyOf tys, inner := fun _ => true, keep := keepOf 0 laws_FnExactDeltas.ms, cuts := [8, 14, 25], live := liveOf [(8, [0, 3, 4, 5, 6, 7]), (14, [0, 3, 4, 6]), (25, [6, 9])], G := getG (laws_FnExactDeltas.gs _) }
noncomputable def laws_FnExactDeltas.b : Code := bodyOf Try.f4
noncomputable def laws_FnExactDeltas (x0 : List Int) : Option (Bool) := callW laws_FnExactDeltas.c (fiOf (GT tab) Try.f4 laws_FnExactDeltas.ms) laws_FnExactDeltas.b (decRes tab laws_FnExactDeltas.rs) (encArgs tab laws_FnExactDeltas.as x0)
theorem laws_FnExactDeltas.fok : FnOk Try.prog 4 Try.f4 laws_FnExactDeltas.ms laws_FnExactDeltas.b := ⟨Try.func4, by kernel_rfl, by kernel_rfl⟩
noncomputable def laws_FnExactDeltas.fn : Args tab laws_FnExactDeltas.as → Option (ResT tab laws_FnExactDeltas.rs) := fun x => laws_FnExactDeltas x
theorem laws_FnExactDeltas.con {δ : Type} : Con Try.prog (KT tab) 4 (calleeS (β := δ) tab laws_FnExactDeltas.ms laws_FnExactDeltas.as laws_FnExactDeltas.rs laws_FnExactDeltas.fn) := con_shape (c := laws_FnExactDeltas.c) mixed tysOk (getG_con (laws_FnExactDeltas.gok _)) laws_FnExactDeltas.fok rfl rfl (fun _ => rfl)
noncomputable def laws_FnExactDeltas_l0 (v0 : List Int) (v1 : Bool) (v2 : Bool) (v3 : List Int) (v4 : List Int) (v5 : List Int) : Option (Bool) := Lw laws_FnExactDeltas.c (finish laws_FnExactDeltas.c (fiOf (GT tab) Try.f4 laws_FnExactDeltas.ms) (decRes tab laws_FnExactDeltas.rs)) ((loops laws_FnExactDeltas.c.cuts 1000 laws_FnExactDeltas.b []).getD 0 []) { slots := [.vs false 3 v0, .undef, .undef, .sl 0 0, .bool v1, .sl 1 0, .sl 2 0, .bool v2, .undef, .undef, .undef, .undef, .undef, .undef, .undef, .undef, .undef, .undef, .undef, .undef, .undef, .undef, .undef, .undef, .undef, .undef, .undef, .undef, .undef, .undef, .undef, .undef, .undef, .undef, .undef, .undef, .undef, .undef, .undef, .undef, .undef, .undef, .undef, .undef, .undef, .undef, .undef, .undef, .undef, .undef, .undef, .undef, .undef, .undef, .undef, .undef, .undef, .undef, .undef, .undef, .undef, .undef, .undef, .undef, .undef, .undef, .undef, .undef, .undef, .undef, .undef, .undef, .undef, .undef, .undef, .undef, .undef, .undef, .undef, .undef, .undef, .undef, .undef, .undef, .undef, .undef, .undef, .undef, .undef, .undef, .undef, .undef, .undef], loc := locOf [.row 0 true 3 v3, .row 0 true 3 v4, .row 0 true 3 v5], nx := 3 }
noncomputable def laws_FnExactDeltas_l1 (v0 : List Int) (v1 : Bool) (v2 : List Int) (v3 : List Int) : Option (Bool) := Lw laws_FnExactDeltas.c (finish laws_FnExactDeltas.c (fiOf (GT tab) Try.f4 laws_FnExactDeltas.ms) (decRes tab laws_FnExactDeltas.rs)) ((loops laws_FnExactDeltas.c.cuts 1000 laws_FnExactDeltas.b []).getD 1 []) { slots := [.vs false 3 v0, .undef, .undef, .sl 0 0, .bool v1, .undef, .sl 1 0, .undef, .undef, .undef, .undef, .undef, .undef, .undef, .undef, .undef, .undef, .undef, .undef, .undef, .undef, .undef, .undef, .undef, .undef, .undef, .undef, .undef, .undef, .undef, .undef, .undef, .undef, .undef, .undef, .undef, .undef, .undef, .undef, .undef, .undef, .undef, .undef, .undef, .undef, .undef, .undef, .undef, .undef, .undef, .undef, .undef, .undef, .undef, .undef, .undef, .undef, .undef, .undef, .undef, .undef, .undef, .undef, .undef, .undef, .undef, .undef, .undef, .undef, .undef, .undef, .undef, .undef, .undef, .undef, .undef, .undef, .undef, .undef, .undef, .undef, .undef, .undef, .undef, .undef, .undef, .undef, .undef, .undef, .undef, .undef, .undef, .undef], loc := locOf [.row 0 true 3 v2, .row 0 true 3 v3], nx := 2 }
noncomputable def laws_FnExactDeltas_l2 (v0 : Int) (v1 : List Int) : Option (Bool) := Lw laws_FnExactDeltas.c (finish laws_FnExactDeltas.c (fiOf (GT tab) Try.f4 laws_FnExactDeltas.ms) (decRes tab laws_FnExactDeltas.rs)) ((loops laws_FnExactDeltas.c.cuts 1000 laws_FnExactDeltas.b []).getD 2 []) { slots := [.undef, .undef, .undef, .undef, .undef, .undef, .sl 0 0, .undef, .undef, .int .i64 v0, .undef, .undef, .undef, .undef, .undef, .undef, .undef, .undef, .undef, .undef, .undef, .undef, .undef, .undef, .undef, .undef, .undef, .undef, .undef, .undef, .undef, .undef, .undef, .undef, .undef, .undef, .undef, .undef, .undef, .undef, .undef, .undef, .undef, .undef, .undef, .undef, .undef, .undef, .undef, .undef, .undef, .undef, .undef, .undef, .undef, .undef, .undef, .undef, .undef, .undef, .undef, .undef, .undef, .undef, .undef, .undef, .undef, .undef, .undef, .undef, .undef, .undef, .undef, .undef, .undef, .undef, .undef, .undef, .undef, .undef, .undef, .undef, .undef, .undef, .undef, .undef, .undef, .undef, .undef, .undef, .undef, .undef, .undef], loc := locOf [.row 0 true 3 v1], nx := 1 }
theorem laws_FnExactDeltas.eq (x0 : List Int) : laws_FnExactDeltas x0 =
    bif decide ((x0.length : Int) > (1048576 : Int)) then
      some true
    else
      (laws_toIntS x0).bind fun y1 =>
      (spec_Deltas y1).bind fun y2 =>
      (laws_toIntS x0).bind fun y3 =>
      (impl_Deltas y3).bind fun y4 =>
      (laws_eqIntS y4.1 y2.1).bind fun y5 =>
      bif !y5 then
        some false
      else
        bif !(y4.2 == y2.2) then
          some false
        else
          laws_FnExactDeltas_l0 x0 y2.2 y4.2 y2.1 y3 y4.1 := by kernel_rfl
theorem laws_FnExactDeltas_l0.eq (v0 : List Int) (v1 : Bool) (v2 : Bool) (v3 : List Int) (v4 : List Int) (v5 : List Int) : laws_FnExactDeltas_l0 v0 v1 v2 v3 v4 v5 =
    (laws_toIntS v0).bind fun y1 =>
    (laws_eqIntS v4 y1).bind fun y2 =>
    bif !y2 then
      some false
    else
      (laws_markIntS v4 (1 : Int)).bind fun y3 =>
      bif decide (y3.1 < (0 : Int)) then
        some false
      else
        (laws_eqIntS v5 v3).bind fun y4 =>
        bif !y4 then
          some false
        else
          bif !(v2 == v1) then
            some false
          else
            laws_FnExactDeltas_l1 v0 v1 v3 v5 := (Lw_eq tysOk (getG_con (laws_FnExactDeltas.gok _)) _ _).trans (by kernel_rfl)
theorem laws_FnExactDeltas_l1.eq (v0 : List Int) (v1 : Bool) (v2 : List Int) (v3 : List Int) : laws_FnExactDeltas_l1 v0 v1 v2 v3 =
    (laws_markIntS v3 (1 : Int)).bind fun y1 =>
    (laws_heldIntS y1.2 (1 : Int)).bind fun y2 =>
    bif decide (y2 < (0 : Int)) then
      some false
    else
      bif y2 != y1.1 then
        some false
      else
        (laws_toIntS v0).bind fun y3 =>
        (impl_Deltas y3).bind fun y4 =>
        (laws_eqIntS y4.1 v2).bind fun y5 =>
        bif !y5 then
          some false
        else
          bif !(y4.2 == v1) then
            some false
          else
            laws_FnExactDeltas_l2 y1.1 y1.2 := (Lw_eq tysOk (getG_con (laws_FnExactDeltas.gok _)) _ _).trans (by kernel_rfl)
theorem laws_FnExactDeltas_l2.eq (v0 : Int) (v1 : List Int) : laws_FnExactDeltas_l2 v0 v1 =
    (laws_heldIntS v1 (1 : Int)).bind fun y1 =>
    bif decide (y1 < (0 : Int)) then
      some false
    else
      bif y1 != v0 then
        some false
      else
        some true := (Lw_eq tysOk (getG_con (laws_FnExactDeltas.gok _)) _ _).trans (by kernel_rfl)

end Go.Ev.W
