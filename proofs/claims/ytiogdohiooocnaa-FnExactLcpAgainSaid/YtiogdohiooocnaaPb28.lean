/- What functions of the program come to. -/
import Derived.Test.YtiogdohiooocnaaPbT
import Derived.Test.YtiogdohiooocnaaPb12
import Derived.Test.YtiogdohiooocnaaPb16
import Derived.Test.YtiogdohiooocnaaPb24
import Derived.Test.YtiogdohiooocnaaPb27
import Derived.Test.YtiogdohiooocnaaPb8
import Derived.Test.YtiogdohiooocnaaPb9
namespace Go.Ev.W
open Go.Ev Go.Proofs
set_option maxRecDepth 100000
set_option linter.unusedVariables false

/-! ### laws_FnExactLcpAgain: loop.example/g00688/laws.FnExactLcpAgain -/
def laws_FnExactLcpAgain.ms : List Mode := [.lend, .lend]
def laws_FnExactLcpAgain.as : List VSh := [.one (.b (.b (.b (.b (.sl false false 5))))), .one (.b (.b (.b (.b (.sl false false 130)))))]
def laws_FnExactLcpAgain.rs : RSh := ⟨[.one (.b (.b (.b (.b (.bool)))))], [none, none]⟩
noncomputable def laws_FnExactLcpAgain.gs (δ : Type) : List (Nat × Callee (GT tab) δ) := [(15, calleeS tab laws_eqByteS.ms laws_eqByteS.as laws_eqByteS.rs laws_eqByteS.fn), (18, calleeS tab laws_markByteS.ms laws_markByteS.as laws_markByteS.rs laws_markByteS.fn), (21, calleeS tab laws_toByteS.ms laws_toByteS.as laws_toByteS.rs laws_toByteS.fn), (28, calleeS tab laws_eqIntS.ms laws_eqIntS.as laws_eqIntS.rs laws_eqIntS.fn), (31, calleeS tab laws_markIntS.ms laws_markIntS.as laws_markIntS.rs laws_markIntS.fn), (32, calleeS tab laws_heldIntS.ms laws_heldIntS.as laws_heldIntS.rs laws_heldIntS.fn), (50, calleeS tab laws_eqCopyS.ms laws_eqCopyS.as laws_eqCopyS.rs laws_eqCopyS.fn), (51, calleeS tab laws_markCopyS.ms laws_markCopyS.as laws_markCopyS.rs laws_markCopyS.fn), (53, calleeS tab laws_szCopyS.ms laws_szCopyS.as laws_szCopyS.rs laws_szCopyS.fn), (54, calleeS tab spec_LcpAgain.ms spec_LcpAgain.as spec_LcpAgain.rs spec_LcpAgain.fn), (55, calleeS tab laws_toCopyS.ms laws_toCopyS.as laws_toCopyS.rs laws_toCopyS.fn), (56, calleeS tab impl_LcpAgain.ms impl_LcpAgain.as impl_LcpAgain.rs impl_LcpAgain.fn)]
theorem laws_FnExactLcpAgain.gok (δ : Type) : AllCon Try.prog tab (laws_FnExactLcpAgain.gs δ) := .cons laws_eqByteS.con (.cons laws_markByteS.con (.cons laws_toByteS.con (.cons laws_eqIntS.con (.cons laws_markIntS.con (.cons laws_heldIntS.con (.cons laws_eqCopyS.con (.cons laws_markCopyS.con (.cons laws_szCopyS.con (.cons spec_LcpAgain.con (.cons laws_toCopyS.con (.cons impl_LcpAgain.con (.nil))))))))))))
noncomputable def laws_FnExactLcpAgain.c : Ctx (GT tab) (KT tab) (ResT tab laws_FnExactLcpAgain.rs) := { X := XT tab, ty := tyOf tys, inner := fun _ => true, keep := keepOf 0 laws_FnExactLcpAgain.ms, cuts := [13, 22, 33], live := liveOf [(13, [0, 1, 6, 7, 8, 9, 10, 11]), (22, [0, 1, 6, 7, 10]), (33, [10, 13])], G := getG (laws_FnExactLcpAgain.gs _) }
noncomputable def laws_FnExactLcpAgain.b : Code := bodyOf Try.f8
noncomputable def laws_FnExactLcpAgain (x0 : List Int) (x1 : List (Int × Int × Int)) : Option (Bool) := callW laws_FnExactLcpAgain.c (fiOf (GT tab) Try.f8 laws_FnExactLcpAgain.ms) laws_FnExactLcpAgain.b (decRes tab laws_FnExactLcpAgain.rs) (encArgs tab laws_FnExactLcpAgain.as (x0, x1))
theorem laws_FnExactLcpAgain.fok : FnOk Try.prog 8 Try.f8 laws_FnExactLcpAgain.ms laws_FnExactLcpAgain.b := ⟨Try.func8, by kernel_rfl, by kernel_rfl⟩
noncomputable def laws_FnExactLcpAgain.fn : Args tab laws_FnExactLcpAgain.as → Option (ResT tab laws_FnExactLcpAgain.rs) := fun x => laws_FnExactLcpAgain x.1 x.2
theorem laws_FnExactLcpAgain.con {δ : Type} : Con Try.prog (KT tab) 8 (calleeS (β := δ) tab laws_FnExactLcpAgain.ms laws_FnExactLcpAgain.as laws_FnExactLcpAgain.rs laws_FnExactLcpAgain.fn) := con_shape (c := laws_FnExactLcpAgain.c) mixed tysOk (getG_con (laws_FnExactLcpAgain.gok _)) laws_FnExactLcpAgain.fok rfl rfl (fun _ => rfl)
noncomputable def laws_FnExactLcpAgain_l0 (v0 : List Int) (v1 : List (Int × Int × Int)) (v2 : Bool) (v3 : Bool) (v4 : List Int) (v5 : List Int) (v6 : List (Int × Int × Int)) (v7 : List Int) : Option (Bool) := Lw laws_FnExactLcpAgain.c (finish laws_FnExactLcpAgain.c (fiOf (GT tab) Try.f8 laws_FnExactLcpAgain.ms) (decRes tab laws_FnExactLcpAgain.rs)) ((loops laws_FnExactLcpAgain.c.cuts 1000 laws_FnExactLcpAgain.b []).getD 0 []) { slots := [.vs false 5 v0, .vs false 130 v1, .undef, .undef, .undef, .undef, .sl 0 0, .bool v2, .sl 1 0, .sl 2 0, .sl 3 0, .bool v3, .undef, .undef, .undef, .undef, .undef, .undef, .undef, .undef, .undef, .undef, .undef, .undef, .undef, .undef, .undef, .undef, .undef, .undef, .undef, .undef, .undef, .undef, .undef, .undef, .undef, .undef, .undef, .undef, .undef, .undef, .undef, .undef, .undef, .undef, .undef, .undef, .undef, .undef, .undef, .undef, .undef, .undef, .undef, .undef, .undef, .undef, .undef, .undef, .undef, .undef, .undef, .undef, .undef, .undef, .undef, .undef, .undef, .undef, .undef, .undef, .undef, .undef, .undef, .undef, .undef, .undef, .undef, .undef, .undef, .undef, .undef, .undef, .undef, .undef, .undef, .undef, .undef, .undef, .undef, .undef, .undef, .undef, .undef, .undef, .undef, .undef, .undef, .undef, .undef, .undef, .undef, .undef, .undef, .undef, .undef, .undef, .undef, .undef, .undef, .undef, .undef, .undef, .undef, .undef, .undef], loc := locOf [.row 0 true 3 v4, .row 0 true 5 v5, .row 0 true 127 v6, .row 0 true 3 v7], nx := 4 }
noncomputable def laws_FnExactLcpAgain_l1 (v0 : List Int) (v1 : List (Int × Int × Int)) (v2 : Bool) (v3 : List Int) (v4 : List Int) : Option (Bool) := Lw laws_FnExactLcpAgain.c (finish laws_FnExactLcpAgain.c (fiOf (GT tab) Try.f8 laws_FnExactLcpAgain.ms) (decRes tab laws_FnExactLcpAgain.rs)) ((loops laws_FnExactLcpAgain.c.cuts 1000 laws_FnExactLcpAgain.b []).getD 1 []) { slots := [.vs false 5 v0, .vs false 130 v1, .undef, .undef, .undef, .undef, .sl 0 0, .bool v2, .undef, .undef, .sl 1 0, .undef, .undef, .undef, .undef, .undef, .undef, .undef, .undef, .undef, .undef, .undef, .undef, .undef, .undef, .undef, .undef, .undef, .undef, .undef, .undef, .undef, .undef, .undef, .undef, .undef, .undef, .undef, .undef, .undef, .undef, .undef, .undef, .undef, .undef, .undef, .undef, .undef, .undef, .undef, .undef, .undef, .undef, .undef, .undef, .undef, .undef, .undef, .undef, .undef, .undef, .undef, .undef, .undef, .undef, .undef, .undef, .undef, .undef, .undef, .undef, .undef, .undef, .undef, .undef, .undef, .undef, .undef, .undef, .undef, .undef, .undef, .undef, .undef, .undef, .undef, .undef, .undef, .undef, .undef, .undef, .undef, .undef, .undef, .undef, .undef, .undef, .undef, .undef, .undef, .undef, .undef, .undef, .undef, .undef, .undef, .undef, .undef, .undef, .undef, .undef, .undef, .undef, .undef, .undef, .undef, .undef], loc := locOf [.row 0 true 3 v3, .row 0 true 3 v4], nx := 2 }
noncomputable def laws_FnExactLcpAgain_l2 (v0 : Int) (v1 : List Int) : Option (Bool) := Lw laws_FnExactLcpAgain.c (finish laws_FnExactLcpAgain.c (fiOf (GT tab) Try.f8 laws_FnExactLcpAgain.ms) (decRes tab laws_FnExactLcpAgain.rs)) ((loops laws_FnExactLcpAgain.c.cuts 1000 laws_FnExactLcpAgain.b []).getD 2 []) { slots := [.undef, .undef, .undef, .undef, .undef, .undef, .undef, .undef, .undef, .undef, .sl 0 0, .undef, .undef, .int .i64 v0, .undef, .undef, .undef, .undef, .undef, .undef, .undef, .undef, .undef, .undef, .undef, .undef, .undef, .undef, .undef, .undef, .undef, .undef, .undef, .undef, .undef, .undef, .undef, .undef, .undef, .undef, .undef, .undef, .undef, .undef, .undef, .undef, .undef, .undef, .undef, .undef, .undef, .undef, .undef, .undef, .undef, .undef, .undef, .undef, .undef, .undef, .undef, .undef, .undef, .undef, .undef, .undef, .undef, .undef, .undef, .undef, .undef, .undef, .undef, .undef, .undef, .undef, .undef, .undef, .undef, .undef, .undef, .undef, .undef, .undef, .undef, .undef, .undef, .undef, .undef, .undef, .undef, .undef, .undef, .undef, .undef, .undef, .undef, .undef, .undef, .undef, .undef, .undef, .undef, .undef, .undef, .undef, .undef, .undef, .undef, .undef, .undef, .undef, .undef, .undef, .undef, .undef, .undef], loc := locOf [.row 0 true 3 v1], nx := 1 }
theorem laws_FnExactLcpAgain.eq (x0 : List Int) (x1 : List (Int × Int × Int)) : laws_FnExactLcpAgain x0 x1 =
    bif decide ((x0.length : Int) > (1048576 : Int)) then
      some true
    else
      (laws_szCopyS x1 (1048576 : Int)).bind fun y1 =>
      bif decide (y1 < (0 : Int)) then
        some true
      else
        (laws_toByteS x0).bind fun y2 =>
        (laws_toCopyS x1).bind fun y3 =>
        (spec_LcpAgain y2 y3).bind fun y4 =>
        (laws_toByteS x0).bind fun y5 =>
        (laws_toCopyS x1).bind fun y6 =>
        (impl_LcpAgain y5 y6).bind fun y7 =>
        (laws_eqIntS y7.1 y4.1).bind fun y8 =>
        bif !y8 then
          some false
        else
          bif !(y7.2 == y4.2) then
            some false
          else
            laws_FnExactLcpAgain_l0 x0 x1 y4.2 y7.2 y4.1 y5 y6 y7.1 := by kernel_rfl
theorem laws_FnExactLcpAgain_l0.eq (v0 : List Int) (v1 : List (Int × Int × Int)) (v2 : Bool) (v3 : Bool) (v4 : List Int) (v5 : List Int) (v6 : List (Int × Int × Int)) (v7 : List Int) : laws_FnExactLcpAgain_l0 v0 v1 v2 v3 v4 v5 v6 v7 =
    (laws_toByteS v0).bind fun y1 =>
    (laws_eqByteS v5 y1).bind fun y2 =>
    bif !y2 then
      some false
    else
      (laws_toCopyS v1).bind fun y3 =>
      (laws_eqCopyS v6 y3).bind fun y4 =>
      bif !y4 then
        some false
      else
        (laws_markByteS v5 (1 : Int)).bind fun y5 =>
        (laws_markCopyS v6 y5.1).bind fun y6 =>
        bif decide (y6.1 < (0 : Int)) then
          some false
        else
          (laws_eqIntS v7 v4).bind fun y7 =>
          bif !y7 then
            some false
          else
            bif !(v3 == v2) then
              some false
            else
              laws_FnExactLcpAgain_l1 v0 v1 v2 v4 v7 := (Lw_eq tysOk (getG_con (laws_FnExactLcpAgain.gok _)) _ _).trans (by kernel_rfl)
theorem laws_FnExactLcpAgain_l1.eq (v0 : List Int) (v1 : List (Int × Int × Int)) (v2 : Bool) (v3 : List Int) (v4 : List Int) : laws_FnExactLcpAgain_l1 v0 v1 v2 v3 v4 =
    (laws_markIntS v4 (1 : Int)).bind fun y1 =>
    (laws_heldIntS y1.2 (1 : Int)).bind fun y2 =>
    bif decide (y2 < (0 : Int)) then
      some false
    else
      bif y2 != y1.1 then
        some false
      else
        (laws_toByteS v0).bind fun y3 =>
        (laws_toCopyS v1).bind fun y4 =>
        (impl_LcpAgain y3 y4).bind fun y5 =>
        (laws_eqIntS y5.1 v3).bind fun y6 =>
        bif !y6 then
          some false
        else
          bif !(y5.2 == v2) then
            some false
          else
            laws_FnExactLcpAgain_l2 y1.1 y1.2 := (Lw_eq tysOk (getG_con (laws_FnExactLcpAgain.gok _)) _ _).trans (by kernel_rfl)
theorem laws_FnExactLcpAgain_l2.eq (v0 : Int) (v1 : List Int) : laws_FnExactLcpAgain_l2 v0 v1 =
    (laws_heldIntS v1 (1 : Int)).bind fun y1 =>
    bif decide (y1 < (0 : Int)) then
      some false
    else
      bif y1 != v0 then
        some false
      else
        some true := (Lw_eq tysOk (getG_con (laws_FnExactLcpAgain.gok _)) _ _).trans (by kernel_rfl)

end Go.Ev.W
