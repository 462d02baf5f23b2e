/- What functions of the program come to. -/
import Derived.Test.YtiogdohiooocnaaPbT
import Derived.Test.YtiogdohiooocnaaPb12
import Derived.Test.YtiogdohiooocnaaPb24
import Derived.Test.YtiogdohiooocnaaPb25
import Derived.Test.YtiogdohiooocnaaPb8
namespace Go.Ev.W
open Go.Ev Go.Proofs
set_option maxRecDepth 100000
set_option linter.unusedVariables false

/-! ### laws_FnExactLcpBeside: loop.example/g00688/laws.FnExactLcpBeside -/
def laws_FnExactLcpBeside.ms : List Mode := [.lend, .lend]
def laws_FnExactLcpBeside.as : List VSh := [.one (.b (.b (.b (.b (.sl false false 5))))), .one (.b (.b (.b (.b (.sl false false 5)))))]
def laws_FnExactLcpBeside.rs : RSh := ⟨[.one (.b (.b (.b (.b (.bool)))))], [none, none]⟩
noncomputable def laws_FnExactLcpBeside.gs (δ : Type) : List (Nat × Callee (GT tab) δ) := [(15, calleeS tab laws_eqByteS.ms laws_eqByteS.as laws_eqByteS.rs laws_eqByteS.fn), (18, calleeS tab laws_markByteS.ms laws_markByteS.as laws_markByteS.rs laws_markByteS.fn), (21, calleeS tab laws_toByteS.ms laws_toByteS.as laws_toByteS.rs laws_toByteS.fn), (48, calleeS tab spec_LcpBeside.ms spec_LcpBeside.as spec_LcpBeside.rs spec_LcpBeside.fn), (49, calleeS tab impl_LcpBeside.ms impl_LcpBeside.as impl_LcpBeside.rs impl_LcpBeside.fn), (50, calleeS tab laws_eqCopyS.ms laws_eqCopyS.as laws_eqCopyS.rs laws_eqCopyS.fn), (51, calleeS tab laws_markCopyS.ms laws_markCopyS.as laws_markCopyS.rs laws_markCopyS.fn), (52, calleeS tab laws_heldCopyS.ms laws_heldCopyS.as laws_heldCopyS.rs laws_heldCopyS.fn)]
theorem laws_FnExactLcpBeside.gok (δ : Type) : AllCon Try.prog tab (laws_FnExactLcpBeside.gs δ) := .cons laws_eqByteS.con (.cons laws_markByteS.con (.cons laws_toByteS.con (.cons spec_LcpBeside.con (.cons impl_LcpBeside.con (.cons laws_eqCopyS.con (.cons laws_markCopyS.con (.cons laws_heldCopyS.con (.nil))))))))
noncomputable def laws_FnExactLcpBeside.c : Ctx (GT tab) (KT tab) (ResT tab laws_FnExactLcpBeside.rs) := { X := XT tab, ty := tyOf tys, inner := fun _ => true, keep := keepOf 0 laws_FnExactLcpBeside.ms, cuts := [11, 20, 31], live := liveOf [(11, [0, 1, 5, 6, 7, 8, 9, 10]), (20, [0, 1, 5, 6, 9]), (31, [9, 12])], G := getG (laws_FnExactLcpBeside.gs _) }
noncomputable def laws_FnExactLcpBeside.b : Code := bodyOf Try.f7
noncomputable def laws_FnExactLcpBeside (x0 : List Int) (x1 : List Int) : Option (Bool) := callW laws_FnExactLcpBeside.c (fiOf (GT tab) Try.f7 laws_FnExactLcpBeside.ms) laws_FnExactLcpBeside.b (decRes tab laws_FnExactLcpBeside.rs) (encArgs tab laws_FnExactLcpBeside.as (x0, x1))
theorem laws_FnExactLcpBeside.fok : FnOk Try.prog 7 Try.f7 laws_FnExactLcpBeside.ms laws_FnExactLcpBeside.b := ⟨Try.func7, by kernel_rfl, by kernel_rfl⟩
noncomputable def laws_FnExactLcpBeside.fn : Args tab laws_FnExactLcpBeside.as → Option (ResT tab laws_FnExactLcpBeside.rs) := fun x => laws_FnExactLcpBeside x.1 x.2
theorem laws_FnExactLcpBeside.con {δ : Type} : Con Try.prog (KT tab) 7 (calleeS (β := δ) tab laws_FnExactLcpBeside.ms laws_FnExactLcpBeside.as laws_FnExactLcpBeside.rs laws_FnExactLcpBeside.fn) := con_shape (c := laws_FnExactLcpBeside.c) mixed tysOk (getG_con (laws_FnExactLcpBeside.gok _)) laws_FnExactLcpBeside.fok rfl rfl (fun _ => rfl)
noncomputable def laws_FnExactLcpBeside_l0 (v0 : List Int) (v1 : List Int) (v2 : Bool) (v3 : Bool) (v4 : List (Int × Int × Int)) (v5 : List Int) (v6 : List Int) (v7 : List (Int × Int × Int)) : Option (Bool) := Lw laws_FnExactLcpBeside.c (finish laws_FnExactLcpBeside.c (fiOf (GT tab) Try.f7 laws_FnExactLcpBeside.ms) (decRes tab laws_FnExactLcpBeside.rs)) ((loops laws_FnExactLcpBeside.c.cuts 1000 laws_FnExactLcpBeside.b []).getD 0 []) { slots := [.vs false 5 v0, .vs false 5 v1, .undef, .undef, .undef, .sl 0 0, .bool v2, .sl 1 0, .sl 2 0, .sl 3 0, .bool v3, .undef, .undef, .undef, .undef, .undef, .undef, .undef, .undef, .undef, .undef, .undef, .undef, .undef, .undef, .undef, .undef, .undef, .undef, .undef, .undef, .undef, .undef, .undef, .undef, .undef, .undef, .undef, .undef, .undef, .undef, .undef, .undef, .undef, .undef, .undef, .undef, .undef, .undef, .undef, .undef, .undef, .undef, .undef, .undef, .undef, .undef, .undef, .undef, .undef, .undef, .undef, .undef, .undef, .undef, .undef, .undef, .undef, .undef, .undef, .undef, .undef, .undef, .undef, .undef, .undef, .undef, .undef, .undef, .undef, .undef, .undef, .undef, .undef, .undef, .undef, .undef, .undef, .undef, .undef, .undef, .undef, .undef, .undef, .undef, .undef, .undef, .undef, .undef, .undef, .undef, .undef, .undef, .undef, .undef, .undef, .undef, .undef, .undef, .undef, .undef, .undef, .undef, .undef], loc := locOf [.row 0 true 127 v4, .row 0 true 5 v5, .row 0 true 5 v6, .row 0 true 127 v7], nx := 4 }
noncomputable def laws_FnExactLcpBeside_l1 (v0 : List Int) (v1 : List Int) (v2 : Bool) (v3 : List (Int × Int × Int)) (v4 : List (Int × Int × Int)) : Option (Bool) := Lw laws_FnExactLcpBeside.c (finish laws_FnExactLcpBeside.c (fiOf (GT tab) Try.f7 laws_FnExactLcpBeside.ms) (decRes tab laws_FnExactLcpBeside.rs)) ((loops laws_FnExactLcpBeside.c.cuts 1000 laws_FnExactLcpBeside.b []).getD 1 []) { slots := [.vs false 5 v0, .vs false 5 v1, .undef, .undef, .undef, .sl 0 0, .bool v2, .undef, .undef, .sl 1 0, .undef, .undef, .undef, .undef, .undef, .undef, .undef, .undef, .undef, .undef, .undef, .undef, .undef, .undef, .undef, .undef, .undef, .undef, .undef, .undef, .undef, .undef, .undef, .undef, .undef, .undef, .undef, .undef, .undef, .undef, .undef, .undef, .undef, .undef, .undef, .undef, .undef, .undef, .undef, .undef, .undef, .undef, .undef, .undef, .undef, .undef, .undef, .undef, .undef, .undef, .undef, .undef, .undef, .undef, .undef, .undef, .undef, .undef, .undef, .undef, .undef, .undef, .undef, .undef, .undef, .undef, .undef, .undef, .undef, .undef, .undef, .undef, .undef, .undef, .undef, .undef, .undef, .undef, .undef, .undef, .undef, .undef, .undef, .undef, .undef, .undef, .undef, .undef, .undef, .undef, .undef, .undef, .undef, .undef, .undef, .undef, .undef, .undef, .undef, .undef, .undef, .undef, .undef, .undef], loc := locOf [.row 0 true 127 v3, .row 0 true 127 v4], nx := 2 }
noncomputable def laws_FnExactLcpBeside_l2 (v0 : Int) (v1 : List (Int × Int × Int)) : Option (Bool) := Lw laws_FnExactLcpBeside.c (finish laws_FnExactLcpBeside.c (fiOf (GT tab) Try.f7 laws_FnExactLcpBeside.ms) (decRes tab laws_FnExactLcpBeside.rs)) ((loops laws_FnExactLcpBeside.c.cuts 1000 laws_FnExactLcpBeside.b []).getD 2 []) { slots := [.undef, .undef, .undef, .undef, .undef, .undef, .undef, .undef, .undef, .sl 0 0, .undef, .undef, .int .i64 v0, .undef, .undef, .undef, .undef, .undef, .undef, .undef, .undef, .undef, .undef, .undef, .undef, .undef, .undef, .undef, .undef, .undef, .undef, .undef, .undef, .undef, .undef, .undef, .undef, .undef, .undef, .undef, .undef, .undef, .undef, .undef, .undef, .undef, .undef, .undef, .undef, .undef, .undef, .undef, .undef, .undef, .undef, .undef, .undef, .undef, .undef, .undef, .undef, .undef, .undef, .undef, .undef, .undef, .undef, .undef, .undef, .undef, .undef, .undef, .undef, .undef, .undef, .undef, .undef, .undef, .undef, .undef, .undef, .undef, .undef, .undef, .undef, .undef, .undef, .undef, .undef, .undef, .undef, .undef, .undef, .undef, .undef, .undef, .undef, .undef, .undef, .undef, .undef, .undef, .undef, .undef, .undef, .undef, .undef, .undef, .undef, .undef, .undef, .undef, .undef, .undef], loc := locOf [.row 0 true 127 v1], nx := 1 }
theorem laws_FnExactLcpBeside.eq (x0 : List Int) (x1 : List Int) : laws_FnExactLcpBeside x0 x1 =
    bif decide ((x0.length : Int) > (1048576 : Int)) then
      some true
    else
      bif decide ((x1.length : Int) > (1048576 : Int)) then
        some true
      else
        (laws_toByteS x0).bind fun y1 =>
        (laws_toByteS x1).bind fun y2 =>
        (spec_LcpBeside y1 y2).bind fun y3 =>
        (laws_toByteS x0).bind fun y4 =>
        (laws_toByteS x1).bind fun y5 =>
        (impl_LcpBeside y4 y5).bind fun y6 =>
        (laws_eqCopyS y6.1 y3.1).bind fun y7 =>
        bif !y7 then
          some false
        else
          bif !(y6.2 == y3.2) then
            some false
          else
            laws_FnExactLcpBeside_l0 x0 x1 y3.2 y6.2 y3.1 y4 y5 y6.1 := by kernel_rfl
theorem laws_FnExactLcpBeside_l0.eq (v0 : List Int) (v1 : List Int) (v2 : Bool) (v3 : Bool) (v4 : List (Int × Int × Int)) (v5 : List Int) (v6 : List Int) (v7 : List (Int × Int × Int)) : laws_FnExactLcpBeside_l0 v0 v1 v2 v3 v4 v5 v6 v7 =
    (laws_toByteS v0).bind fun y1 =>
    (laws_eqByteS v5 y1).bind fun y2 =>
    bif !y2 then
      some false
    else
      (laws_toByteS v1).bind fun y3 =>
      (laws_eqByteS v6 y3).bind fun y4 =>
      bif !y4 then
        some false
      else
        (laws_markByteS v5 (1 : Int)).bind fun y5 =>
        (laws_markByteS v6 y5.1).bind fun y6 =>
        bif decide (y6.1 < (0 : Int)) then
          some false
        else
          (laws_eqCopyS v7 v4).bind fun y7 =>
          bif !y7 then
            some false
          else
            bif !(v3 == v2) then
              some false
            else
              laws_FnExactLcpBeside_l1 v0 v1 v2 v4 v7 := (Lw_eq tysOk (getG_con (laws_FnExactLcpBeside.gok _)) _ _).trans (by kernel_rfl)
theorem laws_FnExactLcpBeside_l1.eq (v0 : List Int) (v1 : List Int) (v2 : Bool) (v3 : List (Int × Int × Int)) (v4 : List (Int × Int × Int)) : laws_FnExactLcpBeside_l1 v0 v1 v2 v3 v4 =
    (laws_markCopyS v4 (1 : Int)).bind fun y1 =>
    (laws_heldCopyS y1.2 (1 : Int)).bind fun y2 =>
    bif decide (y2 < (0 : Int)) then
      some false
    else
      bif y2 != y1.1 then
        some false
      else
        (laws_toByteS v0).bind fun y3 =>
        (laws_toByteS v1).bind fun y4 =>
        (impl_LcpBeside y3 y4).bind fun y5 =>
        (laws_eqCopyS y5.1 v3).bind fun y6 =>
        bif !y6 then
          some false
        else
          bif !(y5.2 == v2) then
            some false
          else
            laws_FnExactLcpBeside_l2 y1.1 y1.2 := (Lw_eq tysOk (getG_con (laws_FnExactLcpBeside.gok _)) _ _).trans (by kernel_rfl)
theorem laws_FnExactLcpBeside_l2.eq (v0 : Int) (v1 : List (Int × Int × Int)) : laws_FnExactLcpBeside_l2 v0 v1 =
    (laws_heldCopyS v1 (1 : Int)).bind fun y1 =>
    bif decide (y1 < (0 : Int)) then
      some false
    else
      bif y1 != v0 then
        some false
      else
        some true := (Lw_eq tysOk (getG_con (laws_FnExactLcpBeside.gok _)) _ _).trans (by kernel_rfl)

end Go.Ev.W
