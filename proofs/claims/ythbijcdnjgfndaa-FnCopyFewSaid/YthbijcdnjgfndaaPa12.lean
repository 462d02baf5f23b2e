/- What functions of the program come to. -/
import Derived.Test.YthbijcdnjgfndaaPaT
import Derived.Test.YthbijcdnjgfndaaPa2
namespace Go.Ev.W
open Go.Ev Go.Proofs
set_option maxRecDepth 100000
set_option linter.unusedVariables false

/-! ### spec_CopyDo: loop.example/g00688/spec.CopyDo -/
def spec_CopyDo.ms : List Mode := [.lend, .lend]
def spec_CopyDo.as : List VSh := [.one (.b (.b (.b (.b (.sl false false 3))))), .one (.b (.b (.b (.b (.sl false false 61)))))]
def spec_CopyDo.rs : RSh := ⟨[.one (.b (.b (.b (.b (.sl true true 3))))), .one (.b (.b (.b (.b (.bool)))))], [none, none]⟩
noncomputable def spec_CopyDo.gs (δ : Type) : List (Nat × Callee (GT tab) δ) := [(62, calleeS tab spec_l15Right.ms spec_l15Right.as spec_l15Right.rs spec_l15Right.fn)]
theorem spec_CopyDo.gok (δ : Type) : AllCon Try.prog tab (spec_CopyDo.gs δ) := .cons spec_l15Right.con (.nil)
noncomputable def spec_CopyDo.c : Ctx (GT tab) (KT tab) (ResT tab spec_CopyDo.rs) := { X := XT tab, ty := tyOf tys, inner := fun _ => true, keep := keepOf 0 spec_CopyDo.ms, cuts := [3], live := liveOf [(3, [0, 1]), (5, [0, 1, 6, 7])], G := getG (spec_CopyDo.gs _) }
noncomputable def spec_CopyDo.b : Code := bodyOf Try.f28
noncomputable def spec_CopyDo (x0 : List Int) (x1 : List (Int × Int × Int)) : Option ((List Int) × Bool) := callW spec_CopyDo.c (fiOf (GT tab) Try.f28 spec_CopyDo.ms) spec_CopyDo.b (decRes tab spec_CopyDo.rs) (encArgs tab spec_CopyDo.as (x0, x1))
theorem spec_CopyDo.fok : FnOk Try.prog 28 Try.f28 spec_CopyDo.ms spec_CopyDo.b := ⟨Try.func28, by kernel_rfl, by kernel_rfl⟩
noncomputable def spec_CopyDo.fn : Args tab spec_CopyDo.as → Option (ResT tab spec_CopyDo.rs) := fun x => spec_CopyDo x.1 x.2
theorem spec_CopyDo.con {δ : Type} : Con Try.prog (KT tab) 28 (calleeS (β := δ) tab spec_CopyDo.ms spec_CopyDo.as spec_CopyDo.rs spec_CopyDo.fn) := con_shape (c := spec_CopyDo.c) mixed tysOk (getG_con (spec_CopyDo.gok _)) spec_CopyDo.fok rfl rfl (fun _ => rfl)
noncomputable def spec_CopyDo_l0 (v0 : List Int) (v1 : List (Int × Int × Int)) : Option ((List Int) × Bool) := Lw spec_CopyDo.c (finish spec_CopyDo.c (fiOf (GT tab) Try.f28 spec_CopyDo.ms) (decRes tab spec_CopyDo.rs)) ((loops spec_CopyDo.c.cuts 1000 spec_CopyDo.b []).getD 0 []) { slots := [.vs false 3 v0, .vs false 61 v1, .undef, .undef, .undef, .undef, .undef, .undef, .undef, .undef, .undef, .undef, .undef, .undef, .undef, .undef, .undef, .undef, .undef, .undef, .undef, .undef, .undef, .undef, .undef, .undef, .undef, .undef, .undef, .undef, .undef, .undef, .undef, .undef, .undef, .undef, .undef, .undef, .undef, .undef, .undef, .undef, .undef, .undef, .undef, .undef, .undef, .undef, .undef, .undef, .undef, .undef, .undef, .undef, .undef, .undef, .undef, .undef, .undef, .undef, .undef, .undef, .undef, .undef, .undef, .undef, .undef, .undef, .undef, .undef, .undef, .undef, .undef, .undef, .undef, .undef, .undef, .undef, .undef, .undef, .undef], loc := locOf [], nx := 0 }
noncomputable def spec_CopyDo_l1 (v0 : List Int) (v1 : List (Int × Int × Int)) (v2 : Int) (v3 : List Int) : Option ((List Int) × Bool) := Lw spec_CopyDo.c (finish spec_CopyDo.c (fiOf (GT tab) Try.f28 spec_CopyDo.ms) (decRes tab spec_CopyDo.rs)) ((loops spec_CopyDo.c.cuts 1000 spec_CopyDo.b []).getD 1 []) { slots := [.vs false 3 v0, .vs false 61 v1, .undef, .undef, .undef, .undef, .sl 0 0, .int .i64 v2, .undef, .undef, .undef, .undef, .undef, .undef, .undef, .undef, .undef, .undef, .undef, .undef, .undef, .undef, .undef, .undef, .undef, .undef, .undef, .undef, .undef, .undef, .undef, .undef, .undef, .undef, .undef, .undef, .undef, .undef, .undef, .undef, .undef, .undef, .undef, .undef, .undef, .undef, .undef, .undef, .undef, .undef, .undef, .undef, .undef, .undef, .undef, .undef, .undef, .undef, .undef, .undef, .undef, .undef, .undef, .undef, .undef, .undef, .undef, .undef, .undef, .undef, .undef, .undef, .undef, .undef, .undef, .undef, .undef, .undef, .undef, .undef, .undef], loc := locOf [.row 0 true 3 v3], nx := 1 }
theorem spec_CopyDo.eq (x0 : List Int) (x1 : List (Int × Int × Int)) : spec_CopyDo x0 x1 =
    (spec_l15Right x0).bind fun y1 =>
    bif !y1 then
      some (([] : List Int), false)
    else
      bif decide ((x1.length : Int) > (301 : Int)) then
        some (([] : List Int), false)
      else
        spec_CopyDo_l0 x0 x1 := by kernel_rfl
theorem spec_CopyDo_l0.eq (v0 : List Int) (v1 : List (Int × Int × Int)) : spec_CopyDo_l0 v0 v1 =
    spec_CopyDo_l1 v0 v1 (0 : Int) ([] : List Int) := (Lw_eq tysOk (getG_con (spec_CopyDo.gok _)) _ _).trans (by kernel_rfl)
theorem spec_CopyDo_l1.eq (v0 : List Int) (v1 : List (Int × Int × Int)) (v2 : Int) (v3 : List Int) : spec_CopyDo_l1 v0 v1 v2 v3 =
    bif decide (v2 < (v1.length : Int)) then
      (at? v1 v2).bind fun y1 =>
      bif decide (y1.2.1 < (0 : Int)) then
        some (([] : List Int), false)
      else
        bif decide (y1.1 < (0 : Int)) then
          some (([] : List Int), false)
        else
          bif decide (y1.1 > (v0.length : Int)) then
            some (([] : List Int), false)
          else
            bif decide (y1.2.1 > IntKind.i64.wrap ((v0.length : Int) - y1.1)) then
              some (([] : List Int), false)
            else
              bif decide (IntKind.i64.wrap ((IntKind.i64.wrap ((v3.length : Int) + y1.2.1)) + (1 : Int)) > (301 : Int)) then
                some (([] : List Int), false)
              else
                bif decide (0 ≤ IntKind.i64.wrap (y1.1 + y1.2.1) ∧ IntKind.i64.wrap (y1.1 + y1.2.1) ≤ ((v0.length : Nat) : Int)) then
                  bif decide (0 ≤ y1.1 ∧ y1.1 ≤ (((IntKind.i64.wrap (y1.1 + y1.2.1)).toNat : Nat) : Int)) then
                    bif decide ((v3.length + ((v0.take ((IntKind.i64.wrap (y1.1 + y1.2.1)).toNat)).drop y1.1.toNat).length) * 8 ≤ 140737488355328) then
                      bif decide (((v3 ++ ((v0.take ((IntKind.i64.wrap (y1.1 + y1.2.1)).toNat)).drop y1.1.toNat)).length + ([y1.2.2] : List Int).length) * 8 ≤ 140737488355328) then
                        spec_CopyDo_l1 v0 v1 (IntKind.i64.wrap (v2 + (1 : Int))) ((v3 ++ ((v0.take ((IntKind.i64.wrap (y1.1 + y1.2.1)).toNat)).drop y1.1.toNat)) ++ ([y1.2.2] : List Int))
                      else
                        none
                    else
                      none
                  else
                    none
                else
                  none
    else
      (spec_l15Right v3).bind fun y2 =>
      bif !y2 then
        some (([] : List Int), false)
      else
        some (v3, true) := (Lw_eq tysOk (getG_con (spec_CopyDo.gok _)) _ _).trans (by kernel_rfl)

end Go.Ev.W
