/- What functions of the program come to. -/
import Derived.Test.YthbijcdnjgfndaaPaT
import Derived.Test.YthbijcdnjgfndaaPa21
import Derived.Test.YthbijcdnjgfndaaPa22
import Derived.Test.YthbijcdnjgfndaaPa6
import Derived.Test.YthbijcdnjgfndaaPa9
namespace Go.Ev.W
open Go.Ev Go.Proofs
set_option maxRecDepth 100000
set_option linter.unusedVariables false

/-! ### spec_DrawDeltas: loop.example/g00688/spec.DrawDeltas -/
def spec_DrawDeltas.ms : List Mode := [.lend]
def spec_DrawDeltas.as : List VSh := [.one (.b (.b (.b (.b (.sl false false 5)))))]
def spec_DrawDeltas.rs : RSh := ⟨[.one (.b (.b (.b (.b (.sl true true 3)))))], [none]⟩
noncomputable def spec_DrawDeltas.gs (δ : Type) : List (Nat × Callee (GT tab) δ) := [(70, calleeS tab spec_l01Open.ms spec_l01Open.as spec_l01Open.rs spec_l01Open.fn), (71, calleeS tab spec_l01Cur_badRow.ms spec_l01Cur_badRow.as spec_l01Cur_badRow.rs spec_l01Cur_badRow.fn)]
theorem spec_DrawDeltas.gok (δ : Type) : AllCon Try.prog tab (spec_DrawDeltas.gs δ) := .cons spec_l01Open.con (.cons spec_l01Cur_badRow.con (.nil))
noncomputable def spec_DrawDeltas.c : Ctx (GT tab) (KT tab) (ResT tab spec_DrawDeltas.rs) := { X := XT tab, ty := tyOf tys, inner := fun _ => true, keep := keepOf 0 spec_DrawDeltas.ms, cuts := [], live := liveOf [], G := getG (spec_DrawDeltas.gs _) }
noncomputable def spec_DrawDeltas.b : Code := bodyOf Try.f35
noncomputable def spec_DrawDeltas (x0 : List Int) : Option (List Int) := callW spec_DrawDeltas.c (fiOf (GT tab) Try.f35 spec_DrawDeltas.ms) spec_DrawDeltas.b (decRes tab spec_DrawDeltas.rs) (encArgs tab spec_DrawDeltas.as x0)
theorem spec_DrawDeltas.fok : FnOk Try.prog 35 Try.f35 spec_DrawDeltas.ms spec_DrawDeltas.b := ⟨Try.func35, by kernel_rfl, by kernel_rfl⟩
noncomputable def spec_DrawDeltas.fn : Args tab spec_DrawDeltas.as → Option (ResT tab spec_DrawDeltas.rs) := fun x => spec_DrawDeltas x
theorem spec_DrawDeltas.con {δ : Type} : Con Try.prog (KT tab) 35 (calleeS (β := δ) tab spec_DrawDeltas.ms spec_DrawDeltas.as spec_DrawDeltas.rs spec_DrawDeltas.fn) := con_shape (c := spec_DrawDeltas.c) mixed tysOk (getG_con (spec_DrawDeltas.gok _)) spec_DrawDeltas.fok rfl rfl (fun _ => rfl)
theorem spec_DrawDeltas.eq (x0 : List Int) : spec_DrawDeltas x0 =
    (spec_l01Open x0).bind fun y1 =>
    (spec_l01Cur_badRow (y1.1, y1.2.1, y1.2.2)).bind fun y2 =>
    some y2.1 := by kernel_rfl

/-! ### laws_FnDeltas: loop.example/g00688/laws.FnDeltas -/
def laws_FnDeltas.ms : List Mode := [.lend]
def laws_FnDeltas.as : List VSh := [.one (.b (.b (.b (.b (.sl false false 5)))))]
def laws_FnDeltas.rs : RSh := ⟨[.one (.b (.b (.b (.b (.bool)))))], [none]⟩
noncomputable def laws_FnDeltas.gs (δ : Type) : List (Nat × Callee (GT tab) δ) := [(17, calleeS tab impl_Undelta.ms impl_Undelta.as impl_Undelta.rs impl_Undelta.fn), (21, calleeS tab spec_Deltas.ms spec_Deltas.as spec_Deltas.rs spec_Deltas.fn), (22, calleeS tab impl_Deltas.ms impl_Deltas.as impl_Deltas.rs impl_Deltas.fn), (34, calleeS tab laws_big.ms laws_big.as laws_big.rs laws_big.fn), (35, calleeS tab spec_DrawDeltas.ms spec_DrawDeltas.as spec_DrawDeltas.rs spec_DrawDeltas.fn), (36, calleeS tab laws_same.ms laws_same.as laws_same.rs laws_same.fn)]
theorem laws_FnDeltas.gok (δ : Type) : AllCon Try.prog tab (laws_FnDeltas.gs δ) := .cons impl_Undelta.con (.cons spec_Deltas.con (.cons impl_Deltas.con (.cons laws_big.con (.cons spec_DrawDeltas.con (.cons laws_same.con (.nil))))))
noncomputable def laws_FnDeltas.c : Ctx (GT tab) (KT tab) (ResT tab laws_FnDeltas.rs) := { X := XT tab, ty := tyOf tys, inner := fun _ => true, keep := keepOf 0 laws_FnDeltas.ms, cuts := [], live := liveOf [], G := getG (laws_FnDeltas.gs _) }
noncomputable def laws_FnDeltas.b : Code := bodyOf Try.f8
noncomputable def laws_FnDeltas (x0 : List Int) : Option (Bool) := callW laws_FnDeltas.c (fiOf (GT tab) Try.f8 laws_FnDeltas.ms) laws_FnDeltas.b (decRes tab laws_FnDeltas.rs) (encArgs tab laws_FnDeltas.as x0)
theorem laws_FnDeltas.fok : FnOk Try.prog 8 Try.f8 laws_FnDeltas.ms laws_FnDeltas.b := ⟨Try.func8, by kernel_rfl, by kernel_rfl⟩
noncomputable def laws_FnDeltas.fn : Args tab laws_FnDeltas.as → Option (ResT tab laws_FnDeltas.rs) := fun x => laws_FnDeltas x
theorem laws_FnDeltas.con {δ : Type} : Con Try.prog (KT tab) 8 (calleeS (β := δ) tab laws_FnDeltas.ms laws_FnDeltas.as laws_FnDeltas.rs laws_FnDeltas.fn) := con_shape (c := laws_FnDeltas.c) mixed tysOk (getG_con (laws_FnDeltas.gok _)) laws_FnDeltas.fok rfl rfl (fun _ => rfl)
theorem laws_FnDeltas.eq (x0 : List Int) : laws_FnDeltas x0 =
    (laws_big x0).bind fun y1 =>
    bif y1 then
      some true
    else
      (spec_DrawDeltas x0).bind fun y2 =>
      (spec_Deltas y2).bind fun y3 =>
      (impl_Deltas y2).bind fun y4 =>
      bif !(y4.2 == y3.2) then
        some (y4.2 == y3.2)
      else
        bif !y4.2 then
          some (y4.2 == y3.2)
        else
          (impl_Undelta y4.1).bind fun y5 =>
          bif y5.2 then
            (laws_same y5.1 y2).bind fun y6 =>
            some y6
          else
            some false := by kernel_rfl

end Go.Ev.W
