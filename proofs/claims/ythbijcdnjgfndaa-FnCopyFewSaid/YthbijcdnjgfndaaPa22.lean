/- What functions of the program come to. -/
import Derived.Test.YthbijcdnjgfndaaPaT
import Derived.Test.YthbijcdnjgfndaaPa21
namespace Go.Ev.W
open Go.Ev Go.Proofs
set_option maxRecDepth 100000
set_option linter.unusedVariables false

/-! ### spec_l01Cur_badRow: (*loop.example/g00688/spec.l01Cur).badRow -/
def spec_l01Cur_badRow.ms : List Mode := [.keep]
def spec_l01Cur_badRow.as : List VSh := [.one (.ptr true 108 [.b (.b (.b (.sl false false 5))), .b (.b (.b (.int .i64))), .b (.b (.b (.int .i64)))])]
def spec_l01Cur_badRow.rs : RSh := ⟨[.one (.b (.b (.b (.b (.sl true true 3)))))], [some (.one (.ptr true 108 [.b (.b (.b (.sl false false 5))), .b (.b (.b (.int .i64))), .b (.b (.b (.int .i64)))]))]⟩
noncomputable def spec_l01Cur_badRow.gs (δ : Type) : List (Nat × Callee (GT tab) δ) := [(81, calleeS tab spec_l01Cur_rows.ms spec_l01Cur_rows.as spec_l01Cur_rows.rs spec_l01Cur_rows.fn), (96, calleeS tab spec_l01Cur_pick.ms spec_l01Cur_pick.as spec_l01Cur_pick.rs spec_l01Cur_pick.fn), (97, calleeS tab spec_l01Cur_raw.ms spec_l01Cur_raw.as spec_l01Cur_raw.rs spec_l01Cur_raw.fn)]
theorem spec_l01Cur_badRow.gok (δ : Type) : AllCon Try.prog tab (spec_l01Cur_badRow.gs δ) := .cons spec_l01Cur_rows.con (.cons spec_l01Cur_pick.con (.cons spec_l01Cur_raw.con (.nil)))
noncomputable def spec_l01Cur_badRow.c : Ctx (GT tab) (KT tab) (ResT tab spec_l01Cur_badRow.rs) := { X := XT tab, ty := tyOf tys, inner := fun _ => true, keep := keepOf 0 spec_l01Cur_badRow.ms, cuts := [], live := liveOf [], G := getG (spec_l01Cur_badRow.gs _) }
noncomputable def spec_l01Cur_badRow.b : Code := bodyOf Try.f71
noncomputable def spec_l01Cur_badRow (x0 : (List Int) × Int × Int) : Option ((List Int) × ((List Int) × Int × Int)) := callW spec_l01Cur_badRow.c (fiOf (GT tab) Try.f71 spec_l01Cur_badRow.ms) spec_l01Cur_badRow.b (decRes tab spec_l01Cur_badRow.rs) (encArgs tab spec_l01Cur_badRow.as x0)
theorem spec_l01Cur_badRow.fok : FnOk Try.prog 71 Try.f71 spec_l01Cur_badRow.ms spec_l01Cur_badRow.b := ⟨Try.func71, by kernel_rfl, by kernel_rfl⟩
noncomputable def spec_l01Cur_badRow.fn : Args tab spec_l01Cur_badRow.as → Option (ResT tab spec_l01Cur_badRow.rs) := fun x => spec_l01Cur_badRow x
theorem spec_l01Cur_badRow.con {δ : Type} : Con Try.prog (KT tab) 71 (calleeS (β := δ) tab spec_l01Cur_badRow.ms spec_l01Cur_badRow.as spec_l01Cur_badRow.rs spec_l01Cur_badRow.fn) := con_shape (c := spec_l01Cur_badRow.c) mixed tysOk (getG_con (spec_l01Cur_badRow.gok _)) spec_l01Cur_badRow.fok rfl rfl (fun _ => rfl)
theorem spec_l01Cur_badRow.eq (x0 : (List Int) × Int × Int) : spec_l01Cur_badRow x0 =
    (spec_l01Cur_rows (x0.1, x0.2.1, x0.2.2)).bind fun y1 =>
    (spec_l01Cur_pick (y1.2.2.1, y1.2.2.2.1, y1.2.2.2.2) (9 : Int)).bind fun y2 =>
    bif y2.1 == (0 : Int) then
      (spec_l01Cur_raw (y2.2.1, y2.2.2.1, y2.2.2.2)).bind fun y3 =>
      (spec_l01Cur_pick (y3.2.1, y3.2.2.1, y3.2.2.2) (3 : Int)).bind fun y4 =>
      (at? ([y3.1, (1000000 : Int), (-1000001 : Int)] : List Int) y4.1).bind fun y5 =>
      ([y3.1, (1000000 : Int), (-1000001 : Int)] : List Int)[y4.1.toNat]?.bind fun y6 =>
      bif decide ((y1.1.length + ([y6] : List Int).length) * 8 ≤ 140737488355328) then
        some (y1.1 ++ ([y6] : List Int), (y4.2.1, y4.2.2.1, y4.2.2.2))
      else
        none
    else
      bif y2.1 == (1 : Int) then
        bif decide ((y1.1.length + ([(-1000000 : Int), (1000000 : Int)] : List Int).length) * 8 ≤ 140737488355328) then
          some (y1.1 ++ ([(-1000000 : Int), (1000000 : Int)] : List Int), (y2.2.1, y2.2.2.1, y2.2.2.2))
        else
          none
      else
        some (y1.1, (y2.2.1, y2.2.2.1, y2.2.2.2)) := by kernel_rfl

end Go.Ev.W
