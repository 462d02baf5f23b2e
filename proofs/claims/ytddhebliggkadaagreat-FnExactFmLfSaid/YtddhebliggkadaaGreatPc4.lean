/- What functions of the program come to. -/
import Derived.Test.YtddhebliggkadaaGreatPcT
import Derived.Test.YtddhebliggkadaaGreatPc1
import Derived.Test.YtddhebliggkadaaGreatPc2
import Derived.Test.YtddhebliggkadaaGreatPc3
namespace Go.Ev.W
open Go.Ev Go.Proofs
set_option maxRecDepth 100000
set_option linter.unusedVariables false

/-! ### laws_FnExactFmLf: loop.example/g00688/laws.FnExactFmLf -/
def laws_FnExactFmLf.ms : List Mode := [.lend, .lend]
def laws_FnExactFmLf.as : List VSh := [.agg [.int .i64, .int .i64, .int .i64, .sl false false 3, .sl false false 49, .sl false false 3, .int .i64, .sl false false 126, .int .i64, .int .i64, .int .i64, .sl false false 126, .int .i64, .int .i64, .int .i64, .sl false false 126], .one (.b (.b (.b (.b (.int .i64)))))]
def laws_FnExactFmLf.rs : RSh := ⟨[.one (.b (.b (.b (.b (.bool)))))], [none, none]⟩
noncomputable def laws_FnExactFmLf.gs (δ : Type) : List (Nat × Callee (GT tab) δ) := [(26, calleeS tab impl_FmLf.ms impl_FmLf.as impl_FmLf.rs impl_FmLf.fn), (30, calleeS tab laws_szFm.ms laws_szFm.as laws_szFm.rs laws_szFm.fn), (31, calleeS tab spec_FmLf.ms spec_FmLf.as spec_FmLf.rs spec_FmLf.fn), (32, calleeS tab laws_toFm.ms laws_toFm.as laws_toFm.rs laws_toFm.fn), (33, calleeS tab laws_eqFm.ms laws_eqFm.as laws_eqFm.rs laws_eqFm.fn)]
theorem laws_FnExactFmLf.gok (δ : Type) : AllCon Tryz.prog tab (laws_FnExactFmLf.gs δ) := .cons impl_FmLf.con (.cons laws_szFm.con (.cons spec_FmLf.con (.cons laws_toFm.con (.cons laws_eqFm.con (.nil)))))
noncomputable def laws_FnExactFmLf.c : Ctx (GT tab) (KT tab) (ResT tab laws_FnExactFmLf.rs) := { X := XT tab, ty := tyOf tys, inner := fun _ => true, keep := keepOf 0 laws_FnExactFmLf.ms, cuts := [], live := liveOf [], G := getG (laws_FnExactFmLf.gs _) }
noncomputable def laws_FnExactFmLf.b : Code := bodyOf Tryz.f5
noncomputable def laws_FnExactFmLf (x0 : Int × Int × Int × (List Int) × (List (Int × (List Int))) × (List Int) × Int × (List Int) × Int × Int × Int × (List Int) × Int × Int × Int × (List Int)) (x1 : Int) : Option (Bool) := callW laws_FnExactFmLf.c (fiOf (GT tab) Tryz.f5 laws_FnExactFmLf.ms) laws_FnExactFmLf.b (decRes tab laws_FnExactFmLf.rs) (encArgs tab laws_FnExactFmLf.as (x0, x1))
theorem laws_FnExactFmLf.fok : FnOk Tryz.prog 5 Tryz.f5 laws_FnExactFmLf.ms laws_FnExactFmLf.b := ⟨Tryz.func5, by kernel_rfl, by kernel_rfl⟩
noncomputable def laws_FnExactFmLf.fn : Args tab laws_FnExactFmLf.as → Option (ResT tab laws_FnExactFmLf.rs) := fun x => laws_FnExactFmLf x.1 x.2
theorem laws_FnExactFmLf.con {δ : Type} : Con Tryz.prog (KT tab) 5 (calleeS (β := δ) tab laws_FnExactFmLf.ms laws_FnExactFmLf.as laws_FnExactFmLf.rs laws_FnExactFmLf.fn) := con_shape (c := laws_FnExactFmLf.c) mixed tysOk (getG_con (laws_FnExactFmLf.gok _)) laws_FnExactFmLf.fok rfl rfl (fun _ => rfl)
theorem laws_FnExactFmLf.eq (x0 : Int × Int × Int × (List Int) × (List (Int × (List Int))) × (List Int) × Int × (List Int) × Int × Int × Int × (List Int) × Int × Int × Int × (List Int)) (x1 : Int) : laws_FnExactFmLf x0 x1 =
    (laws_szFm (x0.1, x0.2.1, x0.2.2.1, x0.2.2.2.1, x0.2.2.2.2.1, x0.2.2.2.2.2.1, x0.2.2.2.2.2.2.1, x0.2.2.2.2.2.2.2.1, x0.2.2.2.2.2.2.2.2.1, x0.2.2.2.2.2.2.2.2.2.1, x0.2.2.2.2.2.2.2.2.2.2.1, x0.2.2.2.2.2.2.2.2.2.2.2.1, x0.2.2.2.2.2.2.2.2.2.2.2.2.1, x0.2.2.2.2.2.2.2.2.2.2.2.2.2.1, x0.2.2.2.2.2.2.2.2.2.2.2.2.2.2.1, x0.2.2.2.2.2.2.2.2.2.2.2.2.2.2.2) (1048576 : Int)).bind fun y1 =>
    bif decide (y1 < (0 : Int)) then
      some true
    else
      (laws_toFm (x0.1, x0.2.1, x0.2.2.1, x0.2.2.2.1, x0.2.2.2.2.1, x0.2.2.2.2.2.1, x0.2.2.2.2.2.2.1, x0.2.2.2.2.2.2.2.1, x0.2.2.2.2.2.2.2.2.1, x0.2.2.2.2.2.2.2.2.2.1, x0.2.2.2.2.2.2.2.2.2.2.1, x0.2.2.2.2.2.2.2.2.2.2.2.1, x0.2.2.2.2.2.2.2.2.2.2.2.2.1, x0.2.2.2.2.2.2.2.2.2.2.2.2.2.1, x0.2.2.2.2.2.2.2.2.2.2.2.2.2.2.1, x0.2.2.2.2.2.2.2.2.2.2.2.2.2.2.2)).bind fun y2 =>
      (spec_FmLf (y2.1, y2.2.1, y2.2.2.1, y2.2.2.2.1, y2.2.2.2.2.1, y2.2.2.2.2.2.1, y2.2.2.2.2.2.2.1, y2.2.2.2.2.2.2.2.1, y2.2.2.2.2.2.2.2.2.1, y2.2.2.2.2.2.2.2.2.2.1, y2.2.2.2.2.2.2.2.2.2.2.1, y2.2.2.2.2.2.2.2.2.2.2.2.1, y2.2.2.2.2.2.2.2.2.2.2.2.2.1, y2.2.2.2.2.2.2.2.2.2.2.2.2.2.1, y2.2.2.2.2.2.2.2.2.2.2.2.2.2.2.1, y2.2.2.2.2.2.2.2.2.2.2.2.2.2.2.2) x1).bind fun y3 =>
      (laws_toFm (x0.1, x0.2.1, x0.2.2.1, x0.2.2.2.1, x0.2.2.2.2.1, x0.2.2.2.2.2.1, x0.2.2.2.2.2.2.1, x0.2.2.2.2.2.2.2.1, x0.2.2.2.2.2.2.2.2.1, x0.2.2.2.2.2.2.2.2.2.1, x0.2.2.2.2.2.2.2.2.2.2.1, x0.2.2.2.2.2.2.2.2.2.2.2.1, x0.2.2.2.2.2.2.2.2.2.2.2.2.1, x0.2.2.2.2.2.2.2.2.2.2.2.2.2.1, x0.2.2.2.2.2.2.2.2.2.2.2.2.2.2.1, x0.2.2.2.2.2.2.2.2.2.2.2.2.2.2.2)).bind fun y4 =>
      (impl_FmLf (y4.1, y4.2.1, y4.2.2.1, y4.2.2.2.1, y4.2.2.2.2.1, y4.2.2.2.2.2.1, y4.2.2.2.2.2.2.1, y4.2.2.2.2.2.2.2.1, y4.2.2.2.2.2.2.2.2.1, y4.2.2.2.2.2.2.2.2.2.1, y4.2.2.2.2.2.2.2.2.2.2.1, y4.2.2.2.2.2.2.2.2.2.2.2.1, y4.2.2.2.2.2.2.2.2.2.2.2.2.1, y4.2.2.2.2.2.2.2.2.2.2.2.2.2.1, y4.2.2.2.2.2.2.2.2.2.2.2.2.2.2.1, y4.2.2.2.2.2.2.2.2.2.2.2.2.2.2.2) x1).bind fun y5 =>
      bif y5 != y3 then
        some false
      else
        (laws_toFm (x0.1, x0.2.1, x0.2.2.1, x0.2.2.2.1, x0.2.2.2.2.1, x0.2.2.2.2.2.1, x0.2.2.2.2.2.2.1, x0.2.2.2.2.2.2.2.1, x0.2.2.2.2.2.2.2.2.1, x0.2.2.2.2.2.2.2.2.2.1, x0.2.2.2.2.2.2.2.2.2.2.1, x0.2.2.2.2.2.2.2.2.2.2.2.1, x0.2.2.2.2.2.2.2.2.2.2.2.2.1, x0.2.2.2.2.2.2.2.2.2.2.2.2.2.1, x0.2.2.2.2.2.2.2.2.2.2.2.2.2.2.1, x0.2.2.2.2.2.2.2.2.2.2.2.2.2.2.2)).bind fun y6 =>
        (laws_eqFm (y4.1, y4.2.1, y4.2.2.1, y4.2.2.2.1, y4.2.2.2.2.1, y4.2.2.2.2.2.1, y4.2.2.2.2.2.2.1, y4.2.2.2.2.2.2.2.1, y4.2.2.2.2.2.2.2.2.1, y4.2.2.2.2.2.2.2.2.2.1, y4.2.2.2.2.2.2.2.2.2.2.1, y4.2.2.2.2.2.2.2.2.2.2.2.1, y4.2.2.2.2.2.2.2.2.2.2.2.2.1, y4.2.2.2.2.2.2.2.2.2.2.2.2.2.1, y4.2.2.2.2.2.2.2.2.2.2.2.2.2.2.1, y4.2.2.2.2.2.2.2.2.2.2.2.2.2.2.2) (y6.1, y6.2.1, y6.2.2.1, y6.2.2.2.1, y6.2.2.2.2.1, y6.2.2.2.2.2.1, y6.2.2.2.2.2.2.1, y6.2.2.2.2.2.2.2.1, y6.2.2.2.2.2.2.2.2.1, y6.2.2.2.2.2.2.2.2.2.1, y6.2.2.2.2.2.2.2.2.2.2.1, y6.2.2.2.2.2.2.2.2.2.2.2.1, y6.2.2.2.2.2.2.2.2.2.2.2.2.1, y6.2.2.2.2.2.2.2.2.2.2.2.2.2.1, y6.2.2.2.2.2.2.2.2.2.2.2.2.2.2.1, y6.2.2.2.2.2.2.2.2.2.2.2.2.2.2.2)).bind fun y7 =>
        bif !y7 then
          some false
        else
          some true := by kernel_rfl

end Go.Ev.W
