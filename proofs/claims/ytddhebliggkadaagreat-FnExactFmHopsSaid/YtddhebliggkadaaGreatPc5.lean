/- What functions of the program come to. -/
import Derived.Test.YtddhebliggkadaaGreatPcT
import Derived.Test.YtddhebliggkadaaGreatPc1
namespace Go.Ev.W
open Go.Ev Go.Proofs
set_option maxRecDepth 100000
set_option linter.unusedVariables false

/-! ### spec_FmSa: loop.example/g00688/spec.FmSa -/
def spec_FmSa.ms : List Mode := [.lend, .lend]
def spec_FmSa.as : List VSh := [.agg [.int .i64, .int .i64, .int .i64, .sl false false 3, .sl false false 30, .sl false false 3, .int .i64, .sl false false 126, .int .i64, .int .i64, .int .i64, .sl false false 126, .int .i64, .int .i64, .int .i64, .sl false false 126], .one (.b (.b (.b (.b (.int .i64)))))]
def spec_FmSa.rs : RSh := ⟨[.one (.b (.b (.b (.b (.int .i64)))))], [none, none]⟩
noncomputable def spec_FmSa.gs (δ : Type) : List (Nat × Callee (GT tab) δ) := [(60, calleeS tab spec_l09Text.ms spec_l09Text.as spec_l09Text.rs spec_l09Text.fn), (65, calleeS tab spec_SuffixRows.ms spec_SuffixRows.as spec_SuffixRows.rs spec_SuffixRows.fn)]
theorem spec_FmSa.gok (δ : Type) : AllCon Tryz.prog tab (spec_FmSa.gs δ) := .cons spec_l09Text.con (.cons spec_SuffixRows.con (.nil))
noncomputable def spec_FmSa.c : Ctx (GT tab) (KT tab) (ResT tab spec_FmSa.rs) := { X := XT tab, ty := tyOf tys, inner := fun _ => true, keep := keepOf 0 spec_FmSa.ms, cuts := [], live := liveOf [], G := getG (spec_FmSa.gs _) }
noncomputable def spec_FmSa.b : Code := bodyOf Tryz.f23
noncomputable def spec_FmSa (x0 : Int × Int × Int × (List Int) × (List (Int × (List Int))) × (List Int) × Int × (List Int) × Int × Int × Int × (List Int) × Int × Int × Int × (List Int)) (x1 : Int) : Option (Int) := callW spec_FmSa.c (fiOf (GT tab) Tryz.f23 spec_FmSa.ms) spec_FmSa.b (decRes tab spec_FmSa.rs) (encArgs tab spec_FmSa.as (x0, x1))
theorem spec_FmSa.fok : FnOk Tryz.prog 23 Tryz.f23 spec_FmSa.ms spec_FmSa.b := ⟨Tryz.func23, by kernel_rfl, by kernel_rfl⟩
noncomputable def spec_FmSa.fn : Args tab spec_FmSa.as → Option (ResT tab spec_FmSa.rs) := fun x => spec_FmSa x.1 x.2
theorem spec_FmSa.con {δ : Type} : Con Tryz.prog (KT tab) 23 (calleeS (β := δ) tab spec_FmSa.ms spec_FmSa.as spec_FmSa.rs spec_FmSa.fn) := con_shape (c := spec_FmSa.c) mixed tysOk (getG_con (spec_FmSa.gok _)) spec_FmSa.fok rfl rfl (fun _ => rfl)
theorem spec_FmSa.eq (x0 : Int × Int × Int × (List Int) × (List (Int × (List Int))) × (List Int) × Int × (List Int) × Int × Int × Int × (List Int) × Int × Int × Int × (List Int)) (x1 : Int) : spec_FmSa x0 x1 =
    (spec_l09Text (x0.1, x0.2.1, x0.2.2.1, x0.2.2.2.1, x0.2.2.2.2.1, x0.2.2.2.2.2.1, x0.2.2.2.2.2.2.1, x0.2.2.2.2.2.2.2.1, x0.2.2.2.2.2.2.2.2.1, x0.2.2.2.2.2.2.2.2.2.1, x0.2.2.2.2.2.2.2.2.2.2.1, x0.2.2.2.2.2.2.2.2.2.2.2.1, x0.2.2.2.2.2.2.2.2.2.2.2.2.1, x0.2.2.2.2.2.2.2.2.2.2.2.2.2.1, x0.2.2.2.2.2.2.2.2.2.2.2.2.2.2.1, x0.2.2.2.2.2.2.2.2.2.2.2.2.2.2.2)).bind fun y1 =>
    bif !y1.2 then
      some (-1 : Int)
    else
      bif decide (x1 < (0 : Int)) then
        some (-1 : Int)
      else
        bif decide (x1 > (y1.1.length : Int)) then
          some (-1 : Int)
        else
          (spec_SuffixRows y1.1).bind fun y2 =>
          (at? y2 x1).bind fun y3 =>
          y2[x1.toNat]?.bind fun y4 =>
          some y4 := by kernel_rfl

end Go.Ev.W
