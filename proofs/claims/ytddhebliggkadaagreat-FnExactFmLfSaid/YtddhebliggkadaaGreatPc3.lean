/- What functions of the program come to. -/
import Derived.Test.YtddhebliggkadaaGreatPcT
import Derived.Test.YtddhebliggkadaaGreatPc1
import Derived.Test.YtddhebliggkadaaGreatPc2
namespace Go.Ev.W
open Go.Ev Go.Proofs
set_option maxRecDepth 100000
set_option linter.unusedVariables false

/-! ### spec_FmLf: loop.example/g00688/spec.FmLf -/
def spec_FmLf.ms : List Mode := [.lend, .lend]
def spec_FmLf.as : List VSh := [.agg [.int .i64, .int .i64, .int .i64, .sl false false 3, .sl false false 30, .sl false false 3, .int .i64, .sl false false 126, .int .i64, .int .i64, .int .i64, .sl false false 126, .int .i64, .int .i64, .int .i64, .sl false false 126], .one (.b (.b (.b (.b (.int .i64)))))]
def spec_FmLf.rs : RSh := ⟨[.one (.b (.b (.b (.b (.int .i64)))))], [none, none]⟩
noncomputable def spec_FmLf.gs (δ : Type) : List (Nat × Callee (GT tab) δ) := [(60, calleeS tab spec_l09Text.ms spec_l09Text.as spec_l09Text.rs spec_l09Text.fn), (80, calleeS tab spec_LfOf.ms spec_LfOf.as spec_LfOf.rs spec_LfOf.fn), (81, calleeS tab spec_BwtOf.ms spec_BwtOf.as spec_BwtOf.rs spec_BwtOf.fn)]
theorem spec_FmLf.gok (δ : Type) : AllCon Tryz.prog tab (spec_FmLf.gs δ) := .cons spec_l09Text.con (.cons spec_LfOf.con (.cons spec_BwtOf.con (.nil)))
noncomputable def spec_FmLf.c : Ctx (GT tab) (KT tab) (ResT tab spec_FmLf.rs) := { X := XT tab, ty := tyOf tys, inner := fun _ => true, keep := keepOf 0 spec_FmLf.ms, cuts := [], live := liveOf [], G := getG (spec_FmLf.gs _) }
noncomputable def spec_FmLf.b : Code := bodyOf Tryz.f31
noncomputable def spec_FmLf (x0 : Int × Int × Int × (List Int) × (List (Int × (List Int))) × (List Int) × Int × (List Int) × Int × Int × Int × (List Int) × Int × Int × Int × (List Int)) (x1 : Int) : Option (Int) := callW spec_FmLf.c (fiOf (GT tab) Tryz.f31 spec_FmLf.ms) spec_FmLf.b (decRes tab spec_FmLf.rs) (encArgs tab spec_FmLf.as (x0, x1))
theorem spec_FmLf.fok : FnOk Tryz.prog 31 Tryz.f31 spec_FmLf.ms spec_FmLf.b := ⟨Tryz.func31, by kernel_rfl, by kernel_rfl⟩
noncomputable def spec_FmLf.fn : Args tab spec_FmLf.as → Option (ResT tab spec_FmLf.rs) := fun x => spec_FmLf x.1 x.2
theorem spec_FmLf.con {δ : Type} : Con Tryz.prog (KT tab) 31 (calleeS (β := δ) tab spec_FmLf.ms spec_FmLf.as spec_FmLf.rs spec_FmLf.fn) := con_shape (c := spec_FmLf.c) mixed tysOk (getG_con (spec_FmLf.gok _)) spec_FmLf.fok rfl rfl (fun _ => rfl)
theorem spec_FmLf.eq (x0 : Int × Int × Int × (List Int) × (List (Int × (List Int))) × (List Int) × Int × (List Int) × Int × Int × Int × (List Int) × Int × Int × Int × (List Int)) (x1 : Int) : spec_FmLf x0 x1 =
    (spec_l09Text (x0.1, x0.2.1, x0.2.2.1, x0.2.2.2.1, x0.2.2.2.2.1, x0.2.2.2.2.2.1, x0.2.2.2.2.2.2.1, x0.2.2.2.2.2.2.2.1, x0.2.2.2.2.2.2.2.2.1, x0.2.2.2.2.2.2.2.2.2.1, x0.2.2.2.2.2.2.2.2.2.2.1, x0.2.2.2.2.2.2.2.2.2.2.2.1, x0.2.2.2.2.2.2.2.2.2.2.2.2.1, x0.2.2.2.2.2.2.2.2.2.2.2.2.2.1, x0.2.2.2.2.2.2.2.2.2.2.2.2.2.2.1, x0.2.2.2.2.2.2.2.2.2.2.2.2.2.2.2)).bind fun y1 =>
    bif !y1.2 then
      some (-1 : Int)
    else
      bif decide (x1 < (0 : Int)) then
        some (-1 : Int)
      else
        bif decide (x1 > (y1.1.length : Int)) then
          some (-1 : Int)
        else
          (spec_BwtOf y1.1).bind fun y2 =>
          (spec_LfOf y2).bind fun y3 =>
          (at? y3 x1).bind fun y4 =>
          y3[x1.toNat]?.bind fun y5 =>
          some y5 := by kernel_rfl

/-! ### impl_FmLf: loop.example/g00688/impl.FmLf -/
def impl_FmLf.ms : List Mode := [.lend, .lend]
def impl_FmLf.as : List VSh := [.agg [.int .i64, .int .i64, .int .i64, .sl false false 3, .sl false false 30, .sl false false 3, .int .i64, .sl false false 126, .int .i64, .int .i64, .int .i64, .sl false false 126, .int .i64, .int .i64, .int .i64, .sl false false 126], .one (.b (.b (.b (.b (.int .i64)))))]
def impl_FmLf.rs : RSh := ⟨[.one (.b (.b (.b (.b (.int .i64)))))], [none, none]⟩
noncomputable def impl_FmLf.gs (δ : Type) : List (Nat × Callee (GT tab) δ) := [(58, calleeS tab impl_Fm_read.ms impl_Fm_read.as impl_Fm_read.rs impl_Fm_read.fn), (63, calleeS tab impl_within.ms impl_within.as impl_within.rs impl_within.fn), (68, calleeS tab impl_lfOf.ms impl_lfOf.as impl_lfOf.rs impl_lfOf.fn), (69, calleeS tab impl_bwtOf.ms impl_bwtOf.as impl_bwtOf.rs impl_bwtOf.fn)]
theorem impl_FmLf.gok (δ : Type) : AllCon Tryz.prog tab (impl_FmLf.gs δ) := .cons impl_Fm_read.con (.cons impl_within.con (.cons impl_lfOf.con (.cons impl_bwtOf.con (.nil))))
noncomputable def impl_FmLf.c : Ctx (GT tab) (KT tab) (ResT tab impl_FmLf.rs) := { X := XT tab, ty := tyOf tys, inner := fun _ => true, keep := keepOf 0 impl_FmLf.ms, cuts := [], live := liveOf [], G := getG (impl_FmLf.gs _) }
noncomputable def impl_FmLf.b : Code := bodyOf Tryz.f26
noncomputable def impl_FmLf (x0 : Int × Int × Int × (List Int) × (List (Int × (List Int))) × (List Int) × Int × (List Int) × Int × Int × Int × (List Int) × Int × Int × Int × (List Int)) (x1 : Int) : Option (Int) := callW impl_FmLf.c (fiOf (GT tab) Tryz.f26 impl_FmLf.ms) impl_FmLf.b (decRes tab impl_FmLf.rs) (encArgs tab impl_FmLf.as (x0, x1))
theorem impl_FmLf.fok : FnOk Tryz.prog 26 Tryz.f26 impl_FmLf.ms impl_FmLf.b := ⟨Tryz.func26, by kernel_rfl, by kernel_rfl⟩
noncomputable def impl_FmLf.fn : Args tab impl_FmLf.as → Option (ResT tab impl_FmLf.rs) := fun x => impl_FmLf x.1 x.2
theorem impl_FmLf.con {δ : Type} : Con Tryz.prog (KT tab) 26 (calleeS (β := δ) tab impl_FmLf.ms impl_FmLf.as impl_FmLf.rs impl_FmLf.fn) := con_shape (c := impl_FmLf.c) mixed tysOk (getG_con (impl_FmLf.gok _)) impl_FmLf.fok rfl rfl (fun _ => rfl)
theorem impl_FmLf.eq (x0 : Int × Int × Int × (List Int) × (List (Int × (List Int))) × (List Int) × Int × (List Int) × Int × Int × Int × (List Int) × Int × Int × Int × (List Int)) (x1 : Int) : impl_FmLf x0 x1 =
    (impl_Fm_read (x0.1, x0.2.1, x0.2.2.1, x0.2.2.2.1, x0.2.2.2.2.1, x0.2.2.2.2.2.1, x0.2.2.2.2.2.2.1, x0.2.2.2.2.2.2.2.1, x0.2.2.2.2.2.2.2.2.1, x0.2.2.2.2.2.2.2.2.2.1, x0.2.2.2.2.2.2.2.2.2.2.1, x0.2.2.2.2.2.2.2.2.2.2.2.1, x0.2.2.2.2.2.2.2.2.2.2.2.2.1, x0.2.2.2.2.2.2.2.2.2.2.2.2.2.1, x0.2.2.2.2.2.2.2.2.2.2.2.2.2.2.1, x0.2.2.2.2.2.2.2.2.2.2.2.2.2.2.2)).bind fun y1 =>
    bif !y1.2 then
      some (-1 : Int)
    else
      (impl_within x1 (0 : Int) (y1.1.length : Int)).bind fun y2 =>
      bif !y2 then
        some (-1 : Int)
      else
        (impl_bwtOf y1.1).bind fun y3 =>
        (impl_lfOf y3).bind fun y4 =>
        (at? y4 x1).bind fun y5 =>
        y4[x1.toNat]?.bind fun y6 =>
        some y6 := by kernel_rfl

end Go.Ev.W
