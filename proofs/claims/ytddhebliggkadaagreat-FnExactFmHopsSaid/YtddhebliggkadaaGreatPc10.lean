/- What functions of the program come to. -/
import Derived.Test.YtddhebliggkadaaGreatPcT
import Derived.Test.YtddhebliggkadaaGreatPc1
import Derived.Test.YtddhebliggkadaaGreatPc2
import Derived.Test.YtddhebliggkadaaGreatPc5
namespace Go.Ev.W
open Go.Ev Go.Proofs
set_option maxRecDepth 100000
set_option linter.unusedVariables false

/-! ### spec_FmHops: loop.example/g00688/spec.FmHops -/
def spec_FmHops.ms : List Mode := [.lend, .lend]
def spec_FmHops.as : List VSh := [.agg [.int .i64, .int .i64, .int .i64, .sl false false 3, .sl false false 30, .sl false false 3, .int .i64, .sl false false 126, .int .i64, .int .i64, .int .i64, .sl false false 126, .int .i64, .int .i64, .int .i64, .sl false false 126], .one (.b (.b (.b (.b (.int .i64)))))]
def spec_FmHops.rs : RSh := ⟨[.one (.b (.b (.b (.b (.int .i64)))))], [none, none]⟩
noncomputable def spec_FmHops.gs (δ : Type) : List (Nat × Callee (GT tab) δ) := [(23, calleeS tab spec_FmSa.ms spec_FmSa.as spec_FmSa.rs spec_FmSa.fn)]
theorem spec_FmHops.gok (δ : Type) : AllCon Tryz.prog tab (spec_FmHops.gs δ) := .cons spec_FmSa.con (.nil)
noncomputable def spec_FmHops.c : Ctx (GT tab) (KT tab) (ResT tab spec_FmHops.rs) := { X := XT tab, ty := tyOf tys, inner := fun _ => true, keep := keepOf 0 spec_FmHops.ms, cuts := [], live := liveOf [], G := getG (spec_FmHops.gs _) }
noncomputable def spec_FmHops.b : Code := bodyOf Tryz.f24
noncomputable def spec_FmHops (x0 : Int × Int × Int × (List Int) × (List (Int × (List Int))) × (List Int) × Int × (List Int) × Int × Int × Int × (List Int) × Int × Int × Int × (List Int)) (x1 : Int) : Option (Int) := callW spec_FmHops.c (fiOf (GT tab) Tryz.f24 spec_FmHops.ms) spec_FmHops.b (decRes tab spec_FmHops.rs) (encArgs tab spec_FmHops.as (x0, x1))
theorem spec_FmHops.fok : FnOk Tryz.prog 24 Tryz.f24 spec_FmHops.ms spec_FmHops.b := ⟨Tryz.func24, by kernel_rfl, by kernel_rfl⟩
noncomputable def spec_FmHops.fn : Args tab spec_FmHops.as → Option (ResT tab spec_FmHops.rs) := fun x => spec_FmHops x.1 x.2
theorem spec_FmHops.con {δ : Type} : Con Tryz.prog (KT tab) 24 (calleeS (β := δ) tab spec_FmHops.ms spec_FmHops.as spec_FmHops.rs spec_FmHops.fn) := con_shape (c := spec_FmHops.c) mixed tysOk (getG_con (spec_FmHops.gok _)) spec_FmHops.fok rfl rfl (fun _ => rfl)
theorem spec_FmHops.eq (x0 : Int × Int × Int × (List Int) × (List (Int × (List Int))) × (List Int) × Int × (List Int) × Int × Int × Int × (List Int) × Int × Int × Int × (List Int)) (x1 : Int) : spec_FmHops x0 x1 =
    (spec_FmSa (x0.1, x0.2.1, x0.2.2.1, x0.2.2.2.1, x0.2.2.2.2.1, x0.2.2.2.2.2.1, x0.2.2.2.2.2.2.1, x0.2.2.2.2.2.2.2.1, x0.2.2.2.2.2.2.2.2.1, x0.2.2.2.2.2.2.2.2.2.1, x0.2.2.2.2.2.2.2.2.2.2.1, x0.2.2.2.2.2.2.2.2.2.2.2.1, x0.2.2.2.2.2.2.2.2.2.2.2.2.1, x0.2.2.2.2.2.2.2.2.2.2.2.2.2.1, x0.2.2.2.2.2.2.2.2.2.2.2.2.2.2.1, x0.2.2.2.2.2.2.2.2.2.2.2.2.2.2.2) x1).bind fun y1 =>
    bif decide (y1 < (0 : Int)) then
      some (-1 : Int)
    else
      bif decide (x0.2.1 = (0 : Int)) then
        none
      else
        some (y1.tmod x0.2.1) := by kernel_rfl

/-! ### impl_FmHops: loop.example/g00688/impl.FmHops -/
def impl_FmHops.ms : List Mode := [.lend, .lend]
def impl_FmHops.as : List VSh := [.agg [.int .i64, .int .i64, .int .i64, .sl false false 3, .sl false false 30, .sl false false 3, .int .i64, .sl false false 126, .int .i64, .int .i64, .int .i64, .sl false false 126, .int .i64, .int .i64, .int .i64, .sl false false 126], .one (.b (.b (.b (.b (.int .i64)))))]
def impl_FmHops.rs : RSh := ⟨[.one (.b (.b (.b (.b (.int .i64)))))], [none, none]⟩
noncomputable def impl_FmHops.gs (δ : Type) : List (Nat × Callee (GT tab) δ) := [(58, calleeS tab impl_Fm_read.ms impl_Fm_read.as impl_Fm_read.rs impl_Fm_read.fn), (63, calleeS tab impl_within.ms impl_within.as impl_within.rs impl_within.fn), (64, calleeS tab impl_suffixRows.ms impl_suffixRows.as impl_suffixRows.rs impl_suffixRows.fn)]
theorem impl_FmHops.gok (δ : Type) : AllCon Tryz.prog tab (impl_FmHops.gs δ) := .cons impl_Fm_read.con (.cons impl_within.con (.cons impl_suffixRows.con (.nil)))
noncomputable def impl_FmHops.c : Ctx (GT tab) (KT tab) (ResT tab impl_FmHops.rs) := { X := XT tab, ty := tyOf tys, inner := fun _ => true, keep := keepOf 0 impl_FmHops.ms, cuts := [], live := liveOf [], G := getG (impl_FmHops.gs _) }
noncomputable def impl_FmHops.b : Code := bodyOf Tryz.f22
noncomputable def impl_FmHops (x0 : Int × Int × Int × (List Int) × (List (Int × (List Int))) × (List Int) × Int × (List Int) × Int × Int × Int × (List Int) × Int × Int × Int × (List Int)) (x1 : Int) : Option (Int) := callW impl_FmHops.c (fiOf (GT tab) Tryz.f22 impl_FmHops.ms) impl_FmHops.b (decRes tab impl_FmHops.rs) (encArgs tab impl_FmHops.as (x0, x1))
theorem impl_FmHops.fok : FnOk Tryz.prog 22 Tryz.f22 impl_FmHops.ms impl_FmHops.b := ⟨Tryz.func22, by kernel_rfl, by kernel_rfl⟩
noncomputable def impl_FmHops.fn : Args tab impl_FmHops.as → Option (ResT tab impl_FmHops.rs) := fun x => impl_FmHops x.1 x.2
theorem impl_FmHops.con {δ : Type} : Con Tryz.prog (KT tab) 22 (calleeS (β := δ) tab impl_FmHops.ms impl_FmHops.as impl_FmHops.rs impl_FmHops.fn) := con_shape (c := impl_FmHops.c) mixed tysOk (getG_con (impl_FmHops.gok _)) impl_FmHops.fok rfl rfl (fun _ => rfl)
theorem impl_FmHops.eq (x0 : Int × Int × Int × (List Int) × (List (Int × (List Int))) × (List Int) × Int × (List Int) × Int × Int × Int × (List Int) × Int × Int × Int × (List Int)) (x1 : Int) : impl_FmHops x0 x1 =
    (impl_Fm_read (x0.1, x0.2.1, x0.2.2.1, x0.2.2.2.1, x0.2.2.2.2.1, x0.2.2.2.2.2.1, x0.2.2.2.2.2.2.1, x0.2.2.2.2.2.2.2.1, x0.2.2.2.2.2.2.2.2.1, x0.2.2.2.2.2.2.2.2.2.1, x0.2.2.2.2.2.2.2.2.2.2.1, x0.2.2.2.2.2.2.2.2.2.2.2.1, x0.2.2.2.2.2.2.2.2.2.2.2.2.1, x0.2.2.2.2.2.2.2.2.2.2.2.2.2.1, x0.2.2.2.2.2.2.2.2.2.2.2.2.2.2.1, x0.2.2.2.2.2.2.2.2.2.2.2.2.2.2.2)).bind fun y1 =>
    bif !y1.2 then
      some (-1 : Int)
    else
      (impl_within x1 (0 : Int) (y1.1.length : Int)).bind fun y2 =>
      bif !y2 then
        some (-1 : Int)
      else
        (impl_suffixRows y1.1).bind fun y3 =>
        (at? y3 x1).bind fun y4 =>
        y3[x1.toNat]?.bind fun y5 =>
        bif decide (x0.2.1 = (0 : Int)) then
          none
        else
          some (y5.tmod x0.2.1) := by kernel_rfl

end Go.Ev.W
