/- What functions of the program come to. -/
import Derived.Test.YtddhebliggkadaaGreatPcT
import Derived.Test.YtddhebliggkadaaGreatPc1
import Derived.Test.YtddhebliggkadaaGreatPc2
namespace Go.Ev.W
open Go.Ev Go.Proofs
set_option maxRecDepth 100000
set_option linter.unusedVariables false

/-! ### impl_FmSa: loop.example/g00688/impl.FmSa -/
def impl_FmSa.ms : List Mode := [.lend, .lend]
def impl_FmSa.as : List VSh := [.agg [.int .i64, .int .i64, .int .i64, .sl false false 3, .sl false false 30, .sl false false 3, .int .i64, .sl false false 126, .int .i64, .int .i64, .int .i64, .sl false false 126, .int .i64, .int .i64, .int .i64, .sl false false 126], .one (.b (.b (.b (.b (.int .i64)))))]
def impl_FmSa.rs : RSh := ⟨[.one (.b (.b (.b (.b (.int .i64)))))], [none, none]⟩
noncomputable def impl_FmSa.gs (δ : Type) : List (Nat × Callee (GT tab) δ) := [(58, calleeS tab impl_Fm_read.ms impl_Fm_read.as impl_Fm_read.rs impl_Fm_read.fn), (63, calleeS tab impl_within.ms impl_within.as impl_within.rs impl_within.fn), (64, calleeS tab impl_suffixRows.ms impl_suffixRows.as impl_suffixRows.rs impl_suffixRows.fn)]
theorem impl_FmSa.gok (δ : Type) : AllCon Tryz.prog tab (impl_FmSa.gs δ) := .cons impl_Fm_read.con (.cons impl_within.con (.cons impl_suffixRows.con (.nil)))
noncomputable def impl_FmSa.c : Ctx (GT tab) (KT tab) (ResT tab impl_FmSa.rs) := { X := XT tab, ty := tyOf tys, inner := fun _ => true, keep := keepOf 0 impl_FmSa.ms, cuts := [], live := liveOf [], G := getG (impl_FmSa.gs _) }
noncomputable def impl_FmSa.b : Code := bodyOf Tryz.f21
noncomputable def impl_FmSa (x0 : Int × Int × Int × (List Int) × (List (Int × (List Int))) × (List Int) × Int × (List Int) × Int × Int × Int × (List Int) × Int × Int × Int × (List Int)) (x1 : Int) : Option (Int) := callW impl_FmSa.c (fiOf (GT tab) Tryz.f21 impl_FmSa.ms) impl_FmSa.b (decRes tab impl_FmSa.rs) (encArgs tab impl_FmSa.as (x0, x1))
theorem impl_FmSa.fok : FnOk Tryz.prog 21 Tryz.f21 impl_FmSa.ms impl_FmSa.b := ⟨Tryz.func21, by kernel_rfl, by kernel_rfl⟩
noncomputable def impl_FmSa.fn : Args tab impl_FmSa.as → Option (ResT tab impl_FmSa.rs) := fun x => impl_FmSa x.1 x.2
theorem impl_FmSa.con {δ : Type} : Con Tryz.prog (KT tab) 21 (calleeS (β := δ) tab impl_FmSa.ms impl_FmSa.as impl_FmSa.rs impl_FmSa.fn) := con_shape (c := impl_FmSa.c) mixed tysOk (getG_con (impl_FmSa.gok _)) impl_FmSa.fok rfl rfl (fun _ => rfl)
theorem impl_FmSa.eq (x0 : Int × Int × Int × (List Int) × (List (Int × (List Int))) × (List Int) × Int × (List Int) × Int × Int × Int × (List Int) × Int × Int × Int × (List Int)) (x1 : Int) : impl_FmSa x0 x1 =
    (impl_Fm_read (x0.1, x0.2.1, x0.2.2.1, x0.2.2.2.1, x0.2.2.2.2.1, x0.2.2.2.2.2.1, x0.2.2.2.2.2.2.1, x0.2.2.2.2.2.2.2.1, x0.2.2.2.2.2.2.2.2.1, x0.2.2.2.2.2.2.2.2.2.1, x0.2.2.2.2.2.2.2.2.2.2.1, x0.2.2.2.2.2.2.2.2.2.2.2.1, x0.2.2.2.2.2.2.2.2.2.2.2.2.1, x0.2.2.2.2.2.2.2.2.2.2.2.2.2.1, x0.2.2.2.2.2.2.2.2.2.2.2.2.2.2.1, x0.2.2.2.2.2.2.2.2.2.2.2.2.2.2.2)).bind fun y1 =>
    bif !y1.2 then
      some (-1 : Int)
    else
      (impl_within x1 (0 : Int) (y1.1.length : Int)).bind fun y2 =>
      bif !y2 then
        some (-1 : Int)
      else
        (impl_suffixRows y1.1).bind fun y3 =>
        (at? y3 x1).bind fun y4 =>
        y3[x1.toNat]?.bind fun y5 =>
        some y5 := by kernel_rfl

end Go.Ev.W
