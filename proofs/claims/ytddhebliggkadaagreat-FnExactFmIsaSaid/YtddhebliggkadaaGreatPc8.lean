/- What functions of the program come to. -/
import Derived.Test.YtddhebliggkadaaGreatPcT
import Derived.Test.YtddhebliggkadaaGreatPc1
import Derived.Test.YtddhebliggkadaaGreatPc2
namespace Go.Ev.W
open Go.Ev Go.Proofs
set_option maxRecDepth 100000
set_option linter.unusedVariables false

/-! ### spec_FmIsa: loop.example/g00688/spec.FmIsa -/
def spec_FmIsa.ms : List Mode := [.lend, .lend]
def spec_FmIsa.as : List VSh := [.agg [.int .i64, .int .i64, .int .i64, .sl false false 3, .sl false false 30, .sl false false 3, .int .i64, .sl false false 126, .int .i64, .int .i64, .int .i64, .sl false false 126, .int .i64, .int .i64, .int .i64, .sl false false 126], .one (.b (.b (.b (.b (.int .i64)))))]
def spec_FmIsa.rs : RSh := ⟨[.one (.b (.b (.b (.b (.int .i64)))))], [none, none]⟩
noncomputable def spec_FmIsa.gs (δ : Type) : List (Nat × Callee (GT tab) δ) := [(60, calleeS tab spec_l09Text.ms spec_l09Text.as spec_l09Text.rs spec_l09Text.fn), (65, calleeS tab spec_SuffixRows.ms spec_SuffixRows.as spec_SuffixRows.rs spec_SuffixRows.fn), (89, calleeS tab spec_Inverse.ms spec_Inverse.as spec_Inverse.rs spec_Inverse.fn)]
theorem spec_FmIsa.gok (δ : Type) : AllCon Tryz.prog tab (spec_FmIsa.gs δ) := .cons spec_l09Text.con (.cons spec_SuffixRows.con (.cons spec_Inverse.con (.nil)))
noncomputable def spec_FmIsa.c : Ctx (GT tab) (KT tab) (ResT tab spec_FmIsa.rs) := { X := XT tab, ty := tyOf tys, inner := fun _ => true, keep := keepOf 0 spec_FmIsa.ms, cuts := [], live := liveOf [], G := getG (spec_FmIsa.gs _) }
noncomputable def spec_FmIsa.b : Code := bodyOf Tryz.f34
noncomputable def spec_FmIsa (x0 : Int × Int × Int × (List Int) × (List (Int × (List Int))) × (List Int) × Int × (List Int) × Int × Int × Int × (List Int) × Int × Int × Int × (List Int)) (x1 : Int) : Option (Int) := callW spec_FmIsa.c (fiOf (GT tab) Tryz.f34 spec_FmIsa.ms) spec_FmIsa.b (decRes tab spec_FmIsa.rs) (encArgs tab spec_FmIsa.as (x0, x1))
theorem spec_FmIsa.fok : FnOk Tryz.prog 34 Tryz.f34 spec_FmIsa.ms spec_FmIsa.b := ⟨Tryz.func34, by kernel_rfl, by kernel_rfl⟩
noncomputable def spec_FmIsa.fn : Args tab spec_FmIsa.as → Option (ResT tab spec_FmIsa.rs) := fun x => spec_FmIsa x.1 x.2
theorem spec_FmIsa.con {δ : Type} : Con Tryz.prog (KT tab) 34 (calleeS (β := δ) tab spec_FmIsa.ms spec_FmIsa.as spec_FmIsa.rs spec_FmIsa.fn) := con_shape (c := spec_FmIsa.c) mixed tysOk (getG_con (spec_FmIsa.gok _)) spec_FmIsa.fok rfl rfl (fun _ => rfl)
theorem spec_FmIsa.eq (x0 : Int × Int × Int × (List Int) × (List (Int × (List Int))) × (List Int) × Int × (List Int) × Int × Int × Int × (List Int) × Int × Int × Int × (List Int)) (x1 : Int) : spec_FmIsa x0 x1 =
    (spec_l09Text (x0.1, x0.2.1, x0.2.2.1, x0.2.2.2.1, x0.2.2.2.2.1, x0.2.2.2.2.2.1, x0.2.2.2.2.2.2.1, x0.2.2.2.2.2.2.2.1, x0.2.2.2.2.2.2.2.2.1, x0.2.2.2.2.2.2.2.2.2.1, x0.2.2.2.2.2.2.2.2.2.2.1, x0.2.2.2.2.2.2.2.2.2.2.2.1, x0.2.2.2.2.2.2.2.2.2.2.2.2.1, x0.2.2.2.2.2.2.2.2.2.2.2.2.2.1, x0.2.2.2.2.2.2.2.2.2.2.2.2.2.2.1, x0.2.2.2.2.2.2.2.2.2.2.2.2.2.2.2)).bind fun y1 =>
    bif !y1.2 then
      some (-1 : Int)
    else
      bif decide (x1 < (0 : Int)) then
        some (-1 : Int)
      else
        bif decide (x1 > (y1.1.length : Int)) then
          some (-1 : Int)
        else
          (spec_SuffixRows y1.1).bind fun y2 =>
          (spec_Inverse y2).bind fun y3 =>
          (at? y3.1 x1).bind fun y4 =>
          y3.1[x1.toNat]?.bind fun y5 =>
          some y5 := by kernel_rfl

/-! ### impl_FmIsa: loop.example/g00688/impl.FmIsa -/
def impl_FmIsa.ms : List Mode := [.lend, .lend]
def impl_FmIsa.as : List VSh := [.agg [.int .i64, .int .i64, .int .i64, .sl false false 3, .sl false false 30, .sl false false 3, .int .i64, .sl false false 126, .int .i64, .int .i64, .int .i64, .sl false false 126, .int .i64, .int .i64, .int .i64, .sl false false 126], .one (.b (.b (.b (.b (.int .i64)))))]
def impl_FmIsa.rs : RSh := ⟨[.one (.b (.b (.b (.b (.int .i64)))))], [none, none]⟩
noncomputable def impl_FmIsa.gs (δ : Type) : List (Nat × Callee (GT tab) δ) := [(58, calleeS tab impl_Fm_read.ms impl_Fm_read.as impl_Fm_read.rs impl_Fm_read.fn), (63, calleeS tab impl_within.ms impl_within.as impl_within.rs impl_within.fn), (64, calleeS tab impl_suffixRows.ms impl_suffixRows.as impl_suffixRows.rs impl_suffixRows.fn), (75, calleeS tab impl_inverse.ms impl_inverse.as impl_inverse.rs impl_inverse.fn)]
theorem impl_FmIsa.gok (δ : Type) : AllCon Tryz.prog tab (impl_FmIsa.gs δ) := .cons impl_Fm_read.con (.cons impl_within.con (.cons impl_suffixRows.con (.cons impl_inverse.con (.nil))))
noncomputable def impl_FmIsa.c : Ctx (GT tab) (KT tab) (ResT tab impl_FmIsa.rs) := { X := XT tab, ty := tyOf tys, inner := fun _ => true, keep := keepOf 0 impl_FmIsa.ms, cuts := [], live := liveOf [], G := getG (impl_FmIsa.gs _) }
noncomputable def impl_FmIsa.b : Code := bodyOf Tryz.f29
noncomputable def impl_FmIsa (x0 : Int × Int × Int × (List Int) × (List (Int × (List Int))) × (List Int) × Int × (List Int) × Int × Int × Int × (List Int) × Int × Int × Int × (List Int)) (x1 : Int) : Option (Int) := callW impl_FmIsa.c (fiOf (GT tab) Tryz.f29 impl_FmIsa.ms) impl_FmIsa.b (decRes tab impl_FmIsa.rs) (encArgs tab impl_FmIsa.as (x0, x1))
theorem impl_FmIsa.fok : FnOk Tryz.prog 29 Tryz.f29 impl_FmIsa.ms impl_FmIsa.b := ⟨Tryz.func29, by kernel_rfl, by kernel_rfl⟩
noncomputable def impl_FmIsa.fn : Args tab impl_FmIsa.as → Option (ResT tab impl_FmIsa.rs) := fun x => impl_FmIsa x.1 x.2
theorem impl_FmIsa.con {δ : Type} : Con Tryz.prog (KT tab) 29 (calleeS (β := δ) tab impl_FmIsa.ms impl_FmIsa.as impl_FmIsa.rs impl_FmIsa.fn) := con_shape (c := impl_FmIsa.c) mixed tysOk (getG_con (impl_FmIsa.gok _)) impl_FmIsa.fok rfl rfl (fun _ => rfl)
theorem impl_FmIsa.eq (x0 : Int × Int × Int × (List Int) × (List (Int × (List Int))) × (List Int) × Int × (List Int) × Int × Int × Int × (List Int) × Int × Int × Int × (List Int)) (x1 : Int) : impl_FmIsa x0 x1 =
    (impl_Fm_read (x0.1, x0.2.1, x0.2.2.1, x0.2.2.2.1, x0.2.2.2.2.1, x0.2.2.2.2.2.1, x0.2.2.2.2.2.2.1, x0.2.2.2.2.2.2.2.1, x0.2.2.2.2.2.2.2.2.1, x0.2.2.2.2.2.2.2.2.2.1, x0.2.2.2.2.2.2.2.2.2.2.1, x0.2.2.2.2.2.2.2.2.2.2.2.1, x0.2.2.2.2.2.2.2.2.2.2.2.2.1, x0.2.2.2.2.2.2.2.2.2.2.2.2.2.1, x0.2.2.2.2.2.2.2.2.2.2.2.2.2.2.1, x0.2.2.2.2.2.2.2.2.2.2.2.2.2.2.2)).bind fun y1 =>
    bif !y1.2 then
      some (-1 : Int)
    else
      (impl_within x1 (0 : Int) (y1.1.length : Int)).bind fun y2 =>
      bif !y2 then
        some (-1 : Int)
      else
        (impl_suffixRows y1.1).bind fun y3 =>
        (impl_inverse y3).bind fun y4 =>
        (at? y4 x1).bind fun y5 =>
        y4[x1.toNat]?.bind fun y6 =>
        some y6 := by kernel_rfl

end Go.Ev.W
