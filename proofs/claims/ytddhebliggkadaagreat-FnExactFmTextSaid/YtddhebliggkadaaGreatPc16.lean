/- What functions of the program come to. -/
import Derived.Test.YtddhebliggkadaaGreatPcT
import Derived.Test.YtddhebliggkadaaGreatPc1
import Derived.Test.YtddhebliggkadaaGreatPc2
namespace Go.Ev.W
open Go.Ev Go.Proofs
set_option maxRecDepth 100000
set_option linter.unusedVariables false

/-! ### spec_FmText: loop.example/g00688/spec.FmText -/
def spec_FmText.ms : List Mode := [.lend]
def spec_FmText.as : List VSh := [.agg [.int .i64, .int .i64, .int .i64, .sl false false 3, .sl false false 30, .sl false false 3, .int .i64, .sl false false 126, .int .i64, .int .i64, .int .i64, .sl false false 126, .int .i64, .int .i64, .int .i64, .sl false false 126]]
def spec_FmText.rs : RSh := ⟨[.one (.b (.b (.b (.b (.sl true true 5)))))], [none]⟩
noncomputable def spec_FmText.gs (δ : Type) : List (Nat × Callee (GT tab) δ) := [(60, calleeS tab spec_l09Text.ms spec_l09Text.as spec_l09Text.rs spec_l09Text.fn)]
theorem spec_FmText.gok (δ : Type) : AllCon Tryz.prog tab (spec_FmText.gs δ) := .cons spec_l09Text.con (.nil)
noncomputable def spec_FmText.c : Ctx (GT tab) (KT tab) (ResT tab spec_FmText.rs) := { X := XT tab, ty := tyOf tys, inner := fun _ => true, keep := keepOf 0 spec_FmText.ms, cuts := [], live := liveOf [], G := getG (spec_FmText.gs _) }
noncomputable def spec_FmText.b : Code := bodyOf Tryz.f19
noncomputable def spec_FmText (x0 : Int × Int × Int × (List Int) × (List (Int × (List Int))) × (List Int) × Int × (List Int) × Int × Int × Int × (List Int) × Int × Int × Int × (List Int)) : Option (List Int) := callW spec_FmText.c (fiOf (GT tab) Tryz.f19 spec_FmText.ms) spec_FmText.b (decRes tab spec_FmText.rs) (encArgs tab spec_FmText.as x0)
theorem spec_FmText.fok : FnOk Tryz.prog 19 Tryz.f19 spec_FmText.ms spec_FmText.b := ⟨Tryz.func19, by kernel_rfl, by kernel_rfl⟩
noncomputable def spec_FmText.fn : Args tab spec_FmText.as → Option (ResT tab spec_FmText.rs) := fun x => spec_FmText x
theorem spec_FmText.con {δ : Type} : Con Tryz.prog (KT tab) 19 (calleeS (β := δ) tab spec_FmText.ms spec_FmText.as spec_FmText.rs spec_FmText.fn) := con_shape (c := spec_FmText.c) mixed tysOk (getG_con (spec_FmText.gok _)) spec_FmText.fok rfl rfl (fun _ => rfl)
theorem spec_FmText.eq (x0 : Int × Int × Int × (List Int) × (List (Int × (List Int))) × (List Int) × Int × (List Int) × Int × Int × Int × (List Int) × Int × Int × Int × (List Int)) : spec_FmText x0 =
    (spec_l09Text (x0.1, x0.2.1, x0.2.2.1, x0.2.2.2.1, x0.2.2.2.2.1, x0.2.2.2.2.2.1, x0.2.2.2.2.2.2.1, x0.2.2.2.2.2.2.2.1, x0.2.2.2.2.2.2.2.2.1, x0.2.2.2.2.2.2.2.2.2.1, x0.2.2.2.2.2.2.2.2.2.2.1, x0.2.2.2.2.2.2.2.2.2.2.2.1, x0.2.2.2.2.2.2.2.2.2.2.2.2.1, x0.2.2.2.2.2.2.2.2.2.2.2.2.2.1, x0.2.2.2.2.2.2.2.2.2.2.2.2.2.2.1, x0.2.2.2.2.2.2.2.2.2.2.2.2.2.2.2)).bind fun y1 =>
    some y1.1 := by kernel_rfl

/-! ### impl_FmText: loop.example/g00688/impl.FmText -/
def impl_FmText.ms : List Mode := [.lend]
def impl_FmText.as : List VSh := [.agg [.int .i64, .int .i64, .int .i64, .sl false false 3, .sl false false 30, .sl false false 3, .int .i64, .sl false false 126, .int .i64, .int .i64, .int .i64, .sl false false 126, .int .i64, .int .i64, .int .i64, .sl false false 126]]
def impl_FmText.rs : RSh := ⟨[.one (.b (.b (.b (.b (.sl true true 5)))))], [none]⟩
noncomputable def impl_FmText.gs (δ : Type) : List (Nat × Callee (GT tab) δ) := [(58, calleeS tab impl_Fm_read.ms impl_Fm_read.as impl_Fm_read.rs impl_Fm_read.fn)]
theorem impl_FmText.gok (δ : Type) : AllCon Tryz.prog tab (impl_FmText.gs δ) := .cons impl_Fm_read.con (.nil)
noncomputable def impl_FmText.c : Ctx (GT tab) (KT tab) (ResT tab impl_FmText.rs) := { X := XT tab, ty := tyOf tys, inner := fun _ => true, keep := keepOf 0 impl_FmText.ms, cuts := [], live := liveOf [], G := getG (impl_FmText.gs _) }
noncomputable def impl_FmText.b : Code := bodyOf Tryz.f37
noncomputable def impl_FmText (x0 : Int × Int × Int × (List Int) × (List (Int × (List Int))) × (List Int) × Int × (List Int) × Int × Int × Int × (List Int) × Int × Int × Int × (List Int)) : Option (List Int) := callW impl_FmText.c (fiOf (GT tab) Tryz.f37 impl_FmText.ms) impl_FmText.b (decRes tab impl_FmText.rs) (encArgs tab impl_FmText.as x0)
theorem impl_FmText.fok : FnOk Tryz.prog 37 Tryz.f37 impl_FmText.ms impl_FmText.b := ⟨Tryz.func37, by kernel_rfl, by kernel_rfl⟩
noncomputable def impl_FmText.fn : Args tab impl_FmText.as → Option (ResT tab impl_FmText.rs) := fun x => impl_FmText x
theorem impl_FmText.con {δ : Type} : Con Tryz.prog (KT tab) 37 (calleeS (β := δ) tab impl_FmText.ms impl_FmText.as impl_FmText.rs impl_FmText.fn) := con_shape (c := impl_FmText.c) mixed tysOk (getG_con (impl_FmText.gok _)) impl_FmText.fok rfl rfl (fun _ => rfl)
theorem impl_FmText.eq (x0 : Int × Int × Int × (List Int) × (List (Int × (List Int))) × (List Int) × Int × (List Int) × Int × Int × Int × (List Int) × Int × Int × Int × (List Int)) : impl_FmText x0 =
    (impl_Fm_read (x0.1, x0.2.1, x0.2.2.1, x0.2.2.2.1, x0.2.2.2.2.1, x0.2.2.2.2.2.1, x0.2.2.2.2.2.2.1, x0.2.2.2.2.2.2.2.1, x0.2.2.2.2.2.2.2.2.1, x0.2.2.2.2.2.2.2.2.2.1, x0.2.2.2.2.2.2.2.2.2.2.1, x0.2.2.2.2.2.2.2.2.2.2.2.1, x0.2.2.2.2.2.2.2.2.2.2.2.2.1, x0.2.2.2.2.2.2.2.2.2.2.2.2.2.1, x0.2.2.2.2.2.2.2.2.2.2.2.2.2.2.1, x0.2.2.2.2.2.2.2.2.2.2.2.2.2.2.2)).bind fun y1 =>
    bif !y1.2 then
      some ([] : List Int)
    else
      some y1.1 := by kernel_rfl

end Go.Ev.W
