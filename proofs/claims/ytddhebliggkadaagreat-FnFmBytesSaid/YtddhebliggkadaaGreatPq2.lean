/- What functions of the program come to. -/
import Derived.Test.YtddhebliggkadaaGreatPqT
import Derived.Test.YtddhebliggkadaaGreatPq1
namespace Go.Ev.W
open Go.Ev Go.Proofs
set_option maxRecDepth 100000
set_option linter.unusedVariables false

noncomputable abbrev spec_FmText.s : Sg := ⟨[.lend], [.agg [.int .i64, .int .i64, .int .i64, .sl false false 3, .sl false false 30, .sl false false 3, .int .i64, .sl false false 126, .int .i64, .int .i64, .int .i64, .sl false false 126, .int .i64, .int .i64, .int .i64, .sl false false 126]], ⟨[vo 5], [none]⟩, Tryz.f19⟩
noncomputable def spec_FmText.gs (δ : Type) : List (Nat × Callee (GT tab) δ) := [(60, spec_l09Text.k)]
theorem spec_FmText.gok (δ : Type) : AllCon Tryz.prog tab (spec_FmText.gs δ) := .cons spec_l09Text.con .nil
noncomputable def spec_FmText.c := cx spec_FmText.s [] [] false (spec_FmText.gs _)
noncomputable def spec_FmText (x0 : Int × Int × Int × (List Int) × (List (Int × (List Int))) × (List Int) × Int × (List Int) × Int × Int × Int × (List Int) × Int × Int × Int × (List Int)) : Option (List Int) := fnW spec_FmText.s spec_FmText.c x0
theorem spec_FmText.fok : FkS spec_FmText.s 19 := ⟨Tryz.func19, by kernel_rfl, by kernel_rfl⟩
noncomputable def spec_FmText.fn (x : Args tab spec_FmText.s.ar) : Option (ResT tab spec_FmText.s.rs) := spec_FmText x
noncomputable abbrev spec_FmText.k {δ : Type} : Callee (GT tab) δ := kS spec_FmText.s spec_FmText.fn
theorem spec_FmText.con {δ : Type} : Con Tryz.prog (KT tab) 19 (spec_FmText.k (δ := δ)) := con_shape (c := spec_FmText.c) mixed tysOk (getG_con (spec_FmText.gok _)) spec_FmText.fok rfl rfl fun _ => rfl
theorem spec_FmText.eq (x0 : Int × Int × Int × (List Int) × (List (Int × (List Int))) × (List Int) × Int × (List Int) × Int × Int × Int × (List Int) × Int × Int × Int × (List Int)) : spec_FmText x0 =
    (spec_l09Text x0).bind fun y1 =>
    some y1.1 := by kernel_rfl

noncomputable abbrev bytes_Equal.s : Sg := ⟨[.lend, .lend], [vl 5, vl 5], ⟨[vb], [none, none]⟩, Tryz.f106⟩
noncomputable def bytes_Equal.gs (δ : Type) : List (Nat × Callee (GT tab) δ) := []
theorem bytes_Equal.gok (δ : Type) : AllCon Tryz.prog tab (bytes_Equal.gs δ) := .nil
noncomputable def bytes_Equal.c := cx bytes_Equal.s [] [] false (bytes_Equal.gs _)
noncomputable def bytes_Equal (x0 x1 : List Int) : Option (Bool) := fnW bytes_Equal.s bytes_Equal.c (x0, x1)
theorem bytes_Equal.fok : FkS bytes_Equal.s 106 := ⟨Tryz.func106, by kernel_rfl, by kernel_rfl⟩
noncomputable def bytes_Equal.fn (x : Args tab bytes_Equal.s.ar) : Option (ResT tab bytes_Equal.s.rs) := bytes_Equal x.1 x.2
noncomputable abbrev bytes_Equal.k {δ : Type} : Callee (GT tab) δ := kS bytes_Equal.s bytes_Equal.fn
theorem bytes_Equal.con {δ : Type} : Con Tryz.prog (KT tab) 106 (bytes_Equal.k (δ := δ)) := con_shape (c := bytes_Equal.c) mixed tysOk (getG_con (bytes_Equal.gok _)) bytes_Equal.fok rfl rfl fun _ => rfl
theorem bytes_Equal.eq (x0 x1 : List Int) : bytes_Equal x0 x1 =
    some ((strOf (x0.map fun x => x)).toList == (strOf (x1.map fun x => x)).toList) := by kernel_rfl

end Go.Ev.W
