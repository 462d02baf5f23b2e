/- What functions of the program come to. -/
import Derived.Test.YtmobcecmjpfpiaaPpT
import Derived.Test.YtmobcecmjpfpiaaPp11
import Derived.Test.YtmobcecmjpfpiaaPp12
namespace Go.Ev.W
open Go.Ev Go.Proofs
set_option maxRecDepth 100000
set_option linter.unusedVariables false

noncomputable abbrev laws_FnExactWaveKth.s : Sg := ⟨[.lend, .lend, .lend, .lend], [.agg [.int .i64, .sl false false 3, .sl false false 24], vi, vi, vi], ⟨[vb], [none, none, none, none]⟩, Try.f5⟩
noncomputable def laws_FnExactWaveKth.gs (δ : Type) : List (Nat × Callee (GT tab) δ) := [(33, laws_szWave.k), (34, spec_WaveKth.k), (35, laws_toWave.k), (36, impl_WaveKth.k), (37, laws_eqWave.k)]
theorem laws_FnExactWaveKth.gok (δ : Type) : AllCon Try.prog tab (laws_FnExactWaveKth.gs δ) := .cons laws_szWave.con (.cons spec_WaveKth.con (.cons laws_toWave.con (.cons impl_WaveKth.con (.cons laws_eqWave.con .nil))))
noncomputable def laws_FnExactWaveKth.c := cx laws_FnExactWaveKth.s [] [] false (laws_FnExactWaveKth.gs _)
noncomputable def laws_FnExactWaveKth (x0 : Int × (List Int) × (List (Int × (List Int)))) (x1 x2 x3 : Int) : Option (Bool) := fnW laws_FnExactWaveKth.s laws_FnExactWaveKth.c (x0, x1, x2, x3)
theorem laws_FnExactWaveKth.fok : FkS laws_FnExactWaveKth.s 5 := ⟨Try.func5, by kernel_rfl, by kernel_rfl⟩
noncomputable def laws_FnExactWaveKth.fn (x : Args tab laws_FnExactWaveKth.s.ar) : Option (ResT tab laws_FnExactWaveKth.s.rs) := laws_FnExactWaveKth x.1 x.2.1 x.2.2.1 x.2.2.2
noncomputable abbrev laws_FnExactWaveKth.as := laws_FnExactWaveKth.s.ar
noncomputable abbrev laws_FnExactWaveKth.k {δ : Type} : Callee (GT tab) δ := kS laws_FnExactWaveKth.s laws_FnExactWaveKth.fn
theorem laws_FnExactWaveKth.con {δ : Type} : Con Try.prog (KT tab) 5 (laws_FnExactWaveKth.k (δ := δ)) := con_shape (c := laws_FnExactWaveKth.c) mixed tysOk (getG_con (laws_FnExactWaveKth.gok _)) laws_FnExactWaveKth.fok rfl rfl fun _ => rfl
theorem laws_FnExactWaveKth.eq (x0 : Int × (List Int) × (List (Int × (List Int)))) (x1 x2 x3 : Int) : laws_FnExactWaveKth x0 x1 x2 x3 =
    (laws_szWave x0 (1048576 : Int)).bind fun y1 =>
    bif decide (y1 < (0 : Int)) then
      some true
    else
      (laws_toWave x0).bind fun y2 =>
      (spec_WaveKth y2 x1 x2 x3).bind fun y3 =>
      (laws_toWave x0).bind fun y4 =>
      (impl_WaveKth y4 x1 x2 x3).bind fun y5 =>
      bif y5 != y3 then
        some false
      else
        (laws_toWave x0).bind fun y6 =>
        (laws_eqWave y4 y6).bind fun y7 =>
        bif !y7 then
          some false
        else
          some true := by kernel_rfl

end Go.Ev.W
