/- What functions of the program come to. -/
import Derived.Test.YtmobcecmjpfpiaaPpT
import Derived.Test.YtmobcecmjpfpiaaPp12
import Derived.Test.YtmobcecmjpfpiaaPp14
import Derived.Test.YtmobcecmjpfpiaaPp7
namespace Go.Ev.W
open Go.Ev Go.Proofs
set_option maxRecDepth 100000
set_option linter.unusedVariables false

noncomputable abbrev laws_FnWaveKth.s : Sg := ⟨[.lend], [vl 5], ⟨[vb], [none]⟩, Try.f6⟩
noncomputable def laws_FnWaveKth.gs (δ : Type) : List (Nat × Callee (GT tab) δ) := [(16, laws_big.k), (34, spec_WaveKth.k), (36, impl_WaveKth.k), (38, spec_DrawWaveKth.k), (39, impl_WaveLess.k), (40, impl_WaveRank.k)]
theorem laws_FnWaveKth.gok (δ : Type) : AllCon Try.prog tab (laws_FnWaveKth.gs δ) := .cons laws_big.con (.cons spec_WaveKth.con (.cons impl_WaveKth.con (.cons spec_DrawWaveKth.con (.cons impl_WaveLess.con (.cons impl_WaveRank.con .nil)))))
noncomputable def laws_FnWaveKth.c := cx laws_FnWaveKth.s [8] [(8, [3, 4, 5, 6, 8])] false (laws_FnWaveKth.gs _)
noncomputable def laws_FnWaveKth (x0 : List Int) : Option (Bool) := fnW laws_FnWaveKth.s laws_FnWaveKth.c x0
theorem laws_FnWaveKth.fok : FkS laws_FnWaveKth.s 6 := ⟨Try.func6, by kernel_rfl, by kernel_rfl⟩
noncomputable def laws_FnWaveKth.fn (x : Args tab laws_FnWaveKth.s.ar) : Option (ResT tab laws_FnWaveKth.s.rs) := laws_FnWaveKth x
noncomputable abbrev laws_FnWaveKth.as := laws_FnWaveKth.s.ar
noncomputable abbrev laws_FnWaveKth.k {δ : Type} : Callee (GT tab) δ := kS laws_FnWaveKth.s laws_FnWaveKth.fn
theorem laws_FnWaveKth.con {δ : Type} : Con Try.prog (KT tab) 6 (laws_FnWaveKth.k (δ := δ)) := con_shape (c := laws_FnWaveKth.c) mixed tysOk (getG_con (laws_FnWaveKth.gok _)) laws_FnWaveKth.fok rfl rfl fun _ => rfl
noncomputable def laws_FnWaveKth_l0 (v0 v1 v2 v3 v4 : Int) (v5 : List Int) (v6 : List (Int × (List Int))) : Option (Bool) := lpW laws_FnWaveKth.s laws_FnWaveKth.c 0 (ud 65 [.undef, .undef, .undef, .ptr 0 0, .int .i64 v0, .int .i64 v1, .int .i64 v2, .undef, .int .i64 v3]) [.box 49 [.int .i64 v4, .sl 1 0, .sl 2 0], .row 0 true 3 v5, .row 0 true 32 v6] 3
theorem laws_FnWaveKth.eq (x0 : List Int) : laws_FnWaveKth x0 =
    (laws_big x0).bind fun y1 =>
    bif y1 then
      some true
    else
      (spec_DrawWaveKth x0).bind fun y2 =>
      (spec_WaveKth y2.1 y2.2.1 y2.2.2.1 y2.2.2.2).bind fun y3 =>
      (impl_WaveKth y2.1 y2.2.1 y2.2.2.1 y2.2.2.2).bind fun y4 =>
      bif y4 != y3 then
        some (y4 == y3)
      else
        bif decide (y4 < (0 : Int)) then
          some (y4 == y3)
        else
          laws_FnWaveKth_l0 y2.2.1 y2.2.2.1 y2.2.2.2 y4 y2.1.1 y2.1.2.1 y2.1.2.2 := by kernel_rfl
theorem laws_FnWaveKth_l0.eq (v0 v1 v2 v3 v4 : Int) (v5 : List Int) (v6 : List (Int × (List Int))) : laws_FnWaveKth_l0 v0 v1 v2 v3 v4 v5 v6 =
    (impl_WaveLess (v4, v5, v6) v3 v0 v1).bind fun y1 =>
    (impl_WaveLess (v4, v5, v6) (IntKind.i64.wrap (v3 + (1 : Int))) v0 v1).bind fun y2 =>
    bif decide (y1 ≤ v2) then
      bif decide (y2 > v2) then
        (impl_WaveRank (v4, v5, v6) v3 v1).bind fun y3 =>
        (impl_WaveRank (v4, v5, v6) v3 v0).bind fun y4 =>
        some (IntKind.i64.wrap (y2 - y1) == IntKind.i64.wrap (y3 - y4))
      else
        some false
    else
      some false := (Lw_eq tysOk (getG_con (laws_FnWaveKth.gok _)) _ _).trans (by kernel_rfl)

end Go.Ev.W
