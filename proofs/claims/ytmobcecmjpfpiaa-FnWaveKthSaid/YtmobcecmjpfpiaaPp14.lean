/- What functions of the program come to. -/
import Derived.Test.YtmobcecmjpfpiaaPpT
import Derived.Test.YtmobcecmjpfpiaaPp12
import Derived.Test.YtmobcecmjpfpiaaPp3
import Derived.Test.YtmobcecmjpfpiaaPp7
import Derived.Test.YtmobcecmjpfpiaaPp9
namespace Go.Ev.W
open Go.Ev Go.Proofs
set_option maxRecDepth 100000
set_option linter.unusedVariables false

noncomputable abbrev spec_l01Cur_spanIn.s : Sg := ⟨[.keep, .lend], [.one (.ptr true 122 [.b (.b (.b (.sl false false 5))), .b (.b (.b (.int .i64))), .b (.b (.b (.int .i64)))]), vi], ⟨[vi, vi], [some (.one (.ptr true 122 [.b (.b (.b (.sl false false 5))), .b (.b (.b (.int .i64))), .b (.b (.b (.int .i64)))])), none]⟩, Try.f81⟩
noncomputable def spec_l01Cur_spanIn.gs (δ : Type) : List (Nat × Callee (GT tab) δ) := [(82, spec_l01Cur_pick.k), (83, spec_l01Cur_raw.k), (100, spec_l01Cur_once.k)]
theorem spec_l01Cur_spanIn.gok (δ : Type) : AllCon Try.prog tab (spec_l01Cur_spanIn.gs δ) := .cons spec_l01Cur_pick.con (.cons spec_l01Cur_raw.con (.cons spec_l01Cur_once.con .nil))
noncomputable def spec_l01Cur_spanIn.c := cx spec_l01Cur_spanIn.s [] [] false (spec_l01Cur_spanIn.gs _)
noncomputable def spec_l01Cur_spanIn (x0 : (List Int) × Int × Int) (x1 : Int) : Option (Int × Int × ((List Int) × Int × Int)) := fnW spec_l01Cur_spanIn.s spec_l01Cur_spanIn.c (x0, x1)
theorem spec_l01Cur_spanIn.fok : FkS spec_l01Cur_spanIn.s 81 := ⟨Try.func81, by kernel_rfl, by kernel_rfl⟩
noncomputable def spec_l01Cur_spanIn.fn (x : Args tab spec_l01Cur_spanIn.s.ar) : Option (ResT tab spec_l01Cur_spanIn.s.rs) := spec_l01Cur_spanIn x.1 x.2
noncomputable abbrev spec_l01Cur_spanIn.k {δ : Type} : Callee (GT tab) δ := kS spec_l01Cur_spanIn.s spec_l01Cur_spanIn.fn
theorem spec_l01Cur_spanIn.con {δ : Type} : Con Try.prog (KT tab) 81 (spec_l01Cur_spanIn.k (δ := δ)) := con_shape (c := spec_l01Cur_spanIn.c) mixed tysOk (getG_con (spec_l01Cur_spanIn.gok _)) spec_l01Cur_spanIn.fok rfl rfl fun _ => rfl
theorem spec_l01Cur_spanIn.eq (x0 : (List Int) × Int × Int) (x1 : Int) : spec_l01Cur_spanIn x0 x1 =
    (spec_l01Cur_once x0 (9 : Int)).bind fun y1 =>
    bif y1.1 then
      (spec_l01Cur_raw y1.2).bind fun y2 =>
      (spec_l01Cur_raw y2.2).bind fun y3 =>
      some (y2.1, y3.1, y3.2)
    else
      (spec_l01Cur_pick y1.2 (if IntKind.i64.wrap (x1 + (1 : Int)) > (1 : Int) then IntKind.i64.wrap (x1 + (1 : Int)) else (1 : Int))).bind fun y4 =>
      (spec_l01Cur_pick y4.2 (if IntKind.i64.wrap ((IntKind.i64.wrap (x1 - y4.1)) + (1 : Int)) > (1 : Int) then IntKind.i64.wrap ((IntKind.i64.wrap (x1 - y4.1)) + (1 : Int)) else (1 : Int))).bind fun y5 =>
      some (y4.1, IntKind.i64.wrap (y4.1 + y5.1), y5.2) := by kernel_rfl

noncomputable abbrev spec_DrawWaveKth.s : Sg := ⟨[.lend], [vl 5], ⟨[.agg [.int .i64, .sl true true 3, .sl true true 32], vi, vi, vi], [none]⟩, Try.f38⟩
noncomputable def spec_DrawWaveKth.gs (δ : Type) : List (Nat × Callee (GT tab) δ) := [(52, spec_l01Open.k), (55, spec_l01Cur_wave.k), (81, spec_l01Cur_spanIn.k), (82, spec_l01Cur_pick.k), (83, spec_l01Cur_raw.k)]
theorem spec_DrawWaveKth.gok (δ : Type) : AllCon Try.prog tab (spec_DrawWaveKth.gs δ) := .cons spec_l01Open.con (.cons spec_l01Cur_wave.con (.cons spec_l01Cur_spanIn.con (.cons spec_l01Cur_pick.con (.cons spec_l01Cur_raw.con .nil))))
noncomputable def spec_DrawWaveKth.c := cx spec_DrawWaveKth.s [] [] false (spec_DrawWaveKth.gs _)
noncomputable def spec_DrawWaveKth (x0 : List Int) : Option ((Int × (List Int) × (List (Int × (List Int)))) × Int × Int × Int) := fnW spec_DrawWaveKth.s spec_DrawWaveKth.c x0
theorem spec_DrawWaveKth.fok : FkS spec_DrawWaveKth.s 38 := ⟨Try.func38, by kernel_rfl, by kernel_rfl⟩
noncomputable def spec_DrawWaveKth.fn (x : Args tab spec_DrawWaveKth.s.ar) : Option (ResT tab spec_DrawWaveKth.s.rs) := spec_DrawWaveKth x
noncomputable abbrev spec_DrawWaveKth.k {δ : Type} : Callee (GT tab) δ := kS spec_DrawWaveKth.s spec_DrawWaveKth.fn
theorem spec_DrawWaveKth.con {δ : Type} : Con Try.prog (KT tab) 38 (spec_DrawWaveKth.k (δ := δ)) := con_shape (c := spec_DrawWaveKth.c) mixed tysOk (getG_con (spec_DrawWaveKth.gok _)) spec_DrawWaveKth.fok rfl rfl fun _ => rfl
theorem spec_DrawWaveKth.eq (x0 : List Int) : spec_DrawWaveKth x0 =
    (spec_l01Open x0).bind fun y1 =>
    (spec_l01Cur_wave y1).bind fun y2 =>
    (spec_l01Cur_spanIn y2.2 (if (if y2.1.1 > (0 : Int) then y2.1.1 else (0 : Int)) < (30 : Int) then (if y2.1.1 > (0 : Int) then y2.1.1 else (0 : Int)) else (30 : Int))).bind fun y3 =>
    (spec_l01Cur_pick y3.2.2 (9 : Int)).bind fun y4 =>
    (spec_l01Cur_raw y4.2).bind fun y5 =>
    (spec_l01Cur_pick y5.2 (3 : Int)).bind fun y6 =>
    (at? ([(0 : Int), y4.1, y5.1] : List Int) y6.1).bind fun y7 =>
    ([(0 : Int), y4.1, y5.1] : List Int)[y6.1.toNat]?.bind fun y8 =>
    some (y2.1, y3.1, y3.2.1, y8) := by kernel_rfl

noncomputable abbrev impl_WaveLess.s : Sg := ⟨[.lend, .lend, .lend, .lend], [.agg [.int .i64, .sl false false 3, .sl false false 32], vi, vi, vi], ⟨[vi], [none, none, none, none]⟩, Try.f39⟩
noncomputable def impl_WaveLess.gs (δ : Type) : List (Nat × Callee (GT tab) δ) := [(75, impl_Wave_read.k), (76, impl_isRange.k)]
theorem impl_WaveLess.gok (δ : Type) : AllCon Try.prog tab (impl_WaveLess.gs δ) := .cons impl_Wave_read.con (.cons impl_isRange.con .nil)
noncomputable def impl_WaveLess.c := cx impl_WaveLess.s [4] [(4, [1, 2, 3, 9]), (6, [1, 11, 32, 33, 34])] false (impl_WaveLess.gs _)
noncomputable def impl_WaveLess (x0 : Int × (List Int) × (List (Int × (List Int)))) (x1 x2 x3 : Int) : Option (Int) := fnW impl_WaveLess.s impl_WaveLess.c (x0, x1, x2, x3)
theorem impl_WaveLess.fok : FkS impl_WaveLess.s 39 := ⟨Try.func39, by kernel_rfl, by kernel_rfl⟩
noncomputable def impl_WaveLess.fn (x : Args tab impl_WaveLess.s.ar) : Option (ResT tab impl_WaveLess.s.rs) := impl_WaveLess x.1 x.2.1 x.2.2.1 x.2.2.2
noncomputable abbrev impl_WaveLess.k {δ : Type} : Callee (GT tab) δ := kS impl_WaveLess.s impl_WaveLess.fn
theorem impl_WaveLess.con {δ : Type} : Con Try.prog (KT tab) 39 (impl_WaveLess.k (δ := δ)) := con_shape (c := impl_WaveLess.c) mixed tysOk (getG_con (impl_WaveLess.gok _)) impl_WaveLess.fok rfl rfl fun _ => rfl
noncomputable def impl_WaveLess_l0 (v0 v1 v2 : Int) (v3 : List Int) : Option (Int) := lpW impl_WaveLess.s impl_WaveLess.c 0 (ud 35 [.undef, .int .i64 v0, .int .i64 v1, .int .i64 v2, .undef, .undef, .undef, .undef, .undef, .sl 0 0]) [.row 0 true 3 v3] 1
noncomputable def impl_WaveLess_l1 (v0 v1 : Int) (v2 v3 : Nat) (v4 v5 : Int) (v6 : List Int) : Option (Int) := lpW impl_WaveLess.s impl_WaveLess.c 1 (ud 10 [.undef, .int .i64 v0, .undef, .undef, .undef, .undef, .undef, .undef, .undef, .undef, .undef, .int .i64 v1, .undef, .undef, .undef, .undef, .undef, .undef, .undef, .undef, .undef, .undef, .undef, .undef, .undef, .undef, .undef, .undef, .undef, .undef, .undef, .undef, .sv 0 0 v2 v3, .int .i64 v4, .int .i64 v5]) [.row 0 true 3 v6] 1
theorem impl_WaveLess.eq (x0 : Int × (List Int) × (List (Int × (List Int)))) (x1 x2 x3 : Int) : impl_WaveLess x0 x1 x2 x3 =
    (impl_Wave_read x0).bind fun y1 =>
    bif !y1.2 then
      some (-1 : Int)
    else
      (impl_isRange x2 x3 (y1.1.length : Int)).bind fun y2 =>
      bif !y2 then
        some (-1 : Int)
      else
        impl_WaveLess_l0 x1 x2 x3 y1.1 := by kernel_rfl
theorem impl_WaveLess_l0.eq (v0 v1 v2 : Int) (v3 : List Int) : impl_WaveLess_l0 v0 v1 v2 v3 =
    bif decide (0 ≤ v2 ∧ v2 ≤ ((v3.length : Nat) : Int)) then
      bif decide (0 ≤ v1 ∧ v1 ≤ ((v2.toNat : Nat) : Int)) then
        impl_WaveLess_l1 v0 (0 : Int) v1.toNat (v2.toNat - v1.toNat) ((v2.toNat - v1.toNat : Nat) : Int) (0 : Int) v3
      else
        none
    else
      none := (Lw_eq tysOk (getG_con (impl_WaveLess.gok _)) _ _).trans (by kernel_rfl)
theorem impl_WaveLess_l1.eq (v0 v1 : Int) (v2 v3 : Nat) (v4 v5 : Int) (v6 : List Int) : impl_WaveLess_l1 v0 v1 v2 v3 v4 v5 v6 =
    bif decide (v5 < v4) then
      bif decide (0 ≤ v5 ∧ v5 < ((v3 : Nat) : Int)) then
        v6[v2 + v5.toNat]?.bind fun y1 =>
        bif decide (y1 < v0) then
          impl_WaveLess_l1 v0 (IntKind.i64.wrap (v1 + (1 : Int))) v2 v3 v4 (IntKind.i64.wrap (v5 + (1 : Int))) v6
        else
          impl_WaveLess_l1 v0 v1 v2 v3 v4 (IntKind.i64.wrap (v5 + (1 : Int))) v6
      else
        none
    else
      some v1 := (Lw_eq tysOk (getG_con (impl_WaveLess.gok _)) _ _).trans (by kernel_rfl)

noncomputable abbrev impl_WaveRank.s : Sg := ⟨[.lend, .lend, .lend], [.agg [.int .i64, .sl false false 3, .sl false false 32], vi, vi], ⟨[vi], [none, none, none]⟩, Try.f40⟩
noncomputable def impl_WaveRank.gs (δ : Type) : List (Nat × Callee (GT tab) δ) := [(67, impl_count.k), (75, impl_Wave_read.k), (77, impl_within.k)]
theorem impl_WaveRank.gok (δ : Type) : AllCon Try.prog tab (impl_WaveRank.gs δ) := .cons impl_count.con (.cons impl_Wave_read.con (.cons impl_within.con .nil))
noncomputable def impl_WaveRank.c := cx impl_WaveRank.s [] [] false (impl_WaveRank.gs _)
noncomputable def impl_WaveRank (x0 : Int × (List Int) × (List (Int × (List Int)))) (x1 x2 : Int) : Option (Int) := fnW impl_WaveRank.s impl_WaveRank.c (x0, x1, x2)
theorem impl_WaveRank.fok : FkS impl_WaveRank.s 40 := ⟨Try.func40, by kernel_rfl, by kernel_rfl⟩
noncomputable def impl_WaveRank.fn (x : Args tab impl_WaveRank.s.ar) : Option (ResT tab impl_WaveRank.s.rs) := impl_WaveRank x.1 x.2.1 x.2.2
noncomputable abbrev impl_WaveRank.k {δ : Type} : Callee (GT tab) δ := kS impl_WaveRank.s impl_WaveRank.fn
theorem impl_WaveRank.con {δ : Type} : Con Try.prog (KT tab) 40 (impl_WaveRank.k (δ := δ)) := con_shape (c := impl_WaveRank.c) mixed tysOk (getG_con (impl_WaveRank.gok _)) impl_WaveRank.fok rfl rfl fun _ => rfl
theorem impl_WaveRank.eq (x0 : Int × (List Int) × (List (Int × (List Int)))) (x1 x2 : Int) : impl_WaveRank x0 x1 x2 =
    (impl_Wave_read x0).bind fun y1 =>
    bif !y1.2 then
      some (-1 : Int)
    else
      (impl_within x2 (0 : Int) (y1.1.length : Int)).bind fun y2 =>
      bif !y2 then
        some (-1 : Int)
      else
        bif decide (0 ≤ x2 ∧ x2 ≤ ((y1.1.length : Nat) : Int)) then
          (impl_count ((y1.1.drop 0).take (x2.toNat - 0)) x1).bind fun y3 =>
          some y3
        else
          none := by kernel_rfl

end Go.Ev.W
