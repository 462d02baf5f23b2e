/- What functions of the program come to. -/
import Derived.Test.YtddhebliggkadaaGreatPqT
import Derived.Test.YtddhebliggkadaaGreatPq1
import Derived.Test.YtddhebliggkadaaGreatPq6
namespace Go.Ev.W
open Go.Ev Go.Proofs
set_option maxRecDepth 100000
set_option linter.unusedVariables false

noncomputable abbrev spec_l01Cur_place.s : Sg := ⟨[.keep, .lend], [.one (.ptr true 116 [.b (.b (.b (.sl false false 5))), .b (.b (.b (.int .i64))), .b (.b (.b (.int .i64)))]), vi], ⟨[vi], [some (.one (.ptr true 116 [.b (.b (.b (.sl false false 5))), .b (.b (.b (.int .i64))), .b (.b (.b (.int .i64)))])), none]⟩, Tryz.f62⟩
noncomputable def spec_l01Cur_place.gs (δ : Type) : List (Nat × Callee (GT tab) δ) := [(114, spec_l01Cur_pick.k), (115, spec_l01Cur_raw.k)]
theorem spec_l01Cur_place.gok (δ : Type) : AllCon Tryz.prog tab (spec_l01Cur_place.gs δ) := .cons spec_l01Cur_pick.con (.cons spec_l01Cur_raw.con .nil)
noncomputable def spec_l01Cur_place.c := cx spec_l01Cur_place.s [] [] false (spec_l01Cur_place.gs _)
noncomputable def spec_l01Cur_place (x0 : (List Int) × Int × Int) (x1 : Int) : Option (Int × ((List Int) × Int × Int)) := fnW spec_l01Cur_place.s spec_l01Cur_place.c (x0, x1)
theorem spec_l01Cur_place.fok : FkS spec_l01Cur_place.s 62 := ⟨Tryz.func62, by kernel_rfl, by kernel_rfl⟩
noncomputable def spec_l01Cur_place.fn (x : Args tab spec_l01Cur_place.s.ar) : Option (ResT tab spec_l01Cur_place.s.rs) := spec_l01Cur_place x.1 x.2
noncomputable abbrev spec_l01Cur_place.k {δ : Type} : Callee (GT tab) δ := kS spec_l01Cur_place.s spec_l01Cur_place.fn
theorem spec_l01Cur_place.con {δ : Type} : Con Tryz.prog (KT tab) 62 (spec_l01Cur_place.k (δ := δ)) := con_shape (c := spec_l01Cur_place.c) mixed tysOk (getG_con (spec_l01Cur_place.gok _)) spec_l01Cur_place.fok rfl rfl fun _ => rfl
theorem spec_l01Cur_place.eq (x0 : (List Int) × Int × Int) (x1 : Int) : spec_l01Cur_place x0 x1 =
    (spec_l01Cur_pick x0 (if IntKind.i64.wrap (x1 + (2 : Int)) > (1 : Int) then IntKind.i64.wrap (x1 + (2 : Int)) else (1 : Int))).bind fun y1 =>
    (spec_l01Cur_raw y1.2).bind fun y2 =>
    (spec_l01Cur_pick y2.2 (if x1 > (1 : Int) then x1 else (1 : Int))).bind fun y3 =>
    (spec_l01Cur_pick y3.2 (5 : Int)).bind fun y4 =>
    (at? ([y1.1, x1, IntKind.i64.wrap (x1 - (1 : Int)), y2.1, y3.1] : List Int) y4.1).bind fun y5 =>
    ([y1.1, x1, IntKind.i64.wrap (x1 - (1 : Int)), y2.1, y3.1] : List Int)[y4.1.toNat]?.bind fun y6 =>
    some (y6, y4.2) := by kernel_rfl

noncomputable abbrev spec_DrawFmHops.s : Sg := ⟨[.lend], [vl 5], ⟨[.agg [.int .i64, .int .i64, .int .i64, .sl false false 3, .sl false false 30, .sl false false 3, .int .i64, .sl false false 126, .int .i64, .int .i64, .int .i64, .sl false false 126, .int .i64, .int .i64, .int .i64, .sl false false 126], vi], [none]⟩, Tryz.f20⟩
noncomputable def spec_DrawFmHops.gs (δ : Type) : List (Nat × Callee (GT tab) δ) := [(55, spec_l01Open.k), (56, spec_l01Cur_fm.k), (62, spec_l01Cur_place.k)]
theorem spec_DrawFmHops.gok (δ : Type) : AllCon Tryz.prog tab (spec_DrawFmHops.gs δ) := .cons spec_l01Open.con (.cons spec_l01Cur_fm.con (.cons spec_l01Cur_place.con .nil))
noncomputable def spec_DrawFmHops.c := cx spec_DrawFmHops.s [] [] false (spec_DrawFmHops.gs _)
noncomputable def spec_DrawFmHops (x0 : List Int) : Option ((Int × Int × Int × (List Int) × (List (Int × (List Int))) × (List Int) × Int × (List Int) × Int × Int × Int × (List Int) × Int × Int × Int × (List Int)) × Int) := fnW spec_DrawFmHops.s spec_DrawFmHops.c x0
theorem spec_DrawFmHops.fok : FkS spec_DrawFmHops.s 20 := ⟨Tryz.func20, by kernel_rfl, by kernel_rfl⟩
noncomputable def spec_DrawFmHops.fn (x : Args tab spec_DrawFmHops.s.ar) : Option (ResT tab spec_DrawFmHops.s.rs) := spec_DrawFmHops x
noncomputable abbrev spec_DrawFmHops.k {δ : Type} : Callee (GT tab) δ := kS spec_DrawFmHops.s spec_DrawFmHops.fn
theorem spec_DrawFmHops.con {δ : Type} : Con Tryz.prog (KT tab) 20 (spec_DrawFmHops.k (δ := δ)) := con_shape (c := spec_DrawFmHops.c) mixed tysOk (getG_con (spec_DrawFmHops.gok _)) spec_DrawFmHops.fok rfl rfl fun _ => rfl
theorem spec_DrawFmHops.eq (x0 : List Int) : spec_DrawFmHops x0 =
    (spec_l01Open x0).bind fun y1 =>
    (spec_l01Cur_fm y1).bind fun y2 =>
    (spec_l01Cur_place y2.2 (if (if y2.1.1 > (0 : Int) then y2.1.1 else (0 : Int)) < (40 : Int) then (if y2.1.1 > (0 : Int) then y2.1.1 else (0 : Int)) else (40 : Int))).bind fun y3 =>
    some (y2.1, y3.1) := by kernel_rfl

noncomputable abbrev impl_FmSa.s : Sg := ⟨[.lend, .lend], [.agg [.int .i64, .int .i64, .int .i64, .sl false false 3, .sl false false 30, .sl false false 3, .int .i64, .sl false false 126, .int .i64, .int .i64, .int .i64, .sl false false 126, .int .i64, .int .i64, .int .i64, .sl false false 126], vi], ⟨[vi], [none, none]⟩, Tryz.f21⟩
noncomputable def impl_FmSa.gs (δ : Type) : List (Nat × Callee (GT tab) δ) := [(58, impl_Fm_read.k), (63, impl_within.k), (64, impl_suffixRows.k)]
theorem impl_FmSa.gok (δ : Type) : AllCon Tryz.prog tab (impl_FmSa.gs δ) := .cons impl_Fm_read.con (.cons impl_within.con (.cons impl_suffixRows.con .nil))
noncomputable def impl_FmSa.c := cx impl_FmSa.s [] [] false (impl_FmSa.gs _)
noncomputable def impl_FmSa (x0 : Int × Int × Int × (List Int) × (List (Int × (List Int))) × (List Int) × Int × (List Int) × Int × Int × Int × (List Int) × Int × Int × Int × (List Int)) (x1 : Int) : Option (Int) := fnW impl_FmSa.s impl_FmSa.c (x0, x1)
theorem impl_FmSa.fok : FkS impl_FmSa.s 21 := ⟨Tryz.func21, by kernel_rfl, by kernel_rfl⟩
noncomputable def impl_FmSa.fn (x : Args tab impl_FmSa.s.ar) : Option (ResT tab impl_FmSa.s.rs) := impl_FmSa x.1 x.2
noncomputable abbrev impl_FmSa.k {δ : Type} : Callee (GT tab) δ := kS impl_FmSa.s impl_FmSa.fn
theorem impl_FmSa.con {δ : Type} : Con Tryz.prog (KT tab) 21 (impl_FmSa.k (δ := δ)) := con_shape (c := impl_FmSa.c) mixed tysOk (getG_con (impl_FmSa.gok _)) impl_FmSa.fok rfl rfl fun _ => rfl
theorem impl_FmSa.eq (x0 : Int × Int × Int × (List Int) × (List (Int × (List Int))) × (List Int) × Int × (List Int) × Int × Int × Int × (List Int) × Int × Int × Int × (List Int)) (x1 : Int) : impl_FmSa x0 x1 =
    (impl_Fm_read x0).bind fun y1 =>
    bif !y1.2 then
      some (-1 : Int)
    else
      (impl_within x1 (0 : Int) (y1.1.length : Int)).bind fun y2 =>
      bif !y2 then
        some (-1 : Int)
      else
        (impl_suffixRows y1.1).bind fun y3 =>
        (at? y3 x1).bind fun y4 =>
        y3[x1.toNat]?.bind fun y5 =>
        some y5 := by kernel_rfl

noncomputable abbrev impl_FmHops.s : Sg := ⟨[.lend, .lend], [.agg [.int .i64, .int .i64, .int .i64, .sl false false 3, .sl false false 30, .sl false false 3, .int .i64, .sl false false 126, .int .i64, .int .i64, .int .i64, .sl false false 126, .int .i64, .int .i64, .int .i64, .sl false false 126], vi], ⟨[vi], [none, none]⟩, Tryz.f22⟩
noncomputable def impl_FmHops.gs (δ : Type) : List (Nat × Callee (GT tab) δ) := [(58, impl_Fm_read.k), (63, impl_within.k), (64, impl_suffixRows.k)]
theorem impl_FmHops.gok (δ : Type) : AllCon Tryz.prog tab (impl_FmHops.gs δ) := .cons impl_Fm_read.con (.cons impl_within.con (.cons impl_suffixRows.con .nil))
noncomputable def impl_FmHops.c := cx impl_FmHops.s [] [] false (impl_FmHops.gs _)
noncomputable def impl_FmHops (x0 : Int × Int × Int × (List Int) × (List (Int × (List Int))) × (List Int) × Int × (List Int) × Int × Int × Int × (List Int) × Int × Int × Int × (List Int)) (x1 : Int) : Option (Int) := fnW impl_FmHops.s impl_FmHops.c (x0, x1)
theorem impl_FmHops.fok : FkS impl_FmHops.s 22 := ⟨Tryz.func22, by kernel_rfl, by kernel_rfl⟩
noncomputable def impl_FmHops.fn (x : Args tab impl_FmHops.s.ar) : Option (ResT tab impl_FmHops.s.rs) := impl_FmHops x.1 x.2
noncomputable abbrev impl_FmHops.k {δ : Type} : Callee (GT tab) δ := kS impl_FmHops.s impl_FmHops.fn
theorem impl_FmHops.con {δ : Type} : Con Tryz.prog (KT tab) 22 (impl_FmHops.k (δ := δ)) := con_shape (c := impl_FmHops.c) mixed tysOk (getG_con (impl_FmHops.gok _)) impl_FmHops.fok rfl rfl fun _ => rfl
theorem impl_FmHops.eq (x0 : Int × Int × Int × (List Int) × (List (Int × (List Int))) × (List Int) × Int × (List Int) × Int × Int × Int × (List Int) × Int × Int × Int × (List Int)) (x1 : Int) : impl_FmHops x0 x1 =
    (impl_Fm_read x0).bind fun y1 =>
    bif !y1.2 then
      some (-1 : Int)
    else
      (impl_within x1 (0 : Int) (y1.1.length : Int)).bind fun y2 =>
      bif !y2 then
        some (-1 : Int)
      else
        (impl_suffixRows y1.1).bind fun y3 =>
        (at? y3 x1).bind fun y4 =>
        y3[x1.toNat]?.bind fun y5 =>
        bif decide (x0.2.1 = (0 : Int)) then
          none
        else
          some (y5.tmod x0.2.1) := by kernel_rfl

noncomputable abbrev spec_FmSa.s : Sg := ⟨[.lend, .lend], [.agg [.int .i64, .int .i64, .int .i64, .sl false false 3, .sl false false 30, .sl false false 3, .int .i64, .sl false false 126, .int .i64, .int .i64, .int .i64, .sl false false 126, .int .i64, .int .i64, .int .i64, .sl false false 126], vi], ⟨[vi], [none, none]⟩, Tryz.f23⟩
noncomputable def spec_FmSa.gs (δ : Type) : List (Nat × Callee (GT tab) δ) := [(60, spec_l09Text.k), (65, spec_SuffixRows.k)]
theorem spec_FmSa.gok (δ : Type) : AllCon Tryz.prog tab (spec_FmSa.gs δ) := .cons spec_l09Text.con (.cons spec_SuffixRows.con .nil)
noncomputable def spec_FmSa.c := cx spec_FmSa.s [] [] false (spec_FmSa.gs _)
noncomputable def spec_FmSa (x0 : Int × Int × Int × (List Int) × (List (Int × (List Int))) × (List Int) × Int × (List Int) × Int × Int × Int × (List Int) × Int × Int × Int × (List Int)) (x1 : Int) : Option (Int) := fnW spec_FmSa.s spec_FmSa.c (x0, x1)
theorem spec_FmSa.fok : FkS spec_FmSa.s 23 := ⟨Tryz.func23, by kernel_rfl, by kernel_rfl⟩
noncomputable def spec_FmSa.fn (x : Args tab spec_FmSa.s.ar) : Option (ResT tab spec_FmSa.s.rs) := spec_FmSa x.1 x.2
noncomputable abbrev spec_FmSa.k {δ : Type} : Callee (GT tab) δ := kS spec_FmSa.s spec_FmSa.fn
theorem spec_FmSa.con {δ : Type} : Con Tryz.prog (KT tab) 23 (spec_FmSa.k (δ := δ)) := con_shape (c := spec_FmSa.c) mixed tysOk (getG_con (spec_FmSa.gok _)) spec_FmSa.fok rfl rfl fun _ => rfl
theorem spec_FmSa.eq (x0 : Int × Int × Int × (List Int) × (List (Int × (List Int))) × (List Int) × Int × (List Int) × Int × Int × Int × (List Int) × Int × Int × Int × (List Int)) (x1 : Int) : spec_FmSa x0 x1 =
    (spec_l09Text x0).bind fun y1 =>
    bif !y1.2 then
      some (-1 : Int)
    else
      bif decide (x1 < (0 : Int)) then
        some (-1 : Int)
      else
        bif decide (x1 > (y1.1.length : Int)) then
          some (-1 : Int)
        else
          (spec_SuffixRows y1.1).bind fun y2 =>
          (at? y2 x1).bind fun y3 =>
          y2[x1.toNat]?.bind fun y4 =>
          some y4 := by kernel_rfl

noncomputable abbrev spec_FmHops.s : Sg := ⟨[.lend, .lend], [.agg [.int .i64, .int .i64, .int .i64, .sl false false 3, .sl false false 30, .sl false false 3, .int .i64, .sl false false 126, .int .i64, .int .i64, .int .i64, .sl false false 126, .int .i64, .int .i64, .int .i64, .sl false false 126], vi], ⟨[vi], [none, none]⟩, Tryz.f24⟩
noncomputable def spec_FmHops.gs (δ : Type) : List (Nat × Callee (GT tab) δ) := [(23, spec_FmSa.k)]
theorem spec_FmHops.gok (δ : Type) : AllCon Tryz.prog tab (spec_FmHops.gs δ) := .cons spec_FmSa.con .nil
noncomputable def spec_FmHops.c := cx spec_FmHops.s [] [] false (spec_FmHops.gs _)
noncomputable def spec_FmHops (x0 : Int × Int × Int × (List Int) × (List (Int × (List Int))) × (List Int) × Int × (List Int) × Int × Int × Int × (List Int) × Int × Int × Int × (List Int)) (x1 : Int) : Option (Int) := fnW spec_FmHops.s spec_FmHops.c (x0, x1)
theorem spec_FmHops.fok : FkS spec_FmHops.s 24 := ⟨Tryz.func24, by kernel_rfl, by kernel_rfl⟩
noncomputable def spec_FmHops.fn (x : Args tab spec_FmHops.s.ar) : Option (ResT tab spec_FmHops.s.rs) := spec_FmHops x.1 x.2
noncomputable abbrev spec_FmHops.k {δ : Type} : Callee (GT tab) δ := kS spec_FmHops.s spec_FmHops.fn
theorem spec_FmHops.con {δ : Type} : Con Tryz.prog (KT tab) 24 (spec_FmHops.k (δ := δ)) := con_shape (c := spec_FmHops.c) mixed tysOk (getG_con (spec_FmHops.gok _)) spec_FmHops.fok rfl rfl fun _ => rfl
theorem spec_FmHops.eq (x0 : Int × Int × Int × (List Int) × (List (Int × (List Int))) × (List Int) × Int × (List Int) × Int × Int × Int × (List Int) × Int × Int × Int × (List Int)) (x1 : Int) : spec_FmHops x0 x1 =
    (spec_FmSa x0 x1).bind fun y1 =>
    bif decide (y1 < (0 : Int)) then
      some (-1 : Int)
    else
      bif decide (x0.2.1 = (0 : Int)) then
        none
      else
        some (y1.tmod x0.2.1) := by kernel_rfl

noncomputable abbrev impl_BitAt.s : Sg := ⟨[.lend, .lend], [.agg [.int .i64, .sl false false 126], vi], ⟨[vi], [none, none]⟩, Tryz.f25⟩
noncomputable def impl_BitAt.gs (δ : Type) : List (Nat × Callee (GT tab) δ) := [(63, impl_within.k), (66, impl_BitsOk.k), (67, impl_Bits_at.k)]
theorem impl_BitAt.gok (δ : Type) : AllCon Tryz.prog tab (impl_BitAt.gs δ) := .cons impl_within.con (.cons impl_BitsOk.con (.cons impl_Bits_at.con .nil))
noncomputable def impl_BitAt.c := cx impl_BitAt.s [] [] false (impl_BitAt.gs _)
noncomputable def impl_BitAt (x0 : Int × (List Int)) (x1 : Int) : Option (Int) := fnW impl_BitAt.s impl_BitAt.c (x0, x1)
theorem impl_BitAt.fok : FkS impl_BitAt.s 25 := ⟨Tryz.func25, by kernel_rfl, by kernel_rfl⟩
noncomputable def impl_BitAt.fn (x : Args tab impl_BitAt.s.ar) : Option (ResT tab impl_BitAt.s.rs) := impl_BitAt x.1 x.2
noncomputable abbrev impl_BitAt.k {δ : Type} : Callee (GT tab) δ := kS impl_BitAt.s impl_BitAt.fn
theorem impl_BitAt.con {δ : Type} : Con Tryz.prog (KT tab) 25 (impl_BitAt.k (δ := δ)) := con_shape (c := impl_BitAt.c) mixed tysOk (getG_con (impl_BitAt.gok _)) impl_BitAt.fok rfl rfl fun _ => rfl
theorem impl_BitAt.eq (x0 : Int × (List Int)) (x1 : Int) : impl_BitAt x0 x1 =
    (impl_BitsOk x0).bind fun y1 =>
    bif !y1 then
      some (-1 : Int)
    else
      (impl_within x1 (0 : Int) (IntKind.i64.wrap (x0.1 - (1 : Int)))).bind fun y2 =>
      bif !y2 then
        some (-1 : Int)
      else
        (impl_Bits_at x0 x1).bind fun y3 =>
        some y3 := by kernel_rfl

noncomputable abbrev impl_FmLf.s : Sg := ⟨[.lend, .lend], [.agg [.int .i64, .int .i64, .int .i64, .sl false false 3, .sl false false 30, .sl false false 3, .int .i64, .sl false false 126, .int .i64, .int .i64, .int .i64, .sl false false 126, .int .i64, .int .i64, .int .i64, .sl false false 126], vi], ⟨[vi], [none, none]⟩, Tryz.f26⟩
noncomputable def impl_FmLf.gs (δ : Type) : List (Nat × Callee (GT tab) δ) := [(58, impl_Fm_read.k), (63, impl_within.k), (68, impl_lfOf.k), (69, impl_bwtOf.k)]
theorem impl_FmLf.gok (δ : Type) : AllCon Tryz.prog tab (impl_FmLf.gs δ) := .cons impl_Fm_read.con (.cons impl_within.con (.cons impl_lfOf.con (.cons impl_bwtOf.con .nil)))
noncomputable def impl_FmLf.c := cx impl_FmLf.s [] [] false (impl_FmLf.gs _)
noncomputable def impl_FmLf (x0 : Int × Int × Int × (List Int) × (List (Int × (List Int))) × (List Int) × Int × (List Int) × Int × Int × Int × (List Int) × Int × Int × Int × (List Int)) (x1 : Int) : Option (Int) := fnW impl_FmLf.s impl_FmLf.c (x0, x1)
theorem impl_FmLf.fok : FkS impl_FmLf.s 26 := ⟨Tryz.func26, by kernel_rfl, by kernel_rfl⟩
noncomputable def impl_FmLf.fn (x : Args tab impl_FmLf.s.ar) : Option (ResT tab impl_FmLf.s.rs) := impl_FmLf x.1 x.2
noncomputable abbrev impl_FmLf.k {δ : Type} : Callee (GT tab) δ := kS impl_FmLf.s impl_FmLf.fn
theorem impl_FmLf.con {δ : Type} : Con Tryz.prog (KT tab) 26 (impl_FmLf.k (δ := δ)) := con_shape (c := impl_FmLf.c) mixed tysOk (getG_con (impl_FmLf.gok _)) impl_FmLf.fok rfl rfl fun _ => rfl
theorem impl_FmLf.eq (x0 : Int × Int × Int × (List Int) × (List (Int × (List Int))) × (List Int) × Int × (List Int) × Int × Int × Int × (List Int) × Int × Int × Int × (List Int)) (x1 : Int) : impl_FmLf x0 x1 =
    (impl_Fm_read x0).bind fun y1 =>
    bif !y1.2 then
      some (-1 : Int)
    else
      (impl_within x1 (0 : Int) (y1.1.length : Int)).bind fun y2 =>
      bif !y2 then
        some (-1 : Int)
      else
        (impl_bwtOf y1.1).bind fun y3 =>
        (impl_lfOf y3).bind fun y4 =>
        (at? y4 x1).bind fun y5 =>
        y4[x1.toNat]?.bind fun y6 =>
        some y6 := by kernel_rfl

noncomputable abbrev impl_isBit.s : Sg := ⟨[.lend], [vi], ⟨[vb], [none]⟩, Tryz.f72⟩
noncomputable def impl_isBit.gs (δ : Type) : List (Nat × Callee (GT tab) δ) := []
theorem impl_isBit.gok (δ : Type) : AllCon Tryz.prog tab (impl_isBit.gs δ) := .nil
noncomputable def impl_isBit.c := cx impl_isBit.s [] [] false (impl_isBit.gs _)
noncomputable def impl_isBit (x0 : Int) : Option (Bool) := fnW impl_isBit.s impl_isBit.c x0
theorem impl_isBit.fok : FkS impl_isBit.s 72 := ⟨Tryz.func72, by kernel_rfl, by kernel_rfl⟩
noncomputable def impl_isBit.fn (x : Args tab impl_isBit.s.ar) : Option (ResT tab impl_isBit.s.rs) := impl_isBit x
noncomputable abbrev impl_isBit.k {δ : Type} : Callee (GT tab) δ := kS impl_isBit.s impl_isBit.fn
theorem impl_isBit.con {δ : Type} : Con Tryz.prog (KT tab) 72 (impl_isBit.k (δ := δ)) := con_shape (c := impl_isBit.c) mixed tysOk (getG_con (impl_isBit.gok _)) impl_isBit.fok rfl rfl fun _ => rfl
theorem impl_isBit.eq (x0 : Int) : impl_isBit x0 =
    bif x0 == (0 : Int) then
      some true
    else
      some (x0 == (1 : Int)) := by kernel_rfl

noncomputable abbrev impl_Rank.s : Sg := ⟨[.lend, .lend, .lend], [.agg [.int .i64, .sl false false 126], vi, vi], ⟨[vi], [none, none, none]⟩, Tryz.f28⟩
noncomputable def impl_Rank.gs (δ : Type) : List (Nat × Callee (GT tab) δ) := [(63, impl_within.k), (66, impl_BitsOk.k), (72, impl_isBit.k), (73, impl_count.k), (74, impl_Bits_list.k)]
theorem impl_Rank.gok (δ : Type) : AllCon Tryz.prog tab (impl_Rank.gs δ) := .cons impl_within.con (.cons impl_BitsOk.con (.cons impl_isBit.con (.cons impl_count.con (.cons impl_Bits_list.con .nil))))
noncomputable def impl_Rank.c := cx impl_Rank.s [] [] false (impl_Rank.gs _)
noncomputable def impl_Rank (x0 : Int × (List Int)) (x1 x2 : Int) : Option (Int) := fnW impl_Rank.s impl_Rank.c (x0, x1, x2)
theorem impl_Rank.fok : FkS impl_Rank.s 28 := ⟨Tryz.func28, by kernel_rfl, by kernel_rfl⟩
noncomputable def impl_Rank.fn (x : Args tab impl_Rank.s.ar) : Option (ResT tab impl_Rank.s.rs) := impl_Rank x.1 x.2.1 x.2.2
noncomputable abbrev impl_Rank.k {δ : Type} : Callee (GT tab) δ := kS impl_Rank.s impl_Rank.fn
theorem impl_Rank.con {δ : Type} : Con Tryz.prog (KT tab) 28 (impl_Rank.k (δ := δ)) := con_shape (c := impl_Rank.c) mixed tysOk (getG_con (impl_Rank.gok _)) impl_Rank.fok rfl rfl fun _ => rfl
theorem impl_Rank.eq (x0 : Int × (List Int)) (x1 x2 : Int) : impl_Rank x0 x1 x2 =
    (impl_BitsOk x0).bind fun y1 =>
    bif !y1 then
      some (-1 : Int)
    else
      (impl_isBit x1).bind fun y2 =>
      bif !y2 then
        some (-1 : Int)
      else
        (impl_within x2 (0 : Int) x0.1).bind fun y3 =>
        bif !y3 then
          some (-1 : Int)
        else
          (impl_Bits_list x0).bind fun y4 =>
          bif decide (0 ≤ x2 ∧ x2 ≤ ((y4.length : Nat) : Int)) then
            (impl_count ((y4.drop 0).take (x2.toNat - 0)) x1).bind fun y5 =>
            some y5
          else
            none := by kernel_rfl

noncomputable abbrev impl_Packed_at.s : Sg := ⟨[.lend, .lend], [.agg [.int .i64, .int .i64, .int .i64, .sl false false 126], vi], ⟨[vi], [none, none]⟩, Tryz.f71⟩
noncomputable def impl_Packed_at.gs (δ : Type) : List (Nat × Callee (GT tab) δ) := [(67, impl_Bits_at.k)]
theorem impl_Packed_at.gok (δ : Type) : AllCon Tryz.prog tab (impl_Packed_at.gs δ) := .cons impl_Bits_at.con .nil
noncomputable def impl_Packed_at.c := cx impl_Packed_at.s [] [(3, [1, 2, 5, 6])] false (impl_Packed_at.gs _)
noncomputable def impl_Packed_at (x0 : Int × Int × Int × (List Int)) (x1 : Int) : Option (Int) := fnW impl_Packed_at.s impl_Packed_at.c (x0, x1)
theorem impl_Packed_at.fok : FkS impl_Packed_at.s 71 := ⟨Tryz.func71, by kernel_rfl, by kernel_rfl⟩
noncomputable def impl_Packed_at.fn (x : Args tab impl_Packed_at.s.ar) : Option (ResT tab impl_Packed_at.s.rs) := impl_Packed_at x.1 x.2
noncomputable abbrev impl_Packed_at.k {δ : Type} : Callee (GT tab) δ := kS impl_Packed_at.s impl_Packed_at.fn
theorem impl_Packed_at.con {δ : Type} : Con Tryz.prog (KT tab) 71 (impl_Packed_at.k (δ := δ)) := con_shape (c := impl_Packed_at.c) mixed tysOk (getG_con (impl_Packed_at.gok _)) impl_Packed_at.fok rfl rfl fun _ => rfl
noncomputable def impl_Packed_at_l0 (v0 v1 v2 v3 v4 v5 : Int) (v6 : List Int) : Option (Int) := lpW impl_Packed_at.s impl_Packed_at.c 0 (ud 20 [.undef, .int .i64 v0, .ptr 0 0, .undef, .undef, .int .i64 v1, .int .i64 v2]) [.box 32 [.int .i64 v3, .int .i64 v4, .int .i64 v5, .vs false 126 v6]] 1
theorem impl_Packed_at.eq (x0 : Int × Int × Int × (List Int)) (x1 : Int) : impl_Packed_at x0 x1 =
    impl_Packed_at_l0 x1 (0 : Int) (IntKind.i64.wrap (x0.1 - (1 : Int))) x0.1 x0.2.1 x0.2.2.1 x0.2.2.2 := by kernel_rfl
theorem impl_Packed_at_l0.eq (v0 v1 v2 v3 v4 v5 : Int) (v6 : List Int) : impl_Packed_at_l0 v0 v1 v2 v3 v4 v5 v6 =
    bif decide (v2 ≥ (0 : Int)) then
      (impl_Bits_at (v5, v6) (IntKind.i64.wrap ((IntKind.i64.wrap (v0 * v3)) + v2))).bind fun y1 =>
      impl_Packed_at_l0 v0 (IntKind.i64.wrap (((BitVec.ofInt 64 (IntKind.i64.wrap (v1 * 2 ^ 1))) ||| (BitVec.ofInt 64 y1)).toNat : Int)) (IntKind.i64.wrap (v2 - (1 : Int))) v3 v4 v5 v6
    else
      some v1 := (Lw_eq tysOk (getG_con (impl_Packed_at.gok _)) _ _).trans (by kernel_rfl)

noncomputable abbrev impl_PackAt.s : Sg := ⟨[.lend, .lend], [.agg [.int .i64, .int .i64, .int .i64, .sl false false 126], vi], ⟨[vi], [none, none]⟩, Tryz.f27⟩
noncomputable def impl_PackAt.gs (δ : Type) : List (Nat × Callee (GT tab) δ) := [(63, impl_within.k), (70, impl_PackOk.k), (71, impl_Packed_at.k)]
theorem impl_PackAt.gok (δ : Type) : AllCon Tryz.prog tab (impl_PackAt.gs δ) := .cons impl_within.con (.cons impl_PackOk.con (.cons impl_Packed_at.con .nil))
noncomputable def impl_PackAt.c := cx impl_PackAt.s [] [] false (impl_PackAt.gs _)
noncomputable def impl_PackAt (x0 : Int × Int × Int × (List Int)) (x1 : Int) : Option (Int) := fnW impl_PackAt.s impl_PackAt.c (x0, x1)
theorem impl_PackAt.fok : FkS impl_PackAt.s 27 := ⟨Tryz.func27, by kernel_rfl, by kernel_rfl⟩
noncomputable def impl_PackAt.fn (x : Args tab impl_PackAt.s.ar) : Option (ResT tab impl_PackAt.s.rs) := impl_PackAt x.1 x.2
noncomputable abbrev impl_PackAt.k {δ : Type} : Callee (GT tab) δ := kS impl_PackAt.s impl_PackAt.fn
theorem impl_PackAt.con {δ : Type} : Con Tryz.prog (KT tab) 27 (impl_PackAt.k (δ := δ)) := con_shape (c := impl_PackAt.c) mixed tysOk (getG_con (impl_PackAt.gok _)) impl_PackAt.fok rfl rfl fun _ => rfl
theorem impl_PackAt.eq (x0 : Int × Int × Int × (List Int)) (x1 : Int) : impl_PackAt x0 x1 =
    (impl_PackOk x0).bind fun y1 =>
    bif !y1 then
      some (-1 : Int)
    else
      (impl_within x1 (0 : Int) (IntKind.i64.wrap (x0.2.1 - (1 : Int)))).bind fun y2 =>
      bif !y2 then
        some (-1 : Int)
      else
        (impl_Packed_at x0 x1).bind fun y3 =>
        some y3 := by kernel_rfl

noncomputable abbrev impl_FmIsa.s : Sg := ⟨[.lend, .lend], [.agg [.int .i64, .int .i64, .int .i64, .sl false false 3, .sl false false 30, .sl false false 3, .int .i64, .sl false false 126, .int .i64, .int .i64, .int .i64, .sl false false 126, .int .i64, .int .i64, .int .i64, .sl false false 126], vi], ⟨[vi], [none, none]⟩, Tryz.f29⟩
noncomputable def impl_FmIsa.gs (δ : Type) : List (Nat × Callee (GT tab) δ) := [(58, impl_Fm_read.k), (63, impl_within.k), (64, impl_suffixRows.k), (75, impl_inverse.k)]
theorem impl_FmIsa.gok (δ : Type) : AllCon Tryz.prog tab (impl_FmIsa.gs δ) := .cons impl_Fm_read.con (.cons impl_within.con (.cons impl_suffixRows.con (.cons impl_inverse.con .nil)))
noncomputable def impl_FmIsa.c := cx impl_FmIsa.s [] [] false (impl_FmIsa.gs _)
noncomputable def impl_FmIsa (x0 : Int × Int × Int × (List Int) × (List (Int × (List Int))) × (List Int) × Int × (List Int) × Int × Int × Int × (List Int) × Int × Int × Int × (List Int)) (x1 : Int) : Option (Int) := fnW impl_FmIsa.s impl_FmIsa.c (x0, x1)
theorem impl_FmIsa.fok : FkS impl_FmIsa.s 29 := ⟨Tryz.func29, by kernel_rfl, by kernel_rfl⟩
noncomputable def impl_FmIsa.fn (x : Args tab impl_FmIsa.s.ar) : Option (ResT tab impl_FmIsa.s.rs) := impl_FmIsa x.1 x.2
noncomputable abbrev impl_FmIsa.k {δ : Type} : Callee (GT tab) δ := kS impl_FmIsa.s impl_FmIsa.fn
theorem impl_FmIsa.con {δ : Type} : Con Tryz.prog (KT tab) 29 (impl_FmIsa.k (δ := δ)) := con_shape (c := impl_FmIsa.c) mixed tysOk (getG_con (impl_FmIsa.gok _)) impl_FmIsa.fok rfl rfl fun _ => rfl
theorem impl_FmIsa.eq (x0 : Int × Int × Int × (List Int) × (List (Int × (List Int))) × (List Int) × Int × (List Int) × Int × Int × Int × (List Int) × Int × Int × Int × (List Int)) (x1 : Int) : impl_FmIsa x0 x1 =
    (impl_Fm_read x0).bind fun y1 =>
    bif !y1.2 then
      some (-1 : Int)
    else
      (impl_within x1 (0 : Int) (y1.1.length : Int)).bind fun y2 =>
      bif !y2 then
        some (-1 : Int)
      else
        (impl_suffixRows y1.1).bind fun y3 =>
        (impl_inverse y3).bind fun y4 =>
        (at? y4 x1).bind fun y5 =>
        y4[x1.toNat]?.bind fun y6 =>
        some y6 := by kernel_rfl

end Go.Ev.W
