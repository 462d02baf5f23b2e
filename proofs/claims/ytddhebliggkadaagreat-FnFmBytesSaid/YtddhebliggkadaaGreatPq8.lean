/- What functions of the program come to. -/
import Derived.Test.YtddhebliggkadaaGreatPqT
import Derived.Test.YtddhebliggkadaaGreatEvGrow
import Derived.Test.YtddhebliggkadaaGreatPq1
import Derived.Test.YtddhebliggkadaaGreatPq2
import Derived.Test.YtddhebliggkadaaGreatPq6
import Derived.Test.YtddhebliggkadaaGreatPqL
namespace Go.Ev.W
open Go.Ev Go.Proofs
set_option maxRecDepth 100000
set_option linter.unusedVariables false

noncomputable abbrev spec_DrawFmBytes.s : Sg := ⟨[.lend], [vl 5], ⟨[.agg [.int .i64, .int .i64, .int .i64, .sl false false 3, .sl false false 30, .sl false false 3, .int .i64, .sl false false 126, .int .i64, .int .i64, .int .i64, .sl false false 126, .int .i64, .int .i64, .int .i64, .sl false false 126]], [none]⟩, Tryz.f48⟩
noncomputable def spec_DrawFmBytes.gs (δ : Type) : List (Nat × Callee (GT tab) δ) := [(55, spec_l01Open.k), (56, spec_l01Cur_fm.k)]
theorem spec_DrawFmBytes.gok (δ : Type) : AllCon Tryz.prog tab (spec_DrawFmBytes.gs δ) := .cons spec_l01Open.con (.cons spec_l01Cur_fm.con .nil)
noncomputable def spec_DrawFmBytes.c := cx spec_DrawFmBytes.s [] [] false (spec_DrawFmBytes.gs _)
noncomputable def spec_DrawFmBytes (x0 : List Int) : Option (Int × Int × Int × (List Int) × (List (Int × (List Int))) × (List Int) × Int × (List Int) × Int × Int × Int × (List Int) × Int × Int × Int × (List Int)) := fnW spec_DrawFmBytes.s spec_DrawFmBytes.c x0
theorem spec_DrawFmBytes.fok : FkS spec_DrawFmBytes.s 48 := ⟨Tryz.func48, by kernel_rfl, by kernel_rfl⟩
noncomputable def spec_DrawFmBytes.fn (x : Args tab spec_DrawFmBytes.s.ar) : Option (ResT tab spec_DrawFmBytes.s.rs) := spec_DrawFmBytes x
noncomputable abbrev spec_DrawFmBytes.k {δ : Type} : Callee (GT tab) δ := kS spec_DrawFmBytes.s spec_DrawFmBytes.fn
theorem spec_DrawFmBytes.con {δ : Type} : Con Tryz.prog (KT tab) 48 (spec_DrawFmBytes.k (δ := δ)) := con_shape (c := spec_DrawFmBytes.c) mixed tysOk (getG_con (spec_DrawFmBytes.gok _)) spec_DrawFmBytes.fok rfl rfl fun _ => rfl
theorem spec_DrawFmBytes.eq (x0 : List Int) : spec_DrawFmBytes x0 =
    (spec_l01Open x0).bind fun y1 =>
    (spec_l01Cur_fm y1).bind fun y2 =>
    some y2.1 := by kernel_rfl

noncomputable abbrev impl_FmOk.s : Sg := ⟨[.lend], [.agg [.int .i64, .int .i64, .int .i64, .sl false false 3, .sl false false 30, .sl false false 3, .int .i64, .sl false false 126, .int .i64, .int .i64, .int .i64, .sl false false 126, .int .i64, .int .i64, .int .i64, .sl false false 126]], ⟨[vb], [none]⟩, Tryz.f97⟩
noncomputable def impl_FmOk.gs (δ : Type) : List (Nat × Callee (GT tab) δ) := [(58, impl_Fm_read.k)]
theorem impl_FmOk.gok (δ : Type) : AllCon Tryz.prog tab (impl_FmOk.gs δ) := .cons impl_Fm_read.con .nil
noncomputable def impl_FmOk.c := cx impl_FmOk.s [] [] false (impl_FmOk.gs _)
noncomputable def impl_FmOk (x0 : Int × Int × Int × (List Int) × (List (Int × (List Int))) × (List Int) × Int × (List Int) × Int × Int × Int × (List Int) × Int × Int × Int × (List Int)) : Option (Bool) := fnW impl_FmOk.s impl_FmOk.c x0
theorem impl_FmOk.fok : FkS impl_FmOk.s 97 := ⟨Tryz.func97, by kernel_rfl, by kernel_rfl⟩
noncomputable def impl_FmOk.fn (x : Args tab impl_FmOk.s.ar) : Option (ResT tab impl_FmOk.s.rs) := impl_FmOk x
noncomputable abbrev impl_FmOk.k {δ : Type} : Callee (GT tab) δ := kS impl_FmOk.s impl_FmOk.fn
theorem impl_FmOk.con {δ : Type} : Con Tryz.prog (KT tab) 97 (impl_FmOk.k (δ := δ)) := con_shape (c := impl_FmOk.c) mixed tysOk (getG_con (impl_FmOk.gok _)) impl_FmOk.fok rfl rfl fun _ => rfl
theorem impl_FmOk.eq (x0 : Int × Int × Int × (List Int) × (List (Int × (List Int))) × (List Int) × Int × (List Int) × Int × Int × Int × (List Int) × Int × Int × Int × (List Int)) : impl_FmOk x0 =
    (impl_Fm_read x0).bind fun y1 =>
    some y1.2 := by kernel_rfl

noncomputable abbrev impl_VarOf.s : Sg := ⟨[.lend], [vi], ⟨[vo 5], [none]⟩, Tryz.f147⟩
noncomputable def impl_VarOf.gs (δ : Type) : List (Nat × Callee (GT tab) δ) := [(63, impl_within.k)]
theorem impl_VarOf.gok (δ : Type) : AllCon Tryz.prog tab (impl_VarOf.gs δ) := .cons impl_within.con .nil
noncomputable def impl_VarOf.c := cx impl_VarOf.s [] [(4, [0, 3])] false (impl_VarOf.gs _)
noncomputable def impl_VarOf (x0 : Int) : Option (List Int) := fnW impl_VarOf.s impl_VarOf.c x0
theorem impl_VarOf.fok : FkS impl_VarOf.s 147 := ⟨Tryz.func147, by kernel_rfl, by kernel_rfl⟩
noncomputable def impl_VarOf.fn (x : Args tab impl_VarOf.s.ar) : Option (ResT tab impl_VarOf.s.rs) := impl_VarOf x
noncomputable abbrev impl_VarOf.k {δ : Type} : Callee (GT tab) δ := kS impl_VarOf.s impl_VarOf.fn
theorem impl_VarOf.con {δ : Type} : Con Tryz.prog (KT tab) 147 (impl_VarOf.k (δ := δ)) := con_shape (c := impl_VarOf.c) mixed tysOk (getG_con (impl_VarOf.gok _)) impl_VarOf.fok rfl rfl fun _ => rfl
noncomputable def impl_VarOf_l0 (v0 : Int) (v1 : List Int) : Option (List Int) := lpW impl_VarOf.s impl_VarOf.c 0 (ud 19 [.int .i64 v0, .undef, .undef, .sl 0 0]) [.row 0 true 5 v1] 1
theorem impl_VarOf.eq (x0 : Int) : impl_VarOf x0 =
    (impl_within x0 (0 : Int) (4294967295 : Int)).bind fun y1 =>
    bif !y1 then
      some ([] : List Int)
    else
      impl_VarOf_l0 x0 ([] : List Int) := by kernel_rfl
theorem impl_VarOf_l0.eq (v0 : Int) (v1 : List Int) : impl_VarOf_l0 v0 v1 =
    bif decide (v0 ≥ (128 : Int)) then
      bif decide ((v1.length + ([IntKind.u8.wrap (IntKind.i64.wrap (((BitVec.ofInt 64 (IntKind.i64.wrap (((BitVec.ofInt 64 v0) &&& (BitVec.ofInt 64 (127 : Int))).toNat : Int))) ||| (BitVec.ofInt 64 (128 : Int))).toNat : Int))] : List Int).length) * 1 ≤ 140737488355328) then
        impl_VarOf_l0 (v0.fdiv (2 ^ 7)) (v1 ++ ([IntKind.u8.wrap (IntKind.i64.wrap (((BitVec.ofInt 64 (IntKind.i64.wrap (((BitVec.ofInt 64 v0) &&& (BitVec.ofInt 64 (127 : Int))).toNat : Int))) ||| (BitVec.ofInt 64 (128 : Int))).toNat : Int))] : List Int))
      else
        none
    else
      bif decide ((v1.length + ([IntKind.u8.wrap v0] : List Int).length) * 1 ≤ 140737488355328) then
        some (v1 ++ ([IntKind.u8.wrap v0] : List Int))
      else
        none := (Lw_eq tysOk (getG_con (impl_VarOf.gok _)) _ _).trans (by kernel_rfl)

noncomputable abbrev impl_bitsBytes.s : Sg := ⟨[.lend], [.agg [.int .i64, .sl false false 126]], ⟨[vo 5], [none]⟩, Tryz.f149⟩
noncomputable def impl_bitsBytes.gs (δ : Type) : List (Nat × Callee (GT tab) δ) := [(147, impl_VarOf.k)]
theorem impl_bitsBytes.gok (δ : Type) : AllCon Tryz.prog tab (impl_bitsBytes.gs δ) := .cons impl_VarOf.con .nil
noncomputable def impl_bitsBytes.c := cx impl_bitsBytes.s [] [(3, [1, 3, 4])] false (impl_bitsBytes.gs _)
noncomputable def impl_bitsBytes (x0 : Int × (List Int)) : Option (List Int) := fnW impl_bitsBytes.s impl_bitsBytes.c x0
theorem impl_bitsBytes.fok : FkS impl_bitsBytes.s 149 := ⟨Tryz.func149, by kernel_rfl, by kernel_rfl⟩
noncomputable def impl_bitsBytes.fn (x : Args tab impl_bitsBytes.s.ar) : Option (ResT tab impl_bitsBytes.s.rs) := impl_bitsBytes x
noncomputable abbrev impl_bitsBytes.k {δ : Type} : Callee (GT tab) δ := kS impl_bitsBytes.s impl_bitsBytes.fn
theorem impl_bitsBytes.con {δ : Type} : Con Tryz.prog (KT tab) 149 (impl_bitsBytes.k (δ := δ)) := con_shape (c := impl_bitsBytes.c) mixed tysOk (getG_con (impl_bitsBytes.gok _)) impl_bitsBytes.fok rfl rfl fun _ => rfl
noncomputable def impl_bitsBytes_l0 (v0 v1 : Int) (v2 v3 : List Int) : Option (List Int) := lpW impl_bitsBytes.s impl_bitsBytes.c 0 (ud 23 [.undef, .ptr 0 0, .undef, .sl 1 0, .int .i64 v0]) [.box 30 [.int .i64 v1, .vs false 126 v2], .row 0 true 5 v3] 2
theorem impl_bitsBytes.eq (x0 : Int × (List Int)) : impl_bitsBytes x0 =
    (impl_VarOf x0.1).bind fun y1 =>
    impl_bitsBytes_l0 (0 : Int) x0.1 x0.2 y1 := by kernel_rfl
theorem impl_bitsBytes_l0.eq (v0 v1 : Int) (v2 v3 : List Int) : impl_bitsBytes_l0 v0 v1 v2 v3 =
    bif decide (v0 < v1) then
      (at? v2 (IntKind.i64.wrap (v0.tdiv (64 : Int)))).bind fun y1 =>
      bif decide (v0.tmod (64 : Int) < (0 : Int)) then
        none
      else
        bif decide ((v3.length + ([IntKind.u8.wrap (y1.fdiv (2 ^ (min (v0.tmod (64 : Int)).toNat 64)))] : List Int).length) * 1 ≤ 140737488355328) then
          impl_bitsBytes_l0 (IntKind.i64.wrap (v0 + (8 : Int))) v1 v2 (v3 ++ ([IntKind.u8.wrap (y1.fdiv (2 ^ (min (v0.tmod (64 : Int)).toNat 64)))] : List Int))
        else
          none
    else
      some v3 := (Lw_eq tysOk (getG_con (impl_bitsBytes.gok _)) _ _).trans (by kernel_rfl)

noncomputable abbrev impl_waveBytes.s : Sg := ⟨[.lend], [.agg [.int .i64, .sl false false 3, .sl false false 30]], ⟨[vo 5], [none]⟩, Tryz.f148⟩
noncomputable def impl_waveBytes.gs (δ : Type) : List (Nat × Callee (GT tab) δ) := [(149, impl_bitsBytes.k)]
theorem impl_waveBytes.gok (δ : Type) : AllCon Tryz.prog tab (impl_waveBytes.gs δ) := .cons impl_bitsBytes.con .nil
noncomputable def impl_waveBytes.c := cx impl_waveBytes.s [] [(3, [3, 7, 8, 9])] false (impl_waveBytes.gs _)
noncomputable def impl_waveBytes (x0 : Int × (List Int) × (List (Int × (List Int)))) : Option (List Int) := fnW impl_waveBytes.s impl_waveBytes.c x0
theorem impl_waveBytes.fok : FkS impl_waveBytes.s 148 := ⟨Tryz.func148, by kernel_rfl, by kernel_rfl⟩
noncomputable def impl_waveBytes.fn (x : Args tab impl_waveBytes.s.ar) : Option (ResT tab impl_waveBytes.s.rs) := impl_waveBytes x
noncomputable abbrev impl_waveBytes.k {δ : Type} : Callee (GT tab) δ := kS impl_waveBytes.s impl_waveBytes.fn
theorem impl_waveBytes.con {δ : Type} : Con Tryz.prog (KT tab) 148 (impl_waveBytes.k (δ := δ)) := con_shape (c := impl_waveBytes.c) mixed tysOk (getG_con (impl_waveBytes.gok _)) impl_waveBytes.fok rfl rfl fun _ => rfl
noncomputable def impl_waveBytes_l0 (v0 : List (Int × (List Int))) (v1 v2 : Int) (v3 : List Int) : Option (List Int) := lpW impl_waveBytes.s impl_waveBytes.c 0 (ud 9 [.undef, .undef, .undef, .sl 0 0, .undef, .undef, .undef, .vs false 30 v0, .int .i64 v1, .int .i64 v2]) [.row 0 true 5 v3] 1
theorem impl_waveBytes.eq (x0 : Int × (List Int) × (List (Int × (List Int)))) : impl_waveBytes x0 =
    impl_waveBytes_l0 x0.2.2 (x0.2.2.length : Int) (0 : Int) ([] : List Int) := by kernel_rfl
theorem impl_waveBytes_l0.eq (v0 : List (Int × (List Int))) (v1 v2 : Int) (v3 : List Int) : impl_waveBytes_l0 v0 v1 v2 v3 =
    bif decide (v2 < v1) then
      (at? v0 v2).bind fun y1 =>
      (impl_bitsBytes y1).bind fun y2 =>
      bif decide ((v3.length + y2.length) * 1 ≤ 140737488355328) then
        impl_waveBytes_l0 v0 v1 (IntKind.i64.wrap (v2 + (1 : Int))) (v3 ++ y2)
      else
        none
    else
      some v3 := (Lw_eq tysOk (getG_con (impl_waveBytes.gok _)) _ _).trans (by kernel_rfl)

/-! ### slices_Grow_byte_byte: slices.Grow[[]byte,byte] (by hand) -/
def slices_Grow_byte_byte.ms : List Mode := [.give, .lend]
def slices_Grow_byte_byte.as : List VSh := [.one (.b (.b (.b (.b (.sl true true 5))))), .one (.b (.b (.b (.b (.int .i64)))))]
def slices_Grow_byte_byte.rs : RSh := ⟨[.one (.b (.b (.b (.b (.sl true true 5)))))], [none, none]⟩
noncomputable def slices_Grow_byte_byte (x0 : List Int) (x1 : Int) : Option (List Int) := growF 1 (x0, x1)
noncomputable def slices_Grow_byte_byte.fn : Args tab slices_Grow_byte_byte.as → Option (ResT tab slices_Grow_byte_byte.rs) := fun x => slices_Grow_byte_byte x.1 x.2
noncomputable abbrev slices_Grow_byte_byte.k {δ : Type} : Callee (GT tab) δ := calleeS tab slices_Grow_byte_byte.ms slices_Grow_byte_byte.as slices_Grow_byte_byte.rs slices_Grow_byte_byte.fn
theorem slices_Grow_byte_byte.con {δ : Type} : Con Tryz.prog (KT tab) 185 (slices_Grow_byte_byte.k (δ := δ)) := con_grow2 Tryz.laysGrow185 rfl rfl (ty := tyOf tys) tysOk (e := 5) rfl (by decide) rfl rfl

noncomputable abbrev slices_Concat_byte_byte.s : Sg := ⟨[.lend], [vl 22], ⟨[vo 5], [none]⟩, Tryz.f146⟩
noncomputable def slices_Concat_byte_byte.gs (δ : Type) : List (Nat × Callee (GT tab) δ) := [(185, slices_Grow_byte_byte.k)]
theorem slices_Concat_byte_byte.gok (δ : Type) : AllCon Tryz.prog tab (slices_Concat_byte_byte.gs δ) := .cons slices_Grow_byte_byte.con .nil
noncomputable def slices_Concat_byte_byte.c := cx slices_Concat_byte_byte.s [] [(3, [0, 3, 9, 10, 11]), (11, [6, 25, 26, 27])] false (slices_Concat_byte_byte.gs _)
noncomputable def slices_Concat_byte_byte (x0 : List (List Int)) : Option (List Int) := fnW slices_Concat_byte_byte.s slices_Concat_byte_byte.c x0
theorem slices_Concat_byte_byte.fok : FkS slices_Concat_byte_byte.s 146 := ⟨Tryz.func146, by kernel_rfl, by kernel_rfl⟩
noncomputable def slices_Concat_byte_byte.fn (x : Args tab slices_Concat_byte_byte.s.ar) : Option (ResT tab slices_Concat_byte_byte.s.rs) := slices_Concat_byte_byte x
noncomputable abbrev slices_Concat_byte_byte.k {δ : Type} : Callee (GT tab) δ := kS slices_Concat_byte_byte.s slices_Concat_byte_byte.fn
theorem slices_Concat_byte_byte.con {δ : Type} : Con Tryz.prog (KT tab) 146 (slices_Concat_byte_byte.k (δ := δ)) := con_shape (c := slices_Concat_byte_byte.c) mixed tysOk (getG_con (slices_Concat_byte_byte.gok _)) slices_Concat_byte_byte.fok rfl rfl fun _ => rfl
noncomputable def slices_Concat_byte_byte_l0 (v0 : List (List Int)) (v1 : Int) (v2 : List (List Int)) (v3 v4 : Int) : Option (List Int) := lpW slices_Concat_byte_byte.s slices_Concat_byte_byte.c 0 (ud 24 [.vs false 22 v0, .undef, .undef, .int .i64 v1, .undef, .undef, .undef, .undef, .undef, .vs false 22 v2, .int .i64 v3, .int .i64 v4]) [] 0
noncomputable def slices_Concat_byte_byte_l1 (v0 : List (List Int)) (v1 v2 : Int) (v3 : List Int) : Option (List Int) := lpW slices_Concat_byte_byte.s slices_Concat_byte_byte.c 1 (ud 8 [.undef, .undef, .undef, .undef, .undef, .undef, .sl 0 0, .undef, .undef, .undef, .undef, .undef, .undef, .undef, .undef, .undef, .undef, .undef, .undef, .undef, .undef, .undef, .undef, .undef, .undef, .vs false 22 v0, .int .i64 v1, .int .i64 v2]) [.row 0 true 5 v3] 1
theorem slices_Concat_byte_byte.eq (x0 : List (List Int)) : slices_Concat_byte_byte x0 =
    slices_Concat_byte_byte_l0 x0 (0 : Int) x0 (x0.length : Int) (0 : Int) := by kernel_rfl
theorem slices_Concat_byte_byte_l0.eq (v0 : List (List Int)) (v1 : Int) (v2 : List (List Int)) (v3 v4 : Int) : slices_Concat_byte_byte_l0 v0 v1 v2 v3 v4 =
    bif decide (v4 < v3) then
      (at? v2 v4).bind fun y1 =>
      bif decide (IntKind.i64.wrap (v1 + (y1.length : Int)) < (0 : Int)) then
        none
      else
        slices_Concat_byte_byte_l0 v0 (IntKind.i64.wrap (v1 + (y1.length : Int))) v2 v3 (IntKind.i64.wrap (v4 + (1 : Int)))
    else
      (slices_Grow_byte_byte ([] : List Int) v1).bind fun y2 =>
      slices_Concat_byte_byte_l1 v0 (v0.length : Int) (0 : Int) y2 := (Lw_eq tysOk (getG_con (slices_Concat_byte_byte.gok _)) _ _).trans (by kernel_rfl)
theorem slices_Concat_byte_byte_l1.eq (v0 : List (List Int)) (v1 v2 : Int) (v3 : List Int) : slices_Concat_byte_byte_l1 v0 v1 v2 v3 =
    bif decide (v2 < v1) then
      (at? v0 v2).bind fun y1 =>
      bif decide ((v3.length + y1.length) * 1 ≤ 140737488355328) then
        slices_Concat_byte_byte_l1 v0 v1 (IntKind.i64.wrap (v2 + (1 : Int))) (v3 ++ y1)
      else
        none
    else
      some v3 := (Lw_eq tysOk (getG_con (slices_Concat_byte_byte.gok _)) _ _).trans (by kernel_rfl)

noncomputable abbrev impl_PackBytes.s : Sg := ⟨[.lend], [.agg [.int .i64, .int .i64, .int .i64, .sl false false 126]], ⟨[vo 5], [none]⟩, Tryz.f150⟩
noncomputable def impl_PackBytes.gs (δ : Type) : List (Nat × Callee (GT tab) δ) := [(70, impl_PackOk.k), (146, slices_Concat_byte_byte.k), (147, impl_VarOf.k), (149, impl_bitsBytes.k)]
theorem impl_PackBytes.gok (δ : Type) : AllCon Tryz.prog tab (impl_PackBytes.gs δ) := .cons impl_PackOk.con (.cons slices_Concat_byte_byte.con (.cons impl_VarOf.con (.cons impl_bitsBytes.con .nil)))
noncomputable def impl_PackBytes.c := cx impl_PackBytes.s [] [] false (impl_PackBytes.gs _)
noncomputable def impl_PackBytes (x0 : Int × Int × Int × (List Int)) : Option (List Int) := fnW impl_PackBytes.s impl_PackBytes.c x0
theorem impl_PackBytes.fok : FkS impl_PackBytes.s 150 := ⟨Tryz.func150, by kernel_rfl, by kernel_rfl⟩
noncomputable def impl_PackBytes.fn (x : Args tab impl_PackBytes.s.ar) : Option (ResT tab impl_PackBytes.s.rs) := impl_PackBytes x
noncomputable abbrev impl_PackBytes.k {δ : Type} : Callee (GT tab) δ := kS impl_PackBytes.s impl_PackBytes.fn
theorem impl_PackBytes.con {δ : Type} : Con Tryz.prog (KT tab) 150 (impl_PackBytes.k (δ := δ)) := con_shape (c := impl_PackBytes.c) mixed tysOk (getG_con (impl_PackBytes.gok _)) impl_PackBytes.fok rfl rfl fun _ => rfl
theorem impl_PackBytes.eq (x0 : Int × Int × Int × (List Int)) : impl_PackBytes x0 =
    (impl_PackOk x0).bind fun y1 =>
    bif !y1 then
      some ([] : List Int)
    else
      (impl_VarOf x0.1).bind fun y2 =>
      (impl_VarOf x0.2.1).bind fun y3 =>
      (impl_bitsBytes x0.2.2).bind fun y4 =>
      (slices_Concat_byte_byte ([y2, y3, y4] : List (List Int))).bind fun y5 =>
      some y5 := by kernel_rfl

noncomputable abbrev impl_FrameOk.s : Sg := ⟨[.lend], [.agg [.int .i64, .sl false false 5]], ⟨[vb], [none]⟩, Tryz.f186⟩
noncomputable def impl_FrameOk.gs (δ : Type) : List (Nat × Callee (GT tab) δ) := [(63, impl_within.k)]
theorem impl_FrameOk.gok (δ : Type) : AllCon Tryz.prog tab (impl_FrameOk.gs δ) := .cons impl_within.con .nil
noncomputable def impl_FrameOk.c := cx impl_FrameOk.s [] [] false (impl_FrameOk.gs _)
noncomputable def impl_FrameOk (x0 : Int × (List Int)) : Option (Bool) := fnW impl_FrameOk.s impl_FrameOk.c x0
theorem impl_FrameOk.fok : FkS impl_FrameOk.s 186 := ⟨Tryz.func186, by kernel_rfl, by kernel_rfl⟩
noncomputable def impl_FrameOk.fn (x : Args tab impl_FrameOk.s.ar) : Option (ResT tab impl_FrameOk.s.rs) := impl_FrameOk x
noncomputable abbrev impl_FrameOk.k {δ : Type} : Callee (GT tab) δ := kS impl_FrameOk.s impl_FrameOk.fn
theorem impl_FrameOk.con {δ : Type} : Con Tryz.prog (KT tab) 186 (impl_FrameOk.k (δ := δ)) := con_shape (c := impl_FrameOk.c) mixed tysOk (getG_con (impl_FrameOk.gok _)) impl_FrameOk.fok rfl rfl fun _ => rfl
theorem impl_FrameOk.eq (x0 : Int × (List Int)) : impl_FrameOk x0 =
    (impl_within x0.1 (0 : Int) (255 : Int)).bind fun y1 =>
    bif y1 then
      some (decide ((x0.2.length : Int) ≤ (8000 : Int)))
    else
      some false := by kernel_rfl

noncomputable abbrev impl_crc.s : Sg := ⟨[.lend], [vl 5], ⟨[vi], [none]⟩, Tryz.f187⟩
noncomputable def impl_crc.gs (δ : Type) : List (Nat × Callee (GT tab) δ) := []
theorem impl_crc.gok (δ : Type) : AllCon Tryz.prog tab (impl_crc.gs δ) := .nil
noncomputable def impl_crc.c := cx impl_crc.s [] [(3, [3, 6, 7, 8]), (7, [3, 6, 7, 8, 16])] false (impl_crc.gs _)
noncomputable def impl_crc (x0 : List Int) : Option (Int) := fnW impl_crc.s impl_crc.c x0
theorem impl_crc.fok : FkS impl_crc.s 187 := ⟨Tryz.func187, by kernel_rfl, by kernel_rfl⟩
noncomputable def impl_crc.fn (x : Args tab impl_crc.s.ar) : Option (ResT tab impl_crc.s.rs) := impl_crc x
noncomputable abbrev impl_crc.k {δ : Type} : Callee (GT tab) δ := kS impl_crc.s impl_crc.fn
theorem impl_crc.con {δ : Type} : Con Tryz.prog (KT tab) 187 (impl_crc.k (δ := δ)) := con_shape (c := impl_crc.c) mixed tysOk (getG_con (impl_crc.gok _)) impl_crc.fok rfl rfl fun _ => rfl
noncomputable def impl_crc_l0 (v0 : Int) (v1 : List Int) (v2 v3 : Int) : Option (Int) := lpW impl_crc.s impl_crc.c 0 (ud 20 [.undef, .undef, .undef, .int .u32 v0, .undef, .undef, .vs false 5 v1, .int .i64 v2, .int .i64 v3]) [] 0
noncomputable def impl_crc_l1 (v0 : Int) (v1 : List Int) (v2 v3 v4 : Int) : Option (Int) := lpW impl_crc.s impl_crc.c 1 (ud 12 [.undef, .undef, .undef, .int .u32 v0, .undef, .undef, .vs false 5 v1, .int .i64 v2, .int .i64 v3, .undef, .undef, .undef, .undef, .undef, .undef, .undef, .int .i64 v4]) [] 0
theorem impl_crc.eq (x0 : List Int) : impl_crc x0 =
    impl_crc_l0 (4294967295 : Int) x0 (x0.length : Int) (0 : Int) := by kernel_rfl
theorem impl_crc_l0.eq (v0 : Int) (v1 : List Int) (v2 v3 : Int) : impl_crc_l0 v0 v1 v2 v3 =
    bif decide (v3 < v2) then
      (at? v1 v3).bind fun y1 =>
      impl_crc_l1 (IntKind.u32.wrap (((BitVec.ofInt 32 v0) ^^^ (BitVec.ofInt 32 (IntKind.u32.wrap y1))).toNat : Int)) v1 v2 v3 (0 : Int)
    else
      some (IntKind.i64.wrap (IntKind.u32.wrap (((BitVec.ofInt 32 v0) ^^^ (BitVec.ofInt 32 (4294967295 : Int))).toNat : Int))) := (Lw_eq tysOk (getG_con (impl_crc.gok _)) _ _).trans (by kernel_rfl)
theorem impl_crc_l1.eq (v0 : Int) (v1 : List Int) (v2 v3 v4 : Int) : impl_crc_l1 v0 v1 v2 v3 v4 =
    bif decide (v4 < (8 : Int)) then
      impl_crc_l1 (IntKind.u32.wrap (((BitVec.ofInt 32 (v0.fdiv (2 ^ 1))) ^^^ (BitVec.ofInt 32 (IntKind.u32.wrap ((IntKind.u32.wrap (((BitVec.ofInt 32 v0) &&& (BitVec.ofInt 32 (1 : Int))).toNat : Int)) * (3988292384 : Int))))).toNat : Int)) v1 v2 v3 (IntKind.i64.wrap (v4 + (1 : Int)))
    else
      impl_crc_l0 v0 v1 v2 (IntKind.i64.wrap (v3 + (1 : Int))) := (Lw_eq tysOk (getG_con (impl_crc.gok _)) _ _).trans (by kernel_rfl)

noncomputable abbrev impl_FrameOf.s : Sg := ⟨[.lend], [.agg [.int .i64, .sl false false 5]], ⟨[vo 5], [none]⟩, Tryz.f151⟩
noncomputable def impl_FrameOf.gs (δ : Type) : List (Nat × Callee (GT tab) δ) := [(147, impl_VarOf.k), (186, impl_FrameOk.k), (187, impl_crc.k)]
theorem impl_FrameOf.gok (δ : Type) : AllCon Tryz.prog tab (impl_FrameOf.gs δ) := .cons impl_VarOf.con (.cons impl_FrameOk.con (.cons impl_crc.con .nil))
noncomputable def impl_FrameOf.c := cx impl_FrameOf.s [] [(7, [3, 4, 24])] false (impl_FrameOf.gs _)
noncomputable def impl_FrameOf (x0 : Int × (List Int)) : Option (List Int) := fnW impl_FrameOf.s impl_FrameOf.c x0
theorem impl_FrameOf.fok : FkS impl_FrameOf.s 151 := ⟨Tryz.func151, by kernel_rfl, by kernel_rfl⟩
noncomputable def impl_FrameOf.fn (x : Args tab impl_FrameOf.s.ar) : Option (ResT tab impl_FrameOf.s.rs) := impl_FrameOf x
noncomputable abbrev impl_FrameOf.k {δ : Type} : Callee (GT tab) δ := kS impl_FrameOf.s impl_FrameOf.fn
theorem impl_FrameOf.con {δ : Type} : Con Tryz.prog (KT tab) 151 (impl_FrameOf.k (δ := δ)) := con_shape (c := impl_FrameOf.c) mixed tysOk (getG_con (impl_FrameOf.gok _)) impl_FrameOf.fok rfl rfl fun _ => rfl
noncomputable def impl_FrameOf_l0 (v0 v1 : Int) (v2 : List Int) : Option (List Int) := lpW impl_FrameOf.s impl_FrameOf.c 0 (ud 12 [.undef, .undef, .undef, .sl 0 0, .int .i64 v0, .undef, .undef, .undef, .undef, .undef, .undef, .undef, .undef, .undef, .undef, .undef, .undef, .undef, .undef, .undef, .undef, .undef, .undef, .undef, .int .i64 v1]) [.row 0 true 5 v2] 1
theorem impl_FrameOf.eq (x0 : Int × (List Int)) : impl_FrameOf x0 =
    (impl_FrameOk x0).bind fun y1 =>
    bif !y1 then
      some ([] : List Int)
    else
      (impl_VarOf (x0.2.length : Int)).bind fun y2 =>
      bif decide ((([(90 : Int), IntKind.u8.wrap x0.1] : List Int).length + y2.length) * 1 ≤ 140737488355328) then
        bif decide (((([(90 : Int), IntKind.u8.wrap x0.1] : List Int) ++ y2).length + x0.2.length) * 1 ≤ 140737488355328) then
          (impl_crc ((([(90 : Int), IntKind.u8.wrap x0.1] : List Int) ++ y2) ++ x0.2)).bind fun y3 =>
          impl_FrameOf_l0 y3 (0 : Int) ((([(90 : Int), IntKind.u8.wrap x0.1] : List Int) ++ y2) ++ x0.2)
        else
          none
      else
        none := by kernel_rfl
theorem impl_FrameOf_l0.eq (v0 v1 : Int) (v2 : List Int) : impl_FrameOf_l0 v0 v1 v2 =
    bif decide (v1 < (4 : Int)) then
      bif decide (IntKind.i64.wrap ((8 : Int) * v1) < (0 : Int)) then
        none
      else
        bif decide ((v2.length + ([IntKind.u8.wrap (v0.fdiv (2 ^ (min (IntKind.i64.wrap ((8 : Int) * v1)).toNat 64)))] : List Int).length) * 1 ≤ 140737488355328) then
          impl_FrameOf_l0 v0 (IntKind.i64.wrap (v1 + (1 : Int))) (v2 ++ ([IntKind.u8.wrap (v0.fdiv (2 ^ (min (IntKind.i64.wrap ((8 : Int) * v1)).toNat 64)))] : List Int))
        else
          none
    else
      some v2 := (Lw_eq tysOk (getG_con (impl_FrameOf.gok _)) _ _).trans (by kernel_rfl)

noncomputable abbrev impl_fmBytes.s : Sg := ⟨[.lend], [.agg [.int .i64, .int .i64, .int .i64, .sl false false 3, .sl false false 30, .sl false false 3, .int .i64, .sl false false 126, .int .i64, .int .i64, .int .i64, .sl false false 126, .int .i64, .int .i64, .int .i64, .sl false false 126]], ⟨[vo 5], [none]⟩, Tryz.f98⟩
noncomputable def impl_fmBytes.gs (δ : Type) : List (Nat × Callee (GT tab) δ) := [(146, slices_Concat_byte_byte.k), (147, impl_VarOf.k), (148, impl_waveBytes.k), (149, impl_bitsBytes.k), (150, impl_PackBytes.k), (151, impl_FrameOf.k)]
theorem impl_fmBytes.gok (δ : Type) : AllCon Tryz.prog tab (impl_fmBytes.gs δ) := .cons slices_Concat_byte_byte.con (.cons impl_VarOf.con (.cons impl_waveBytes.con (.cons impl_bitsBytes.con (.cons impl_PackBytes.con (.cons impl_FrameOf.con .nil)))))
noncomputable def impl_fmBytes.c := cx impl_fmBytes.s [] [] false (impl_fmBytes.gs _)
noncomputable def impl_fmBytes (x0 : Int × Int × Int × (List Int) × (List (Int × (List Int))) × (List Int) × Int × (List Int) × Int × Int × Int × (List Int) × Int × Int × Int × (List Int)) : Option (List Int) := fnW impl_fmBytes.s impl_fmBytes.c x0
theorem impl_fmBytes.fok : FkS impl_fmBytes.s 98 := ⟨Tryz.func98, by kernel_rfl, by kernel_rfl⟩
noncomputable def impl_fmBytes.fn (x : Args tab impl_fmBytes.s.ar) : Option (ResT tab impl_fmBytes.s.rs) := impl_fmBytes x
noncomputable abbrev impl_fmBytes.k {δ : Type} : Callee (GT tab) δ := kS impl_fmBytes.s impl_fmBytes.fn
theorem impl_fmBytes.con {δ : Type} : Con Tryz.prog (KT tab) 98 (impl_fmBytes.k (δ := δ)) := con_shape (c := impl_fmBytes.c) mixed tysOk (getG_con (impl_fmBytes.gok _)) impl_fmBytes.fok rfl rfl fun _ => rfl
theorem impl_fmBytes.eq (x0 : Int × Int × Int × (List Int) × (List (Int × (List Int))) × (List Int) × Int × (List Int) × Int × Int × Int × (List Int) × Int × Int × Int × (List Int)) : impl_fmBytes x0 =
    (impl_VarOf x0.2.1).bind fun y1 =>
    (impl_waveBytes (x0.2.2.1, x0.2.2.2.1, x0.2.2.2.2.1)).bind fun y2 =>
    (impl_bitsBytes (x0.2.2.2.2.2.2.1, x0.2.2.2.2.2.2.2.1)).bind fun y3 =>
    (impl_PackBytes (x0.2.2.2.2.2.2.2.2.1, x0.2.2.2.2.2.2.2.2.2.1, x0.2.2.2.2.2.2.2.2.2.2.1, x0.2.2.2.2.2.2.2.2.2.2.2.1)).bind fun y4 =>
    (impl_PackBytes x0.2.2.2.2.2.2.2.2.2.2.2.2).bind fun y5 =>
    (slices_Concat_byte_byte ([y1, y2, y3, y4, y5] : List (List Int))).bind fun y6 =>
    (impl_FrameOf ((1 : Int), y6)).bind fun y7 =>
    some y7 := by kernel_rfl

noncomputable abbrev impl_FmBytes.s : Sg := ⟨[.lend], [.agg [.int .i64, .int .i64, .int .i64, .sl false false 3, .sl false false 30, .sl false false 3, .int .i64, .sl false false 126, .int .i64, .int .i64, .int .i64, .sl false false 126, .int .i64, .int .i64, .int .i64, .sl false false 126]], ⟨[vo 5], [none]⟩, Tryz.f49⟩
noncomputable def impl_FmBytes.gs (δ : Type) : List (Nat × Callee (GT tab) δ) := [(97, impl_FmOk.k), (98, impl_fmBytes.k)]
theorem impl_FmBytes.gok (δ : Type) : AllCon Tryz.prog tab (impl_FmBytes.gs δ) := .cons impl_FmOk.con (.cons impl_fmBytes.con .nil)
noncomputable def impl_FmBytes.c := cx impl_FmBytes.s [] [] false (impl_FmBytes.gs _)
noncomputable def impl_FmBytes (x0 : Int × Int × Int × (List Int) × (List (Int × (List Int))) × (List Int) × Int × (List Int) × Int × Int × Int × (List Int) × Int × Int × Int × (List Int)) : Option (List Int) := fnW impl_FmBytes.s impl_FmBytes.c x0
theorem impl_FmBytes.fok : FkS impl_FmBytes.s 49 := ⟨Tryz.func49, by kernel_rfl, by kernel_rfl⟩
noncomputable def impl_FmBytes.fn (x : Args tab impl_FmBytes.s.ar) : Option (ResT tab impl_FmBytes.s.rs) := impl_FmBytes x
noncomputable abbrev impl_FmBytes.k {δ : Type} : Callee (GT tab) δ := kS impl_FmBytes.s impl_FmBytes.fn
theorem impl_FmBytes.con {δ : Type} : Con Tryz.prog (KT tab) 49 (impl_FmBytes.k (δ := δ)) := con_shape (c := impl_FmBytes.c) mixed tysOk (getG_con (impl_FmBytes.gok _)) impl_FmBytes.fok rfl rfl fun _ => rfl
theorem impl_FmBytes.eq (x0 : Int × Int × Int × (List Int) × (List (Int × (List Int))) × (List Int) × Int × (List Int) × Int × Int × Int × (List Int) × Int × Int × Int × (List Int)) : impl_FmBytes x0 =
    (impl_FmOk x0).bind fun y1 =>
    bif !y1 then
      some ([] : List Int)
    else
      (impl_fmBytes x0).bind fun y2 =>
      some y2 := by kernel_rfl

noncomputable abbrev spec_FmOk.s : Sg := ⟨[.lend], [.agg [.int .i64, .int .i64, .int .i64, .sl false false 3, .sl false false 30, .sl false false 3, .int .i64, .sl false false 126, .int .i64, .int .i64, .int .i64, .sl false false 126, .int .i64, .int .i64, .int .i64, .sl false false 126]], ⟨[vb], [none]⟩, Tryz.f50⟩
noncomputable def spec_FmOk.gs (δ : Type) : List (Nat × Callee (GT tab) δ) := [(60, spec_l09Text.k)]
theorem spec_FmOk.gok (δ : Type) : AllCon Tryz.prog tab (spec_FmOk.gs δ) := .cons spec_l09Text.con .nil
noncomputable def spec_FmOk.c := cx spec_FmOk.s [] [] false (spec_FmOk.gs _)
noncomputable def spec_FmOk (x0 : Int × Int × Int × (List Int) × (List (Int × (List Int))) × (List Int) × Int × (List Int) × Int × Int × Int × (List Int) × Int × Int × Int × (List Int)) : Option (Bool) := fnW spec_FmOk.s spec_FmOk.c x0
theorem spec_FmOk.fok : FkS spec_FmOk.s 50 := ⟨Tryz.func50, by kernel_rfl, by kernel_rfl⟩
noncomputable def spec_FmOk.fn (x : Args tab spec_FmOk.s.ar) : Option (ResT tab spec_FmOk.s.rs) := spec_FmOk x
noncomputable abbrev spec_FmOk.k {δ : Type} : Callee (GT tab) δ := kS spec_FmOk.s spec_FmOk.fn
theorem spec_FmOk.con {δ : Type} : Con Tryz.prog (KT tab) 50 (spec_FmOk.k (δ := δ)) := con_shape (c := spec_FmOk.c) mixed tysOk (getG_con (spec_FmOk.gok _)) spec_FmOk.fok rfl rfl fun _ => rfl
theorem spec_FmOk.eq (x0 : Int × Int × Int × (List Int) × (List (Int × (List Int))) × (List Int) × Int × (List Int) × Int × Int × Int × (List Int) × Int × Int × Int × (List Int)) : spec_FmOk x0 =
    (spec_l09Text x0).bind fun y1 =>
    some y1.2 := by kernel_rfl

noncomputable abbrev laws_bytesOf.s : Sg := ⟨[.lend], [vl 5], ⟨[vo 5], [none]⟩, Tryz.f52⟩
noncomputable def laws_bytesOf.gs (δ : Type) : List (Nat × Callee (GT tab) δ) := []
theorem laws_bytesOf.gok (δ : Type) : AllCon Tryz.prog tab (laws_bytesOf.gs δ) := .nil
noncomputable def laws_bytesOf.c := cx laws_bytesOf.s [] [] false (laws_bytesOf.gs _)
noncomputable def laws_bytesOf (x0 : List Int) : Option (List Int) := fnW laws_bytesOf.s laws_bytesOf.c x0
theorem laws_bytesOf.fok : FkS laws_bytesOf.s 52 := ⟨Tryz.func52, by kernel_rfl, by kernel_rfl⟩
noncomputable def laws_bytesOf.fn (x : Args tab laws_bytesOf.s.ar) : Option (ResT tab laws_bytesOf.s.rs) := laws_bytesOf x
noncomputable abbrev laws_bytesOf.k {δ : Type} : Callee (GT tab) δ := kS laws_bytesOf.s laws_bytesOf.fn
theorem laws_bytesOf.con {δ : Type} : Con Tryz.prog (KT tab) 52 (laws_bytesOf.k (δ := δ)) := con_shape (c := laws_bytesOf.c) mixed tysOk (getG_con (laws_bytesOf.gok _)) laws_bytesOf.fok rfl rfl fun _ => rfl
theorem laws_bytesOf.eq (x0 : List Int) : laws_bytesOf x0 =
    bif decide ((([] : List Int).length + x0.length) * 1 ≤ 140737488355328) then
      some (([] : List Int) ++ x0)
    else
      none := by kernel_rfl

noncomputable abbrev impl_VarRead.s : Sg := ⟨[.lend, .lend], [vl 5, vi], ⟨[vi, vi, vb], [none, none]⟩, Tryz.f100⟩
noncomputable def impl_VarRead.gs (δ : Type) : List (Nat × Callee (GT tab) δ) := [(63, impl_within.k), (106, bytes_Equal.k), (147, impl_VarOf.k)]
theorem impl_VarRead.gok (δ : Type) : AllCon Tryz.prog tab (impl_VarRead.gs δ) := .cons impl_within.con (.cons bytes_Equal.con (.cons impl_VarOf.con .nil))
noncomputable def impl_VarRead.c := cx impl_VarRead.s [] [(5, [0, 1, 7, 18, 19, 20])] false (impl_VarRead.gs _)
noncomputable def impl_VarRead (x0 : List Int) (x1 : Int) : Option (Int × Int × Bool) := fnW impl_VarRead.s impl_VarRead.c (x0, x1)
theorem impl_VarRead.fok : FkS impl_VarRead.s 100 := ⟨Tryz.func100, by kernel_rfl, by kernel_rfl⟩
noncomputable def impl_VarRead.fn (x : Args tab impl_VarRead.s.ar) : Option (ResT tab impl_VarRead.s.rs) := impl_VarRead x.1 x.2
noncomputable abbrev impl_VarRead.k {δ : Type} : Callee (GT tab) δ := kS impl_VarRead.s impl_VarRead.fn
theorem impl_VarRead.con {δ : Type} : Con Tryz.prog (KT tab) 100 (impl_VarRead.k (δ := δ)) := con_shape (c := impl_VarRead.c) mixed tysOk (getG_con (impl_VarRead.gok _)) impl_VarRead.fok rfl rfl fun _ => rfl
noncomputable def impl_VarRead_l0 (v0 : List Int) (v1 v2 : Int) (v3 : List Int) (v4 v5 : Int) : Option (Int × Int × Bool) := lpW impl_VarRead.s impl_VarRead.c 0 (ud 31 [.vs false 5 v0, .int .i64 v1, .undef, .undef, .undef, .undef, .undef, .int .i64 v2, .undef, .undef, .undef, .undef, .undef, .undef, .undef, .undef, .undef, .undef, .vs false 5 v3, .int .i64 v4, .int .i64 v5]) [] 0
theorem impl_VarRead.eq (x0 : List Int) (x1 : Int) : impl_VarRead x0 x1 =
    (impl_within x1 (0 : Int) (x0.length : Int)).bind fun y1 =>
    bif !y1 then
      some ((0 : Int), (0 : Int), false)
    else
      bif decide (0 ≤ x1 ∧ x1 ≤ ((x0.length : Nat) : Int)) then
        impl_VarRead_l0 x0 x1 (0 : Int) ((x0.take x0.length).drop x1.toNat) (((x0.take x0.length).drop x1.toNat).length : Int) (0 : Int)
      else
        none := by kernel_rfl
theorem impl_VarRead_l0.eq (v0 : List Int) (v1 v2 : Int) (v3 : List Int) (v4 v5 : Int) : impl_VarRead_l0 v0 v1 v2 v3 v4 v5 =
    bif decide (v5 < v4) then
      (at? v3 v5).bind fun y1 =>
      bif v5 == (5 : Int) then
        some ((0 : Int), (0 : Int), false)
      else
        bif decide (IntKind.i64.wrap ((7 : Int) * v5) < (0 : Int)) then
          none
        else
          bif decide (y1 ≥ (128 : Int)) then
            impl_VarRead_l0 v0 v1 (IntKind.i64.wrap (((BitVec.ofInt 64 v2) ||| (BitVec.ofInt 64 (IntKind.i64.wrap ((IntKind.i64.wrap (IntKind.u8.wrap (((BitVec.ofInt 8 y1) &&& (BitVec.ofInt 8 (127 : Int))).toNat : Int))) * 2 ^ (min (IntKind.i64.wrap ((7 : Int) * v5)).toNat 64))))).toNat : Int)) v3 v4 (IntKind.i64.wrap (v5 + (1 : Int)))
          else
            (impl_VarOf (IntKind.i64.wrap (((BitVec.ofInt 64 v2) ||| (BitVec.ofInt 64 (IntKind.i64.wrap ((IntKind.i64.wrap (IntKind.u8.wrap (((BitVec.ofInt 8 y1) &&& (BitVec.ofInt 8 (127 : Int))).toNat : Int))) * 2 ^ (min (IntKind.i64.wrap ((7 : Int) * v5)).toNat 64))))).toNat : Int))).bind fun y2 =>
            bif decide (0 ≤ IntKind.i64.wrap ((IntKind.i64.wrap (v1 + v5)) + (1 : Int)) ∧ IntKind.i64.wrap ((IntKind.i64.wrap (v1 + v5)) + (1 : Int)) ≤ ((v0.length : Nat) : Int)) then
              bif decide (0 ≤ v1 ∧ v1 ≤ (((IntKind.i64.wrap ((IntKind.i64.wrap (v1 + v5)) + (1 : Int))).toNat : Nat) : Int)) then
                (bytes_Equal y2 ((v0.take ((IntKind.i64.wrap ((IntKind.i64.wrap (v1 + v5)) + (1 : Int))).toNat)).drop v1.toNat)).bind fun y3 =>
                bif !y3 then
                  some ((0 : Int), (0 : Int), false)
                else
                  some (IntKind.i64.wrap (((BitVec.ofInt 64 v2) ||| (BitVec.ofInt 64 (IntKind.i64.wrap ((IntKind.i64.wrap (IntKind.u8.wrap (((BitVec.ofInt 8 y1) &&& (BitVec.ofInt 8 (127 : Int))).toNat : Int))) * 2 ^ (min (IntKind.i64.wrap ((7 : Int) * v5)).toNat 64))))).toNat : Int), IntKind.i64.wrap ((IntKind.i64.wrap (v1 + v5)) + (1 : Int)), true)
              else
                none
            else
              none
    else
      some ((0 : Int), (0 : Int), false) := (Lw_eq tysOk (getG_con (impl_VarRead.gok _)) _ _).trans (by kernel_rfl)

noncomputable abbrev bytes_Clone.s : Sg := ⟨[.lend], [vl 5], ⟨[vo 5], [none]⟩, Tryz.f94⟩
noncomputable def bytes_Clone.gs (δ : Type) : List (Nat × Callee (GT tab) δ) := []
theorem bytes_Clone.gok (δ : Type) : AllCon Tryz.prog tab (bytes_Clone.gs δ) := .nil
noncomputable def bytes_Clone.c := cx bytes_Clone.s [] [] false (bytes_Clone.gs _)
noncomputable def bytes_Clone (x0 : List Int) : Option (List Int) := fnW bytes_Clone.s bytes_Clone.c x0
theorem bytes_Clone.fok : FkS bytes_Clone.s 94 := ⟨Tryz.func94, by kernel_rfl, by kernel_rfl⟩
noncomputable def bytes_Clone.fn (x : Args tab bytes_Clone.s.ar) : Option (ResT tab bytes_Clone.s.rs) := bytes_Clone x
noncomputable abbrev bytes_Clone.k {δ : Type} : Callee (GT tab) δ := kS bytes_Clone.s bytes_Clone.fn
theorem bytes_Clone.con {δ : Type} : Con Tryz.prog (KT tab) 94 (bytes_Clone.k (δ := δ)) := con_shape (c := bytes_Clone.c) mixed tysOk (getG_con (bytes_Clone.gok _)) bytes_Clone.fok rfl rfl fun _ => rfl
theorem bytes_Clone.eq (x0 : List Int) : bytes_Clone x0 =
    bif x0.length.beq 0 then
      both (some ([] : List Int)) (bif decide ((([] : List Int).length + x0.length) * 1 ≤ 140737488355328) then
        some (([] : List Int) ++ x0)
      else
        none)
    else
      bif decide ((([] : List Int).length + x0.length) * 1 ≤ 140737488355328) then
        some (([] : List Int) ++ x0)
      else
        none := by kernel_rfl

noncomputable abbrev impl_FrameRead.s : Sg := ⟨[.lend, .lend], [vl 5, vi], ⟨[.agg [.int .i64, .sl true true 5], vi, vb], [none, none]⟩, Tryz.f152⟩
noncomputable def impl_FrameRead.gs (δ : Type) : List (Nat × Callee (GT tab) δ) := [(63, impl_within.k), (94, bytes_Clone.k), (100, impl_VarRead.k), (106, bytes_Equal.k), (151, impl_FrameOf.k)]
theorem impl_FrameRead.gok (δ : Type) : AllCon Tryz.prog tab (impl_FrameRead.gs δ) := .cons impl_within.con (.cons bytes_Clone.con (.cons impl_VarRead.con (.cons bytes_Equal.con (.cons impl_FrameOf.con .nil))))
noncomputable def impl_FrameRead.c := cx impl_FrameRead.s [6] [(6, [0, 1, 4, 7, 8])] false (impl_FrameRead.gs _)
noncomputable def impl_FrameRead (x0 : List Int) (x1 : Int) : Option ((Int × (List Int)) × Int × Bool) := fnW impl_FrameRead.s impl_FrameRead.c (x0, x1)
theorem impl_FrameRead.fok : FkS impl_FrameRead.s 152 := ⟨Tryz.func152, by kernel_rfl, by kernel_rfl⟩
noncomputable def impl_FrameRead.fn (x : Args tab impl_FrameRead.s.ar) : Option (ResT tab impl_FrameRead.s.rs) := impl_FrameRead x.1 x.2
noncomputable abbrev impl_FrameRead.k {δ : Type} : Callee (GT tab) δ := kS impl_FrameRead.s impl_FrameRead.fn
theorem impl_FrameRead.con {δ : Type} : Con Tryz.prog (KT tab) 152 (impl_FrameRead.k (δ := δ)) := con_shape (c := impl_FrameRead.c) mixed tysOk (getG_con (impl_FrameRead.gok _)) impl_FrameRead.fok rfl rfl fun _ => rfl
noncomputable def impl_FrameRead_l0 (v0 : List Int) (v1 v2 v3 v4 : Int) (v5 : List Int) : Option ((Int × (List Int)) × Int × Bool) := lpW impl_FrameRead.s impl_FrameRead.c 0 (ud 63 [.vs false 5 v0, .int .i64 v1, .undef, .undef, .ptr 0 0, .undef, .undef, .int .i64 v2, .int .i64 v3]) [.box 114 [.int .i64 v4, .sl 1 0], .row 0 true 5 v5] 2
theorem impl_FrameRead.eq (x0 : List Int) (x1 : Int) : impl_FrameRead x0 x1 =
    (impl_within x1 (0 : Int) (IntKind.i64.wrap ((x0.length : Int) - (2 : Int)))).bind fun y1 =>
    bif !y1 then
      some (((0 : Int), ([] : List Int)), (0 : Int), false)
    else
      (impl_VarRead x0 (IntKind.i64.wrap (x1 + (2 : Int)))).bind fun y2 =>
      bif !y2.2.2 then
        some (((0 : Int), ([] : List Int)), (0 : Int), false)
      else
        bif decide (y2.1 > (8000 : Int)) then
          some (((0 : Int), ([] : List Int)), (0 : Int), false)
        else
          bif decide (IntKind.i64.wrap (y2.1 + (4 : Int)) > IntKind.i64.wrap ((x0.length : Int) - y2.2.1)) then
            some (((0 : Int), ([] : List Int)), (0 : Int), false)
          else
            impl_FrameRead_l0 x0 x1 y2.1 y2.2.1 (0 : Int) ([] : List Int) := by kernel_rfl
theorem impl_FrameRead_l0.eq (v0 : List Int) (v1 v2 v3 v4 : Int) (v5 : List Int) : impl_FrameRead_l0 v0 v1 v2 v3 v4 v5 =
    (at? v0 (IntKind.i64.wrap (v1 + (1 : Int)))).bind fun y1 =>
    bif decide (0 ≤ IntKind.i64.wrap (v3 + v2) ∧ IntKind.i64.wrap (v3 + v2) ≤ ((v0.length : Nat) : Int)) then
      bif decide (0 ≤ v3 ∧ v3 ≤ (((IntKind.i64.wrap (v3 + v2)).toNat : Nat) : Int)) then
        (bytes_Clone ((v0.take ((IntKind.i64.wrap (v3 + v2)).toNat)).drop v3.toNat)).bind fun y2 =>
        (impl_FrameOf (IntKind.i64.wrap y1, y2)).bind fun y3 =>
        bif decide (0 ≤ IntKind.i64.wrap ((IntKind.i64.wrap (v3 + v2)) + (4 : Int)) ∧ IntKind.i64.wrap ((IntKind.i64.wrap (v3 + v2)) + (4 : Int)) ≤ ((v0.length : Nat) : Int)) then
          bif decide (0 ≤ v1 ∧ v1 ≤ (((IntKind.i64.wrap ((IntKind.i64.wrap (v3 + v2)) + (4 : Int))).toNat : Nat) : Int)) then
            (bytes_Equal y3 ((v0.take ((IntKind.i64.wrap ((IntKind.i64.wrap (v3 + v2)) + (4 : Int))).toNat)).drop v1.toNat)).bind fun y4 =>
            bif !y4 then
              some (((0 : Int), ([] : List Int)), (0 : Int), false)
            else
              some ((IntKind.i64.wrap y1, y2), IntKind.i64.wrap ((IntKind.i64.wrap (v3 + v2)) + (4 : Int)), true)
          else
            none
        else
          none
      else
        none
    else
      none := (Lw_eq tysOk (getG_con (impl_FrameRead.gok _)) _ _).trans (by kernel_rfl)

noncomputable abbrev impl_frameOnly.s : Sg := ⟨[.lend, .lend], [vl 5, vi], ⟨[vo 5, vb], [none, none]⟩, Tryz.f99⟩
noncomputable def impl_frameOnly.gs (δ : Type) : List (Nat × Callee (GT tab) δ) := [(152, impl_FrameRead.k)]
theorem impl_frameOnly.gok (δ : Type) : AllCon Tryz.prog tab (impl_frameOnly.gs δ) := .cons impl_FrameRead.con .nil
noncomputable def impl_frameOnly.c := cx impl_frameOnly.s [] [] false (impl_frameOnly.gs _)
noncomputable def impl_frameOnly (x0 : List Int) (x1 : Int) : Option ((List Int) × Bool) := fnW impl_frameOnly.s impl_frameOnly.c (x0, x1)
theorem impl_frameOnly.fok : FkS impl_frameOnly.s 99 := ⟨Tryz.func99, by kernel_rfl, by kernel_rfl⟩
noncomputable def impl_frameOnly.fn (x : Args tab impl_frameOnly.s.ar) : Option (ResT tab impl_frameOnly.s.rs) := impl_frameOnly x.1 x.2
noncomputable abbrev impl_frameOnly.k {δ : Type} : Callee (GT tab) δ := kS impl_frameOnly.s impl_frameOnly.fn
theorem impl_frameOnly.con {δ : Type} : Con Tryz.prog (KT tab) 99 (impl_frameOnly.k (δ := δ)) := con_shape (c := impl_frameOnly.c) mixed tysOk (getG_con (impl_frameOnly.gok _)) impl_frameOnly.fok rfl rfl fun _ => rfl
theorem impl_frameOnly.eq (x0 : List Int) (x1 : Int) : impl_frameOnly x0 x1 =
    (impl_FrameRead x0 (0 : Int)).bind fun y1 =>
    bif y1.2.2 then
      bif y1.2.1 == (x0.length : Int) then
        some (y1.1.2, y1.1.1 == x1)
      else
        some (y1.1.2, false)
    else
      some (y1.1.2, false) := by kernel_rfl

noncomputable abbrev impl_BitsRead.s : Sg := ⟨[.lend, .lend], [vl 5, vi], ⟨[.agg [.int .i64, .sl true true 126], vi, vb], [none, none]⟩, Tryz.f153⟩
noncomputable def impl_BitsRead.gs (δ : Type) : List (Nat × Callee (GT tab) δ) := [(66, impl_BitsOk.k), (100, impl_VarRead.k)]
theorem impl_BitsRead.gok (δ : Type) : AllCon Tryz.prog tab (impl_BitsRead.gs δ) := .cons impl_BitsOk.con (.cons impl_VarRead.con .nil)
noncomputable def impl_BitsRead.c := cx impl_BitsRead.s [5] [(5, [0, 1, 4, 7, 9]), (7, [1, 4, 9, 10, 51, 52, 53])] false (impl_BitsRead.gs _)
noncomputable def impl_BitsRead (x0 : List Int) (x1 : Int) : Option ((Int × (List Int)) × Int × Bool) := fnW impl_BitsRead.s impl_BitsRead.c (x0, x1)
theorem impl_BitsRead.fok : FkS impl_BitsRead.s 153 := ⟨Tryz.func153, by kernel_rfl, by kernel_rfl⟩
noncomputable def impl_BitsRead.fn (x : Args tab impl_BitsRead.s.ar) : Option (ResT tab impl_BitsRead.s.rs) := impl_BitsRead x.1 x.2
noncomputable abbrev impl_BitsRead.k {δ : Type} : Callee (GT tab) δ := kS impl_BitsRead.s impl_BitsRead.fn
theorem impl_BitsRead.con {δ : Type} : Con Tryz.prog (KT tab) 153 (impl_BitsRead.k (δ := δ)) := con_shape (c := impl_BitsRead.c) mixed tysOk (getG_con (impl_BitsRead.gok _)) impl_BitsRead.fok rfl rfl fun _ => rfl
noncomputable def impl_BitsRead_l0 (v0 : List Int) (v1 v2 v3 v4 : Int) (v5 : List Int) : Option ((Int × (List Int)) × Int × Bool) := lpW impl_BitsRead.s impl_BitsRead.c 0 (ud 72 [.vs false 5 v0, .int .i64 v1, .undef, .undef, .ptr 0 0, .undef, .undef, .int .i64 v2, .undef, .int .i64 v3]) [.box 30 [.int .i64 v4, .sl 1 0], .row 0 true 126 v5] 2
noncomputable def impl_BitsRead_l1 (v0 v1 : Int) (v2 : List Int) (v3 v4 v5 : Int) (v6 : List Int) (v7 : Int) (v8 : List Int) : Option ((Int × (List Int)) × Int × Bool) := lpW impl_BitsRead.s impl_BitsRead.c 1 (ud 28 [.undef, .int .i64 v0, .undef, .undef, .ptr 0 0, .undef, .undef, .undef, .undef, .int .i64 v1, .ptr 2 0, .undef, .undef, .undef, .undef, .undef, .undef, .undef, .undef, .undef, .undef, .undef, .undef, .undef, .undef, .undef, .undef, .undef, .undef, .undef, .undef, .undef, .undef, .undef, .undef, .undef, .undef, .undef, .undef, .undef, .undef, .undef, .undef, .undef, .undef, .undef, .undef, .undef, .undef, .undef, .undef, .vs false 5 v2, .int .i64 v3, .int .i64 v4]) [.box 30 [.int .i64 v5, .sl 1 0], .row 0 true 126 v6, .box 30 [.int .i64 v7, .sl 3 0], .row 0 true 126 v8] 4
theorem impl_BitsRead.eq (x0 : List Int) (x1 : Int) : impl_BitsRead x0 x1 =
    (impl_VarRead x0 x1).bind fun y1 =>
    bif !y1.2.2 then
      some (((0 : Int), ([] : List Int)), (0 : Int), false)
    else
      bif decide (y1.1 > (5000 : Int)) then
        some (((0 : Int), ([] : List Int)), (0 : Int), false)
      else
        bif decide (IntKind.i64.wrap ((IntKind.i64.wrap ((IntKind.i64.wrap (y1.1 + (8 : Int))) - (1 : Int))).tdiv (8 : Int)) > IntKind.i64.wrap ((x0.length : Int) - y1.2.1)) then
          some (((0 : Int), ([] : List Int)), (0 : Int), false)
        else
          impl_BitsRead_l0 x0 y1.2.1 y1.1 (IntKind.i64.wrap ((IntKind.i64.wrap ((IntKind.i64.wrap (y1.1 + (8 : Int))) - (1 : Int))).tdiv (8 : Int))) (0 : Int) ([] : List Int) := by kernel_rfl
theorem impl_BitsRead_l0.eq (v0 : List Int) (v1 v2 v3 v4 : Int) (v5 : List Int) : impl_BitsRead_l0 v0 v1 v2 v3 v4 v5 =
    bif decide ((0 : Int) ≤ IntKind.i64.wrap ((IntKind.i64.wrap ((IntKind.i64.wrap (v2 + (64 : Int))) - (1 : Int))).tdiv (64 : Int))) && decide (((IntKind.i64.wrap ((IntKind.i64.wrap ((IntKind.i64.wrap (v2 + (64 : Int))) - (1 : Int))).tdiv (64 : Int))).toNat) * 8 ≤ 140737488355328) then
      bif decide (0 ≤ IntKind.i64.wrap (v1 + v3) ∧ IntKind.i64.wrap (v1 + v3) ≤ ((v0.length : Nat) : Int)) then
        bif decide (0 ≤ v1 ∧ v1 ≤ (((IntKind.i64.wrap (v1 + v3)).toNat : Nat) : Int)) then
          impl_BitsRead_l1 v1 v3 ((v0.take ((IntKind.i64.wrap (v1 + v3)).toNat)).drop v1.toNat) (((v0.take ((IntKind.i64.wrap (v1 + v3)).toNat)).drop v1.toNat).length : Int) (0 : Int) v4 v5 v2 (List.replicate ((IntKind.i64.wrap ((IntKind.i64.wrap ((IntKind.i64.wrap (v2 + (64 : Int))) - (1 : Int))).tdiv (64 : Int))).toNat) (0 : Int))
        else
          none
      else
        none
    else
      none := (Lw_eq tysOk (getG_con (impl_BitsRead.gok _)) _ _).trans (by kernel_rfl)
theorem impl_BitsRead_l1.eq (v0 v1 : Int) (v2 : List Int) (v3 v4 v5 : Int) (v6 : List Int) (v7 : Int) (v8 : List Int) : impl_BitsRead_l1 v0 v1 v2 v3 v4 v5 v6 v7 v8 =
    bif decide (v4 < v3) then
      (at? v2 v4).bind fun y1 =>
      (at? v8 (IntKind.i64.wrap ((IntKind.i64.wrap (v4 * (8 : Int))).tdiv (64 : Int)))).bind fun y2 =>
      v8[(IntKind.i64.wrap ((IntKind.i64.wrap (v4 * (8 : Int))).tdiv (64 : Int))).toNat]?.bind fun y3 =>
      bif decide ((IntKind.i64.wrap (v4 * (8 : Int))).tmod (64 : Int) < (0 : Int)) then
        none
      else
        (at? v8 (IntKind.i64.wrap ((IntKind.i64.wrap (v4 * (8 : Int))).tdiv (64 : Int)))).bind fun y4 =>
        v8[(IntKind.i64.wrap ((IntKind.i64.wrap (v4 * (8 : Int))).tdiv (64 : Int))).toNat]?.bind fun y5 =>
        impl_BitsRead_l1 v0 v1 v2 v3 (IntKind.i64.wrap (v4 + (1 : Int))) v5 v6 v7 (v8.set ((IntKind.i64.wrap ((IntKind.i64.wrap (v4 * (8 : Int))).tdiv (64 : Int))).toNat) (IntKind.u64.wrap (((BitVec.ofInt 64 y3) ||| (BitVec.ofInt 64 (IntKind.u64.wrap ((IntKind.u64.wrap y1) * 2 ^ (min ((IntKind.i64.wrap (v4 * (8 : Int))).tmod (64 : Int)).toNat 64))))).toNat : Int)))
    else
      (impl_BitsOk (v7, v8)).bind fun y6 =>
      bif !y6 then
        some (((0 : Int), ([] : List Int)), (0 : Int), false)
      else
        some ((v7, v8), IntKind.i64.wrap (v0 + v1), true) := (Lw_eq tysOk (getG_con (impl_BitsRead.gok _)) _ _).trans (by kernel_rfl)

noncomputable abbrev impl_WaveOk.s : Sg := ⟨[.lend], [.agg [.int .i64, .sl false false 3, .sl false false 30]], ⟨[vb], [none]⟩, Tryz.f154⟩
noncomputable def impl_WaveOk.gs (δ : Type) : List (Nat × Callee (GT tab) δ) := [(120, impl_Wave_read.k)]
theorem impl_WaveOk.gok (δ : Type) : AllCon Tryz.prog tab (impl_WaveOk.gs δ) := .cons impl_Wave_read.con .nil
noncomputable def impl_WaveOk.c := cx impl_WaveOk.s [] [] false (impl_WaveOk.gs _)
noncomputable def impl_WaveOk (x0 : Int × (List Int) × (List (Int × (List Int)))) : Option (Bool) := fnW impl_WaveOk.s impl_WaveOk.c x0
theorem impl_WaveOk.fok : FkS impl_WaveOk.s 154 := ⟨Tryz.func154, by kernel_rfl, by kernel_rfl⟩
noncomputable def impl_WaveOk.fn (x : Args tab impl_WaveOk.s.ar) : Option (ResT tab impl_WaveOk.s.rs) := impl_WaveOk x
noncomputable abbrev impl_WaveOk.k {δ : Type} : Callee (GT tab) δ := kS impl_WaveOk.s impl_WaveOk.fn
theorem impl_WaveOk.con {δ : Type} : Con Tryz.prog (KT tab) 154 (impl_WaveOk.k (δ := δ)) := con_shape (c := impl_WaveOk.c) mixed tysOk (getG_con (impl_WaveOk.gok _)) impl_WaveOk.fok rfl rfl fun _ => rfl
theorem impl_WaveOk.eq (x0 : Int × (List Int) × (List (Int × (List Int)))) : impl_WaveOk x0 =
    (impl_Wave_read x0).bind fun y1 =>
    some y1.2 := by kernel_rfl

noncomputable abbrev impl_WaveRead.s : Sg := ⟨[.lend, .lend], [vl 5, vi], ⟨[.agg [.int .i64, .sl true true 3, .sl true true 30], vi, vb], [none, none]⟩, Tryz.f102⟩
noncomputable def impl_WaveRead.gs (δ : Type) : List (Nat × Callee (GT tab) δ) := [(73, impl_count.k), (74, impl_Bits_list.k), (153, impl_BitsRead.k), (154, impl_WaveOk.k)]
theorem impl_WaveRead.gok (δ : Type) : AllCon Tryz.prog tab (impl_WaveRead.gs δ) := .cons impl_count.con (.cons impl_Bits_list.con (.cons impl_BitsRead.con (.cons impl_WaveOk.con .nil)))
noncomputable def impl_WaveRead.c := cx impl_WaveRead.s [] [(3, [0, 1, 4, 7, 11])] true (impl_WaveRead.gs _)
noncomputable def impl_WaveRead (x0 : List Int) (x1 : Int) : Option ((Int × (List Int) × (List (Int × (List Int)))) × Int × Bool) := fnW impl_WaveRead.s impl_WaveRead.c (x0, x1)
theorem impl_WaveRead.fok : FkS impl_WaveRead.s 102 := ⟨Tryz.func102, by kernel_rfl, by kernel_rfl⟩
noncomputable def impl_WaveRead.fn (x : Args tab impl_WaveRead.s.ar) : Option (ResT tab impl_WaveRead.s.rs) := impl_WaveRead x.1 x.2
noncomputable abbrev impl_WaveRead.k {δ : Type} : Callee (GT tab) δ := kS impl_WaveRead.s impl_WaveRead.fn
theorem impl_WaveRead.con {δ : Type} : Con Tryz.prog (KT tab) 102 (impl_WaveRead.k (δ := δ)) := con_shape (c := impl_WaveRead.c) mixed tysOk (getG_con (impl_WaveRead.gok _)) impl_WaveRead.fok rfl rfl fun _ => rfl
noncomputable def impl_WaveRead_l0 (v0 : List Int) (v1 v2 v3 : Int) (v4 : List Int) (v5 : List (Int × (List Int))) (v6 : Int) (v7 : List Int) (v8 : List (Int × (List Int))) : Option ((Int × (List Int) × (List (Int × (List Int)))) × Int × Bool) := lpW impl_WaveRead.s impl_WaveRead.c 0 (ud 36 [.vs false 5 v0, .int .i64 v1, .undef, .undef, .ptr 0 0, .undef, .undef, .ptr 3 0, .undef, .undef, .undef, .int .i64 v2]) [.box 27 [.int .i64 v3, .sl 1 0, .sl 2 0], .row 0 true 3 v4, .row 0 true 30 v5, .box 27 [.int .i64 v6, .sl 4 0, .sl 5 0], .row 0 true 3 v7, .row 0 true 30 v8] 6
theorem impl_WaveRead.eq (x0 : List Int) (x1 : Int) : impl_WaveRead x0 x1 =
    impl_WaveRead_l0 x0 x1 (0 : Int) (0 : Int) ([] : List Int) ([] : List (Int × (List Int))) (0 : Int) ([] : List Int) ([] : List (Int × (List Int))) := by kernel_rfl
theorem impl_WaveRead_l0.eq (v0 : List Int) (v1 v2 v3 : Int) (v4 : List Int) (v5 : List (Int × (List Int))) (v6 : Int) (v7 : List Int) (v8 : List (Int × (List Int))) : impl_WaveRead_l0 v0 v1 v2 v3 v4 v5 v6 v7 v8 =
    bif decide (v2 < (9 : Int)) then
      (impl_BitsRead v0 v1).bind fun y1 =>
      bif !y1.2.2 then
        some (((0 : Int), ([] : List Int), ([] : List (Int × (List Int)))), (0 : Int), false)
      else
        (impl_Bits_list y1.1).bind fun y2 =>
        (impl_count y2 (0 : Int)).bind fun y3 =>
        bif decide ((v7.length + ([y3] : List Int).length) * 8 ≤ 140737488355328) then
          bif decide ((v8.length + ([(y1.1.1, y1.1.2)] : List (Int × (List Int))).length) * 32 ≤ 140737488355328) then
            impl_WaveRead_l0 v0 y1.2.1 (IntKind.i64.wrap (v2 + (1 : Int))) v3 v4 v5 y1.1.1 (v7 ++ ([y3] : List Int)) (v8 ++ ([(y1.1.1, y1.1.2)] : List (Int × (List Int))))
          else
            none
        else
          none
    else
      (impl_WaveOk (v6, v7, v8)).bind fun y4 =>
      bif !y4 then
        some (((0 : Int), ([] : List Int), ([] : List (Int × (List Int)))), (0 : Int), false)
      else
        some ((v6, v7, v8), v1, true) := (Lw_eq tysOk (getG_con (impl_WaveRead.gok _)) _ _).trans (by kernel_rfl)

noncomputable abbrev impl_WaveList.s : Sg := ⟨[.lend], [.agg [.int .i64, .sl false false 3, .sl false false 30]], ⟨[vo 3], [none]⟩, Tryz.f104⟩
noncomputable def impl_WaveList.gs (δ : Type) : List (Nat × Callee (GT tab) δ) := [(120, impl_Wave_read.k)]
theorem impl_WaveList.gok (δ : Type) : AllCon Tryz.prog tab (impl_WaveList.gs δ) := .cons impl_Wave_read.con .nil
noncomputable def impl_WaveList.c := cx impl_WaveList.s [] [] false (impl_WaveList.gs _)
noncomputable def impl_WaveList (x0 : Int × (List Int) × (List (Int × (List Int)))) : Option (List Int) := fnW impl_WaveList.s impl_WaveList.c x0
theorem impl_WaveList.fok : FkS impl_WaveList.s 104 := ⟨Tryz.func104, by kernel_rfl, by kernel_rfl⟩
noncomputable def impl_WaveList.fn (x : Args tab impl_WaveList.s.ar) : Option (ResT tab impl_WaveList.s.rs) := impl_WaveList x
noncomputable abbrev impl_WaveList.k {δ : Type} : Callee (GT tab) δ := kS impl_WaveList.s impl_WaveList.fn
theorem impl_WaveList.con {δ : Type} : Con Tryz.prog (KT tab) 104 (impl_WaveList.k (δ := δ)) := con_shape (c := impl_WaveList.c) mixed tysOk (getG_con (impl_WaveList.gok _)) impl_WaveList.fok rfl rfl fun _ => rfl
theorem impl_WaveList.eq (x0 : Int × (List Int) × (List (Int × (List Int)))) : impl_WaveList x0 =
    (impl_Wave_read x0).bind fun y1 =>
    bif !y1.2 then
      some ([] : List Int)
    else
      some y1.1 := by kernel_rfl

noncomputable abbrev impl_FmRead.s : Sg := ⟨[.lend], [vl 5], ⟨[.agg [.int .i64, .int .i64, .int .i64, .sl true true 3, .sl true true 30, .sl true true 3, .int .i64, .sl true true 126, .int .i64, .int .i64, .int .i64, .sl true true 126, .int .i64, .int .i64, .int .i64, .sl true true 126], vb], [none]⟩, Tryz.f51⟩
noncomputable def impl_FmRead.gs (δ : Type) : List (Nat × Callee (GT tab) δ) := [(98, impl_fmBytes.k), (99, impl_frameOnly.k), (100, impl_VarRead.k), (101, impl_isRate.k), (102, impl_WaveRead.k), (103, impl_BwtText.k), (104, impl_WaveList.k), (105, impl_fmOf.k), (106, bytes_Equal.k)]
theorem impl_FmRead.gok (δ : Type) : AllCon Tryz.prog tab (impl_FmRead.gs δ) := .cons impl_fmBytes.con (.cons impl_frameOnly.con (.cons impl_VarRead.con (.cons impl_isRate.con (.cons impl_WaveRead.con (.cons impl_BwtText.con (.cons impl_WaveList.con (.cons impl_fmOf.con (.cons bytes_Equal.con .nil))))))))
noncomputable def impl_FmRead.c := cx impl_FmRead.s [5] [(5, [0, 2, 4, 6, 7])] false (impl_FmRead.gs _)
noncomputable def impl_FmRead (x0 : List Int) : Option ((Int × Int × Int × (List Int) × (List (Int × (List Int))) × (List Int) × Int × (List Int) × Int × Int × Int × (List Int) × Int × Int × Int × (List Int)) × Bool) := fnW impl_FmRead.s impl_FmRead.c x0
theorem impl_FmRead.fok : FkS impl_FmRead.s 51 := ⟨Tryz.func51, by kernel_rfl, by kernel_rfl⟩
noncomputable def impl_FmRead.fn (x : Args tab impl_FmRead.s.ar) : Option (ResT tab impl_FmRead.s.rs) := impl_FmRead x
noncomputable abbrev impl_FmRead.k {δ : Type} : Callee (GT tab) δ := kS impl_FmRead.s impl_FmRead.fn
theorem impl_FmRead.con {δ : Type} : Con Tryz.prog (KT tab) 51 (impl_FmRead.k (δ := δ)) := con_shape (c := impl_FmRead.c) mixed tysOk (getG_con (impl_FmRead.gok _)) impl_FmRead.fok rfl rfl fun _ => rfl
noncomputable def impl_FmRead_l0 (v0 : List Int) (v1 v2 v3 v4 v5 v6 v7 v8 v9 v10 v11 v12 : Int) (v13 : List Int) (v14 : List (Int × (List Int))) (v15 v16 v17 v18 v19 : List Int) : Option ((Int × Int × Int × (List Int) × (List (Int × (List Int))) × (List Int) × Int × (List Int) × Int × Int × Int × (List Int) × Int × Int × Int × (List Int)) × Bool) := lpW impl_FmRead.s impl_FmRead.c 0 (ud 58 [.vs false 5 v0, .undef, .ptr 0 0, .undef, .sl 7 0, .undef, .int .i64 v1, .int .i64 v2]) [.box 34 [.int .i64 v3, .int .i64 v4, .int .i64 v5, .sl 1 0, .sl 2 0, .sl 3 0, .int .i64 v6, .sl 4 0, .int .i64 v7, .int .i64 v8, .int .i64 v9, .sl 5 0, .int .i64 v10, .int .i64 v11, .int .i64 v12, .sl 6 0], .row 0 true 3 v13, .row 0 true 30 v14, .row 0 true 3 v15, .row 0 true 126 v16, .row 0 true 126 v17, .row 0 true 126 v18, .row 0 true 5 v19] 8
theorem impl_FmRead.eq (x0 : List Int) : impl_FmRead x0 =
    (impl_frameOnly x0 (1 : Int)).bind fun y1 =>
    (impl_VarRead y1.1 (0 : Int)).bind fun y2 =>
    bif !y1.2 then
      some (((0 : Int), (0 : Int), (0 : Int), ([] : List Int), ([] : List (Int × (List Int))), ([] : List Int), (0 : Int), ([] : List Int), (0 : Int), (0 : Int), (0 : Int), ([] : List Int), (0 : Int), (0 : Int), (0 : Int), ([] : List Int)), false)
    else
      bif !y2.2.2 then
        some (((0 : Int), (0 : Int), (0 : Int), ([] : List Int), ([] : List (Int × (List Int))), ([] : List Int), (0 : Int), ([] : List Int), (0 : Int), (0 : Int), (0 : Int), ([] : List Int), (0 : Int), (0 : Int), (0 : Int), ([] : List Int)), false)
      else
        (impl_isRate y2.1).bind fun y3 =>
        bif !y3 then
          some (((0 : Int), (0 : Int), (0 : Int), ([] : List Int), ([] : List (Int × (List Int))), ([] : List Int), (0 : Int), ([] : List Int), (0 : Int), (0 : Int), (0 : Int), ([] : List Int), (0 : Int), (0 : Int), (0 : Int), ([] : List Int)), false)
        else
          impl_FmRead_l0 x0 y2.1 y2.2.1 (0 : Int) (0 : Int) (0 : Int) (0 : Int) (0 : Int) (0 : Int) (0 : Int) (0 : Int) (0 : Int) (0 : Int) ([] : List Int) ([] : List (Int × (List Int))) ([] : List Int) ([] : List Int) ([] : List Int) ([] : List Int) y1.1 := by kernel_rfl
theorem impl_FmRead_l0.eq (v0 : List Int) (v1 v2 v3 v4 v5 v6 v7 v8 v9 v10 v11 v12 : Int) (v13 : List Int) (v14 : List (Int × (List Int))) (v15 v16 v17 v18 v19 : List Int) : impl_FmRead_l0 v0 v1 v2 v3 v4 v5 v6 v7 v8 v9 v10 v11 v12 v13 v14 v15 v16 v17 v18 v19 =
    (impl_WaveRead v19 v2).bind fun y1 =>
    bif !y1.2.2 then
      some (((0 : Int), (0 : Int), (0 : Int), ([] : List Int), ([] : List (Int × (List Int))), ([] : List Int), (0 : Int), ([] : List Int), (0 : Int), (0 : Int), (0 : Int), ([] : List Int), (0 : Int), (0 : Int), (0 : Int), ([] : List Int)), false)
    else
      (impl_WaveList y1.1).bind fun y2 =>
      (impl_BwtText y2).bind fun y3 =>
      bif !y3.2 then
        some (((0 : Int), (0 : Int), (0 : Int), ([] : List Int), ([] : List (Int × (List Int))), ([] : List Int), (0 : Int), ([] : List Int), (0 : Int), (0 : Int), (0 : Int), ([] : List Int), (0 : Int), (0 : Int), (0 : Int), ([] : List Int)), false)
      else
        (impl_fmOf y3.1 v1).bind fun y4 =>
        (impl_fmBytes y4).bind fun y5 =>
        (bytes_Equal y5 v0).bind fun y6 =>
        bif !y6 then
          some (((0 : Int), (0 : Int), (0 : Int), ([] : List Int), ([] : List (Int × (List Int))), ([] : List Int), (0 : Int), ([] : List Int), (0 : Int), (0 : Int), (0 : Int), ([] : List Int), (0 : Int), (0 : Int), (0 : Int), ([] : List Int)), false)
        else
          some (y4, true) := (Lw_eq tysOk (getG_con (impl_FmRead.gok _)) _ _).trans (by kernel_rfl)

noncomputable abbrev laws_pick.s : Sg := ⟨[.lend, .lend, .lend], [vl 5, vi, vi], ⟨[vi], [none, none, none]⟩, Tryz.f53⟩
noncomputable def laws_pick.gs (δ : Type) : List (Nat × Callee (GT tab) δ) := []
theorem laws_pick.gok (δ : Type) : AllCon Tryz.prog tab (laws_pick.gs δ) := .nil
noncomputable def laws_pick.c := cx laws_pick.s [3] [(3, [0, 1, 2]), (5, [0, 1, 2, 7, 8])] false (laws_pick.gs _)
noncomputable def laws_pick (x0 : List Int) (x1 x2 : Int) : Option (Int) := fnW laws_pick.s laws_pick.c (x0, x1, x2)
theorem laws_pick.fok : FkS laws_pick.s 53 := ⟨Tryz.func53, by kernel_rfl, by kernel_rfl⟩
noncomputable def laws_pick.fn (x : Args tab laws_pick.s.ar) : Option (ResT tab laws_pick.s.rs) := laws_pick x.1 x.2.1 x.2.2
noncomputable abbrev laws_pick.k {δ : Type} : Callee (GT tab) δ := kS laws_pick.s laws_pick.fn
theorem laws_pick.con {δ : Type} : Con Tryz.prog (KT tab) 53 (laws_pick.k (δ := δ)) := con_shape (c := laws_pick.c) mixed tysOk (getG_con (laws_pick.gok _)) laws_pick.fok rfl rfl fun _ => rfl
noncomputable def laws_pick_l0 (v0 : List Int) (v1 v2 : Int) : Option (Int) := lpW laws_pick.s laws_pick.c 0 (ud 35 [.vs false 5 v0, .int .i64 v1, .int .i64 v2]) [] 0
noncomputable def laws_pick_l1 (v0 : List Int) (v1 v2 v3 v4 : Int) : Option (Int) := lpW laws_pick.s laws_pick.c 1 (ud 29 [.vs false 5 v0, .int .i64 v1, .int .i64 v2, .undef, .undef, .undef, .undef, .int .i64 v3, .int .i64 v4]) [] 0
theorem laws_pick.eq (x0 : List Int) (x1 x2 : Int) : laws_pick x0 x1 x2 =
    bif (x0.length : Int) == (0 : Int) then
      some (0 : Int)
    else
      bif decide (x2 < (2 : Int)) then
        some (0 : Int)
      else
        laws_pick_l0 x0 x1 x2 := by kernel_rfl
theorem laws_pick_l0.eq (v0 : List Int) (v1 v2 : Int) : laws_pick_l0 v0 v1 v2 =
    laws_pick_l1 v0 v1 v2 (0 : Int) (0 : Int) := (Lw_eq tysOk (getG_con (laws_pick.gok _)) _ _).trans (by kernel_rfl)
theorem laws_pick_l1.eq (v0 : List Int) (v1 v2 v3 v4 : Int) : laws_pick_l1 v0 v1 v2 v3 v4 =
    bif decide (v4 < (3 : Int)) then
      bif decide ((v0.length : Int) = (0 : Int)) then
        none
      else
        (at? v0 ((IntKind.i64.wrap (v1 + v4)).tmod (v0.length : Int))).bind fun y1 =>
        laws_pick_l1 v0 v1 v2 (IntKind.i64.wrap ((IntKind.i64.wrap ((31 : Int) * v3)) + (IntKind.i64.wrap y1))) (IntKind.i64.wrap (v4 + (1 : Int)))
    else
      bif decide (v2 = (0 : Int)) then
        none
      else
        some ((IntKind.i64.wrap (v3 + v1)).tmod v2) := (Lw_eq tysOk (getG_con (laws_pick.gok _)) _ _).trans (by kernel_rfl)

end Go.Ev.W
