/- What functions of the program come to. -/
import Derived.Test.YtmobcecmjpfpiaaPpT
import Derived.Test.YtmobcecmjpfpiaaEvGrow
import Derived.Test.YtmobcecmjpfpiaaPp3
import Derived.Test.YtmobcecmjpfpiaaPp4
import Derived.Test.YtmobcecmjpfpiaaPp5
import Derived.Test.YtmobcecmjpfpiaaPp7
import Derived.Test.YtmobcecmjpfpiaaPp9
import Derived.Test.YtmobcecmjpfpiaaPpL
namespace Go.Ev.W
open Go.Ev Go.Proofs
set_option maxRecDepth 100000
set_option linter.unusedVariables false

noncomputable abbrev spec_DrawBitsBytes.s : Sg := ⟨[.lend], [vl 5], ⟨[.agg [.int .i64, .sl true true 94]], [none]⟩, Try.f17⟩
noncomputable def spec_DrawBitsBytes.gs (δ : Type) : List (Nat × Callee (GT tab) δ) := [(52, spec_l01Open.k), (53, spec_l01Cur_badBits.k)]
theorem spec_DrawBitsBytes.gok (δ : Type) : AllCon Try.prog tab (spec_DrawBitsBytes.gs δ) := .cons spec_l01Open.con (.cons spec_l01Cur_badBits.con .nil)
noncomputable def spec_DrawBitsBytes.c := cx spec_DrawBitsBytes.s [] [] false (spec_DrawBitsBytes.gs _)
noncomputable def spec_DrawBitsBytes (x0 : List Int) : Option (Int × (List Int)) := fnW spec_DrawBitsBytes.s spec_DrawBitsBytes.c x0
theorem spec_DrawBitsBytes.fok : FkS spec_DrawBitsBytes.s 17 := ⟨Try.func17, by kernel_rfl, by kernel_rfl⟩
noncomputable def spec_DrawBitsBytes.fn (x : Args tab spec_DrawBitsBytes.s.ar) : Option (ResT tab spec_DrawBitsBytes.s.rs) := spec_DrawBitsBytes x
noncomputable abbrev spec_DrawBitsBytes.k {δ : Type} : Callee (GT tab) δ := kS spec_DrawBitsBytes.s spec_DrawBitsBytes.fn
theorem spec_DrawBitsBytes.con {δ : Type} : Con Try.prog (KT tab) 17 (spec_DrawBitsBytes.k (δ := δ)) := con_shape (c := spec_DrawBitsBytes.c) mixed tysOk (getG_con (spec_DrawBitsBytes.gok _)) spec_DrawBitsBytes.fok rfl rfl fun _ => rfl
theorem spec_DrawBitsBytes.eq (x0 : List Int) : spec_DrawBitsBytes x0 =
    (spec_l01Open x0).bind fun y1 =>
    (spec_l01Cur_badBits y1).bind fun y2 =>
    some y2.1 := by kernel_rfl

noncomputable abbrev spec_l01Cur_badPacked.s : Sg := ⟨[.keep], [.one (.ptr true 122 [.b (.b (.b (.sl false false 5))), .b (.b (.b (.int .i64))), .b (.b (.b (.int .i64)))])], ⟨[.agg [.int .i64, .int .i64, .int .i64, .sl true true 94]], [some (.one (.ptr true 122 [.b (.b (.b (.sl false false 5))), .b (.b (.b (.int .i64))), .b (.b (.b (.int .i64)))]))]⟩, Try.f54⟩
noncomputable def spec_l01Cur_badPacked.gs (δ : Type) : List (Nat × Callee (GT tab) δ) := [(53, spec_l01Cur_badBits.k), (82, spec_l01Cur_pick.k), (83, spec_l01Cur_raw.k), (88, spec_l02Pow.k), (98, spec_PackOf.k), (99, spec_l01Cur_numbers.k)]
theorem spec_l01Cur_badPacked.gok (δ : Type) : AllCon Try.prog tab (spec_l01Cur_badPacked.gs δ) := .cons spec_l01Cur_badBits.con (.cons spec_l01Cur_pick.con (.cons spec_l01Cur_raw.con (.cons spec_l02Pow.con (.cons spec_PackOf.con (.cons spec_l01Cur_numbers.con .nil)))))
noncomputable def spec_l01Cur_badPacked.c := cx spec_l01Cur_badPacked.s [] [] false (spec_l01Cur_badPacked.gs _)
noncomputable def spec_l01Cur_badPacked (x0 : (List Int) × Int × Int) : Option ((Int × Int × Int × (List Int)) × ((List Int) × Int × Int)) := fnW spec_l01Cur_badPacked.s spec_l01Cur_badPacked.c x0
theorem spec_l01Cur_badPacked.fok : FkS spec_l01Cur_badPacked.s 54 := ⟨Try.func54, by kernel_rfl, by kernel_rfl⟩
noncomputable def spec_l01Cur_badPacked.fn (x : Args tab spec_l01Cur_badPacked.s.ar) : Option (ResT tab spec_l01Cur_badPacked.s.rs) := spec_l01Cur_badPacked x
noncomputable abbrev spec_l01Cur_badPacked.k {δ : Type} : Callee (GT tab) δ := kS spec_l01Cur_badPacked.s spec_l01Cur_badPacked.fn
theorem spec_l01Cur_badPacked.con {δ : Type} : Con Try.prog (KT tab) 54 (spec_l01Cur_badPacked.k (δ := δ)) := con_shape (c := spec_l01Cur_badPacked.c) mixed tysOk (getG_con (spec_l01Cur_badPacked.gok _)) spec_l01Cur_badPacked.fok rfl rfl fun _ => rfl
theorem spec_l01Cur_badPacked.eq (x0 : (List Int) × Int × Int) : spec_l01Cur_badPacked x0 =
    (spec_l01Cur_pick x0 (5 : Int)).bind fun y1 =>
    (at? ([(0 : Int), (1 : Int), (3 : Int), (7 : Int), (24 : Int)] : List Int) y1.1).bind fun y2 =>
    ([(0 : Int), (1 : Int), (3 : Int), (7 : Int), (24 : Int)] : List Int)[y1.1.toNat]?.bind fun y3 =>
    (spec_l02Pow y3).bind fun y4 =>
    (spec_l01Cur_numbers y1.2 (20 : Int) y4).bind fun y5 =>
    (spec_PackOf y5.1 y3).bind fun y6 =>
    (spec_l01Cur_pick y5.2 (12 : Int)).bind fun y7 =>
    bif y7.1 == (0 : Int) then
      (spec_l01Cur_raw y7.2).bind fun y8 =>
      (spec_l01Cur_pick y8.2 (3 : Int)).bind fun y9 =>
      (at? ([y8.1, (32 : Int), (33 : Int)] : List Int) y9.1).bind fun y10 =>
      ([y8.1, (32 : Int), (33 : Int)] : List Int)[y9.1.toNat]?.bind fun y11 =>
      some ((y11, y6.1.2.1, y6.1.2.2.1, y6.1.2.2.2), y9.2)
    else
      bif y7.1 == (1 : Int) then
        (spec_l01Cur_raw y7.2).bind fun y12 =>
        (spec_l01Cur_pick y12.2 (2 : Int)).bind fun y13 =>
        (at? ([y12.1, IntKind.i64.wrap (y6.1.2.1 + (1 : Int))] : List Int) y13.1).bind fun y14 =>
        ([y12.1, IntKind.i64.wrap (y6.1.2.1 + (1 : Int))] : List Int)[y13.1.toNat]?.bind fun y15 =>
        some ((y6.1.1, y15, y6.1.2.2.1, y6.1.2.2.2), y13.2)
      else
        bif y7.1 == (2 : Int) then
          (spec_l01Cur_badBits y7.2).bind fun y16 =>
          some ((y6.1.1, y6.1.2.1, y16.1.1, y16.1.2), y16.2)
        else
          some (y6.1, y7.2) := by kernel_rfl

noncomputable abbrev spec_DrawPackBytes.s : Sg := ⟨[.lend], [vl 5], ⟨[.agg [.int .i64, .int .i64, .int .i64, .sl true true 94]], [none]⟩, Try.f18⟩
noncomputable def spec_DrawPackBytes.gs (δ : Type) : List (Nat × Callee (GT tab) δ) := [(52, spec_l01Open.k), (54, spec_l01Cur_badPacked.k)]
theorem spec_DrawPackBytes.gok (δ : Type) : AllCon Try.prog tab (spec_DrawPackBytes.gs δ) := .cons spec_l01Open.con (.cons spec_l01Cur_badPacked.con .nil)
noncomputable def spec_DrawPackBytes.c := cx spec_DrawPackBytes.s [] [] false (spec_DrawPackBytes.gs _)
noncomputable def spec_DrawPackBytes (x0 : List Int) : Option (Int × Int × Int × (List Int)) := fnW spec_DrawPackBytes.s spec_DrawPackBytes.c x0
theorem spec_DrawPackBytes.fok : FkS spec_DrawPackBytes.s 18 := ⟨Try.func18, by kernel_rfl, by kernel_rfl⟩
noncomputable def spec_DrawPackBytes.fn (x : Args tab spec_DrawPackBytes.s.ar) : Option (ResT tab spec_DrawPackBytes.s.rs) := spec_DrawPackBytes x
noncomputable abbrev spec_DrawPackBytes.k {δ : Type} : Callee (GT tab) δ := kS spec_DrawPackBytes.s spec_DrawPackBytes.fn
theorem spec_DrawPackBytes.con {δ : Type} : Con Try.prog (KT tab) 18 (spec_DrawPackBytes.k (δ := δ)) := con_shape (c := spec_DrawPackBytes.c) mixed tysOk (getG_con (spec_DrawPackBytes.gok _)) spec_DrawPackBytes.fok rfl rfl fun _ => rfl
theorem spec_DrawPackBytes.eq (x0 : List Int) : spec_DrawPackBytes x0 =
    (spec_l01Open x0).bind fun y1 =>
    (spec_l01Cur_badPacked y1).bind fun y2 =>
    some y2.1 := by kernel_rfl

noncomputable abbrev spec_DrawWaveBytes.s : Sg := ⟨[.lend], [vl 5], ⟨[.agg [.int .i64, .sl true true 3, .sl true true 32]], [none]⟩, Try.f19⟩
noncomputable def spec_DrawWaveBytes.gs (δ : Type) : List (Nat × Callee (GT tab) δ) := [(52, spec_l01Open.k), (55, spec_l01Cur_wave.k)]
theorem spec_DrawWaveBytes.gok (δ : Type) : AllCon Try.prog tab (spec_DrawWaveBytes.gs δ) := .cons spec_l01Open.con (.cons spec_l01Cur_wave.con .nil)
noncomputable def spec_DrawWaveBytes.c := cx spec_DrawWaveBytes.s [] [] false (spec_DrawWaveBytes.gs _)
noncomputable def spec_DrawWaveBytes (x0 : List Int) : Option (Int × (List Int) × (List (Int × (List Int)))) := fnW spec_DrawWaveBytes.s spec_DrawWaveBytes.c x0
theorem spec_DrawWaveBytes.fok : FkS spec_DrawWaveBytes.s 19 := ⟨Try.func19, by kernel_rfl, by kernel_rfl⟩
noncomputable def spec_DrawWaveBytes.fn (x : Args tab spec_DrawWaveBytes.s.ar) : Option (ResT tab spec_DrawWaveBytes.s.rs) := spec_DrawWaveBytes x
noncomputable abbrev spec_DrawWaveBytes.k {δ : Type} : Callee (GT tab) δ := kS spec_DrawWaveBytes.s spec_DrawWaveBytes.fn
theorem spec_DrawWaveBytes.con {δ : Type} : Con Try.prog (KT tab) 19 (spec_DrawWaveBytes.k (δ := δ)) := con_shape (c := spec_DrawWaveBytes.c) mixed tysOk (getG_con (spec_DrawWaveBytes.gok _)) spec_DrawWaveBytes.fok rfl rfl fun _ => rfl
theorem spec_DrawWaveBytes.eq (x0 : List Int) : spec_DrawWaveBytes x0 =
    (spec_l01Open x0).bind fun y1 =>
    (spec_l01Cur_wave y1).bind fun y2 =>
    some y2.1 := by kernel_rfl

noncomputable abbrev impl_VarOf.s : Sg := ⟨[.lend], [vi], ⟨[vo 5], [none]⟩, Try.f63⟩
noncomputable def impl_VarOf.gs (δ : Type) : List (Nat × Callee (GT tab) δ) := [(77, impl_within.k)]
theorem impl_VarOf.gok (δ : Type) : AllCon Try.prog tab (impl_VarOf.gs δ) := .cons impl_within.con .nil
noncomputable def impl_VarOf.c := cx impl_VarOf.s [] [(4, [0, 3])] false (impl_VarOf.gs _)
noncomputable def impl_VarOf (x0 : Int) : Option (List Int) := fnW impl_VarOf.s impl_VarOf.c x0
theorem impl_VarOf.fok : FkS impl_VarOf.s 63 := ⟨Try.func63, by kernel_rfl, by kernel_rfl⟩
noncomputable def impl_VarOf.fn (x : Args tab impl_VarOf.s.ar) : Option (ResT tab impl_VarOf.s.rs) := impl_VarOf x
noncomputable abbrev impl_VarOf.k {δ : Type} : Callee (GT tab) δ := kS impl_VarOf.s impl_VarOf.fn
theorem impl_VarOf.con {δ : Type} : Con Try.prog (KT tab) 63 (impl_VarOf.k (δ := δ)) := con_shape (c := impl_VarOf.c) mixed tysOk (getG_con (impl_VarOf.gok _)) impl_VarOf.fok rfl rfl fun _ => rfl
noncomputable def impl_VarOf_l0 (v0 : Int) (v1 : List Int) : Option (List Int) := lpW impl_VarOf.s impl_VarOf.c 0 (ud 19 [.int .i64 v0, .undef, .undef, .sl 0 0]) [.row 0 true 5 v1] 1
theorem impl_VarOf.eq (x0 : Int) : impl_VarOf x0 =
    (impl_within x0 (0 : Int) (4294967295 : Int)).bind fun y1 =>
    bif !y1 then
      some ([] : List Int)
    else
      impl_VarOf_l0 x0 ([] : List Int) := by kernel_rfl
theorem impl_VarOf_l0.eq (v0 : Int) (v1 : List Int) : impl_VarOf_l0 v0 v1 =
    bif decide (v0 ≥ (128 : Int)) then
      bif decide ((v1.length + ([IntKind.u8.wrap (IntKind.i64.wrap (((BitVec.ofInt 64 (IntKind.i64.wrap (((BitVec.ofInt 64 v0) &&& (BitVec.ofInt 64 (127 : Int))).toNat : Int))) ||| (BitVec.ofInt 64 (128 : Int))).toNat : Int))] : List Int).length) * 1 ≤ 140737488355328) then
        impl_VarOf_l0 (v0.fdiv (2 ^ 7)) (v1 ++ ([IntKind.u8.wrap (IntKind.i64.wrap (((BitVec.ofInt 64 (IntKind.i64.wrap (((BitVec.ofInt 64 v0) &&& (BitVec.ofInt 64 (127 : Int))).toNat : Int))) ||| (BitVec.ofInt 64 (128 : Int))).toNat : Int))] : List Int))
      else
        none
    else
      bif decide ((v1.length + ([IntKind.u8.wrap v0] : List Int).length) * 1 ≤ 140737488355328) then
        some (v1 ++ ([IntKind.u8.wrap v0] : List Int))
      else
        none := (Lw_eq tysOk (getG_con (impl_VarOf.gok _)) _ _).trans (by kernel_rfl)

noncomputable abbrev impl_bitsBytes.s : Sg := ⟨[.lend], [.agg [.int .i64, .sl false false 94]], ⟨[vo 5], [none]⟩, Try.f60⟩
noncomputable def impl_bitsBytes.gs (δ : Type) : List (Nat × Callee (GT tab) δ) := [(63, impl_VarOf.k)]
theorem impl_bitsBytes.gok (δ : Type) : AllCon Try.prog tab (impl_bitsBytes.gs δ) := .cons impl_VarOf.con .nil
noncomputable def impl_bitsBytes.c := cx impl_bitsBytes.s [] [(3, [1, 3, 4])] false (impl_bitsBytes.gs _)
noncomputable def impl_bitsBytes (x0 : Int × (List Int)) : Option (List Int) := fnW impl_bitsBytes.s impl_bitsBytes.c x0
theorem impl_bitsBytes.fok : FkS impl_bitsBytes.s 60 := ⟨Try.func60, by kernel_rfl, by kernel_rfl⟩
noncomputable def impl_bitsBytes.fn (x : Args tab impl_bitsBytes.s.ar) : Option (ResT tab impl_bitsBytes.s.rs) := impl_bitsBytes x
noncomputable abbrev impl_bitsBytes.k {δ : Type} : Callee (GT tab) δ := kS impl_bitsBytes.s impl_bitsBytes.fn
theorem impl_bitsBytes.con {δ : Type} : Con Try.prog (KT tab) 60 (impl_bitsBytes.k (δ := δ)) := con_shape (c := impl_bitsBytes.c) mixed tysOk (getG_con (impl_bitsBytes.gok _)) impl_bitsBytes.fok rfl rfl fun _ => rfl
noncomputable def impl_bitsBytes_l0 (v0 v1 : Int) (v2 v3 : List Int) : Option (List Int) := lpW impl_bitsBytes.s impl_bitsBytes.c 0 (ud 23 [.undef, .ptr 0 0, .undef, .sl 1 0, .int .i64 v0]) [.box 32 [.int .i64 v1, .vs false 94 v2], .row 0 true 5 v3] 2
theorem impl_bitsBytes.eq (x0 : Int × (List Int)) : impl_bitsBytes x0 =
    (impl_VarOf x0.1).bind fun y1 =>
    impl_bitsBytes_l0 (0 : Int) x0.1 x0.2 y1 := by kernel_rfl
theorem impl_bitsBytes_l0.eq (v0 v1 : Int) (v2 v3 : List Int) : impl_bitsBytes_l0 v0 v1 v2 v3 =
    bif decide (v0 < v1) then
      (at? v2 (IntKind.i64.wrap (v0.tdiv (64 : Int)))).bind fun y1 =>
      bif decide (v0.tmod (64 : Int) < (0 : Int)) then
        none
      else
        bif decide ((v3.length + ([IntKind.u8.wrap (y1.fdiv (2 ^ (min (v0.tmod (64 : Int)).toNat 64)))] : List Int).length) * 1 ≤ 140737488355328) then
          impl_bitsBytes_l0 (IntKind.i64.wrap (v0 + (8 : Int))) v1 v2 (v3 ++ ([IntKind.u8.wrap (y1.fdiv (2 ^ (min (v0.tmod (64 : Int)).toNat 64)))] : List Int))
        else
          none
    else
      some v3 := (Lw_eq tysOk (getG_con (impl_bitsBytes.gok _)) _ _).trans (by kernel_rfl)

noncomputable abbrev impl_BitsBytes.s : Sg := ⟨[.lend], [.agg [.int .i64, .sl false false 94]], ⟨[vo 5], [none]⟩, Try.f23⟩
noncomputable def impl_BitsBytes.gs (δ : Type) : List (Nat × Callee (GT tab) δ) := [(59, impl_BitsOk.k), (60, impl_bitsBytes.k)]
theorem impl_BitsBytes.gok (δ : Type) : AllCon Try.prog tab (impl_BitsBytes.gs δ) := .cons impl_BitsOk.con (.cons impl_bitsBytes.con .nil)
noncomputable def impl_BitsBytes.c := cx impl_BitsBytes.s [] [] false (impl_BitsBytes.gs _)
noncomputable def impl_BitsBytes (x0 : Int × (List Int)) : Option (List Int) := fnW impl_BitsBytes.s impl_BitsBytes.c x0
theorem impl_BitsBytes.fok : FkS impl_BitsBytes.s 23 := ⟨Try.func23, by kernel_rfl, by kernel_rfl⟩
noncomputable def impl_BitsBytes.fn (x : Args tab impl_BitsBytes.s.ar) : Option (ResT tab impl_BitsBytes.s.rs) := impl_BitsBytes x
noncomputable abbrev impl_BitsBytes.k {δ : Type} : Callee (GT tab) δ := kS impl_BitsBytes.s impl_BitsBytes.fn
theorem impl_BitsBytes.con {δ : Type} : Con Try.prog (KT tab) 23 (impl_BitsBytes.k (δ := δ)) := con_shape (c := impl_BitsBytes.c) mixed tysOk (getG_con (impl_BitsBytes.gok _)) impl_BitsBytes.fok rfl rfl fun _ => rfl
theorem impl_BitsBytes.eq (x0 : Int × (List Int)) : impl_BitsBytes x0 =
    (impl_BitsOk x0).bind fun y1 =>
    bif !y1 then
      some ([] : List Int)
    else
      (impl_bitsBytes x0).bind fun y2 =>
      some y2 := by kernel_rfl

/-! ### slices_Grow_byte_byte: slices.Grow[[]byte,byte] (by hand) -/
def slices_Grow_byte_byte.ms : List Mode := [.give, .lend]
def slices_Grow_byte_byte.as : List VSh := [.one (.b (.b (.b (.b (.sl true true 5))))), .one (.b (.b (.b (.b (.int .i64)))))]
def slices_Grow_byte_byte.rs : RSh := ⟨[.one (.b (.b (.b (.b (.sl true true 5)))))], [none, none]⟩
noncomputable def slices_Grow_byte_byte (x0 : List Int) (x1 : Int) : Option (List Int) := growF 1 (x0, x1)
noncomputable def slices_Grow_byte_byte.fn : Args tab slices_Grow_byte_byte.as → Option (ResT tab slices_Grow_byte_byte.rs) := fun x => slices_Grow_byte_byte x.1 x.2
noncomputable abbrev slices_Grow_byte_byte.k {δ : Type} : Callee (GT tab) δ := calleeS tab slices_Grow_byte_byte.ms slices_Grow_byte_byte.as slices_Grow_byte_byte.rs slices_Grow_byte_byte.fn
theorem slices_Grow_byte_byte.con {δ : Type} : Con Try.prog (KT tab) 106 (slices_Grow_byte_byte.k (δ := δ)) := con_grow2 Try.laysGrow106 rfl rfl (ty := tyOf tys) tysOk (e := 5) rfl (by decide) rfl rfl

noncomputable abbrev slices_Concat_byte_byte.s : Sg := ⟨[.lend], [vl 43], ⟨[vo 5], [none]⟩, Try.f62⟩
noncomputable def slices_Concat_byte_byte.gs (δ : Type) : List (Nat × Callee (GT tab) δ) := [(106, slices_Grow_byte_byte.k)]
theorem slices_Concat_byte_byte.gok (δ : Type) : AllCon Try.prog tab (slices_Concat_byte_byte.gs δ) := .cons slices_Grow_byte_byte.con .nil
noncomputable def slices_Concat_byte_byte.c := cx slices_Concat_byte_byte.s [] [(3, [0, 3, 9, 10, 11]), (11, [6, 25, 26, 27])] false (slices_Concat_byte_byte.gs _)
noncomputable def slices_Concat_byte_byte (x0 : List (List Int)) : Option (List Int) := fnW slices_Concat_byte_byte.s slices_Concat_byte_byte.c x0
theorem slices_Concat_byte_byte.fok : FkS slices_Concat_byte_byte.s 62 := ⟨Try.func62, by kernel_rfl, by kernel_rfl⟩
noncomputable def slices_Concat_byte_byte.fn (x : Args tab slices_Concat_byte_byte.s.ar) : Option (ResT tab slices_Concat_byte_byte.s.rs) := slices_Concat_byte_byte x
noncomputable abbrev slices_Concat_byte_byte.k {δ : Type} : Callee (GT tab) δ := kS slices_Concat_byte_byte.s slices_Concat_byte_byte.fn
theorem slices_Concat_byte_byte.con {δ : Type} : Con Try.prog (KT tab) 62 (slices_Concat_byte_byte.k (δ := δ)) := con_shape (c := slices_Concat_byte_byte.c) mixed tysOk (getG_con (slices_Concat_byte_byte.gok _)) slices_Concat_byte_byte.fok rfl rfl fun _ => rfl
noncomputable def slices_Concat_byte_byte_l0 (v0 : List (List Int)) (v1 : Int) (v2 : List (List Int)) (v3 v4 : Int) : Option (List Int) := lpW slices_Concat_byte_byte.s slices_Concat_byte_byte.c 0 (ud 24 [.vs false 43 v0, .undef, .undef, .int .i64 v1, .undef, .undef, .undef, .undef, .undef, .vs false 43 v2, .int .i64 v3, .int .i64 v4]) [] 0
noncomputable def slices_Concat_byte_byte_l1 (v0 : List (List Int)) (v1 v2 : Int) (v3 : List Int) : Option (List Int) := lpW slices_Concat_byte_byte.s slices_Concat_byte_byte.c 1 (ud 8 [.undef, .undef, .undef, .undef, .undef, .undef, .sl 0 0, .undef, .undef, .undef, .undef, .undef, .undef, .undef, .undef, .undef, .undef, .undef, .undef, .undef, .undef, .undef, .undef, .undef, .undef, .vs false 43 v0, .int .i64 v1, .int .i64 v2]) [.row 0 true 5 v3] 1
theorem slices_Concat_byte_byte.eq (x0 : List (List Int)) : slices_Concat_byte_byte x0 =
    slices_Concat_byte_byte_l0 x0 (0 : Int) x0 (x0.length : Int) (0 : Int) := by kernel_rfl
theorem slices_Concat_byte_byte_l0.eq (v0 : List (List Int)) (v1 : Int) (v2 : List (List Int)) (v3 v4 : Int) : slices_Concat_byte_byte_l0 v0 v1 v2 v3 v4 =
    bif decide (v4 < v3) then
      (at? v2 v4).bind fun y1 =>
      bif decide (IntKind.i64.wrap (v1 + (y1.length : Int)) < (0 : Int)) then
        none
      else
        slices_Concat_byte_byte_l0 v0 (IntKind.i64.wrap (v1 + (y1.length : Int))) v2 v3 (IntKind.i64.wrap (v4 + (1 : Int)))
    else
      (slices_Grow_byte_byte ([] : List Int) v1).bind fun y2 =>
      slices_Concat_byte_byte_l1 v0 (v0.length : Int) (0 : Int) y2 := (Lw_eq tysOk (getG_con (slices_Concat_byte_byte.gok _)) _ _).trans (by kernel_rfl)
theorem slices_Concat_byte_byte_l1.eq (v0 : List (List Int)) (v1 v2 : Int) (v3 : List Int) : slices_Concat_byte_byte_l1 v0 v1 v2 v3 =
    bif decide (v2 < v1) then
      (at? v0 v2).bind fun y1 =>
      bif decide ((v3.length + y1.length) * 1 ≤ 140737488355328) then
        slices_Concat_byte_byte_l1 v0 v1 (IntKind.i64.wrap (v2 + (1 : Int))) (v3 ++ y1)
      else
        none
    else
      some v3 := (Lw_eq tysOk (getG_con (slices_Concat_byte_byte.gok _)) _ _).trans (by kernel_rfl)

noncomputable abbrev impl_PackBytes.s : Sg := ⟨[.lend], [.agg [.int .i64, .int .i64, .int .i64, .sl false false 94]], ⟨[vo 5], [none]⟩, Try.f24⟩
noncomputable def impl_PackBytes.gs (δ : Type) : List (Nat × Callee (GT tab) δ) := [(60, impl_bitsBytes.k), (61, impl_PackOk.k), (62, slices_Concat_byte_byte.k), (63, impl_VarOf.k)]
theorem impl_PackBytes.gok (δ : Type) : AllCon Try.prog tab (impl_PackBytes.gs δ) := .cons impl_bitsBytes.con (.cons impl_PackOk.con (.cons slices_Concat_byte_byte.con (.cons impl_VarOf.con .nil)))
noncomputable def impl_PackBytes.c := cx impl_PackBytes.s [] [] false (impl_PackBytes.gs _)
noncomputable def impl_PackBytes (x0 : Int × Int × Int × (List Int)) : Option (List Int) := fnW impl_PackBytes.s impl_PackBytes.c x0
theorem impl_PackBytes.fok : FkS impl_PackBytes.s 24 := ⟨Try.func24, by kernel_rfl, by kernel_rfl⟩
noncomputable def impl_PackBytes.fn (x : Args tab impl_PackBytes.s.ar) : Option (ResT tab impl_PackBytes.s.rs) := impl_PackBytes x
noncomputable abbrev impl_PackBytes.k {δ : Type} : Callee (GT tab) δ := kS impl_PackBytes.s impl_PackBytes.fn
theorem impl_PackBytes.con {δ : Type} : Con Try.prog (KT tab) 24 (impl_PackBytes.k (δ := δ)) := con_shape (c := impl_PackBytes.c) mixed tysOk (getG_con (impl_PackBytes.gok _)) impl_PackBytes.fok rfl rfl fun _ => rfl
theorem impl_PackBytes.eq (x0 : Int × Int × Int × (List Int)) : impl_PackBytes x0 =
    (impl_PackOk x0).bind fun y1 =>
    bif !y1 then
      some ([] : List Int)
    else
      (impl_VarOf x0.1).bind fun y2 =>
      (impl_VarOf x0.2.1).bind fun y3 =>
      (impl_bitsBytes x0.2.2).bind fun y4 =>
      (slices_Concat_byte_byte ([y2, y3, y4] : List (List Int))).bind fun y5 =>
      some y5 := by kernel_rfl

noncomputable abbrev impl_WaveOk.s : Sg := ⟨[.lend], [.agg [.int .i64, .sl false false 3, .sl false false 32]], ⟨[vb], [none]⟩, Try.f64⟩
noncomputable def impl_WaveOk.gs (δ : Type) : List (Nat × Callee (GT tab) δ) := [(75, impl_Wave_read.k)]
theorem impl_WaveOk.gok (δ : Type) : AllCon Try.prog tab (impl_WaveOk.gs δ) := .cons impl_Wave_read.con .nil
noncomputable def impl_WaveOk.c := cx impl_WaveOk.s [] [] false (impl_WaveOk.gs _)
noncomputable def impl_WaveOk (x0 : Int × (List Int) × (List (Int × (List Int)))) : Option (Bool) := fnW impl_WaveOk.s impl_WaveOk.c x0
theorem impl_WaveOk.fok : FkS impl_WaveOk.s 64 := ⟨Try.func64, by kernel_rfl, by kernel_rfl⟩
noncomputable def impl_WaveOk.fn (x : Args tab impl_WaveOk.s.ar) : Option (ResT tab impl_WaveOk.s.rs) := impl_WaveOk x
noncomputable abbrev impl_WaveOk.k {δ : Type} : Callee (GT tab) δ := kS impl_WaveOk.s impl_WaveOk.fn
theorem impl_WaveOk.con {δ : Type} : Con Try.prog (KT tab) 64 (impl_WaveOk.k (δ := δ)) := con_shape (c := impl_WaveOk.c) mixed tysOk (getG_con (impl_WaveOk.gok _)) impl_WaveOk.fok rfl rfl fun _ => rfl
theorem impl_WaveOk.eq (x0 : Int × (List Int) × (List (Int × (List Int)))) : impl_WaveOk x0 =
    (impl_Wave_read x0).bind fun y1 =>
    some y1.2 := by kernel_rfl

noncomputable abbrev impl_waveBytes.s : Sg := ⟨[.lend], [.agg [.int .i64, .sl false false 3, .sl false false 32]], ⟨[vo 5], [none]⟩, Try.f65⟩
noncomputable def impl_waveBytes.gs (δ : Type) : List (Nat × Callee (GT tab) δ) := [(60, impl_bitsBytes.k)]
theorem impl_waveBytes.gok (δ : Type) : AllCon Try.prog tab (impl_waveBytes.gs δ) := .cons impl_bitsBytes.con .nil
noncomputable def impl_waveBytes.c := cx impl_waveBytes.s [] [(3, [3, 7, 8, 9])] false (impl_waveBytes.gs _)
noncomputable def impl_waveBytes (x0 : Int × (List Int) × (List (Int × (List Int)))) : Option (List Int) := fnW impl_waveBytes.s impl_waveBytes.c x0
theorem impl_waveBytes.fok : FkS impl_waveBytes.s 65 := ⟨Try.func65, by kernel_rfl, by kernel_rfl⟩
noncomputable def impl_waveBytes.fn (x : Args tab impl_waveBytes.s.ar) : Option (ResT tab impl_waveBytes.s.rs) := impl_waveBytes x
noncomputable abbrev impl_waveBytes.k {δ : Type} : Callee (GT tab) δ := kS impl_waveBytes.s impl_waveBytes.fn
theorem impl_waveBytes.con {δ : Type} : Con Try.prog (KT tab) 65 (impl_waveBytes.k (δ := δ)) := con_shape (c := impl_waveBytes.c) mixed tysOk (getG_con (impl_waveBytes.gok _)) impl_waveBytes.fok rfl rfl fun _ => rfl
noncomputable def impl_waveBytes_l0 (v0 : List (Int × (List Int))) (v1 v2 : Int) (v3 : List Int) : Option (List Int) := lpW impl_waveBytes.s impl_waveBytes.c 0 (ud 9 [.undef, .undef, .undef, .sl 0 0, .undef, .undef, .undef, .vs false 32 v0, .int .i64 v1, .int .i64 v2]) [.row 0 true 5 v3] 1
theorem impl_waveBytes.eq (x0 : Int × (List Int) × (List (Int × (List Int)))) : impl_waveBytes x0 =
    impl_waveBytes_l0 x0.2.2 (x0.2.2.length : Int) (0 : Int) ([] : List Int) := by kernel_rfl
theorem impl_waveBytes_l0.eq (v0 : List (Int × (List Int))) (v1 v2 : Int) (v3 : List Int) : impl_waveBytes_l0 v0 v1 v2 v3 =
    bif decide (v2 < v1) then
      (at? v0 v2).bind fun y1 =>
      (impl_bitsBytes y1).bind fun y2 =>
      bif decide ((v3.length + y2.length) * 1 ≤ 140737488355328) then
        impl_waveBytes_l0 v0 v1 (IntKind.i64.wrap (v2 + (1 : Int))) (v3 ++ y2)
      else
        none
    else
      some v3 := (Lw_eq tysOk (getG_con (impl_waveBytes.gok _)) _ _).trans (by kernel_rfl)

noncomputable abbrev impl_WaveBytes.s : Sg := ⟨[.lend], [.agg [.int .i64, .sl false false 3, .sl false false 32]], ⟨[vo 5], [none]⟩, Try.f25⟩
noncomputable def impl_WaveBytes.gs (δ : Type) : List (Nat × Callee (GT tab) δ) := [(64, impl_WaveOk.k), (65, impl_waveBytes.k)]
theorem impl_WaveBytes.gok (δ : Type) : AllCon Try.prog tab (impl_WaveBytes.gs δ) := .cons impl_WaveOk.con (.cons impl_waveBytes.con .nil)
noncomputable def impl_WaveBytes.c := cx impl_WaveBytes.s [] [] false (impl_WaveBytes.gs _)
noncomputable def impl_WaveBytes (x0 : Int × (List Int) × (List (Int × (List Int)))) : Option (List Int) := fnW impl_WaveBytes.s impl_WaveBytes.c x0
theorem impl_WaveBytes.fok : FkS impl_WaveBytes.s 25 := ⟨Try.func25, by kernel_rfl, by kernel_rfl⟩
noncomputable def impl_WaveBytes.fn (x : Args tab impl_WaveBytes.s.ar) : Option (ResT tab impl_WaveBytes.s.rs) := impl_WaveBytes x
noncomputable abbrev impl_WaveBytes.k {δ : Type} : Callee (GT tab) δ := kS impl_WaveBytes.s impl_WaveBytes.fn
theorem impl_WaveBytes.con {δ : Type} : Con Try.prog (KT tab) 25 (impl_WaveBytes.k (δ := δ)) := con_shape (c := impl_WaveBytes.c) mixed tysOk (getG_con (impl_WaveBytes.gok _)) impl_WaveBytes.fok rfl rfl fun _ => rfl
theorem impl_WaveBytes.eq (x0 : Int × (List Int) × (List (Int × (List Int)))) : impl_WaveBytes x0 =
    (impl_WaveOk x0).bind fun y1 =>
    bif !y1 then
      some ([] : List Int)
    else
      (impl_waveBytes x0).bind fun y2 =>
      some y2 := by kernel_rfl

noncomputable abbrev bytes_Equal.s : Sg := ⟨[.lend, .lend], [vl 5, vl 5], ⟨[vb], [none, none]⟩, Try.f107⟩
noncomputable def bytes_Equal.gs (δ : Type) : List (Nat × Callee (GT tab) δ) := []
theorem bytes_Equal.gok (δ : Type) : AllCon Try.prog tab (bytes_Equal.gs δ) := .nil
noncomputable def bytes_Equal.c := cx bytes_Equal.s [] [] false (bytes_Equal.gs _)
noncomputable def bytes_Equal (x0 x1 : List Int) : Option (Bool) := fnW bytes_Equal.s bytes_Equal.c (x0, x1)
theorem bytes_Equal.fok : FkS bytes_Equal.s 107 := ⟨Try.func107, by kernel_rfl, by kernel_rfl⟩
noncomputable def bytes_Equal.fn (x : Args tab bytes_Equal.s.ar) : Option (ResT tab bytes_Equal.s.rs) := bytes_Equal x.1 x.2
noncomputable abbrev bytes_Equal.k {δ : Type} : Callee (GT tab) δ := kS bytes_Equal.s bytes_Equal.fn
theorem bytes_Equal.con {δ : Type} : Con Try.prog (KT tab) 107 (bytes_Equal.k (δ := δ)) := con_shape (c := bytes_Equal.c) mixed tysOk (getG_con (bytes_Equal.gok _)) bytes_Equal.fok rfl rfl fun _ => rfl
theorem bytes_Equal.eq (x0 x1 : List Int) : bytes_Equal x0 x1 =
    some ((strOf (x0.map fun x => x)).toList == (strOf (x1.map fun x => x)).toList) := by kernel_rfl

noncomputable abbrev impl_VarRead.s : Sg := ⟨[.lend, .lend], [vl 5, vi], ⟨[vi, vi, vb], [none, none]⟩, Try.f66⟩
noncomputable def impl_VarRead.gs (δ : Type) : List (Nat × Callee (GT tab) δ) := [(63, impl_VarOf.k), (77, impl_within.k), (107, bytes_Equal.k)]
theorem impl_VarRead.gok (δ : Type) : AllCon Try.prog tab (impl_VarRead.gs δ) := .cons impl_VarOf.con (.cons impl_within.con (.cons bytes_Equal.con .nil))
noncomputable def impl_VarRead.c := cx impl_VarRead.s [] [(5, [0, 1, 7, 18, 19, 20])] false (impl_VarRead.gs _)
noncomputable def impl_VarRead (x0 : List Int) (x1 : Int) : Option (Int × Int × Bool) := fnW impl_VarRead.s impl_VarRead.c (x0, x1)
theorem impl_VarRead.fok : FkS impl_VarRead.s 66 := ⟨Try.func66, by kernel_rfl, by kernel_rfl⟩
noncomputable def impl_VarRead.fn (x : Args tab impl_VarRead.s.ar) : Option (ResT tab impl_VarRead.s.rs) := impl_VarRead x.1 x.2
noncomputable abbrev impl_VarRead.k {δ : Type} : Callee (GT tab) δ := kS impl_VarRead.s impl_VarRead.fn
theorem impl_VarRead.con {δ : Type} : Con Try.prog (KT tab) 66 (impl_VarRead.k (δ := δ)) := con_shape (c := impl_VarRead.c) mixed tysOk (getG_con (impl_VarRead.gok _)) impl_VarRead.fok rfl rfl fun _ => rfl
noncomputable def impl_VarRead_l0 (v0 : List Int) (v1 v2 : Int) (v3 : List Int) (v4 v5 : Int) : Option (Int × Int × Bool) := lpW impl_VarRead.s impl_VarRead.c 0 (ud 31 [.vs false 5 v0, .int .i64 v1, .undef, .undef, .undef, .undef, .undef, .int .i64 v2, .undef, .undef, .undef, .undef, .undef, .undef, .undef, .undef, .undef, .undef, .vs false 5 v3, .int .i64 v4, .int .i64 v5]) [] 0
theorem impl_VarRead.eq (x0 : List Int) (x1 : Int) : impl_VarRead x0 x1 =
    (impl_within x1 (0 : Int) (x0.length : Int)).bind fun y1 =>
    bif !y1 then
      some ((0 : Int), (0 : Int), false)
    else
      bif decide (0 ≤ x1 ∧ x1 ≤ ((x0.length : Nat) : Int)) then
        impl_VarRead_l0 x0 x1 (0 : Int) ((x0.take x0.length).drop x1.toNat) (((x0.take x0.length).drop x1.toNat).length : Int) (0 : Int)
      else
        none := by kernel_rfl
theorem impl_VarRead_l0.eq (v0 : List Int) (v1 v2 : Int) (v3 : List Int) (v4 v5 : Int) : impl_VarRead_l0 v0 v1 v2 v3 v4 v5 =
    bif decide (v5 < v4) then
      (at? v3 v5).bind fun y1 =>
      bif v5 == (5 : Int) then
        some ((0 : Int), (0 : Int), false)
      else
        bif decide (IntKind.i64.wrap ((7 : Int) * v5) < (0 : Int)) then
          none
        else
          bif decide (y1 ≥ (128 : Int)) then
            impl_VarRead_l0 v0 v1 (IntKind.i64.wrap (((BitVec.ofInt 64 v2) ||| (BitVec.ofInt 64 (IntKind.i64.wrap ((IntKind.i64.wrap (IntKind.u8.wrap (((BitVec.ofInt 8 y1) &&& (BitVec.ofInt 8 (127 : Int))).toNat : Int))) * 2 ^ (min (IntKind.i64.wrap ((7 : Int) * v5)).toNat 64))))).toNat : Int)) v3 v4 (IntKind.i64.wrap (v5 + (1 : Int)))
          else
            (impl_VarOf (IntKind.i64.wrap (((BitVec.ofInt 64 v2) ||| (BitVec.ofInt 64 (IntKind.i64.wrap ((IntKind.i64.wrap (IntKind.u8.wrap (((BitVec.ofInt 8 y1) &&& (BitVec.ofInt 8 (127 : Int))).toNat : Int))) * 2 ^ (min (IntKind.i64.wrap ((7 : Int) * v5)).toNat 64))))).toNat : Int))).bind fun y2 =>
            bif decide (0 ≤ IntKind.i64.wrap ((IntKind.i64.wrap (v1 + v5)) + (1 : Int)) ∧ IntKind.i64.wrap ((IntKind.i64.wrap (v1 + v5)) + (1 : Int)) ≤ ((v0.length : Nat) : Int)) then
              bif decide (0 ≤ v1 ∧ v1 ≤ (((IntKind.i64.wrap ((IntKind.i64.wrap (v1 + v5)) + (1 : Int))).toNat : Nat) : Int)) then
                (bytes_Equal y2 ((v0.take ((IntKind.i64.wrap ((IntKind.i64.wrap (v1 + v5)) + (1 : Int))).toNat)).drop v1.toNat)).bind fun y3 =>
                bif !y3 then
                  some ((0 : Int), (0 : Int), false)
                else
                  some (IntKind.i64.wrap (((BitVec.ofInt 64 v2) ||| (BitVec.ofInt 64 (IntKind.i64.wrap ((IntKind.i64.wrap (IntKind.u8.wrap (((BitVec.ofInt 8 y1) &&& (BitVec.ofInt 8 (127 : Int))).toNat : Int))) * 2 ^ (min (IntKind.i64.wrap ((7 : Int) * v5)).toNat 64))))).toNat : Int), IntKind.i64.wrap ((IntKind.i64.wrap (v1 + v5)) + (1 : Int)), true)
              else
                none
            else
              none
    else
      some ((0 : Int), (0 : Int), false) := (Lw_eq tysOk (getG_con (impl_VarRead.gok _)) _ _).trans (by kernel_rfl)

noncomputable abbrev impl_BitsRead.s : Sg := ⟨[.lend, .lend], [vl 5, vi], ⟨[.agg [.int .i64, .sl true true 94], vi, vb], [none, none]⟩, Try.f26⟩
noncomputable def impl_BitsRead.gs (δ : Type) : List (Nat × Callee (GT tab) δ) := [(59, impl_BitsOk.k), (66, impl_VarRead.k)]
theorem impl_BitsRead.gok (δ : Type) : AllCon Try.prog tab (impl_BitsRead.gs δ) := .cons impl_BitsOk.con (.cons impl_VarRead.con .nil)
noncomputable def impl_BitsRead.c := cx impl_BitsRead.s [5] [(5, [0, 1, 4, 7, 9]), (7, [1, 4, 9, 10, 51, 52, 53])] false (impl_BitsRead.gs _)
noncomputable def impl_BitsRead (x0 : List Int) (x1 : Int) : Option ((Int × (List Int)) × Int × Bool) := fnW impl_BitsRead.s impl_BitsRead.c (x0, x1)
theorem impl_BitsRead.fok : FkS impl_BitsRead.s 26 := ⟨Try.func26, by kernel_rfl, by kernel_rfl⟩
noncomputable def impl_BitsRead.fn (x : Args tab impl_BitsRead.s.ar) : Option (ResT tab impl_BitsRead.s.rs) := impl_BitsRead x.1 x.2
noncomputable abbrev impl_BitsRead.k {δ : Type} : Callee (GT tab) δ := kS impl_BitsRead.s impl_BitsRead.fn
theorem impl_BitsRead.con {δ : Type} : Con Try.prog (KT tab) 26 (impl_BitsRead.k (δ := δ)) := con_shape (c := impl_BitsRead.c) mixed tysOk (getG_con (impl_BitsRead.gok _)) impl_BitsRead.fok rfl rfl fun _ => rfl
noncomputable def impl_BitsRead_l0 (v0 : List Int) (v1 v2 v3 v4 : Int) (v5 : List Int) : Option ((Int × (List Int)) × Int × Bool) := lpW impl_BitsRead.s impl_BitsRead.c 0 (ud 72 [.vs false 5 v0, .int .i64 v1, .undef, .undef, .ptr 0 0, .undef, .undef, .int .i64 v2, .undef, .int .i64 v3]) [.box 32 [.int .i64 v4, .sl 1 0], .row 0 true 94 v5] 2
noncomputable def impl_BitsRead_l1 (v0 v1 : Int) (v2 : List Int) (v3 v4 v5 : Int) (v6 : List Int) (v7 : Int) (v8 : List Int) : Option ((Int × (List Int)) × Int × Bool) := lpW impl_BitsRead.s impl_BitsRead.c 1 (ud 28 [.undef, .int .i64 v0, .undef, .undef, .ptr 0 0, .undef, .undef, .undef, .undef, .int .i64 v1, .ptr 2 0, .undef, .undef, .undef, .undef, .undef, .undef, .undef, .undef, .undef, .undef, .undef, .undef, .undef, .undef, .undef, .undef, .undef, .undef, .undef, .undef, .undef, .undef, .undef, .undef, .undef, .undef, .undef, .undef, .undef, .undef, .undef, .undef, .undef, .undef, .undef, .undef, .undef, .undef, .undef, .undef, .vs false 5 v2, .int .i64 v3, .int .i64 v4]) [.box 32 [.int .i64 v5, .sl 1 0], .row 0 true 94 v6, .box 32 [.int .i64 v7, .sl 3 0], .row 0 true 94 v8] 4
theorem impl_BitsRead.eq (x0 : List Int) (x1 : Int) : impl_BitsRead x0 x1 =
    (impl_VarRead x0 x1).bind fun y1 =>
    bif !y1.2.2 then
      some (((0 : Int), ([] : List Int)), (0 : Int), false)
    else
      bif decide (y1.1 > (5000 : Int)) then
        some (((0 : Int), ([] : List Int)), (0 : Int), false)
      else
        bif decide (IntKind.i64.wrap ((IntKind.i64.wrap ((IntKind.i64.wrap (y1.1 + (8 : Int))) - (1 : Int))).tdiv (8 : Int)) > IntKind.i64.wrap ((x0.length : Int) - y1.2.1)) then
          some (((0 : Int), ([] : List Int)), (0 : Int), false)
        else
          impl_BitsRead_l0 x0 y1.2.1 y1.1 (IntKind.i64.wrap ((IntKind.i64.wrap ((IntKind.i64.wrap (y1.1 + (8 : Int))) - (1 : Int))).tdiv (8 : Int))) (0 : Int) ([] : List Int) := by kernel_rfl
theorem impl_BitsRead_l0.eq (v0 : List Int) (v1 v2 v3 v4 : Int) (v5 : List Int) : impl_BitsRead_l0 v0 v1 v2 v3 v4 v5 =
    bif decide ((0 : Int) ≤ IntKind.i64.wrap ((IntKind.i64.wrap ((IntKind.i64.wrap (v2 + (64 : Int))) - (1 : Int))).tdiv (64 : Int))) && decide (((IntKind.i64.wrap ((IntKind.i64.wrap ((IntKind.i64.wrap (v2 + (64 : Int))) - (1 : Int))).tdiv (64 : Int))).toNat) * 8 ≤ 140737488355328) then
      bif decide (0 ≤ IntKind.i64.wrap (v1 + v3) ∧ IntKind.i64.wrap (v1 + v3) ≤ ((v0.length : Nat) : Int)) then
        bif decide (0 ≤ v1 ∧ v1 ≤ (((IntKind.i64.wrap (v1 + v3)).toNat : Nat) : Int)) then
          impl_BitsRead_l1 v1 v3 ((v0.take ((IntKind.i64.wrap (v1 + v3)).toNat)).drop v1.toNat) (((v0.take ((IntKind.i64.wrap (v1 + v3)).toNat)).drop v1.toNat).length : Int) (0 : Int) v4 v5 v2 (List.replicate ((IntKind.i64.wrap ((IntKind.i64.wrap ((IntKind.i64.wrap (v2 + (64 : Int))) - (1 : Int))).tdiv (64 : Int))).toNat) (0 : Int))
        else
          none
      else
        none
    else
      none := (Lw_eq tysOk (getG_con (impl_BitsRead.gok _)) _ _).trans (by kernel_rfl)
theorem impl_BitsRead_l1.eq (v0 v1 : Int) (v2 : List Int) (v3 v4 v5 : Int) (v6 : List Int) (v7 : Int) (v8 : List Int) : impl_BitsRead_l1 v0 v1 v2 v3 v4 v5 v6 v7 v8 =
    bif decide (v4 < v3) then
      (at? v2 v4).bind fun y1 =>
      (at? v8 (IntKind.i64.wrap ((IntKind.i64.wrap (v4 * (8 : Int))).tdiv (64 : Int)))).bind fun y2 =>
      v8[(IntKind.i64.wrap ((IntKind.i64.wrap (v4 * (8 : Int))).tdiv (64 : Int))).toNat]?.bind fun y3 =>
      bif decide ((IntKind.i64.wrap (v4 * (8 : Int))).tmod (64 : Int) < (0 : Int)) then
        none
      else
        (at? v8 (IntKind.i64.wrap ((IntKind.i64.wrap (v4 * (8 : Int))).tdiv (64 : Int)))).bind fun y4 =>
        v8[(IntKind.i64.wrap ((IntKind.i64.wrap (v4 * (8 : Int))).tdiv (64 : Int))).toNat]?.bind fun y5 =>
        impl_BitsRead_l1 v0 v1 v2 v3 (IntKind.i64.wrap (v4 + (1 : Int))) v5 v6 v7 (v8.set ((IntKind.i64.wrap ((IntKind.i64.wrap (v4 * (8 : Int))).tdiv (64 : Int))).toNat) (IntKind.u64.wrap (((BitVec.ofInt 64 y3) ||| (BitVec.ofInt 64 (IntKind.u64.wrap ((IntKind.u64.wrap y1) * 2 ^ (min ((IntKind.i64.wrap (v4 * (8 : Int))).tmod (64 : Int)).toNat 64))))).toNat : Int)))
    else
      (impl_BitsOk (v7, v8)).bind fun y6 =>
      bif !y6 then
        some (((0 : Int), ([] : List Int)), (0 : Int), false)
      else
        some ((v7, v8), IntKind.i64.wrap (v0 + v1), true) := (Lw_eq tysOk (getG_con (impl_BitsRead.gok _)) _ _).trans (by kernel_rfl)

noncomputable abbrev impl_PackRead.s : Sg := ⟨[.lend, .lend], [vl 5, vi], ⟨[.agg [.int .i64, .int .i64, .int .i64, .sl true true 94], vi, vb], [none, none]⟩, Try.f27⟩
noncomputable def impl_PackRead.gs (δ : Type) : List (Nat × Callee (GT tab) δ) := [(26, impl_BitsRead.k), (61, impl_PackOk.k), (66, impl_VarRead.k)]
theorem impl_PackRead.gok (δ : Type) : AllCon Try.prog tab (impl_PackRead.gs δ) := .cons impl_BitsRead.con (.cons impl_PackOk.con (.cons impl_VarRead.con .nil))
noncomputable def impl_PackRead.c := cx impl_PackRead.s [] [] false (impl_PackRead.gs _)
noncomputable def impl_PackRead (x0 : List Int) (x1 : Int) : Option ((Int × Int × Int × (List Int)) × Int × Bool) := fnW impl_PackRead.s impl_PackRead.c (x0, x1)
theorem impl_PackRead.fok : FkS impl_PackRead.s 27 := ⟨Try.func27, by kernel_rfl, by kernel_rfl⟩
noncomputable def impl_PackRead.fn (x : Args tab impl_PackRead.s.ar) : Option (ResT tab impl_PackRead.s.rs) := impl_PackRead x.1 x.2
noncomputable abbrev impl_PackRead.k {δ : Type} : Callee (GT tab) δ := kS impl_PackRead.s impl_PackRead.fn
theorem impl_PackRead.con {δ : Type} : Con Try.prog (KT tab) 27 (impl_PackRead.k (δ := δ)) := con_shape (c := impl_PackRead.c) mixed tysOk (getG_con (impl_PackRead.gok _)) impl_PackRead.fok rfl rfl fun _ => rfl
theorem impl_PackRead.eq (x0 : List Int) (x1 : Int) : impl_PackRead x0 x1 =
    (impl_VarRead x0 x1).bind fun y1 =>
    bif !y1.2.2 then
      some (((0 : Int), (0 : Int), (0 : Int), ([] : List Int)), (0 : Int), false)
    else
      (impl_VarRead x0 y1.2.1).bind fun y2 =>
      bif !y2.2.2 then
        some (((0 : Int), (0 : Int), (0 : Int), ([] : List Int)), (0 : Int), false)
      else
        (impl_BitsRead x0 y2.2.1).bind fun y3 =>
        bif !y3.2.2 then
          some (((0 : Int), (0 : Int), (0 : Int), ([] : List Int)), (0 : Int), false)
        else
          (impl_PackOk (y1.1, y2.1, y3.1.1, y3.1.2)).bind fun y4 =>
          bif !y4 then
            some (((0 : Int), (0 : Int), (0 : Int), ([] : List Int)), (0 : Int), false)
          else
            some ((y1.1, y2.1, y3.1.1, y3.1.2), y3.2.1, true) := by kernel_rfl

noncomputable abbrev impl_WaveRead.s : Sg := ⟨[.lend, .lend], [vl 5, vi], ⟨[.agg [.int .i64, .sl true true 3, .sl true true 32], vi, vb], [none, none]⟩, Try.f28⟩
noncomputable def impl_WaveRead.gs (δ : Type) : List (Nat × Callee (GT tab) δ) := [(26, impl_BitsRead.k), (64, impl_WaveOk.k), (67, impl_count.k), (68, impl_Bits_list.k)]
theorem impl_WaveRead.gok (δ : Type) : AllCon Try.prog tab (impl_WaveRead.gs δ) := .cons impl_BitsRead.con (.cons impl_WaveOk.con (.cons impl_count.con (.cons impl_Bits_list.con .nil)))
noncomputable def impl_WaveRead.c := cx impl_WaveRead.s [] [(3, [0, 1, 4, 7, 11])] true (impl_WaveRead.gs _)
noncomputable def impl_WaveRead (x0 : List Int) (x1 : Int) : Option ((Int × (List Int) × (List (Int × (List Int)))) × Int × Bool) := fnW impl_WaveRead.s impl_WaveRead.c (x0, x1)
theorem impl_WaveRead.fok : FkS impl_WaveRead.s 28 := ⟨Try.func28, by kernel_rfl, by kernel_rfl⟩
noncomputable def impl_WaveRead.fn (x : Args tab impl_WaveRead.s.ar) : Option (ResT tab impl_WaveRead.s.rs) := impl_WaveRead x.1 x.2
noncomputable abbrev impl_WaveRead.k {δ : Type} : Callee (GT tab) δ := kS impl_WaveRead.s impl_WaveRead.fn
theorem impl_WaveRead.con {δ : Type} : Con Try.prog (KT tab) 28 (impl_WaveRead.k (δ := δ)) := con_shape (c := impl_WaveRead.c) mixed tysOk (getG_con (impl_WaveRead.gok _)) impl_WaveRead.fok rfl rfl fun _ => rfl
noncomputable def impl_WaveRead_l0 (v0 : List Int) (v1 v2 v3 : Int) (v4 : List Int) (v5 : List (Int × (List Int))) (v6 : Int) (v7 : List Int) (v8 : List (Int × (List Int))) : Option ((Int × (List Int) × (List (Int × (List Int)))) × Int × Bool) := lpW impl_WaveRead.s impl_WaveRead.c 0 (ud 36 [.vs false 5 v0, .int .i64 v1, .undef, .undef, .ptr 0 0, .undef, .undef, .ptr 3 0, .undef, .undef, .undef, .int .i64 v2]) [.box 49 [.int .i64 v3, .sl 1 0, .sl 2 0], .row 0 true 3 v4, .row 0 true 32 v5, .box 49 [.int .i64 v6, .sl 4 0, .sl 5 0], .row 0 true 3 v7, .row 0 true 32 v8] 6
theorem impl_WaveRead.eq (x0 : List Int) (x1 : Int) : impl_WaveRead x0 x1 =
    impl_WaveRead_l0 x0 x1 (0 : Int) (0 : Int) ([] : List Int) ([] : List (Int × (List Int))) (0 : Int) ([] : List Int) ([] : List (Int × (List Int))) := by kernel_rfl
theorem impl_WaveRead_l0.eq (v0 : List Int) (v1 v2 v3 : Int) (v4 : List Int) (v5 : List (Int × (List Int))) (v6 : Int) (v7 : List Int) (v8 : List (Int × (List Int))) : impl_WaveRead_l0 v0 v1 v2 v3 v4 v5 v6 v7 v8 =
    bif decide (v2 < (9 : Int)) then
      (impl_BitsRead v0 v1).bind fun y1 =>
      bif !y1.2.2 then
        some (((0 : Int), ([] : List Int), ([] : List (Int × (List Int)))), (0 : Int), false)
      else
        (impl_Bits_list y1.1).bind fun y2 =>
        (impl_count y2 (0 : Int)).bind fun y3 =>
        bif decide ((v7.length + ([y3] : List Int).length) * 8 ≤ 140737488355328) then
          bif decide ((v8.length + ([(y1.1.1, y1.1.2)] : List (Int × (List Int))).length) * 32 ≤ 140737488355328) then
            impl_WaveRead_l0 v0 y1.2.1 (IntKind.i64.wrap (v2 + (1 : Int))) v3 v4 v5 y1.1.1 (v7 ++ ([y3] : List Int)) (v8 ++ ([(y1.1.1, y1.1.2)] : List (Int × (List Int))))
          else
            none
        else
          none
    else
      (impl_WaveOk (v6, v7, v8)).bind fun y4 =>
      bif !y4 then
        some (((0 : Int), ([] : List Int), ([] : List (Int × (List Int)))), (0 : Int), false)
      else
        some ((v6, v7, v8), v1, true) := (Lw_eq tysOk (getG_con (impl_WaveRead.gok _)) _ _).trans (by kernel_rfl)

noncomputable abbrev laws_sameBits.s : Sg := ⟨[.lend, .lend], [.agg [.int .i64, .sl false false 94], .agg [.int .i64, .sl false false 94]], ⟨[vb], [none, none]⟩, Try.f29⟩
noncomputable def laws_sameBits.gs (δ : Type) : List (Nat × Callee (GT tab) δ) := []
theorem laws_sameBits.gok (δ : Type) : AllCon Try.prog tab (laws_sameBits.gs δ) := .nil
noncomputable def laws_sameBits.c := cx laws_sameBits.s [3] [(3, [2, 3]), (4, [2, 3, 5])] false (laws_sameBits.gs _)
noncomputable def laws_sameBits (x0 x1 : Int × (List Int)) : Option (Bool) := fnW laws_sameBits.s laws_sameBits.c (x0, x1)
theorem laws_sameBits.fok : FkS laws_sameBits.s 29 := ⟨Try.func29, by kernel_rfl, by kernel_rfl⟩
noncomputable def laws_sameBits.fn (x : Args tab laws_sameBits.s.ar) : Option (ResT tab laws_sameBits.s.rs) := laws_sameBits x.1 x.2
noncomputable abbrev laws_sameBits.k {δ : Type} : Callee (GT tab) δ := kS laws_sameBits.s laws_sameBits.fn
theorem laws_sameBits.con {δ : Type} : Con Try.prog (KT tab) 29 (laws_sameBits.k (δ := δ)) := con_shape (c := laws_sameBits.c) mixed tysOk (getG_con (laws_sameBits.gok _)) laws_sameBits.fok rfl rfl fun _ => rfl
noncomputable def laws_sameBits_l0 (v0 : Int) (v1 : List Int) (v2 : Int) (v3 : List Int) : Option (Bool) := lpW laws_sameBits.s laws_sameBits.c 0 (ud 34 [.undef, .undef, .ptr 0 0, .ptr 1 0]) [.box 32 [.int .i64 v0, .vs false 94 v1], .box 32 [.int .i64 v2, .vs false 94 v3]] 2
noncomputable def laws_sameBits_l1 (v0 v1 : Int) (v2 : List Int) (v3 : Int) (v4 : List Int) : Option (Bool) := lpW laws_sameBits.s laws_sameBits.c 1 (ud 32 [.undef, .undef, .ptr 0 0, .ptr 1 0, .undef, .int .i64 v0]) [.box 32 [.int .i64 v1, .vs false 94 v2], .box 32 [.int .i64 v3, .vs false 94 v4]] 2
theorem laws_sameBits.eq (x0 x1 : Int × (List Int)) : laws_sameBits x0 x1 =
    bif x0.1 != x1.1 then
      some false
    else
      bif (x0.2.length : Int) != (x1.2.length : Int) then
        some false
      else
        laws_sameBits_l0 x0.1 x0.2 x1.1 x1.2 := by kernel_rfl
theorem laws_sameBits_l0.eq (v0 : Int) (v1 : List Int) (v2 : Int) (v3 : List Int) : laws_sameBits_l0 v0 v1 v2 v3 =
    laws_sameBits_l1 (0 : Int) v0 v1 v2 v3 := (Lw_eq tysOk (getG_con (laws_sameBits.gok _)) _ _).trans (by kernel_rfl)
theorem laws_sameBits_l1.eq (v0 v1 : Int) (v2 : List Int) (v3 : Int) (v4 : List Int) : laws_sameBits_l1 v0 v1 v2 v3 v4 =
    bif decide (v0 < (v2.length : Int)) then
      (at? v2 v0).bind fun y1 =>
      (at? v4 v0).bind fun y2 =>
      bif y1 != y2 then
        some false
      else
        laws_sameBits_l1 (IntKind.i64.wrap (v0 + (1 : Int))) v1 v2 v3 v4
    else
      some true := (Lw_eq tysOk (getG_con (laws_sameBits.gok _)) _ _).trans (by kernel_rfl)

noncomputable abbrev laws_samePack.s : Sg := ⟨[.lend, .lend], [.agg [.int .i64, .int .i64, .int .i64, .sl false false 94], .agg [.int .i64, .int .i64, .int .i64, .sl false false 94]], ⟨[vb], [none, none]⟩, Try.f30⟩
noncomputable def laws_samePack.gs (δ : Type) : List (Nat × Callee (GT tab) δ) := [(29, laws_sameBits.k)]
theorem laws_samePack.gok (δ : Type) : AllCon Try.prog tab (laws_samePack.gs δ) := .cons laws_sameBits.con .nil
noncomputable def laws_samePack.c := cx laws_samePack.s [] [] false (laws_samePack.gs _)
noncomputable def laws_samePack (x0 x1 : Int × Int × Int × (List Int)) : Option (Bool) := fnW laws_samePack.s laws_samePack.c (x0, x1)
theorem laws_samePack.fok : FkS laws_samePack.s 30 := ⟨Try.func30, by kernel_rfl, by kernel_rfl⟩
noncomputable def laws_samePack.fn (x : Args tab laws_samePack.s.ar) : Option (ResT tab laws_samePack.s.rs) := laws_samePack x.1 x.2
noncomputable abbrev laws_samePack.k {δ : Type} : Callee (GT tab) δ := kS laws_samePack.s laws_samePack.fn
theorem laws_samePack.con {δ : Type} : Con Try.prog (KT tab) 30 (laws_samePack.k (δ := δ)) := con_shape (c := laws_samePack.c) mixed tysOk (getG_con (laws_samePack.gok _)) laws_samePack.fok rfl rfl fun _ => rfl
theorem laws_samePack.eq (x0 x1 : Int × Int × Int × (List Int)) : laws_samePack x0 x1 =
    bif x0.1 == x1.1 then
      bif x0.2.1 == x1.2.1 then
        (laws_sameBits x0.2.2 x1.2.2).bind fun y1 =>
        some y1
      else
        some false
    else
      some false := by kernel_rfl

noncomputable abbrev spec_WaveList.s : Sg := ⟨[.lend], [.agg [.int .i64, .sl false false 3, .sl false false 32]], ⟨[vo 3], [none]⟩, Try.f32⟩
noncomputable def spec_WaveList.gs (δ : Type) : List (Nat × Callee (GT tab) δ) := [(22, spec_WaveOk.k), (69, spec_l07List.k)]
theorem spec_WaveList.gok (δ : Type) : AllCon Try.prog tab (spec_WaveList.gs δ) := .cons spec_WaveOk.con (.cons spec_l07List.con .nil)
noncomputable def spec_WaveList.c := cx spec_WaveList.s [] [] false (spec_WaveList.gs _)
noncomputable def spec_WaveList (x0 : Int × (List Int) × (List (Int × (List Int)))) : Option (List Int) := fnW spec_WaveList.s spec_WaveList.c x0
theorem spec_WaveList.fok : FkS spec_WaveList.s 32 := ⟨Try.func32, by kernel_rfl, by kernel_rfl⟩
noncomputable def spec_WaveList.fn (x : Args tab spec_WaveList.s.ar) : Option (ResT tab spec_WaveList.s.rs) := spec_WaveList x
noncomputable abbrev spec_WaveList.k {δ : Type} : Callee (GT tab) δ := kS spec_WaveList.s spec_WaveList.fn
theorem spec_WaveList.con {δ : Type} : Con Try.prog (KT tab) 32 (spec_WaveList.k (δ := δ)) := con_shape (c := spec_WaveList.c) mixed tysOk (getG_con (spec_WaveList.gok _)) spec_WaveList.fok rfl rfl fun _ => rfl
theorem spec_WaveList.eq (x0 : Int × (List Int) × (List (Int × (List Int)))) : spec_WaveList x0 =
    (spec_WaveOk x0).bind fun y1 =>
    bif !y1 then
      some ([] : List Int)
    else
      (spec_l07List x0).bind fun y2 =>
      some y2 := by kernel_rfl

noncomputable abbrev laws_same.s : Sg := ⟨[.lend, .lend], [vl 3, vl 3], ⟨[vb], [none, none]⟩, Try.f31⟩
noncomputable def laws_same.gs (δ : Type) : List (Nat × Callee (GT tab) δ) := []
theorem laws_same.gok (δ : Type) : AllCon Try.prog tab (laws_same.gs δ) := .nil
noncomputable def laws_same.c := cx laws_same.s [] [(4, [0, 1, 5])] false (laws_same.gs _)
noncomputable def laws_same (x0 x1 : List Int) : Option (Bool) := fnW laws_same.s laws_same.c (x0, x1)
theorem laws_same.fok : FkS laws_same.s 31 := ⟨Try.func31, by kernel_rfl, by kernel_rfl⟩
noncomputable def laws_same.fn (x : Args tab laws_same.s.ar) : Option (ResT tab laws_same.s.rs) := laws_same x.1 x.2
noncomputable abbrev laws_same.k {δ : Type} : Callee (GT tab) δ := kS laws_same.s laws_same.fn
theorem laws_same.con {δ : Type} : Con Try.prog (KT tab) 31 (laws_same.k (δ := δ)) := con_shape (c := laws_same.c) mixed tysOk (getG_con (laws_same.gok _)) laws_same.fok rfl rfl fun _ => rfl
noncomputable def laws_same_l0 (v0 v1 : List Int) (v2 : Int) : Option (Bool) := lpW laws_same.s laws_same.c 0 (ud 20 [.vs false 3 v0, .vs false 3 v1, .undef, .undef, .undef, .int .i64 v2]) [] 0
theorem laws_same.eq (x0 x1 : List Int) : laws_same x0 x1 =
    bif (x0.length : Int) != (x1.length : Int) then
      some false
    else
      laws_same_l0 x0 x1 (0 : Int) := by kernel_rfl
theorem laws_same_l0.eq (v0 v1 : List Int) (v2 : Int) : laws_same_l0 v0 v1 v2 =
    bif decide (v2 < (v0.length : Int)) then
      (at? v0 v2).bind fun y1 =>
      (at? v1 v2).bind fun y2 =>
      bif y1 != y2 then
        some false
      else
        laws_same_l0 v0 v1 (IntKind.i64.wrap (v2 + (1 : Int)))
    else
      some true := (Lw_eq tysOk (getG_con (laws_same.gok _)) _ _).trans (by kernel_rfl)

end Go.Ev.W
