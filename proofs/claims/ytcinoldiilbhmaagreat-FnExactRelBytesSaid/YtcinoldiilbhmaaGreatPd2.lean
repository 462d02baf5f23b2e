/- What functions of the program come to. -/
import Derived.Test.YtcinoldiilbhmaaGreatPdT
import Derived.Test.YtcinoldiilbhmaaGreatPd1
namespace Go.Ev.W
open Go.Ev Go.Proofs
set_option maxRecDepth 100000
set_option linter.unusedVariables false

noncomputable abbrev impl_unmarked.s : Sg := ⟨[.lend, .lend], [vl 3, .agg [.int .i64, .sl false false 157]], ⟨[vo 3], [none, none]⟩, Tryz.f193⟩
noncomputable def impl_unmarked.gs (δ : Type) : List (Nat × Callee (GT tab) δ) := [(141, impl_Bits_at.k)]
theorem impl_unmarked.gok (δ : Type) : AllCon Tryz.prog tab (impl_unmarked.gs δ) := .cons impl_Bits_at.con .nil
noncomputable def impl_unmarked.c := cx impl_unmarked.s [] [(3, [3, 5, 8, 9, 10])] false (impl_unmarked.gs _)
noncomputable def impl_unmarked (x0 : List Int) (x1 : Int × (List Int)) : Option (List Int) := fnW impl_unmarked.s impl_unmarked.c (x0, x1)
theorem impl_unmarked.fok : FkS impl_unmarked.s 193 := ⟨Tryz.func193, by kernel_rfl, by kernel_rfl⟩
noncomputable def impl_unmarked.fn (x : Args tab impl_unmarked.s.ar) : Option (ResT tab impl_unmarked.s.rs) := impl_unmarked x.1 x.2
noncomputable abbrev impl_unmarked.k {δ : Type} : Callee (GT tab) δ := kS impl_unmarked.s impl_unmarked.fn
theorem impl_unmarked.con {δ : Type} : Con Tryz.prog (KT tab) 193 (impl_unmarked.k (δ := δ)) := con_shape (c := impl_unmarked.c) mixed tysOk (getG_con (impl_unmarked.gok _)) impl_unmarked.fok rfl rfl fun _ => rfl
noncomputable def impl_unmarked_l0 (v0 : List Int) (v1 v2 v3 : Int) (v4 v5 : List Int) : Option (List Int) := lpW impl_unmarked.s impl_unmarked.c 0 (ud 14 [.undef, .undef, .undef, .ptr 0 0, .undef, .sl 1 0, .undef, .undef, .vs false 3 v0, .int .i64 v1, .int .i64 v2]) [.box 41 [.int .i64 v3, .vs false 157 v4], .row 0 true 3 v5] 2
theorem impl_unmarked.eq (x0 : List Int) (x1 : Int × (List Int)) : impl_unmarked x0 x1 =
    impl_unmarked_l0 x0 (x0.length : Int) (0 : Int) x1.1 x1.2 ([] : List Int) := by kernel_rfl
theorem impl_unmarked_l0.eq (v0 : List Int) (v1 v2 v3 : Int) (v4 v5 : List Int) : impl_unmarked_l0 v0 v1 v2 v3 v4 v5 =
    bif decide (v2 < v1) then
      (at? v0 v2).bind fun y1 =>
      (impl_Bits_at (v3, v4) v2).bind fun y2 =>
      bif y2 == (0 : Int) then
        bif decide ((v5.length + ([y1] : List Int).length) * 8 ≤ 140737488355328) then
          impl_unmarked_l0 v0 v1 (IntKind.i64.wrap (v2 + (1 : Int))) v3 v4 (v5 ++ ([y1] : List Int))
        else
          none
      else
        impl_unmarked_l0 v0 v1 (IntKind.i64.wrap (v2 + (1 : Int))) v3 v4 v5
    else
      some v5 := (Lw_eq tysOk (getG_con (impl_unmarked.gok _)) _ _).trans (by kernel_rfl)

noncomputable abbrev impl_PatchDo.s : Sg := ⟨[.lend, .lend], [vl 3, .agg [.int .i64, .sl false false 157, .int .i64, .sl false false 157, .sl false false 3]], ⟨[vo 3, vb], [none, none]⟩, Tryz.f187⟩
noncomputable def impl_PatchDo.gs (δ : Type) : List (Nat × Callee (GT tab) δ) := [(76, impl_count.k), (77, impl_Bits_list.k), (96, impl_BitsOk.k), (193, impl_unmarked.k), (219, impl_BitsFlip.k)]
theorem impl_PatchDo.gok (δ : Type) : AllCon Tryz.prog tab (impl_PatchDo.gs δ) := .cons impl_count.con (.cons impl_Bits_list.con (.cons impl_BitsOk.con (.cons impl_unmarked.con (.cons impl_BitsFlip.con .nil))))
noncomputable def impl_PatchDo.c := cx impl_PatchDo.s [3, 6] [(3, [0, 3]), (6, [0, 3]), (9, [7, 8, 9, 71, 72, 73])] false (impl_PatchDo.gs _)
noncomputable def impl_PatchDo (x0 : List Int) (x1 : Int × (List Int) × Int × (List Int) × (List Int)) : Option ((List Int) × Bool) := fnW impl_PatchDo.s impl_PatchDo.c (x0, x1)
theorem impl_PatchDo.fok : FkS impl_PatchDo.s 187 := ⟨Tryz.func187, by kernel_rfl, by kernel_rfl⟩
noncomputable def impl_PatchDo.fn (x : Args tab impl_PatchDo.s.ar) : Option (ResT tab impl_PatchDo.s.rs) := impl_PatchDo x.1 x.2
noncomputable abbrev impl_PatchDo.k {δ : Type} : Callee (GT tab) δ := kS impl_PatchDo.s impl_PatchDo.fn
theorem impl_PatchDo.con {δ : Type} : Con Tryz.prog (KT tab) 187 (impl_PatchDo.k (δ := δ)) := con_shape (c := impl_PatchDo.c) mixed tysOk (getG_con (impl_PatchDo.gok _)) impl_PatchDo.fok rfl rfl fun _ => rfl
noncomputable def impl_PatchDo_l0 (v0 : List Int) (v1 : Int) (v2 : List Int) (v3 : Int) (v4 v5 : List Int) : Option ((List Int) × Bool) := lpW impl_PatchDo.s impl_PatchDo.c 0 (ud 93 [.vs false 3 v0, .undef, .undef, .ptr 0 0]) [.box 127 [.int .i64 v1, .vs false 157 v2, .int .i64 v3, .vs false 157 v4, .vs false 3 v5]] 1
noncomputable def impl_PatchDo_l1 (v0 : List Int) (v1 : Int) (v2 : List Int) (v3 : Int) (v4 v5 : List Int) : Option ((List Int) × Bool) := lpW impl_PatchDo.s impl_PatchDo.c 1 (ud 93 [.vs false 3 v0, .undef, .undef, .ptr 0 0]) [.box 127 [.int .i64 v1, .vs false 157 v2, .int .i64 v3, .vs false 157 v4, .vs false 3 v5]] 1
noncomputable def impl_PatchDo_l2 (v0 : List Int) (v1 v2 : Int) (v3 v4 v5 : List Int) : Option ((List Int) × Bool) := lpW impl_PatchDo.s impl_PatchDo.c 2 (ud 23 [.undef, .undef, .undef, .undef, .undef, .undef, .undef, .sl 0 0, .vs false 3 v0, .sl 1 0, .undef, .undef, .undef, .undef, .undef, .undef, .undef, .undef, .undef, .undef, .undef, .undef, .undef, .undef, .undef, .undef, .undef, .undef, .undef, .undef, .undef, .undef, .undef, .undef, .undef, .undef, .undef, .undef, .undef, .undef, .undef, .undef, .undef, .undef, .undef, .undef, .undef, .undef, .undef, .undef, .undef, .undef, .undef, .undef, .undef, .undef, .undef, .undef, .undef, .undef, .undef, .undef, .undef, .undef, .undef, .undef, .undef, .undef, .undef, .undef, .undef, .sl 2 0, .int .i64 v1, .int .i64 v2]) [.row 0 true 3 v3, .row 0 true 3 v4, .row 0 true 3 v5] 3
noncomputable def impl_PatchDo_l3 (v0 v1 : Nat) (v2 : List Int) (v3 v4 : Int) (v5 v6 v7 : List Int) : Option ((List Int) × Bool) := lpW impl_PatchDo.s impl_PatchDo.c 2 (ud 23 [.undef, .undef, .undef, .undef, .undef, .undef, .undef, .sv 0 0 v0 v1, .vs false 3 v2, .sl 1 0, .undef, .undef, .undef, .undef, .undef, .undef, .undef, .undef, .undef, .undef, .undef, .undef, .undef, .undef, .undef, .undef, .undef, .undef, .undef, .undef, .undef, .undef, .undef, .undef, .undef, .undef, .undef, .undef, .undef, .undef, .undef, .undef, .undef, .undef, .undef, .undef, .undef, .undef, .undef, .undef, .undef, .undef, .undef, .undef, .undef, .undef, .undef, .undef, .undef, .undef, .undef, .undef, .undef, .undef, .undef, .undef, .undef, .undef, .undef, .undef, .undef, .sl 2 0, .int .i64 v3, .int .i64 v4]) [.row 0 true 3 v5, .row 0 true 3 v6, .row 0 true 3 v7] 3
theorem impl_PatchDo.eq (x0 : List Int) (x1 : Int × (List Int) × Int × (List Int) × (List Int)) : impl_PatchDo x0 x1 =
    bif decide ((x0.length : Int) > (301 : Int)) then
      some (([] : List Int), false)
    else
      (impl_BitsOk (x1.1, x1.2.1)).bind fun y1 =>
      bif !y1 then
        some (([] : List Int), false)
      else
        (impl_BitsOk (x1.2.2.1, x1.2.2.2.1)).bind fun y2 =>
        bif !y2 then
          some (([] : List Int), false)
        else
          bif x1.1 != (x0.length : Int) then
            some (([] : List Int), false)
          else
            bif decide (x1.2.2.1 > (301 : Int)) then
              some (([] : List Int), false)
            else
              impl_PatchDo_l0 x0 x1.1 x1.2.1 x1.2.2.1 x1.2.2.2.1 x1.2.2.2.2 := by kernel_rfl
theorem impl_PatchDo_l0.eq (v0 : List Int) (v1 : Int) (v2 : List Int) (v3 : Int) (v4 v5 : List Int) : impl_PatchDo_l0 v0 v1 v2 v3 v4 v5 =
    (impl_Bits_list (v3, v4)).bind fun y1 =>
    (impl_count y1 (1 : Int)).bind fun y2 =>
    (impl_Bits_list (v1, v2)).bind fun y3 =>
    (impl_count y3 (1 : Int)).bind fun y4 =>
    bif y4 != y2 then
      some (([] : List Int), false)
    else
      bif IntKind.i64.wrap (v3 - y2) != (v5.length : Int) then
        some (([] : List Int), false)
      else
        impl_PatchDo_l1 v0 v1 v2 v3 v4 v5 := (Lw_eq tysOk (getG_con (impl_PatchDo.gok _)) _ _).trans (by kernel_rfl)
theorem impl_PatchDo_l1.eq (v0 : List Int) (v1 : Int) (v2 : List Int) (v3 : Int) (v4 v5 : List Int) : impl_PatchDo_l1 v0 v1 v2 v3 v4 v5 =
    (impl_BitsFlip (v1, v2)).bind fun y1 =>
    (impl_unmarked v0 y1).bind fun y2 =>
    (impl_Bits_list (v3, v4)).bind fun y3 =>
    impl_PatchDo_l2 v5 (y3.length : Int) (0 : Int) y2 ([] : List Int) y3 := (Lw_eq tysOk (getG_con (impl_PatchDo.gok _)) _ _).trans (by kernel_rfl)
theorem impl_PatchDo_l2.eq (v0 : List Int) (v1 v2 : Int) (v3 v4 v5 : List Int) : impl_PatchDo_l2 v0 v1 v2 v3 v4 v5 =
    bif decide (v2 < v1) then
      (at? v5 v2).bind fun y1 =>
      v5[v2.toNat]?.bind fun y2 =>
      bif y2 == (1 : Int) then
        (at? v3 (0 : Int)).bind fun y3 =>
        v3[0]?.bind fun y4 =>
        bif decide ((v4.length + ([y4] : List Int).length) * 8 ≤ 140737488355328) then
          bif decide (0 ≤ (1 : Int) ∧ (1 : Int) ≤ ((v3.length : Nat) : Int)) then
            impl_PatchDo_l3 1 (v3.length - 1) v0 v1 (IntKind.i64.wrap (v2 + (1 : Int))) v3 (v4 ++ ([y4] : List Int)) v5
          else
            none
        else
          none
      else
        (at? v0 (0 : Int)).bind fun y5 =>
        bif decide ((v4.length + ([y5] : List Int).length) * 8 ≤ 140737488355328) then
          bif decide (0 ≤ (1 : Int) ∧ (1 : Int) ≤ ((v0.length : Nat) : Int)) then
            impl_PatchDo_l2 ((v0.take v0.length).drop 1) v1 (IntKind.i64.wrap (v2 + (1 : Int))) v3 (v4 ++ ([y5] : List Int)) v5
          else
            none
        else
          none
    else
      some (v4, true) := (Lw_eq tysOk (getG_con (impl_PatchDo.gok _)) _ _).trans (by kernel_rfl)
theorem impl_PatchDo_l3.eq (v0 v1 : Nat) (v2 : List Int) (v3 v4 : Int) (v5 v6 v7 : List Int) : impl_PatchDo_l3 v0 v1 v2 v3 v4 v5 v6 v7 =
    bif decide (v4 < v3) then
      (at? v7 v4).bind fun y1 =>
      v7[v4.toNat]?.bind fun y2 =>
      bif y2 == (1 : Int) then
        bif decide (0 ≤ (0 : Int) ∧ (0 : Int) < ((v1 : Nat) : Int)) then
          v5[v0]?.bind fun y3 =>
          bif decide ((v6.length + ([y3] : List Int).length) * 8 ≤ 140737488355328) then
            bif decide (0 ≤ (1 : Int) ∧ (1 : Int) ≤ ((v1 : Nat) : Int)) then
              impl_PatchDo_l3 (v0 + 1) (v1 - 1) v2 v3 (IntKind.i64.wrap (v4 + (1 : Int))) v5 (v6 ++ ([y3] : List Int)) v7
            else
              none
          else
            none
        else
          none
      else
        (at? v2 (0 : Int)).bind fun y4 =>
        bif decide ((v6.length + ([y4] : List Int).length) * 8 ≤ 140737488355328) then
          bif decide (0 ≤ (1 : Int) ∧ (1 : Int) ≤ ((v2.length : Nat) : Int)) then
            impl_PatchDo_l3 v0 v1 ((v2.take v2.length).drop 1) v3 (IntKind.i64.wrap (v4 + (1 : Int))) v5 (v6 ++ ([y4] : List Int)) v7
          else
            none
        else
          none
    else
      some (v6, true) := (Lw_eq tysOk (getG_con (impl_PatchDo.gok _)) _ _).trans (by kernel_rfl)

noncomputable abbrev impl_patched.s : Sg := ⟨[.lend, .lend, .lend, .lend], [vl 5, .agg [.int .i64, .sl false false 157], .agg [.int .i64, .sl false false 157], vl 3], ⟨[vo 5, vb], [none, none, none, none]⟩, Tryz.f134⟩
noncomputable def impl_patched.gs (δ : Type) : List (Nat × Callee (GT tab) δ) := [(69, impl_bwtOf.k), (185, impl_BwtText.k), (187, impl_PatchDo.k)]
theorem impl_patched.gok (δ : Type) : AllCon Tryz.prog tab (impl_patched.gs δ) := .cons impl_bwtOf.con (.cons impl_BwtText.con (.cons impl_PatchDo.con .nil))
noncomputable def impl_patched.c := cx impl_patched.s [] [] false (impl_patched.gs _)
noncomputable def impl_patched (x0 : List Int) (x1 x2 : Int × (List Int)) (x3 : List Int) : Option ((List Int) × Bool) := fnW impl_patched.s impl_patched.c (x0, x1, x2, x3)
theorem impl_patched.fok : FkS impl_patched.s 134 := ⟨Tryz.func134, by kernel_rfl, by kernel_rfl⟩
noncomputable def impl_patched.fn (x : Args tab impl_patched.s.ar) : Option (ResT tab impl_patched.s.rs) := impl_patched x.1 x.2.1 x.2.2.1 x.2.2.2
noncomputable abbrev impl_patched.k {δ : Type} : Callee (GT tab) δ := kS impl_patched.s impl_patched.fn
theorem impl_patched.con {δ : Type} : Con Tryz.prog (KT tab) 134 (impl_patched.k (δ := δ)) := con_shape (c := impl_patched.c) mixed tysOk (getG_con (impl_patched.gok _)) impl_patched.fok rfl rfl fun _ => rfl
theorem impl_patched.eq (x0 : List Int) (x1 x2 : Int × (List Int)) (x3 : List Int) : impl_patched x0 x1 x2 x3 =
    (impl_bwtOf x0).bind fun y1 =>
    (impl_PatchDo y1 (x1.1, x1.2, x2.1, x2.2, x3)).bind fun y2 =>
    bif !y2.2 then
      some (([] : List Int), false)
    else
      (impl_BwtText y2.1).bind fun y3 =>
      some (y3.1, y3.2) := by kernel_rfl

noncomputable abbrev impl_relOf.s : Sg := ⟨[.keep, .keep, .lend, .lend, .lend], [vo 5, vo 5, .agg [.int .i64, .sl false false 157], .agg [.int .i64, .sl false false 157], vi], ⟨[.agg [.int .i64, .int .i64, .int .i64, .sl false false 157, .int .i64, .sl false false 157, .int .i64, .sl true true 3, .sl true true 41, .int .i64, .sl true true 3, .sl true true 41, .sl true true 3, .int .i64, .sl true true 157, .int .i64, .int .i64, .int .i64, .sl true true 157, .int .i64, .int .i64, .int .i64, .sl true true 157]], [some (vo 5), some (vo 5), none, none, none]⟩, Tryz.f136⟩
noncomputable def impl_relOf.gs (δ : Type) : List (Nat × Callee (GT tab) δ) := [(69, impl_bwtOf.k), (144, impl_fmOf.k), (192, impl_WaveOf.k), (193, impl_unmarked.k)]
theorem impl_relOf.gok (δ : Type) : AllCon Tryz.prog tab (impl_relOf.gs δ) := .cons impl_bwtOf.con (.cons impl_fmOf.con (.cons impl_WaveOf.con (.cons impl_unmarked.con .nil)))
noncomputable def impl_relOf.c := cx impl_relOf.s [] [] false (impl_relOf.gs _)
noncomputable def impl_relOf (x0 x1 : List Int) (x2 x3 : Int × (List Int)) (x4 : Int) : Option ((Int × Int × Int × (List Int) × Int × (List Int) × Int × (List Int) × (List (Int × (List Int))) × Int × (List Int) × (List (Int × (List Int))) × (List Int) × Int × (List Int) × Int × Int × Int × (List Int) × Int × Int × Int × (List Int)) × (List Int) × (List Int)) := fnW impl_relOf.s impl_relOf.c (x0, x1, x2, x3, x4)
theorem impl_relOf.fok : FkS impl_relOf.s 136 := ⟨Tryz.func136, by kernel_rfl, by kernel_rfl⟩
noncomputable def impl_relOf.fn (x : Args tab impl_relOf.s.ar) : Option (ResT tab impl_relOf.s.rs) := impl_relOf x.1 x.2.1 x.2.2.1 x.2.2.2.1 x.2.2.2.2
noncomputable abbrev impl_relOf.k {δ : Type} : Callee (GT tab) δ := kS impl_relOf.s impl_relOf.fn
theorem impl_relOf.con {δ : Type} : Con Tryz.prog (KT tab) 136 (impl_relOf.k (δ := δ)) := con_shape (c := impl_relOf.c) mixed tysOk (getG_con (impl_relOf.gok _)) impl_relOf.fok rfl rfl fun _ => rfl
theorem impl_relOf.eq (x0 x1 : List Int) (x2 x3 : Int × (List Int)) (x4 : Int) : impl_relOf x0 x1 x2 x3 x4 =
    (impl_fmOf x1 x4).bind fun y1 =>
    (impl_bwtOf x0).bind fun y2 =>
    (impl_unmarked y2 x2).bind fun y3 =>
    (impl_WaveOf y3).bind fun y4 =>
    (impl_bwtOf x1).bind fun y5 =>
    (impl_unmarked y5 x3).bind fun y6 =>
    (impl_WaveOf y6).bind fun y7 =>
    some ((y1.1, x4, x2.1, x2.2, x3.1, x3.2, y4.1.1, y4.1.2.1, y4.1.2.2, y7.1.1, y7.1.2.1, y7.1.2.2, y1.2.2.2.2.2.1, y1.2.2.2.2.2.2.1, y1.2.2.2.2.2.2.2.1, y1.2.2.2.2.2.2.2.2.1, y1.2.2.2.2.2.2.2.2.2.1, y1.2.2.2.2.2.2.2.2.2.2.1, y1.2.2.2.2.2.2.2.2.2.2.2.1, y1.2.2.2.2.2.2.2.2.2.2.2.2.1, y1.2.2.2.2.2.2.2.2.2.2.2.2.2.1, y1.2.2.2.2.2.2.2.2.2.2.2.2.2.2.1, y1.2.2.2.2.2.2.2.2.2.2.2.2.2.2.2), x0, x1) := by kernel_rfl

noncomputable abbrev impl_sameRel.s : Sg := ⟨[.lend, .lend], [.agg [.int .i64, .int .i64, .int .i64, .sl false false 157, .int .i64, .sl false false 157, .int .i64, .sl false false 3, .sl false false 41, .int .i64, .sl false false 3, .sl false false 41, .sl false false 3, .int .i64, .sl false false 157, .int .i64, .int .i64, .int .i64, .sl false false 157, .int .i64, .int .i64, .int .i64, .sl false false 157], .agg [.int .i64, .int .i64, .int .i64, .sl false false 157, .int .i64, .sl false false 157, .int .i64, .sl false false 3, .sl false false 41, .int .i64, .sl false false 3, .sl false false 41, .sl false false 3, .int .i64, .sl false false 157, .int .i64, .int .i64, .int .i64, .sl false false 157, .int .i64, .int .i64, .int .i64, .sl false false 157]], ⟨[vb], [none, none]⟩, Tryz.f135⟩
noncomputable def impl_sameRel.gs (δ : Type) : List (Nat × Callee (GT tab) δ) := [(188, impl_sameBits.k), (189, impl_sameWave.k), (190, slices_Equal_int_int.k), (191, impl_samePacked.k)]
theorem impl_sameRel.gok (δ : Type) : AllCon Tryz.prog tab (impl_sameRel.gs δ) := .cons impl_sameBits.con (.cons impl_sameWave.con (.cons slices_Equal_int_int.con (.cons impl_samePacked.con .nil)))
noncomputable def impl_sameRel.c := cx impl_sameRel.s [] [] false (impl_sameRel.gs _)
noncomputable def impl_sameRel (x0 x1 : Int × Int × Int × (List Int) × Int × (List Int) × Int × (List Int) × (List (Int × (List Int))) × Int × (List Int) × (List (Int × (List Int))) × (List Int) × Int × (List Int) × Int × Int × Int × (List Int) × Int × Int × Int × (List Int)) : Option (Bool) := fnW impl_sameRel.s impl_sameRel.c (x0, x1)
theorem impl_sameRel.fok : FkS impl_sameRel.s 135 := ⟨Tryz.func135, by kernel_rfl, by kernel_rfl⟩
noncomputable def impl_sameRel.fn (x : Args tab impl_sameRel.s.ar) : Option (ResT tab impl_sameRel.s.rs) := impl_sameRel x.1 x.2
noncomputable abbrev impl_sameRel.k {δ : Type} : Callee (GT tab) δ := kS impl_sameRel.s impl_sameRel.fn
theorem impl_sameRel.con {δ : Type} : Con Tryz.prog (KT tab) 135 (impl_sameRel.k (δ := δ)) := con_shape (c := impl_sameRel.c) mixed tysOk (getG_con (impl_sameRel.gok _)) impl_sameRel.fok rfl rfl fun _ => rfl
theorem impl_sameRel.eq (x0 x1 : Int × Int × Int × (List Int) × Int × (List Int) × Int × (List Int) × (List (Int × (List Int))) × Int × (List Int) × (List (Int × (List Int))) × (List Int) × Int × (List Int) × Int × Int × Int × (List Int) × Int × Int × Int × (List Int)) : impl_sameRel x0 x1 =
    bif x0.1 == x1.1 then
      bif x0.2.1 == x1.2.1 then
        (impl_sameBits (x0.2.2.1, x0.2.2.2.1) (x1.2.2.1, x1.2.2.2.1)).bind fun y1 =>
        bif y1 then
          (impl_sameBits (x0.2.2.2.2.1, x0.2.2.2.2.2.1) (x1.2.2.2.2.1, x1.2.2.2.2.2.1)).bind fun y2 =>
          bif y2 then
            (impl_sameWave (x0.2.2.2.2.2.2.1, x0.2.2.2.2.2.2.2.1, x0.2.2.2.2.2.2.2.2.1) (x1.2.2.2.2.2.2.1, x1.2.2.2.2.2.2.2.1, x1.2.2.2.2.2.2.2.2.1)).bind fun y3 =>
            bif y3 then
              (impl_sameWave (x0.2.2.2.2.2.2.2.2.2.1, x0.2.2.2.2.2.2.2.2.2.2.1, x0.2.2.2.2.2.2.2.2.2.2.2.1) (x1.2.2.2.2.2.2.2.2.2.1, x1.2.2.2.2.2.2.2.2.2.2.1, x1.2.2.2.2.2.2.2.2.2.2.2.1)).bind fun y4 =>
              bif y4 then
                (slices_Equal_int_int x0.2.2.2.2.2.2.2.2.2.2.2.2.1 x1.2.2.2.2.2.2.2.2.2.2.2.2.1).bind fun y5 =>
                bif y5 then
                  (impl_sameBits (x0.2.2.2.2.2.2.2.2.2.2.2.2.2.1, x0.2.2.2.2.2.2.2.2.2.2.2.2.2.2.1) (x1.2.2.2.2.2.2.2.2.2.2.2.2.2.1, x1.2.2.2.2.2.2.2.2.2.2.2.2.2.2.1)).bind fun y6 =>
                  bif y6 then
                    (impl_samePacked (x0.2.2.2.2.2.2.2.2.2.2.2.2.2.2.2.1, x0.2.2.2.2.2.2.2.2.2.2.2.2.2.2.2.2.1, x0.2.2.2.2.2.2.2.2.2.2.2.2.2.2.2.2.2.1, x0.2.2.2.2.2.2.2.2.2.2.2.2.2.2.2.2.2.2.1) (x1.2.2.2.2.2.2.2.2.2.2.2.2.2.2.2.1, x1.2.2.2.2.2.2.2.2.2.2.2.2.2.2.2.2.1, x1.2.2.2.2.2.2.2.2.2.2.2.2.2.2.2.2.2.1, x1.2.2.2.2.2.2.2.2.2.2.2.2.2.2.2.2.2.2.1)).bind fun y7 =>
                    bif y7 then
                      (impl_samePacked x0.2.2.2.2.2.2.2.2.2.2.2.2.2.2.2.2.2.2.2 x1.2.2.2.2.2.2.2.2.2.2.2.2.2.2.2.2.2.2.2).bind fun y8 =>
                      some y8
                    else
                      some false
                  else
                    some false
                else
                  some false
              else
                some false
            else
              some false
          else
            some false
        else
          some false
      else
        some false
    else
      some false := by kernel_rfl

noncomputable abbrev impl_Rel_read.s : Sg := ⟨[.lend, .lend], [.agg [.int .i64, .int .i64, .int .i64, .sl false false 157, .int .i64, .sl false false 157, .int .i64, .sl false false 3, .sl false false 41, .int .i64, .sl false false 3, .sl false false 41, .sl false false 3, .int .i64, .sl false false 157, .int .i64, .int .i64, .int .i64, .sl false false 157, .int .i64, .int .i64, .int .i64, .sl false false 157], .agg [.int .i64, .int .i64, .int .i64, .sl false false 3, .sl false false 41, .sl false false 3, .int .i64, .sl false false 157, .int .i64, .int .i64, .int .i64, .sl false false 157, .int .i64, .int .i64, .int .i64, .sl false false 157]], ⟨[vo 5, vb], [none, none]⟩, Tryz.f67⟩
noncomputable def impl_Rel_read.gs (δ : Type) : List (Nat × Callee (GT tab) δ) := [(99, impl_Wave_read.k), (132, impl_Fm_read.k), (133, impl_isRate.k), (134, impl_patched.k), (135, impl_sameRel.k), (136, impl_relOf.k)]
theorem impl_Rel_read.gok (δ : Type) : AllCon Tryz.prog tab (impl_Rel_read.gs δ) := .cons impl_Wave_read.con (.cons impl_Fm_read.con (.cons impl_isRate.con (.cons impl_patched.con (.cons impl_sameRel.con (.cons impl_relOf.con .nil)))))
noncomputable def impl_Rel_read.c := cx impl_Rel_read.s [] [] false (impl_Rel_read.gs _)
noncomputable def impl_Rel_read (x0 : Int × Int × Int × (List Int) × Int × (List Int) × Int × (List Int) × (List (Int × (List Int))) × Int × (List Int) × (List (Int × (List Int))) × (List Int) × Int × (List Int) × Int × Int × Int × (List Int) × Int × Int × Int × (List Int)) (x1 : Int × Int × Int × (List Int) × (List (Int × (List Int))) × (List Int) × Int × (List Int) × Int × Int × Int × (List Int) × Int × Int × Int × (List Int)) : Option ((List Int) × Bool) := fnW impl_Rel_read.s impl_Rel_read.c (x0, x1)
theorem impl_Rel_read.fok : FkS impl_Rel_read.s 67 := ⟨Tryz.func67, by kernel_rfl, by kernel_rfl⟩
noncomputable def impl_Rel_read.fn (x : Args tab impl_Rel_read.s.ar) : Option (ResT tab impl_Rel_read.s.rs) := impl_Rel_read x.1 x.2
noncomputable abbrev impl_Rel_read.k {δ : Type} : Callee (GT tab) δ := kS impl_Rel_read.s impl_Rel_read.fn
theorem impl_Rel_read.con {δ : Type} : Con Tryz.prog (KT tab) 67 (impl_Rel_read.k (δ := δ)) := con_shape (c := impl_Rel_read.c) mixed tysOk (getG_con (impl_Rel_read.gok _)) impl_Rel_read.fok rfl rfl fun _ => rfl
theorem impl_Rel_read.eq (x0 : Int × Int × Int × (List Int) × Int × (List Int) × Int × (List Int) × (List (Int × (List Int))) × Int × (List Int) × (List (Int × (List Int))) × (List Int) × Int × (List Int) × Int × Int × Int × (List Int) × Int × Int × Int × (List Int)) (x1 : Int × Int × Int × (List Int) × (List (Int × (List Int))) × (List Int) × Int × (List Int) × Int × Int × Int × (List Int) × Int × Int × Int × (List Int)) : impl_Rel_read x0 x1 =
    (impl_Fm_read x1).bind fun y1 =>
    (impl_Wave_read (x0.2.2.2.2.2.2.2.2.2.1, x0.2.2.2.2.2.2.2.2.2.2.1, x0.2.2.2.2.2.2.2.2.2.2.2.1)).bind fun y2 =>
    bif !y1.2 then
      some (([] : List Int), false)
    else
      bif !y2.2 then
        some (([] : List Int), false)
      else
        (impl_isRate x0.2.1).bind fun y3 =>
        bif !y3 then
          some (([] : List Int), false)
        else
          (impl_patched y1.1 (x0.2.2.1, x0.2.2.2.1) (x0.2.2.2.2.1, x0.2.2.2.2.2.1) y2.1).bind fun y4 =>
          bif y4.2 then
            (impl_relOf y1.1 y4.1 (x0.2.2.1, x0.2.2.2.1) (x0.2.2.2.2.1, x0.2.2.2.2.2.1) x0.2.1).bind fun y5 =>
            (impl_sameRel y5.1 x0).bind fun y6 =>
            some (y5.2.2, y6)
          else
            some (y4.1, false) := by kernel_rfl

noncomputable abbrev laws_eqIntS.s : Sg := ⟨[.lend, .lend], [vl 3, vl 3], ⟨[vb], [none, none]⟩, Tryz.f52⟩
noncomputable def laws_eqIntS.gs (δ : Type) : List (Nat × Callee (GT tab) δ) := []
theorem laws_eqIntS.gok (δ : Type) : AllCon Tryz.prog tab (laws_eqIntS.gs δ) := .nil
noncomputable def laws_eqIntS.c := cx laws_eqIntS.s [] [(4, [0, 1, 5])] false (laws_eqIntS.gs _)
noncomputable def laws_eqIntS (x0 x1 : List Int) : Option (Bool) := fnW laws_eqIntS.s laws_eqIntS.c (x0, x1)
theorem laws_eqIntS.fok : FkS laws_eqIntS.s 52 := ⟨Tryz.func52, by kernel_rfl, by kernel_rfl⟩
noncomputable def laws_eqIntS.fn (x : Args tab laws_eqIntS.s.ar) : Option (ResT tab laws_eqIntS.s.rs) := laws_eqIntS x.1 x.2
noncomputable abbrev laws_eqIntS.k {δ : Type} : Callee (GT tab) δ := kS laws_eqIntS.s laws_eqIntS.fn
theorem laws_eqIntS.con {δ : Type} : Con Tryz.prog (KT tab) 52 (laws_eqIntS.k (δ := δ)) := con_shape (c := laws_eqIntS.c) mixed tysOk (getG_con (laws_eqIntS.gok _)) laws_eqIntS.fok rfl rfl fun _ => rfl
noncomputable def laws_eqIntS_l0 (v0 v1 : List Int) (v2 : Int) : Option (Bool) := lpW laws_eqIntS.s laws_eqIntS.c 0 (ud 20 [.vs false 3 v0, .vs false 3 v1, .undef, .undef, .undef, .int .i64 v2]) [] 0
theorem laws_eqIntS.eq (x0 x1 : List Int) : laws_eqIntS x0 x1 =
    bif (x0.length : Int) != (x1.length : Int) then
      some false
    else
      laws_eqIntS_l0 x0 x1 (0 : Int) := by kernel_rfl
theorem laws_eqIntS_l0.eq (v0 v1 : List Int) (v2 : Int) : laws_eqIntS_l0 v0 v1 v2 =
    bif decide (v2 < (v0.length : Int)) then
      (at? v0 v2).bind fun y1 =>
      (at? v1 v2).bind fun y2 =>
      bif y1 != y2 then
        some false
      else
        laws_eqIntS_l0 v0 v1 (IntKind.i64.wrap (v2 + (1 : Int)))
    else
      some true := (Lw_eq tysOk (getG_con (laws_eqIntS.gok _)) _ _).trans (by kernel_rfl)

noncomputable abbrev laws_eqUint64S.s : Sg := ⟨[.lend, .lend], [vl 157, vl 157], ⟨[vb], [none, none]⟩, Tryz.f139⟩
noncomputable def laws_eqUint64S.gs (δ : Type) : List (Nat × Callee (GT tab) δ) := []
theorem laws_eqUint64S.gok (δ : Type) : AllCon Tryz.prog tab (laws_eqUint64S.gs δ) := .nil
noncomputable def laws_eqUint64S.c := cx laws_eqUint64S.s [] [(4, [0, 1, 5])] false (laws_eqUint64S.gs _)
noncomputable def laws_eqUint64S (x0 x1 : List Int) : Option (Bool) := fnW laws_eqUint64S.s laws_eqUint64S.c (x0, x1)
theorem laws_eqUint64S.fok : FkS laws_eqUint64S.s 139 := ⟨Tryz.func139, by kernel_rfl, by kernel_rfl⟩
noncomputable def laws_eqUint64S.fn (x : Args tab laws_eqUint64S.s.ar) : Option (ResT tab laws_eqUint64S.s.rs) := laws_eqUint64S x.1 x.2
noncomputable abbrev laws_eqUint64S.k {δ : Type} : Callee (GT tab) δ := kS laws_eqUint64S.s laws_eqUint64S.fn
theorem laws_eqUint64S.con {δ : Type} : Con Tryz.prog (KT tab) 139 (laws_eqUint64S.k (δ := δ)) := con_shape (c := laws_eqUint64S.c) mixed tysOk (getG_con (laws_eqUint64S.gok _)) laws_eqUint64S.fok rfl rfl fun _ => rfl
noncomputable def laws_eqUint64S_l0 (v0 v1 : List Int) (v2 : Int) : Option (Bool) := lpW laws_eqUint64S.s laws_eqUint64S.c 0 (ud 20 [.vs false 157 v0, .vs false 157 v1, .undef, .undef, .undef, .int .i64 v2]) [] 0
theorem laws_eqUint64S.eq (x0 x1 : List Int) : laws_eqUint64S x0 x1 =
    bif (x0.length : Int) != (x1.length : Int) then
      some false
    else
      laws_eqUint64S_l0 x0 x1 (0 : Int) := by kernel_rfl
theorem laws_eqUint64S_l0.eq (v0 v1 : List Int) (v2 : Int) : laws_eqUint64S_l0 v0 v1 v2 =
    bif decide (v2 < (v0.length : Int)) then
      (at? v0 v2).bind fun y1 =>
      (at? v1 v2).bind fun y2 =>
      bif y1 != y2 then
        some false
      else
        laws_eqUint64S_l0 v0 v1 (IntKind.i64.wrap (v2 + (1 : Int)))
    else
      some true := (Lw_eq tysOk (getG_con (laws_eqUint64S.gok _)) _ _).trans (by kernel_rfl)

noncomputable abbrev laws_eqBits.s : Sg := ⟨[.lend, .lend], [.agg [.int .i64, .sl false false 157], .agg [.int .i64, .sl false false 157]], ⟨[vb], [none, none]⟩, Tryz.f71⟩
noncomputable def laws_eqBits.gs (δ : Type) : List (Nat × Callee (GT tab) δ) := [(139, laws_eqUint64S.k)]
theorem laws_eqBits.gok (δ : Type) : AllCon Tryz.prog tab (laws_eqBits.gs δ) := .cons laws_eqUint64S.con .nil
noncomputable def laws_eqBits.c := cx laws_eqBits.s [] [] false (laws_eqBits.gs _)
noncomputable def laws_eqBits (x0 x1 : Int × (List Int)) : Option (Bool) := fnW laws_eqBits.s laws_eqBits.c (x0, x1)
theorem laws_eqBits.fok : FkS laws_eqBits.s 71 := ⟨Tryz.func71, by kernel_rfl, by kernel_rfl⟩
noncomputable def laws_eqBits.fn (x : Args tab laws_eqBits.s.ar) : Option (ResT tab laws_eqBits.s.rs) := laws_eqBits x.1 x.2
noncomputable abbrev laws_eqBits.k {δ : Type} : Callee (GT tab) δ := kS laws_eqBits.s laws_eqBits.fn
theorem laws_eqBits.con {δ : Type} : Con Tryz.prog (KT tab) 71 (laws_eqBits.k (δ := δ)) := con_shape (c := laws_eqBits.c) mixed tysOk (getG_con (laws_eqBits.gok _)) laws_eqBits.fok rfl rfl fun _ => rfl
theorem laws_eqBits.eq (x0 x1 : Int × (List Int)) : laws_eqBits x0 x1 =
    bif x0.1 != x1.1 then
      some false
    else
      (laws_eqUint64S x0.2 x1.2).bind fun y1 =>
      bif !y1 then
        some false
      else
        some true := by kernel_rfl

noncomputable abbrev laws_eqBitsS.s : Sg := ⟨[.lend, .lend], [vl 41, vl 41], ⟨[vb], [none, none]⟩, Tryz.f138⟩
noncomputable def laws_eqBitsS.gs (δ : Type) : List (Nat × Callee (GT tab) δ) := [(71, laws_eqBits.k)]
theorem laws_eqBitsS.gok (δ : Type) : AllCon Tryz.prog tab (laws_eqBitsS.gs δ) := .cons laws_eqBits.con .nil
noncomputable def laws_eqBitsS.c := cx laws_eqBitsS.s [] [(4, [0, 1, 5])] false (laws_eqBitsS.gs _)
noncomputable def laws_eqBitsS (x0 x1 : List (Int × (List Int))) : Option (Bool) := fnW laws_eqBitsS.s laws_eqBitsS.c (x0, x1)
theorem laws_eqBitsS.fok : FkS laws_eqBitsS.s 138 := ⟨Tryz.func138, by kernel_rfl, by kernel_rfl⟩
noncomputable def laws_eqBitsS.fn (x : Args tab laws_eqBitsS.s.ar) : Option (ResT tab laws_eqBitsS.s.rs) := laws_eqBitsS x.1 x.2
noncomputable abbrev laws_eqBitsS.k {δ : Type} : Callee (GT tab) δ := kS laws_eqBitsS.s laws_eqBitsS.fn
theorem laws_eqBitsS.con {δ : Type} : Con Tryz.prog (KT tab) 138 (laws_eqBitsS.k (δ := δ)) := con_shape (c := laws_eqBitsS.c) mixed tysOk (getG_con (laws_eqBitsS.gok _)) laws_eqBitsS.fok rfl rfl fun _ => rfl
noncomputable def laws_eqBitsS_l0 (v0 v1 : List (Int × (List Int))) (v2 : Int) : Option (Bool) := lpW laws_eqBitsS.s laws_eqBitsS.c 0 (ud 21 [.vs false 41 v0, .vs false 41 v1, .undef, .undef, .undef, .int .i64 v2]) [] 0
theorem laws_eqBitsS.eq (x0 x1 : List (Int × (List Int))) : laws_eqBitsS x0 x1 =
    bif (x0.length : Int) != (x1.length : Int) then
      some false
    else
      laws_eqBitsS_l0 x0 x1 (0 : Int) := by kernel_rfl
theorem laws_eqBitsS_l0.eq (v0 v1 : List (Int × (List Int))) (v2 : Int) : laws_eqBitsS_l0 v0 v1 v2 =
    bif decide (v2 < (v0.length : Int)) then
      (at? v0 v2).bind fun y1 =>
      (at? v1 v2).bind fun y2 =>
      (laws_eqBits y1 y2).bind fun y3 =>
      bif !y3 then
        some false
      else
        laws_eqBitsS_l0 v0 v1 (IntKind.i64.wrap (v2 + (1 : Int)))
    else
      some true := (Lw_eq tysOk (getG_con (laws_eqBitsS.gok _)) _ _).trans (by kernel_rfl)

noncomputable abbrev laws_eqWave.s : Sg := ⟨[.lend, .lend], [.agg [.int .i64, .sl false false 3, .sl false false 41], .agg [.int .i64, .sl false false 3, .sl false false 41]], ⟨[vb], [none, none]⟩, Tryz.f70⟩
noncomputable def laws_eqWave.gs (δ : Type) : List (Nat × Callee (GT tab) δ) := [(52, laws_eqIntS.k), (138, laws_eqBitsS.k)]
theorem laws_eqWave.gok (δ : Type) : AllCon Tryz.prog tab (laws_eqWave.gs δ) := .cons laws_eqIntS.con (.cons laws_eqBitsS.con .nil)
noncomputable def laws_eqWave.c := cx laws_eqWave.s [] [] false (laws_eqWave.gs _)
noncomputable def laws_eqWave (x0 x1 : Int × (List Int) × (List (Int × (List Int)))) : Option (Bool) := fnW laws_eqWave.s laws_eqWave.c (x0, x1)
theorem laws_eqWave.fok : FkS laws_eqWave.s 70 := ⟨Tryz.func70, by kernel_rfl, by kernel_rfl⟩
noncomputable def laws_eqWave.fn (x : Args tab laws_eqWave.s.ar) : Option (ResT tab laws_eqWave.s.rs) := laws_eqWave x.1 x.2
noncomputable abbrev laws_eqWave.k {δ : Type} : Callee (GT tab) δ := kS laws_eqWave.s laws_eqWave.fn
theorem laws_eqWave.con {δ : Type} : Con Tryz.prog (KT tab) 70 (laws_eqWave.k (δ := δ)) := con_shape (c := laws_eqWave.c) mixed tysOk (getG_con (laws_eqWave.gok _)) laws_eqWave.fok rfl rfl fun _ => rfl
theorem laws_eqWave.eq (x0 x1 : Int × (List Int) × (List (Int × (List Int)))) : laws_eqWave x0 x1 =
    bif x0.1 != x1.1 then
      some false
    else
      (laws_eqIntS x0.2.1 x1.2.1).bind fun y1 =>
      bif !y1 then
        some false
      else
        (laws_eqBitsS x0.2.2 x1.2.2).bind fun y2 =>
        bif !y2 then
          some false
        else
          some true := by kernel_rfl

noncomputable abbrev laws_eqPacked.s : Sg := ⟨[.lend, .lend], [.agg [.int .i64, .int .i64, .int .i64, .sl false false 157], .agg [.int .i64, .int .i64, .int .i64, .sl false false 157]], ⟨[vb], [none, none]⟩, Tryz.f72⟩
noncomputable def laws_eqPacked.gs (δ : Type) : List (Nat × Callee (GT tab) δ) := [(71, laws_eqBits.k)]
theorem laws_eqPacked.gok (δ : Type) : AllCon Tryz.prog tab (laws_eqPacked.gs δ) := .cons laws_eqBits.con .nil
noncomputable def laws_eqPacked.c := cx laws_eqPacked.s [] [] false (laws_eqPacked.gs _)
noncomputable def laws_eqPacked (x0 x1 : Int × Int × Int × (List Int)) : Option (Bool) := fnW laws_eqPacked.s laws_eqPacked.c (x0, x1)
theorem laws_eqPacked.fok : FkS laws_eqPacked.s 72 := ⟨Tryz.func72, by kernel_rfl, by kernel_rfl⟩
noncomputable def laws_eqPacked.fn (x : Args tab laws_eqPacked.s.ar) : Option (ResT tab laws_eqPacked.s.rs) := laws_eqPacked x.1 x.2
noncomputable abbrev laws_eqPacked.k {δ : Type} : Callee (GT tab) δ := kS laws_eqPacked.s laws_eqPacked.fn
theorem laws_eqPacked.con {δ : Type} : Con Tryz.prog (KT tab) 72 (laws_eqPacked.k (δ := δ)) := con_shape (c := laws_eqPacked.c) mixed tysOk (getG_con (laws_eqPacked.gok _)) laws_eqPacked.fok rfl rfl fun _ => rfl
theorem laws_eqPacked.eq (x0 x1 : Int × Int × Int × (List Int)) : laws_eqPacked x0 x1 =
    bif x0.1 != x1.1 then
      some false
    else
      bif x0.2.1 != x1.2.1 then
        some false
      else
        (laws_eqBits x0.2.2 x1.2.2).bind fun y1 =>
        bif !y1 then
          some false
        else
          some true := by kernel_rfl

noncomputable abbrev laws_eqFm.s : Sg := ⟨[.lend, .lend], [.agg [.int .i64, .int .i64, .int .i64, .sl false false 3, .sl false false 41, .sl false false 3, .int .i64, .sl false false 157, .int .i64, .int .i64, .int .i64, .sl false false 157, .int .i64, .int .i64, .int .i64, .sl false false 157], .agg [.int .i64, .int .i64, .int .i64, .sl false false 3, .sl false false 41, .sl false false 3, .int .i64, .sl false false 157, .int .i64, .int .i64, .int .i64, .sl false false 157, .int .i64, .int .i64, .int .i64, .sl false false 157]], ⟨[vb], [none, none]⟩, Tryz.f21⟩
noncomputable def laws_eqFm.gs (δ : Type) : List (Nat × Callee (GT tab) δ) := [(52, laws_eqIntS.k), (70, laws_eqWave.k), (71, laws_eqBits.k), (72, laws_eqPacked.k)]
theorem laws_eqFm.gok (δ : Type) : AllCon Tryz.prog tab (laws_eqFm.gs δ) := .cons laws_eqIntS.con (.cons laws_eqWave.con (.cons laws_eqBits.con (.cons laws_eqPacked.con .nil)))
noncomputable def laws_eqFm.c := cx laws_eqFm.s [] [] false (laws_eqFm.gs _)
noncomputable def laws_eqFm (x0 x1 : Int × Int × Int × (List Int) × (List (Int × (List Int))) × (List Int) × Int × (List Int) × Int × Int × Int × (List Int) × Int × Int × Int × (List Int)) : Option (Bool) := fnW laws_eqFm.s laws_eqFm.c (x0, x1)
theorem laws_eqFm.fok : FkS laws_eqFm.s 21 := ⟨Tryz.func21, by kernel_rfl, by kernel_rfl⟩
noncomputable def laws_eqFm.fn (x : Args tab laws_eqFm.s.ar) : Option (ResT tab laws_eqFm.s.rs) := laws_eqFm x.1 x.2
noncomputable abbrev laws_eqFm.k {δ : Type} : Callee (GT tab) δ := kS laws_eqFm.s laws_eqFm.fn
theorem laws_eqFm.con {δ : Type} : Con Tryz.prog (KT tab) 21 (laws_eqFm.k (δ := δ)) := con_shape (c := laws_eqFm.c) mixed tysOk (getG_con (laws_eqFm.gok _)) laws_eqFm.fok rfl rfl fun _ => rfl
theorem laws_eqFm.eq (x0 x1 : Int × Int × Int × (List Int) × (List (Int × (List Int))) × (List Int) × Int × (List Int) × Int × Int × Int × (List Int) × Int × Int × Int × (List Int)) : laws_eqFm x0 x1 =
    bif x0.1 != x1.1 then
      some false
    else
      bif x0.2.1 != x1.2.1 then
        some false
      else
        (laws_eqWave (x0.2.2.1, x0.2.2.2.1, x0.2.2.2.2.1) (x1.2.2.1, x1.2.2.2.1, x1.2.2.2.2.1)).bind fun y1 =>
        bif !y1 then
          some false
        else
          (laws_eqIntS x0.2.2.2.2.2.1 x1.2.2.2.2.2.1).bind fun y2 =>
          bif !y2 then
            some false
          else
            (laws_eqBits (x0.2.2.2.2.2.2.1, x0.2.2.2.2.2.2.2.1) (x1.2.2.2.2.2.2.1, x1.2.2.2.2.2.2.2.1)).bind fun y3 =>
            bif !y3 then
              some false
            else
              (laws_eqPacked (x0.2.2.2.2.2.2.2.2.1, x0.2.2.2.2.2.2.2.2.2.1, x0.2.2.2.2.2.2.2.2.2.2.1, x0.2.2.2.2.2.2.2.2.2.2.2.1) (x1.2.2.2.2.2.2.2.2.1, x1.2.2.2.2.2.2.2.2.2.1, x1.2.2.2.2.2.2.2.2.2.2.1, x1.2.2.2.2.2.2.2.2.2.2.2.1)).bind fun y4 =>
              bif !y4 then
                some false
              else
                (laws_eqPacked x0.2.2.2.2.2.2.2.2.2.2.2.2 x1.2.2.2.2.2.2.2.2.2.2.2.2).bind fun y5 =>
                bif !y5 then
                  some false
                else
                  some true := by kernel_rfl

noncomputable abbrev laws_eqRel.s : Sg := ⟨[.lend, .lend], [.agg [.int .i64, .int .i64, .int .i64, .sl false false 157, .int .i64, .sl false false 157, .int .i64, .sl false false 3, .sl false false 41, .int .i64, .sl false false 3, .sl false false 41, .sl false false 3, .int .i64, .sl false false 157, .int .i64, .int .i64, .int .i64, .sl false false 157, .int .i64, .int .i64, .int .i64, .sl false false 157], .agg [.int .i64, .int .i64, .int .i64, .sl false false 157, .int .i64, .sl false false 157, .int .i64, .sl false false 3, .sl false false 41, .int .i64, .sl false false 3, .sl false false 41, .sl false false 3, .int .i64, .sl false false 157, .int .i64, .int .i64, .int .i64, .sl false false 157, .int .i64, .int .i64, .int .i64, .sl false false 157]], ⟨[vb], [none, none]⟩, Tryz.f22⟩
noncomputable def laws_eqRel.gs (δ : Type) : List (Nat × Callee (GT tab) δ) := [(52, laws_eqIntS.k), (70, laws_eqWave.k), (71, laws_eqBits.k), (72, laws_eqPacked.k)]
theorem laws_eqRel.gok (δ : Type) : AllCon Tryz.prog tab (laws_eqRel.gs δ) := .cons laws_eqIntS.con (.cons laws_eqWave.con (.cons laws_eqBits.con (.cons laws_eqPacked.con .nil)))
noncomputable def laws_eqRel.c := cx laws_eqRel.s [] [] false (laws_eqRel.gs _)
noncomputable def laws_eqRel (x0 x1 : Int × Int × Int × (List Int) × Int × (List Int) × Int × (List Int) × (List (Int × (List Int))) × Int × (List Int) × (List (Int × (List Int))) × (List Int) × Int × (List Int) × Int × Int × Int × (List Int) × Int × Int × Int × (List Int)) : Option (Bool) := fnW laws_eqRel.s laws_eqRel.c (x0, x1)
theorem laws_eqRel.fok : FkS laws_eqRel.s 22 := ⟨Tryz.func22, by kernel_rfl, by kernel_rfl⟩
noncomputable def laws_eqRel.fn (x : Args tab laws_eqRel.s.ar) : Option (ResT tab laws_eqRel.s.rs) := laws_eqRel x.1 x.2
noncomputable abbrev laws_eqRel.k {δ : Type} : Callee (GT tab) δ := kS laws_eqRel.s laws_eqRel.fn
theorem laws_eqRel.con {δ : Type} : Con Tryz.prog (KT tab) 22 (laws_eqRel.k (δ := δ)) := con_shape (c := laws_eqRel.c) mixed tysOk (getG_con (laws_eqRel.gok _)) laws_eqRel.fok rfl rfl fun _ => rfl
theorem laws_eqRel.eq (x0 x1 : Int × Int × Int × (List Int) × Int × (List Int) × Int × (List Int) × (List (Int × (List Int))) × Int × (List Int) × (List (Int × (List Int))) × (List Int) × Int × (List Int) × Int × Int × Int × (List Int) × Int × Int × Int × (List Int)) : laws_eqRel x0 x1 =
    bif x0.1 != x1.1 then
      some false
    else
      bif x0.2.1 != x1.2.1 then
        some false
      else
        (laws_eqBits (x0.2.2.1, x0.2.2.2.1) (x1.2.2.1, x1.2.2.2.1)).bind fun y1 =>
        bif !y1 then
          some false
        else
          (laws_eqBits (x0.2.2.2.2.1, x0.2.2.2.2.2.1) (x1.2.2.2.2.1, x1.2.2.2.2.2.1)).bind fun y2 =>
          bif !y2 then
            some false
          else
            (laws_eqWave (x0.2.2.2.2.2.2.1, x0.2.2.2.2.2.2.2.1, x0.2.2.2.2.2.2.2.2.1) (x1.2.2.2.2.2.2.1, x1.2.2.2.2.2.2.2.1, x1.2.2.2.2.2.2.2.2.1)).bind fun y3 =>
            bif !y3 then
              some false
            else
              (laws_eqWave (x0.2.2.2.2.2.2.2.2.2.1, x0.2.2.2.2.2.2.2.2.2.2.1, x0.2.2.2.2.2.2.2.2.2.2.2.1) (x1.2.2.2.2.2.2.2.2.2.1, x1.2.2.2.2.2.2.2.2.2.2.1, x1.2.2.2.2.2.2.2.2.2.2.2.1)).bind fun y4 =>
              bif !y4 then
                some false
              else
                (laws_eqIntS x0.2.2.2.2.2.2.2.2.2.2.2.2.1 x1.2.2.2.2.2.2.2.2.2.2.2.2.1).bind fun y5 =>
                bif !y5 then
                  some false
                else
                  (laws_eqBits (x0.2.2.2.2.2.2.2.2.2.2.2.2.2.1, x0.2.2.2.2.2.2.2.2.2.2.2.2.2.2.1) (x1.2.2.2.2.2.2.2.2.2.2.2.2.2.1, x1.2.2.2.2.2.2.2.2.2.2.2.2.2.2.1)).bind fun y6 =>
                  bif !y6 then
                    some false
                  else
                    (laws_eqPacked (x0.2.2.2.2.2.2.2.2.2.2.2.2.2.2.2.1, x0.2.2.2.2.2.2.2.2.2.2.2.2.2.2.2.2.1, x0.2.2.2.2.2.2.2.2.2.2.2.2.2.2.2.2.2.1, x0.2.2.2.2.2.2.2.2.2.2.2.2.2.2.2.2.2.2.1) (x1.2.2.2.2.2.2.2.2.2.2.2.2.2.2.2.1, x1.2.2.2.2.2.2.2.2.2.2.2.2.2.2.2.2.1, x1.2.2.2.2.2.2.2.2.2.2.2.2.2.2.2.2.2.1, x1.2.2.2.2.2.2.2.2.2.2.2.2.2.2.2.2.2.2.1)).bind fun y7 =>
                    bif !y7 then
                      some false
                    else
                      (laws_eqPacked x0.2.2.2.2.2.2.2.2.2.2.2.2.2.2.2.2.2.2.2 x1.2.2.2.2.2.2.2.2.2.2.2.2.2.2.2.2.2.2.2).bind fun y8 =>
                      bif !y8 then
                        some false
                      else
                        some true := by kernel_rfl

end Go.Ev.W
