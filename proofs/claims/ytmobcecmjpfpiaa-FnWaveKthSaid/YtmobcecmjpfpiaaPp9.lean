/- What functions of the program come to. -/
import Derived.Test.YtmobcecmjpfpiaaPpT
import Derived.Test.YtmobcecmjpfpiaaPp3
namespace Go.Ev.W
open Go.Ev Go.Proofs
set_option maxRecDepth 100000
set_option linter.unusedVariables false

noncomputable abbrev impl_count.s : Sg := ⟨[.lend, .lend], [vl 3, vi], ⟨[vi], [none, none]⟩, Try.f67⟩
noncomputable def impl_count.gs (δ : Type) : List (Nat × Callee (GT tab) δ) := []
theorem impl_count.gok (δ : Type) : AllCon Try.prog tab (impl_count.gs δ) := .nil
noncomputable def impl_count.c := cx impl_count.s [] [(3, [1, 5, 8, 9, 10])] false (impl_count.gs _)
noncomputable def impl_count (x0 : List Int) (x1 : Int) : Option (Int) := fnW impl_count.s impl_count.c (x0, x1)
theorem impl_count.fok : FkS impl_count.s 67 := ⟨Try.func67, by kernel_rfl, by kernel_rfl⟩
noncomputable def impl_count.fn (x : Args tab impl_count.s.ar) : Option (ResT tab impl_count.s.rs) := impl_count x.1 x.2
noncomputable abbrev impl_count.k {δ : Type} : Callee (GT tab) δ := kS impl_count.s impl_count.fn
theorem impl_count.con {δ : Type} : Con Try.prog (KT tab) 67 (impl_count.k (δ := δ)) := con_shape (c := impl_count.c) mixed tysOk (getG_con (impl_count.gok _)) impl_count.fok rfl rfl fun _ => rfl
noncomputable def impl_count_l0 (v0 v1 : Int) (v2 : List Int) (v3 v4 : Int) : Option (Int) := lpW impl_count.s impl_count.c 0 (ud 10 [.undef, .int .i64 v0, .undef, .undef, .undef, .int .i64 v1, .undef, .undef, .vs false 3 v2, .int .i64 v3, .int .i64 v4]) [] 0
theorem impl_count.eq (x0 : List Int) (x1 : Int) : impl_count x0 x1 =
    impl_count_l0 x1 (0 : Int) x0 (x0.length : Int) (0 : Int) := by kernel_rfl
theorem impl_count_l0.eq (v0 v1 : Int) (v2 : List Int) (v3 v4 : Int) : impl_count_l0 v0 v1 v2 v3 v4 =
    bif decide (v4 < v3) then
      (at? v2 v4).bind fun y1 =>
      bif y1 == v0 then
        impl_count_l0 v0 (IntKind.i64.wrap (v1 + (1 : Int))) v2 v3 (IntKind.i64.wrap (v4 + (1 : Int)))
      else
        impl_count_l0 v0 v1 v2 v3 (IntKind.i64.wrap (v4 + (1 : Int)))
    else
      some v1 := (Lw_eq tysOk (getG_con (impl_count.gok _)) _ _).trans (by kernel_rfl)

noncomputable abbrev impl_Wave_read.s : Sg := ⟨[.lend], [.agg [.int .i64, .sl false false 3, .sl false false 32]], ⟨[vo 3, vb], [none]⟩, Try.f75⟩
noncomputable def impl_Wave_read.gs (δ : Type) : List (Nat × Callee (GT tab) δ) := [(59, impl_BitsOk.k), (67, impl_count.k), (77, impl_within.k), (91, impl_BitsList.k)]
theorem impl_Wave_read.gok (δ : Type) : AllCon Try.prog tab (impl_Wave_read.gs δ) := .cons impl_BitsOk.con (.cons impl_count.con (.cons impl_within.con (.cons impl_BitsList.con .nil)))
noncomputable def impl_Wave_read.c := cx impl_Wave_read.s [3, 15] [(3, [1]), (5, [1, 4, 5, 40, 41]), (10, [1, 4, 5, 50, 51, 52]), (15, [1, 4, 5, 7, 9, 50, 51, 52]), (17, [1, 4, 5, 9, 10, 11, 12, 50, 51, 52, 87, 88, 89]), (24, [1, 4, 5, 9, 10, 50, 51, 52, 109, 110, 111])] false (impl_Wave_read.gs _)
noncomputable def impl_Wave_read (x0 : Int × (List Int) × (List (Int × (List Int)))) : Option ((List Int) × Bool) := fnW impl_Wave_read.s impl_Wave_read.c x0
theorem impl_Wave_read.fok : FkS impl_Wave_read.s 75 := ⟨Try.func75, by kernel_rfl, by kernel_rfl⟩
noncomputable def impl_Wave_read.fn (x : Args tab impl_Wave_read.s.ar) : Option (ResT tab impl_Wave_read.s.rs) := impl_Wave_read x
noncomputable abbrev impl_Wave_read.k {δ : Type} : Callee (GT tab) δ := kS impl_Wave_read.s impl_Wave_read.fn
theorem impl_Wave_read.con {δ : Type} : Con Try.prog (KT tab) 75 (impl_Wave_read.k (δ := δ)) := con_shape (c := impl_Wave_read.c) mixed tysOk (getG_con (impl_Wave_read.gok _)) impl_Wave_read.fok rfl rfl fun _ => rfl
noncomputable def impl_Wave_read_l0 (v0 : Int) (v1 : List Int) (v2 : List (Int × (List Int))) : Option ((List Int) × Bool) := lpW impl_Wave_read.s impl_Wave_read.c 0 (ud 137 [.undef, .ptr 0 0]) [.box 49 [.int .i64 v0, .vs false 3 v1, .vs false 32 v2]] 1
noncomputable def impl_Wave_read_l1 (v0 v1 v2 : Int) (v3 : List Int) (v4 : List (Int × (List Int))) (v5 v6 : List Int) : Option ((List Int) × Bool) := lpW impl_Wave_read.s impl_Wave_read.c 1 (ud 97 [.undef, .ptr 0 0, .undef, .undef, .sl 1 0, .sl 2 0, .undef, .undef, .undef, .undef, .undef, .undef, .undef, .undef, .undef, .undef, .undef, .undef, .undef, .undef, .undef, .undef, .undef, .undef, .undef, .undef, .undef, .undef, .undef, .undef, .undef, .undef, .undef, .undef, .undef, .undef, .undef, .undef, .undef, .undef, .int .i64 v0, .int .i64 v1]) [.box 49 [.int .i64 v2, .vs false 3 v3, .vs false 32 v4], .row 0 true 3 v5, .row 0 true 3 v6] 3
noncomputable def impl_Wave_read_l2 (v0 : List (Int × (List Int))) (v1 v2 v3 : Int) (v4 : List Int) (v5 : List (Int × (List Int))) (v6 v7 : List Int) : Option ((List Int) × Bool) := lpW impl_Wave_read.s impl_Wave_read.c 2 (ud 86 [.undef, .ptr 0 0, .undef, .undef, .sl 1 0, .sl 2 0, .undef, .undef, .undef, .undef, .undef, .undef, .undef, .undef, .undef, .undef, .undef, .undef, .undef, .undef, .undef, .undef, .undef, .undef, .undef, .undef, .undef, .undef, .undef, .undef, .undef, .undef, .undef, .undef, .undef, .undef, .undef, .undef, .undef, .undef, .undef, .undef, .undef, .undef, .undef, .undef, .undef, .undef, .undef, .undef, .vs false 32 v0, .int .i64 v1, .int .i64 v2]) [.box 49 [.int .i64 v3, .vs false 3 v4, .vs false 32 v5], .row 0 true 3 v6, .row 0 true 3 v7] 3
noncomputable def impl_Wave_read_l3 (v0 : Int) (v1 : List (Int × (List Int))) (v2 v3 v4 : Int) (v5 : List Int) (v6 : List (Int × (List Int))) (v7 v8 v9 : List Int) : Option ((List Int) × Bool) := lpW impl_Wave_read.s impl_Wave_read.c 3 (ud 86 [.undef, .ptr 0 0, .undef, .undef, .sl 1 0, .sl 2 0, .undef, .int .i64 v0, .undef, .sl 3 0, .undef, .undef, .undef, .undef, .undef, .undef, .undef, .undef, .undef, .undef, .undef, .undef, .undef, .undef, .undef, .undef, .undef, .undef, .undef, .undef, .undef, .undef, .undef, .undef, .undef, .undef, .undef, .undef, .undef, .undef, .undef, .undef, .undef, .undef, .undef, .undef, .undef, .undef, .undef, .undef, .vs false 32 v1, .int .i64 v2, .int .i64 v3]) [.box 49 [.int .i64 v4, .vs false 3 v5, .vs false 32 v6], .row 0 true 3 v7, .row 0 true 3 v8, .row 0 true 3 v9] 4
noncomputable def impl_Wave_read_l4 (v0 v1 : Int) (v2 : List (Int × (List Int))) (v3 v4 v5 v6 v7 : Int) (v8 : List Int) (v9 : List (Int × (List Int))) (v10 v11 v12 v13 : List Int) : Option ((List Int) × Bool) := lpW impl_Wave_read.s impl_Wave_read.c 4 (ud 49 [.undef, .ptr 0 0, .undef, .undef, .sl 1 0, .sl 2 0, .undef, .undef, .undef, .sl 3 0, .sl 4 0, .int .i64 v0, .int .i64 v1, .undef, .undef, .undef, .undef, .undef, .undef, .undef, .undef, .undef, .undef, .undef, .undef, .undef, .undef, .undef, .undef, .undef, .undef, .undef, .undef, .undef, .undef, .undef, .undef, .undef, .undef, .undef, .undef, .undef, .undef, .undef, .undef, .undef, .undef, .undef, .undef, .undef, .vs false 32 v2, .int .i64 v3, .int .i64 v4, .undef, .undef, .undef, .undef, .undef, .undef, .undef, .undef, .undef, .undef, .undef, .undef, .undef, .undef, .undef, .undef, .undef, .undef, .undef, .undef, .undef, .undef, .undef, .undef, .undef, .undef, .undef, .undef, .undef, .undef, .undef, .undef, .undef, .undef, .sl 3 0, .int .i64 v5, .int .i64 v6]) [.box 49 [.int .i64 v7, .vs false 3 v8, .vs false 32 v9], .row 0 true 3 v10, .row 0 true 3 v11, .row 0 true 3 v12, .row 0 true 3 v13] 5
noncomputable def impl_Wave_read_l5 (v0 : List (Int × (List Int))) (v1 v2 v3 v4 v5 : Int) (v6 : List Int) (v7 : List (Int × (List Int))) (v8 v9 v10 v11 : List Int) : Option ((List Int) × Bool) := lpW impl_Wave_read.s impl_Wave_read.c 5 (ud 27 [.undef, .ptr 0 0, .undef, .undef, .sl 1 0, .sl 2 0, .undef, .undef, .undef, .sl 3 0, .sl 4 0, .undef, .undef, .undef, .undef, .undef, .undef, .undef, .undef, .undef, .undef, .undef, .undef, .undef, .undef, .undef, .undef, .undef, .undef, .undef, .undef, .undef, .undef, .undef, .undef, .undef, .undef, .undef, .undef, .undef, .undef, .undef, .undef, .undef, .undef, .undef, .undef, .undef, .undef, .undef, .vs false 32 v0, .int .i64 v1, .int .i64 v2, .undef, .undef, .undef, .undef, .undef, .undef, .undef, .undef, .undef, .undef, .undef, .undef, .undef, .undef, .undef, .undef, .undef, .undef, .undef, .undef, .undef, .undef, .undef, .undef, .undef, .undef, .undef, .undef, .undef, .undef, .undef, .undef, .undef, .undef, .undef, .undef, .undef, .undef, .undef, .undef, .undef, .undef, .undef, .undef, .undef, .undef, .undef, .undef, .undef, .undef, .undef, .undef, .undef, .undef, .undef, .undef, .sl 2 0, .int .i64 v3, .int .i64 v4]) [.box 49 [.int .i64 v5, .vs false 3 v6, .vs false 32 v7], .row 0 true 3 v8, .row 0 true 3 v9, .row 0 true 3 v10, .row 0 true 3 v11] 5
theorem impl_Wave_read.eq (x0 : Int × (List Int) × (List (Int × (List Int)))) : impl_Wave_read x0 =
    (impl_within x0.1 (0 : Int) (1000 : Int)).bind fun y1 =>
    bif !y1 then
      some (([] : List Int), false)
    else
      bif (x0.2.1.length : Int) != (9 : Int) then
        some (([] : List Int), false)
      else
        bif (x0.2.2.length : Int) != (9 : Int) then
          some (([] : List Int), false)
        else
          impl_Wave_read_l0 x0.1 x0.2.1 x0.2.2 := by kernel_rfl
theorem impl_Wave_read_l0.eq (v0 : Int) (v1 : List Int) (v2 : List (Int × (List Int))) : impl_Wave_read_l0 v0 v1 v2 =
    bif decide ((0 : Int) ≤ v0) && decide (v0.toNat * 8 ≤ 140737488355328) then
      bif decide ((0 : Int) ≤ v0) && decide (v0.toNat * 8 ≤ 140737488355328) then
        impl_Wave_read_l1 ((List.replicate v0.toNat (0 : Int)).length : Int) (0 : Int) v0 v1 v2 (List.replicate v0.toNat (0 : Int)) (List.replicate v0.toNat (0 : Int))
      else
        none
    else
      none := (Lw_eq tysOk (getG_con (impl_Wave_read.gok _)) _ _).trans (by kernel_rfl)
theorem impl_Wave_read_l1.eq (v0 v1 v2 : Int) (v3 : List Int) (v4 : List (Int × (List Int))) (v5 v6 : List Int) : impl_Wave_read_l1 v0 v1 v2 v3 v4 v5 v6 =
    bif decide (v1 < v0) then
      (at? v6 v1).bind fun y1 =>
      v6[v1.toNat]?.bind fun y2 =>
      impl_Wave_read_l1 v0 (IntKind.i64.wrap (v1 + (1 : Int))) v2 v3 v4 v5 (v6.set v1.toNat v1)
    else
      impl_Wave_read_l2 v4 (v4.length : Int) (0 : Int) v2 v3 v4 v5 v6 := (Lw_eq tysOk (getG_con (impl_Wave_read.gok _)) _ _).trans (by kernel_rfl)
theorem impl_Wave_read_l2.eq (v0 : List (Int × (List Int))) (v1 v2 v3 : Int) (v4 : List Int) (v5 : List (Int × (List Int))) (v6 v7 : List Int) : impl_Wave_read_l2 v0 v1 v2 v3 v4 v5 v6 v7 =
    bif decide (v2 < v1) then
      (at? v0 v2).bind fun y1 =>
      (impl_BitsList y1).bind fun y2 =>
      (impl_BitsOk y1).bind fun y3 =>
      bif !y3 then
        some (([] : List Int), false)
      else
        bif y1.1 != v3 then
          some (([] : List Int), false)
        else
          (impl_count y2 (0 : Int)).bind fun y4 =>
          (at? v4 v2).bind fun y5 =>
          bif y4 != y5 then
            some (([] : List Int), false)
          else
            impl_Wave_read_l3 v2 v0 v1 v2 v3 v4 v5 v6 v7 y2
    else
      some (v6, true) := (Lw_eq tysOk (getG_con (impl_Wave_read.gok _)) _ _).trans (by kernel_rfl)
theorem impl_Wave_read_l3.eq (v0 : Int) (v1 : List (Int × (List Int))) (v2 v3 v4 : Int) (v5 : List Int) (v6 : List (Int × (List Int))) (v7 v8 v9 : List Int) : impl_Wave_read_l3 v0 v1 v2 v3 v4 v5 v6 v7 v8 v9 =
    bif decide ((0 : Int) ≤ v4) && decide (v4.toNat * 8 ≤ 140737488355328) then
      (at? v5 v0).bind fun y1 =>
      impl_Wave_read_l4 (0 : Int) y1 v1 v2 v3 (v9.length : Int) (0 : Int) v4 v5 v6 v7 v8 v9 (List.replicate v4.toNat (0 : Int))
    else
      none := (Lw_eq tysOk (getG_con (impl_Wave_read.gok _)) _ _).trans (by kernel_rfl)
theorem impl_Wave_read_l4.eq (v0 v1 : Int) (v2 : List (Int × (List Int))) (v3 v4 v5 v6 v7 : Int) (v8 : List Int) (v9 : List (Int × (List Int))) (v10 v11 v12 v13 : List Int) : impl_Wave_read_l4 v0 v1 v2 v3 v4 v5 v6 v7 v8 v9 v10 v11 v12 v13 =
    bif decide (v6 < v5) then
      (at? v12 v6).bind fun y1 =>
      v12[v6.toNat]?.bind fun y2 =>
      bif y2 == (0 : Int) then
        (at? v13 v6).bind fun y3 =>
        v13[v6.toNat]?.bind fun y4 =>
        impl_Wave_read_l4 (IntKind.i64.wrap (v0 + (1 : Int))) v1 v2 v3 v4 v5 (IntKind.i64.wrap (v6 + (1 : Int))) v7 v8 v9 v10 v11 v12 (v13.set v6.toNat v0)
      else
        (at? v13 v6).bind fun y5 =>
        v13[v6.toNat]?.bind fun y6 =>
        impl_Wave_read_l4 v0 (IntKind.i64.wrap (v1 + (1 : Int))) v2 v3 v4 v5 (IntKind.i64.wrap (v6 + (1 : Int))) v7 v8 v9 v10 v11 v12 (v13.set v6.toNat v1)
    else
      impl_Wave_read_l5 v2 v3 v4 (v11.length : Int) (0 : Int) v7 v8 v9 v10 v11 v12 v13 := (Lw_eq tysOk (getG_con (impl_Wave_read.gok _)) _ _).trans (by kernel_rfl)
theorem impl_Wave_read_l5.eq (v0 : List (Int × (List Int))) (v1 v2 v3 v4 v5 : Int) (v6 : List Int) (v7 : List (Int × (List Int))) (v8 v9 v10 v11 : List Int) : impl_Wave_read_l5 v0 v1 v2 v3 v4 v5 v6 v7 v8 v9 v10 v11 =
    bif decide (v4 < v3) then
      (at? v9 v4).bind fun y1 =>
      v9[v4.toNat]?.bind fun y2 =>
      (at? v8 v4).bind fun y3 =>
      v8[v4.toNat]?.bind fun y4 =>
      (at? v10 y2).bind fun y5 =>
      v10[y2.toNat]?.bind fun y6 =>
      (at? v8 v4).bind fun y7 =>
      v8[v4.toNat]?.bind fun y8 =>
      (at? v11 y2).bind fun y9 =>
      v11[y2.toNat]?.bind fun y10 =>
      (at? v9 v4).bind fun y11 =>
      v9[v4.toNat]?.bind fun y12 =>
      impl_Wave_read_l5 v0 v1 v2 v3 (IntKind.i64.wrap (v4 + (1 : Int))) v5 v6 v7 (v8.set v4.toNat (IntKind.i64.wrap (((BitVec.ofInt 64 (IntKind.i64.wrap (y4 * 2 ^ 1))) ||| (BitVec.ofInt 64 y6)).toNat : Int))) (v9.set v4.toNat y10) v10 v11
    else
      impl_Wave_read_l2 v0 v1 (IntKind.i64.wrap (v2 + (1 : Int))) v5 v6 v7 v8 v9 := (Lw_eq tysOk (getG_con (impl_Wave_read.gok _)) _ _).trans (by kernel_rfl)

noncomputable abbrev spec_l01Bit.s : Sg := ⟨[.lend], [vi], ⟨[vb], [none]⟩, Try.f105⟩
noncomputable def spec_l01Bit.gs (δ : Type) : List (Nat × Callee (GT tab) δ) := []
theorem spec_l01Bit.gok (δ : Type) : AllCon Try.prog tab (spec_l01Bit.gs δ) := .nil
noncomputable def spec_l01Bit.c := cx spec_l01Bit.s [] [] false (spec_l01Bit.gs _)
noncomputable def spec_l01Bit (x0 : Int) : Option (Bool) := fnW spec_l01Bit.s spec_l01Bit.c x0
theorem spec_l01Bit.fok : FkS spec_l01Bit.s 105 := ⟨Try.func105, by kernel_rfl, by kernel_rfl⟩
noncomputable def spec_l01Bit.fn (x : Args tab spec_l01Bit.s.ar) : Option (ResT tab spec_l01Bit.s.rs) := spec_l01Bit x
noncomputable abbrev spec_l01Bit.k {δ : Type} : Callee (GT tab) δ := kS spec_l01Bit.s spec_l01Bit.fn
theorem spec_l01Bit.con {δ : Type} : Con Try.prog (KT tab) 105 (spec_l01Bit.k (δ := δ)) := con_shape (c := spec_l01Bit.c) mixed tysOk (getG_con (spec_l01Bit.gok _)) spec_l01Bit.fok rfl rfl fun _ => rfl
theorem spec_l01Bit.eq (x0 : Int) : spec_l01Bit x0 =
    bif x0 == (0 : Int) then
      some true
    else
      some (x0 == (1 : Int)) := by kernel_rfl

noncomputable abbrev spec_Rank.s : Sg := ⟨[.lend, .lend, .lend], [.agg [.int .i64, .sl false false 94], vi, vi], ⟨[vi], [none, none, none]⟩, Try.f58⟩
noncomputable def spec_Rank.gs (δ : Type) : List (Nat × Callee (GT tab) δ) := [(20, spec_BitsOk.k), (57, spec_l01List.k), (105, spec_l01Bit.k)]
theorem spec_Rank.gok (δ : Type) : AllCon Try.prog tab (spec_Rank.gs δ) := .cons spec_BitsOk.con (.cons spec_l01List.con (.cons spec_l01Bit.con .nil))
noncomputable def spec_Rank.c := cx spec_Rank.s [3] [(3, [1, 2, 3]), (6, [1, 2, 7, 8, 9])] false (spec_Rank.gs _)
noncomputable def spec_Rank (x0 : Int × (List Int)) (x1 x2 : Int) : Option (Int) := fnW spec_Rank.s spec_Rank.c (x0, x1, x2)
theorem spec_Rank.fok : FkS spec_Rank.s 58 := ⟨Try.func58, by kernel_rfl, by kernel_rfl⟩
noncomputable def spec_Rank.fn (x : Args tab spec_Rank.s.ar) : Option (ResT tab spec_Rank.s.rs) := spec_Rank x.1 x.2.1 x.2.2
noncomputable abbrev spec_Rank.k {δ : Type} : Callee (GT tab) δ := kS spec_Rank.s spec_Rank.fn
theorem spec_Rank.con {δ : Type} : Con Try.prog (KT tab) 58 (spec_Rank.k (δ := δ)) := con_shape (c := spec_Rank.c) mixed tysOk (getG_con (spec_Rank.gok _)) spec_Rank.fok rfl rfl fun _ => rfl
noncomputable def spec_Rank_l0 (v0 v1 v2 : Int) (v3 : List Int) : Option (Int) := lpW spec_Rank.s spec_Rank.c 0 (ud 40 [.undef, .int .i64 v0, .int .i64 v1, .ptr 0 0]) [.box 32 [.int .i64 v2, .vs false 94 v3]] 1
noncomputable def spec_Rank_l1 (v0 v1 v2 v3 : Int) (v4 : List Int) : Option (Int) := lpW spec_Rank.s spec_Rank.c 1 (ud 34 [.undef, .int .i64 v0, .int .i64 v1, .undef, .undef, .undef, .undef, .sl 0 0, .int .i64 v2, .int .i64 v3]) [.row 0 true 3 v4] 1
theorem spec_Rank.eq (x0 : Int × (List Int)) (x1 x2 : Int) : spec_Rank x0 x1 x2 =
    (spec_BitsOk x0).bind fun y1 =>
    bif !y1 then
      some (-1 : Int)
    else
      (spec_l01Bit x1).bind fun y2 =>
      bif !y2 then
        some (-1 : Int)
      else
        bif decide (x2 < (0 : Int)) then
          some (-1 : Int)
        else
          bif decide (x2 > x0.1) then
            some (-1 : Int)
          else
            spec_Rank_l0 x1 x2 x0.1 x0.2 := by kernel_rfl
theorem spec_Rank_l0.eq (v0 v1 v2 : Int) (v3 : List Int) : spec_Rank_l0 v0 v1 v2 v3 =
    (spec_l01List (v2, v3)).bind fun y1 =>
    spec_Rank_l1 v0 v1 (0 : Int) (0 : Int) y1 := (Lw_eq tysOk (getG_con (spec_Rank.gok _)) _ _).trans (by kernel_rfl)
theorem spec_Rank_l1.eq (v0 v1 v2 v3 : Int) (v4 : List Int) : spec_Rank_l1 v0 v1 v2 v3 v4 =
    bif decide (v3 < v1) then
      (at? v4 v3).bind fun y1 =>
      v4[v3.toNat]?.bind fun y2 =>
      bif y2 == v0 then
        spec_Rank_l1 v0 v1 (IntKind.i64.wrap (v2 + (1 : Int))) (IntKind.i64.wrap (v3 + (1 : Int))) v4
      else
        spec_Rank_l1 v0 v1 v2 (IntKind.i64.wrap (v3 + (1 : Int))) v4
    else
      some v2 := (Lw_eq tysOk (getG_con (spec_Rank.gok _)) _ _).trans (by kernel_rfl)

noncomputable abbrev spec_WaveOk.s : Sg := ⟨[.lend], [.agg [.int .i64, .sl false false 3, .sl false false 32]], ⟨[vb], [none]⟩, Try.f22⟩
noncomputable def spec_WaveOk.gs (δ : Type) : List (Nat × Callee (GT tab) δ) := [(20, spec_BitsOk.k), (58, spec_Rank.k)]
theorem spec_WaveOk.gok (δ : Type) : AllCon Try.prog tab (spec_WaveOk.gs δ) := .cons spec_BitsOk.con (.cons spec_Rank.con .nil)
noncomputable def spec_WaveOk.c := cx spec_WaveOk.s [3] [(3, [1]), (4, [1, 3])] false (spec_WaveOk.gs _)
noncomputable def spec_WaveOk (x0 : Int × (List Int) × (List (Int × (List Int)))) : Option (Bool) := fnW spec_WaveOk.s spec_WaveOk.c x0
theorem spec_WaveOk.fok : FkS spec_WaveOk.s 22 := ⟨Try.func22, by kernel_rfl, by kernel_rfl⟩
noncomputable def spec_WaveOk.fn (x : Args tab spec_WaveOk.s.ar) : Option (ResT tab spec_WaveOk.s.rs) := spec_WaveOk x
noncomputable abbrev spec_WaveOk.k {δ : Type} : Callee (GT tab) δ := kS spec_WaveOk.s spec_WaveOk.fn
theorem spec_WaveOk.con {δ : Type} : Con Try.prog (KT tab) 22 (spec_WaveOk.k (δ := δ)) := con_shape (c := spec_WaveOk.c) mixed tysOk (getG_con (spec_WaveOk.gok _)) spec_WaveOk.fok rfl rfl fun _ => rfl
noncomputable def spec_WaveOk_l0 (v0 : Int) (v1 : List Int) (v2 : List (Int × (List Int))) : Option (Bool) := lpW spec_WaveOk.s spec_WaveOk.c 0 (ud 60 [.undef, .ptr 0 0]) [.box 49 [.int .i64 v0, .vs false 3 v1, .vs false 32 v2]] 1
noncomputable def spec_WaveOk_l1 (v0 v1 : Int) (v2 : List Int) (v3 : List (Int × (List Int))) : Option (Bool) := lpW spec_WaveOk.s spec_WaveOk.c 1 (ud 58 [.undef, .ptr 0 0, .undef, .int .i64 v0]) [.box 49 [.int .i64 v1, .vs false 3 v2, .vs false 32 v3]] 1
theorem spec_WaveOk.eq (x0 : Int × (List Int) × (List (Int × (List Int)))) : spec_WaveOk x0 =
    bif decide (x0.1 < (0 : Int)) then
      some false
    else
      bif decide (x0.1 > (1000 : Int)) then
        some false
      else
        bif (x0.2.2.length : Int) != (9 : Int) then
          some false
        else
          bif (x0.2.1.length : Int) != (9 : Int) then
            some false
          else
            spec_WaveOk_l0 x0.1 x0.2.1 x0.2.2 := by kernel_rfl
theorem spec_WaveOk_l0.eq (v0 : Int) (v1 : List Int) (v2 : List (Int × (List Int))) : spec_WaveOk_l0 v0 v1 v2 =
    spec_WaveOk_l1 (0 : Int) v0 v1 v2 := (Lw_eq tysOk (getG_con (spec_WaveOk.gok _)) _ _).trans (by kernel_rfl)
theorem spec_WaveOk_l1.eq (v0 v1 : Int) (v2 : List Int) (v3 : List (Int × (List Int))) : spec_WaveOk_l1 v0 v1 v2 v3 =
    bif decide (v0 < (9 : Int)) then
      (at? v3 v0).bind fun y1 =>
      bif y1.1 != v1 then
        some false
      else
        (at? v3 v0).bind fun y2 =>
        (spec_BitsOk y2).bind fun y3 =>
        bif !y3 then
          some false
        else
          (at? v3 v0).bind fun y4 =>
          (spec_Rank y4 (0 : Int) v1).bind fun y5 =>
          (at? v2 v0).bind fun y6 =>
          bif y5 != y6 then
            some false
          else
            spec_WaveOk_l1 (IntKind.i64.wrap (v0 + (1 : Int))) v1 v2 v3
    else
      some true := (Lw_eq tysOk (getG_con (spec_WaveOk.gok _)) _ _).trans (by kernel_rfl)

noncomputable abbrev spec_l07List.s : Sg := ⟨[.lend], [.agg [.int .i64, .sl false false 3, .sl false false 32]], ⟨[vo 3], [none]⟩, Try.f69⟩
noncomputable def spec_l07List.gs (δ : Type) : List (Nat × Callee (GT tab) δ) := [(57, spec_l01List.k)]
theorem spec_l07List.gok (δ : Type) : AllCon Try.prog tab (spec_l07List.gs δ) := .cons spec_l01List.con .nil
noncomputable def spec_l07List.c := cx spec_l07List.s [] [(4, [1, 3, 4, 5]), (8, [1, 3, 4, 6]), (13, [1, 3, 4, 6, 7, 8, 9]), (19, [1, 3, 4, 6, 7, 8, 9, 10, 11, 12, 13])] false (spec_l07List.gs _)
noncomputable def spec_l07List (x0 : Int × (List Int) × (List (Int × (List Int)))) : Option (List Int) := fnW spec_l07List.s spec_l07List.c x0
theorem spec_l07List.fok : FkS spec_l07List.s 69 := ⟨Try.func69, by kernel_rfl, by kernel_rfl⟩
noncomputable def spec_l07List.fn (x : Args tab spec_l07List.s.ar) : Option (ResT tab spec_l07List.s.rs) := spec_l07List x
noncomputable abbrev spec_l07List.k {δ : Type} : Callee (GT tab) δ := kS spec_l07List.s spec_l07List.fn
theorem spec_l07List.con {δ : Type} : Con Try.prog (KT tab) 69 (spec_l07List.k (δ := δ)) := con_shape (c := spec_l07List.c) mixed tysOk (getG_con (spec_l07List.gok _)) spec_l07List.fok rfl rfl fun _ => rfl
noncomputable def spec_l07List_l0 (v0 v1 : Int) (v2 : List Int) (v3 : List (Int × (List Int))) (v4 : List Int) (v5 : List (List Int)) : Option (List Int) := lpW spec_l07List.s spec_l07List.c 0 (ud 88 [.undef, .ptr 0 0, .undef, .sl 1 0, .sl 2 0, .int .i64 v0]) [.box 49 [.int .i64 v1, .vs false 3 v2, .vs false 32 v3], .row 0 true 3 v4, .row 0 true 30 v5] 3
noncomputable def spec_l07List_l1 (v0 v1 : Int) (v2 : List Int) (v3 : List (Int × (List Int))) (v4 : List Int) (v5 : List (List Int)) : Option (List Int) := lpW spec_l07List.s spec_l07List.c 1 (ud 87 [.undef, .ptr 0 0, .undef, .sl 1 0, .sl 2 0, .undef, .int .i64 v0]) [.box 49 [.int .i64 v1, .vs false 3 v2, .vs false 32 v3], .row 0 true 3 v4, .row 0 true 30 v5] 3
noncomputable def spec_l07List_l2 (v0 v1 v2 v3 v4 : Int) (v5 : List Int) (v6 : List (Int × (List Int))) (v7 : List Int) (v8 : List (List Int)) : Option (List Int) := lpW spec_l07List.s spec_l07List.c 2 (ud 84 [.undef, .ptr 0 0, .undef, .sl 1 0, .sl 2 0, .undef, .int .i64 v0, .int .i64 v1, .int .i64 v2, .int .i64 v3]) [.box 49 [.int .i64 v4, .vs false 3 v5, .vs false 32 v6], .row 0 true 3 v7, .row 0 true 30 v8] 3
noncomputable def spec_l07List_l3 (v0 v1 v2 v3 v4 v5 v6 v7 v8 : Int) (v9 : List Int) (v10 : List (Int × (List Int))) (v11 : List Int) (v12 : List (List Int)) : Option (List Int) := lpW spec_l07List.s spec_l07List.c 3 (ud 80 [.undef, .ptr 0 0, .undef, .sl 1 0, .sl 2 0, .undef, .int .i64 v0, .int .i64 v1, .int .i64 v2, .int .i64 v3, .int .i64 v4, .int .i64 v5, .int .i64 v6, .int .i64 v7]) [.box 49 [.int .i64 v8, .vs false 3 v9, .vs false 32 v10], .row 0 true 3 v11, .row 0 true 30 v12] 3
theorem spec_l07List.eq (x0 : Int × (List Int) × (List (Int × (List Int)))) : spec_l07List x0 =
    spec_l07List_l0 (0 : Int) x0.1 x0.2.1 x0.2.2 ([] : List Int) ([] : List (List Int)) := by kernel_rfl
theorem spec_l07List_l0.eq (v0 v1 : Int) (v2 : List Int) (v3 : List (Int × (List Int))) (v4 : List Int) (v5 : List (List Int)) : spec_l07List_l0 v0 v1 v2 v3 v4 v5 =
    bif decide (v0 < (9 : Int)) then
      (at? v3 v0).bind fun y1 =>
      (spec_l01List y1).bind fun y2 =>
      bif decide ((v5.length + ([y2] : List (List Int)).length) * 24 ≤ 140737488355328) then
        spec_l07List_l0 (IntKind.i64.wrap (v0 + (1 : Int))) v1 v2 v3 v4 (v5 ++ ([y2] : List (List Int)))
      else
        none
    else
      spec_l07List_l1 (0 : Int) v1 v2 v3 v4 v5 := (Lw_eq tysOk (getG_con (spec_l07List.gok _)) _ _).trans (by kernel_rfl)
theorem spec_l07List_l1.eq (v0 v1 : Int) (v2 : List Int) (v3 : List (Int × (List Int))) (v4 : List Int) (v5 : List (List Int)) : spec_l07List_l1 v0 v1 v2 v3 v4 v5 =
    bif decide (v0 < v1) then
      spec_l07List_l2 v0 v0 (0 : Int) (0 : Int) v1 v2 v3 v4 v5
    else
      some v4 := (Lw_eq tysOk (getG_con (spec_l07List.gok _)) _ _).trans (by kernel_rfl)
theorem spec_l07List_l2.eq (v0 v1 v2 v3 v4 : Int) (v5 : List Int) (v6 : List (Int × (List Int))) (v7 : List Int) (v8 : List (List Int)) : spec_l07List_l2 v0 v1 v2 v3 v4 v5 v6 v7 v8 =
    bif decide (v3 < (9 : Int)) then
      (at? v8 v3).bind fun y1 =>
      v8[v3.toNat]?.bind fun y2 =>
      (at? y2 v1).bind fun y3 =>
      y2[v1.toNat]?.bind fun y4 =>
      spec_l07List_l3 v0 v1 v2 v3 y4 (0 : Int) (0 : Int) (0 : Int) v4 v5 v6 v7 (v8.set v3.toNat y2)
    else
      bif decide ((v7.length + ([v2] : List Int).length) * 8 ≤ 140737488355328) then
        spec_l07List_l1 (IntKind.i64.wrap (v0 + (1 : Int))) v4 v5 v6 (v7 ++ ([v2] : List Int)) v8
      else
        none := (Lw_eq tysOk (getG_con (spec_l07List.gok _)) _ _).trans (by kernel_rfl)
theorem spec_l07List_l3.eq (v0 v1 v2 v3 v4 v5 v6 v7 v8 : Int) (v9 : List Int) (v10 : List (Int × (List Int))) (v11 : List Int) (v12 : List (List Int)) : spec_l07List_l3 v0 v1 v2 v3 v4 v5 v6 v7 v8 v9 v10 v11 v12 =
    bif decide (v7 < v8) then
      (at? v12 v3).bind fun y1 =>
      v12[v3.toNat]?.bind fun y2 =>
      (at? y2 v7).bind fun y3 =>
      y2[v7.toNat]?.bind fun y4 =>
      bif y4 == (0 : Int) then
        bif decide (v7 < v1) then
          (at? (v12.set v3.toNat y2) v3).bind fun y5 =>
          (v12.set v3.toNat y2)[v3.toNat]?.bind fun y6 =>
          (at? y6 v7).bind fun y7 =>
          y6[v7.toNat]?.bind fun y8 =>
          bif y8 == v4 then
            spec_l07List_l3 v0 v1 v2 v3 v4 (IntKind.i64.wrap (v5 + (1 : Int))) (IntKind.i64.wrap (v6 + (1 : Int))) (IntKind.i64.wrap (v7 + (1 : Int))) v8 v9 v10 v11 ((v12.set v3.toNat y2).set v3.toNat y6)
          else
            spec_l07List_l3 v0 v1 v2 v3 v4 v5 (IntKind.i64.wrap (v6 + (1 : Int))) (IntKind.i64.wrap (v7 + (1 : Int))) v8 v9 v10 v11 ((v12.set v3.toNat y2).set v3.toNat y6)
        else
          spec_l07List_l3 v0 v1 v2 v3 v4 v5 (IntKind.i64.wrap (v6 + (1 : Int))) (IntKind.i64.wrap (v7 + (1 : Int))) v8 v9 v10 v11 (v12.set v3.toNat y2)
      else
        bif decide (v7 < v1) then
          (at? (v12.set v3.toNat y2) v3).bind fun y9 =>
          (v12.set v3.toNat y2)[v3.toNat]?.bind fun y10 =>
          (at? y10 v7).bind fun y11 =>
          y10[v7.toNat]?.bind fun y12 =>
          bif y12 == v4 then
            spec_l07List_l3 v0 v1 v2 v3 v4 (IntKind.i64.wrap (v5 + (1 : Int))) v6 (IntKind.i64.wrap (v7 + (1 : Int))) v8 v9 v10 v11 ((v12.set v3.toNat y2).set v3.toNat y10)
          else
            spec_l07List_l3 v0 v1 v2 v3 v4 v5 v6 (IntKind.i64.wrap (v7 + (1 : Int))) v8 v9 v10 v11 ((v12.set v3.toNat y2).set v3.toNat y10)
        else
          spec_l07List_l3 v0 v1 v2 v3 v4 v5 v6 (IntKind.i64.wrap (v7 + (1 : Int))) v8 v9 v10 v11 (v12.set v3.toNat y2)
    else
      bif v4 == (1 : Int) then
        spec_l07List_l2 v0 (IntKind.i64.wrap (v6 + v5)) (IntKind.i64.wrap ((IntKind.i64.wrap ((2 : Int) * v2)) + v4)) (IntKind.i64.wrap (v3 + (1 : Int))) v8 v9 v10 v11 v12
      else
        spec_l07List_l2 v0 v5 (IntKind.i64.wrap ((IntKind.i64.wrap ((2 : Int) * v2)) + v4)) (IntKind.i64.wrap (v3 + (1 : Int))) v8 v9 v10 v11 v12 := (Lw_eq tysOk (getG_con (spec_l07List.gok _)) _ _).trans (by kernel_rfl)

end Go.Ev.W
