/- What functions of the program come to. -/
import Derived.Test.YtmobcecmjpfpiaaPpT
namespace Go.Ev.W
open Go.Ev Go.Proofs
set_option maxRecDepth 100000
set_option linter.unusedVariables false

noncomputable abbrev spec_l01List.s : Sg := ⟨[.lend], [.agg [.int .i64, .sl false false 94]], ⟨[vo 3], [none]⟩, Try.f57⟩
noncomputable def spec_l01List.gs (δ : Type) : List (Nat × Callee (GT tab) δ) := []
theorem spec_l01List.gok (δ : Type) : AllCon Try.prog tab (spec_l01List.gs δ) := .nil
noncomputable def spec_l01List.c := cx spec_l01List.s [] [(3, [1, 3, 4]), (7, [1, 3, 4, 5, 6])] false (spec_l01List.gs _)
noncomputable def spec_l01List (x0 : Int × (List Int)) : Option (List Int) := fnW spec_l01List.s spec_l01List.c x0
theorem spec_l01List.fok : FkS spec_l01List.s 57 := ⟨Try.func57, by kernel_rfl, by kernel_rfl⟩
noncomputable def spec_l01List.fn (x : Args tab spec_l01List.s.ar) : Option (ResT tab spec_l01List.s.rs) := spec_l01List x
noncomputable abbrev spec_l01List.k {δ : Type} : Callee (GT tab) δ := kS spec_l01List.s spec_l01List.fn
theorem spec_l01List.con {δ : Type} : Con Try.prog (KT tab) 57 (spec_l01List.k (δ := δ)) := con_shape (c := spec_l01List.c) mixed tysOk (getG_con (spec_l01List.gok _)) spec_l01List.fok rfl rfl fun _ => rfl
noncomputable def spec_l01List_l0 (v0 v1 : Int) (v2 v3 : List Int) : Option (List Int) := lpW spec_l01List.s spec_l01List.c 0 (ud 30 [.undef, .ptr 0 0, .undef, .sl 1 0, .int .i64 v0]) [.box 32 [.int .i64 v1, .vs false 94 v2], .row 0 true 3 v3] 2
noncomputable def spec_l01List_l1 (v0 v1 v2 v3 : Int) (v4 v5 : List Int) : Option (List Int) := lpW spec_l01List.s spec_l01List.c 1 (ud 28 [.undef, .ptr 0 0, .undef, .sl 1 0, .int .i64 v0, .int .u64 v1, .int .i64 v2]) [.box 32 [.int .i64 v3, .vs false 94 v4], .row 0 true 3 v5] 2
theorem spec_l01List.eq (x0 : Int × (List Int)) : spec_l01List x0 =
    spec_l01List_l0 (0 : Int) x0.1 x0.2 ([] : List Int) := by kernel_rfl
theorem spec_l01List_l0.eq (v0 v1 : Int) (v2 v3 : List Int) : spec_l01List_l0 v0 v1 v2 v3 =
    bif decide (v0 < v1) then
      (at? v2 (IntKind.i64.wrap (v0.tdiv (64 : Int)))).bind fun y1 =>
      spec_l01List_l1 v0 y1 (v0.tmod (64 : Int)) v1 v2 v3
    else
      some v3 := (Lw_eq tysOk (getG_con (spec_l01List.gok _)) _ _).trans (by kernel_rfl)
theorem spec_l01List_l1.eq (v0 v1 v2 v3 : Int) (v4 v5 : List Int) : spec_l01List_l1 v0 v1 v2 v3 v4 v5 =
    bif decide (v2 > (0 : Int)) then
      spec_l01List_l1 v0 (IntKind.u64.wrap (v1.tdiv (2 : Int))) (IntKind.i64.wrap (v2 - (1 : Int))) v3 v4 v5
    else
      bif decide ((v5.length + ([IntKind.i64.wrap (v1.tmod (2 : Int))] : List Int).length) * 8 ≤ 140737488355328) then
        spec_l01List_l0 (IntKind.i64.wrap (v0 + (1 : Int))) v3 v4 (v5 ++ ([IntKind.i64.wrap (v1.tmod (2 : Int))] : List Int))
      else
        none := (Lw_eq tysOk (getG_con (spec_l01List.gok _)) _ _).trans (by kernel_rfl)

noncomputable abbrev spec_l01Power.s : Sg := ⟨[.lend], [vi], ⟨[.one (.b (.b (.b (.b (.int .u64)))))], [none]⟩, Try.f104⟩
noncomputable def spec_l01Power.gs (δ : Type) : List (Nat × Callee (GT tab) δ) := []
theorem spec_l01Power.gok (δ : Type) : AllCon Try.prog tab (spec_l01Power.gs δ) := .nil
noncomputable def spec_l01Power.c := cx spec_l01Power.s [] [(2, [0, 3])] false (spec_l01Power.gs _)
noncomputable def spec_l01Power (x0 : Int) : Option (Int) := fnW spec_l01Power.s spec_l01Power.c x0
theorem spec_l01Power.fok : FkS spec_l01Power.s 104 := ⟨Try.func104, by kernel_rfl, by kernel_rfl⟩
noncomputable def spec_l01Power.fn (x : Args tab spec_l01Power.s.ar) : Option (ResT tab spec_l01Power.s.rs) := spec_l01Power x
noncomputable abbrev spec_l01Power.k {δ : Type} : Callee (GT tab) δ := kS spec_l01Power.s spec_l01Power.fn
theorem spec_l01Power.con {δ : Type} : Con Try.prog (KT tab) 104 (spec_l01Power.k (δ := δ)) := con_shape (c := spec_l01Power.c) mixed tysOk (getG_con (spec_l01Power.gok _)) spec_l01Power.fok rfl rfl fun _ => rfl
noncomputable def spec_l01Power_l0 (v0 v1 : Int) : Option (Int) := lpW spec_l01Power.s spec_l01Power.c 0 (ud 7 [.int .i64 v0, .undef, .undef, .int .u64 v1]) [] 0
theorem spec_l01Power.eq (x0 : Int) : spec_l01Power x0 =
    spec_l01Power_l0 x0 (1 : Int) := by kernel_rfl
theorem spec_l01Power_l0.eq (v0 v1 : Int) : spec_l01Power_l0 v0 v1 =
    bif decide (v0 > (0 : Int)) then
      spec_l01Power_l0 (IntKind.i64.wrap (v0 - (1 : Int))) (IntKind.u64.wrap ((2 : Int) * v1))
    else
      some v1 := (Lw_eq tysOk (getG_con (spec_l01Power.gok _)) _ _).trans (by kernel_rfl)

noncomputable abbrev spec_BitsOf.s : Sg := ⟨[.lend], [vl 3], ⟨[.agg [.int .i64, .sl true true 94], vb], [none]⟩, Try.f56⟩
noncomputable def spec_BitsOf.gs (δ : Type) : List (Nat × Callee (GT tab) δ) := [(104, spec_l01Power.k)]
theorem spec_BitsOf.gok (δ : Type) : AllCon Try.prog tab (spec_BitsOf.gs δ) := .cons spec_l01Power.con .nil
noncomputable def spec_BitsOf.c := cx spec_BitsOf.s [9] [(5, [0, 2, 4, 5]), (9, [0, 2, 4, 5])] false (spec_BitsOf.gs _)
noncomputable def spec_BitsOf (x0 : List Int) : Option ((Int × (List Int)) × Bool) := fnW spec_BitsOf.s spec_BitsOf.c x0
theorem spec_BitsOf.fok : FkS spec_BitsOf.s 56 := ⟨Try.func56, by kernel_rfl, by kernel_rfl⟩
noncomputable def spec_BitsOf.fn (x : Args tab spec_BitsOf.s.ar) : Option (ResT tab spec_BitsOf.s.rs) := spec_BitsOf x
noncomputable abbrev spec_BitsOf.k {δ : Type} : Callee (GT tab) δ := kS spec_BitsOf.s spec_BitsOf.fn
theorem spec_BitsOf.con {δ : Type} : Con Try.prog (KT tab) 56 (spec_BitsOf.k (δ := δ)) := con_shape (c := spec_BitsOf.c) mixed tysOk (getG_con (spec_BitsOf.gok _)) spec_BitsOf.fok rfl rfl fun _ => rfl
noncomputable def spec_BitsOf_l0 (v0 : List Int) (v1 v2 : Int) (v3 : List Int) (v4 : Int) (v5 : List Int) : Option ((Int × (List Int)) × Bool) := lpW spec_BitsOf.s spec_BitsOf.c 0 (ud 55 [.vs false 3 v0, .undef, .ptr 0 0, .undef, .ptr 2 0, .int .i64 v1]) [.box 32 [.int .i64 v2, .sl 1 0], .row 0 true 94 v3, .box 32 [.int .i64 v4, .sl 3 0], .row 0 true 94 v5] 4
noncomputable def spec_BitsOf_l1 (v0 : List Int) (v1 v2 : Int) (v3 : List Int) (v4 : Int) (v5 : List Int) : Option ((Int × (List Int)) × Bool) := lpW spec_BitsOf.s spec_BitsOf.c 1 (ud 55 [.vs false 3 v0, .undef, .ptr 0 0, .undef, .ptr 2 0, .int .i64 v1]) [.box 32 [.int .i64 v2, .sl 1 0], .row 0 true 94 v3, .box 32 [.int .i64 v4, .sl 3 0], .row 0 true 94 v5] 4
theorem spec_BitsOf.eq (x0 : List Int) : spec_BitsOf x0 =
    bif decide ((x0.length : Int) > (5000 : Int)) then
      some (((0 : Int), ([] : List Int)), false)
    else
      spec_BitsOf_l0 x0 (0 : Int) (0 : Int) ([] : List Int) (x0.length : Int) ([] : List Int) := by kernel_rfl
theorem spec_BitsOf_l0.eq (v0 : List Int) (v1 v2 : Int) (v3 : List Int) (v4 : Int) (v5 : List Int) : spec_BitsOf_l0 v0 v1 v2 v3 v4 v5 =
    bif decide (v1 < (v0.length : Int)) then
      (at? v0 v1).bind fun y1 =>
      bif y1 != (0 : Int) then
        (at? v0 v1).bind fun y2 =>
        bif y2 != (1 : Int) then
          some (((0 : Int), ([] : List Int)), false)
        else
          spec_BitsOf_l1 v0 v1 v2 v3 v4 v5
      else
        spec_BitsOf_l1 v0 v1 v2 v3 v4 v5
    else
      some ((v4, v5), true) := (Lw_eq tysOk (getG_con (spec_BitsOf.gok _)) _ _).trans (by kernel_rfl)
theorem spec_BitsOf_l1.eq (v0 : List Int) (v1 v2 : Int) (v3 : List Int) (v4 : Int) (v5 : List Int) : spec_BitsOf_l1 v0 v1 v2 v3 v4 v5 =
    bif v1.tmod (64 : Int) == (0 : Int) then
      bif decide ((v5.length + ([(0 : Int)] : List Int).length) * 8 ≤ 140737488355328) then
        (at? v0 v1).bind fun y1 =>
        bif y1 == (1 : Int) then
          (at? (v5 ++ ([(0 : Int)] : List Int)) (IntKind.i64.wrap (v1.tdiv (64 : Int)))).bind fun y2 =>
          (v5 ++ ([(0 : Int)] : List Int))[(IntKind.i64.wrap (v1.tdiv (64 : Int))).toNat]?.bind fun y3 =>
          (spec_l01Power (v1.tmod (64 : Int))).bind fun y4 =>
          (at? (v5 ++ ([(0 : Int)] : List Int)) (IntKind.i64.wrap (v1.tdiv (64 : Int)))).bind fun y5 =>
          (v5 ++ ([(0 : Int)] : List Int))[(IntKind.i64.wrap (v1.tdiv (64 : Int))).toNat]?.bind fun y6 =>
          spec_BitsOf_l0 v0 (IntKind.i64.wrap (v1 + (1 : Int))) v2 v3 v4 ((v5 ++ ([(0 : Int)] : List Int)).set ((IntKind.i64.wrap (v1.tdiv (64 : Int))).toNat) (IntKind.u64.wrap (y3 + y4)))
        else
          spec_BitsOf_l0 v0 (IntKind.i64.wrap (v1 + (1 : Int))) v2 v3 v4 (v5 ++ ([(0 : Int)] : List Int))
      else
        none
    else
      (at? v0 v1).bind fun y7 =>
      bif y7 == (1 : Int) then
        (at? v5 (IntKind.i64.wrap (v1.tdiv (64 : Int)))).bind fun y8 =>
        v5[(IntKind.i64.wrap (v1.tdiv (64 : Int))).toNat]?.bind fun y9 =>
        (spec_l01Power (v1.tmod (64 : Int))).bind fun y10 =>
        (at? v5 (IntKind.i64.wrap (v1.tdiv (64 : Int)))).bind fun y11 =>
        v5[(IntKind.i64.wrap (v1.tdiv (64 : Int))).toNat]?.bind fun y12 =>
        spec_BitsOf_l0 v0 (IntKind.i64.wrap (v1 + (1 : Int))) v2 v3 v4 (v5.set ((IntKind.i64.wrap (v1.tdiv (64 : Int))).toNat) (IntKind.u64.wrap (y9 + y10)))
      else
        spec_BitsOf_l0 v0 (IntKind.i64.wrap (v1 + (1 : Int))) v2 v3 v4 v5 := (Lw_eq tysOk (getG_con (spec_BitsOf.gok _)) _ _).trans (by kernel_rfl)

noncomputable abbrev spec_BitsOk.s : Sg := ⟨[.lend], [.agg [.int .i64, .sl false false 94]], ⟨[vb], [none]⟩, Try.f20⟩
noncomputable def spec_BitsOk.gs (δ : Type) : List (Nat × Callee (GT tab) δ) := [(56, spec_BitsOf.k), (57, spec_l01List.k)]
theorem spec_BitsOk.gok (δ : Type) : AllCon Try.prog tab (spec_BitsOk.gs δ) := .cons spec_BitsOf.con (.cons spec_l01List.con .nil)
noncomputable def spec_BitsOk.c := cx spec_BitsOk.s [3] [(3, [1]), (5, [1, 3, 5])] false (spec_BitsOk.gs _)
noncomputable def spec_BitsOk (x0 : Int × (List Int)) : Option (Bool) := fnW spec_BitsOk.s spec_BitsOk.c x0
theorem spec_BitsOk.fok : FkS spec_BitsOk.s 20 := ⟨Try.func20, by kernel_rfl, by kernel_rfl⟩
noncomputable def spec_BitsOk.fn (x : Args tab spec_BitsOk.s.ar) : Option (ResT tab spec_BitsOk.s.rs) := spec_BitsOk x
noncomputable abbrev spec_BitsOk.k {δ : Type} : Callee (GT tab) δ := kS spec_BitsOk.s spec_BitsOk.fn
theorem spec_BitsOk.con {δ : Type} : Con Try.prog (KT tab) 20 (spec_BitsOk.k (δ := δ)) := con_shape (c := spec_BitsOk.c) mixed tysOk (getG_con (spec_BitsOk.gok _)) spec_BitsOk.fok rfl rfl fun _ => rfl
noncomputable def spec_BitsOk_l0 (v0 : Int) (v1 : List Int) : Option (Bool) := lpW spec_BitsOk.s spec_BitsOk.c 0 (ud 46 [.undef, .ptr 0 0]) [.box 32 [.int .i64 v0, .vs false 94 v1]] 1
noncomputable def spec_BitsOk_l1 (v0 v1 : Int) (v2 : List Int) (v3 : Int) (v4 : List Int) : Option (Bool) := lpW spec_BitsOk.s spec_BitsOk.c 1 (ud 42 [.undef, .ptr 0 0, .undef, .ptr 1 0, .undef, .int .i64 v0]) [.box 32 [.int .i64 v1, .vs false 94 v2], .box 32 [.int .i64 v3, .sl 2 0], .row 0 true 94 v4] 3
theorem spec_BitsOk.eq (x0 : Int × (List Int)) : spec_BitsOk x0 =
    bif decide (x0.1 < (0 : Int)) then
      some false
    else
      bif decide (x0.1 > (5000 : Int)) then
        some false
      else
        bif (x0.2.length : Int) != IntKind.i64.wrap ((IntKind.i64.wrap (x0.1 + (63 : Int))).tdiv (64 : Int)) then
          some false
        else
          spec_BitsOk_l0 x0.1 x0.2 := by kernel_rfl
theorem spec_BitsOk_l0.eq (v0 : Int) (v1 : List Int) : spec_BitsOk_l0 v0 v1 =
    (spec_l01List (v0, v1)).bind fun y1 =>
    (spec_BitsOf y1).bind fun y2 =>
    spec_BitsOk_l1 (0 : Int) v0 v1 y2.1.1 y2.1.2 := (Lw_eq tysOk (getG_con (spec_BitsOk.gok _)) _ _).trans (by kernel_rfl)
theorem spec_BitsOk_l1.eq (v0 v1 : Int) (v2 : List Int) (v3 : Int) (v4 : List Int) : spec_BitsOk_l1 v0 v1 v2 v3 v4 =
    bif decide (v0 < (v2.length : Int)) then
      (at? v2 v0).bind fun y1 =>
      (at? v4 v0).bind fun y2 =>
      v4[v0.toNat]?.bind fun y3 =>
      bif y1 != y3 then
        some false
      else
        spec_BitsOk_l1 (IntKind.i64.wrap (v0 + (1 : Int))) v1 v2 v3 v4
    else
      some true := (Lw_eq tysOk (getG_con (spec_BitsOk.gok _)) _ _).trans (by kernel_rfl)

noncomputable abbrev impl_within.s : Sg := ⟨[.lend, .lend, .lend], [vi, vi, vi], ⟨[vb], [none, none, none]⟩, Try.f77⟩
noncomputable def impl_within.gs (δ : Type) : List (Nat × Callee (GT tab) δ) := []
theorem impl_within.gok (δ : Type) : AllCon Try.prog tab (impl_within.gs δ) := .nil
noncomputable def impl_within.c := cx impl_within.s [] [] false (impl_within.gs _)
noncomputable def impl_within (x0 x1 x2 : Int) : Option (Bool) := fnW impl_within.s impl_within.c (x0, x1, x2)
theorem impl_within.fok : FkS impl_within.s 77 := ⟨Try.func77, by kernel_rfl, by kernel_rfl⟩
noncomputable def impl_within.fn (x : Args tab impl_within.s.ar) : Option (ResT tab impl_within.s.rs) := impl_within x.1 x.2.1 x.2.2
noncomputable abbrev impl_within.k {δ : Type} : Callee (GT tab) δ := kS impl_within.s impl_within.fn
theorem impl_within.con {δ : Type} : Con Try.prog (KT tab) 77 (impl_within.k (δ := δ)) := con_shape (c := impl_within.c) mixed tysOk (getG_con (impl_within.gok _)) impl_within.fok rfl rfl fun _ => rfl
theorem impl_within.eq (x0 x1 x2 : Int) : impl_within x0 x1 x2 =
    bif decide (x1 ≤ x0) then
      some (decide (x0 ≤ x2))
    else
      some false := by kernel_rfl

noncomputable abbrev impl_BitsOk.s : Sg := ⟨[.lend], [.agg [.int .i64, .sl false false 94]], ⟨[vb], [none]⟩, Try.f59⟩
noncomputable def impl_BitsOk.gs (δ : Type) : List (Nat × Callee (GT tab) δ) := [(77, impl_within.k)]
theorem impl_BitsOk.gok (δ : Type) : AllCon Try.prog tab (impl_BitsOk.gs δ) := .cons impl_within.con .nil
noncomputable def impl_BitsOk.c := cx impl_BitsOk.s [] [] false (impl_BitsOk.gs _)
noncomputable def impl_BitsOk (x0 : Int × (List Int)) : Option (Bool) := fnW impl_BitsOk.s impl_BitsOk.c x0
theorem impl_BitsOk.fok : FkS impl_BitsOk.s 59 := ⟨Try.func59, by kernel_rfl, by kernel_rfl⟩
noncomputable def impl_BitsOk.fn (x : Args tab impl_BitsOk.s.ar) : Option (ResT tab impl_BitsOk.s.rs) := impl_BitsOk x
noncomputable abbrev impl_BitsOk.k {δ : Type} : Callee (GT tab) δ := kS impl_BitsOk.s impl_BitsOk.fn
theorem impl_BitsOk.con {δ : Type} : Con Try.prog (KT tab) 59 (impl_BitsOk.k (δ := δ)) := con_shape (c := impl_BitsOk.c) mixed tysOk (getG_con (impl_BitsOk.gok _)) impl_BitsOk.fok rfl rfl fun _ => rfl
theorem impl_BitsOk.eq (x0 : Int × (List Int)) : impl_BitsOk x0 =
    (impl_within x0.1 (0 : Int) (5000 : Int)).bind fun y1 =>
    bif !y1 then
      some false
    else
      bif (x0.2.length : Int) != IntKind.i64.wrap ((IntKind.i64.wrap ((IntKind.i64.wrap (x0.1 + (64 : Int))) - (1 : Int))).tdiv (64 : Int)) then
        some false
      else
        bif x0.1.tmod (64 : Int) == (0 : Int) then
          some true
        else
          (at? x0.2 (IntKind.i64.wrap ((x0.2.length : Int) - (1 : Int)))).bind fun y2 =>
          bif decide (x0.1.tmod (64 : Int) < (0 : Int)) then
            none
          else
            some (y2.fdiv (2 ^ (min (x0.1.tmod (64 : Int)).toNat 64)) == (0 : Int)) := by kernel_rfl

noncomputable abbrev impl_Bits_at.s : Sg := ⟨[.lend, .lend], [.agg [.int .i64, .sl false false 94], vi], ⟨[vi], [none, none]⟩, Try.f108⟩
noncomputable def impl_Bits_at.gs (δ : Type) : List (Nat × Callee (GT tab) δ) := []
theorem impl_Bits_at.gok (δ : Type) : AllCon Try.prog tab (impl_Bits_at.gs δ) := .nil
noncomputable def impl_Bits_at.c := cx impl_Bits_at.s [] [] false (impl_Bits_at.gs _)
noncomputable def impl_Bits_at (x0 : Int × (List Int)) (x1 : Int) : Option (Int) := fnW impl_Bits_at.s impl_Bits_at.c (x0, x1)
theorem impl_Bits_at.fok : FkS impl_Bits_at.s 108 := ⟨Try.func108, by kernel_rfl, by kernel_rfl⟩
noncomputable def impl_Bits_at.fn (x : Args tab impl_Bits_at.s.ar) : Option (ResT tab impl_Bits_at.s.rs) := impl_Bits_at x.1 x.2
noncomputable abbrev impl_Bits_at.k {δ : Type} : Callee (GT tab) δ := kS impl_Bits_at.s impl_Bits_at.fn
theorem impl_Bits_at.con {δ : Type} : Con Try.prog (KT tab) 108 (impl_Bits_at.k (δ := δ)) := con_shape (c := impl_Bits_at.c) mixed tysOk (getG_con (impl_Bits_at.gok _)) impl_Bits_at.fok rfl rfl fun _ => rfl
theorem impl_Bits_at.eq (x0 : Int × (List Int)) (x1 : Int) : impl_Bits_at x0 x1 =
    (at? x0.2 (IntKind.i64.wrap (x1.tdiv (64 : Int)))).bind fun y1 =>
    bif decide (x1.tmod (64 : Int) < (0 : Int)) then
      none
    else
      some (IntKind.i64.wrap (IntKind.u64.wrap (((BitVec.ofInt 64 (y1.fdiv (2 ^ (min (x1.tmod (64 : Int)).toNat 64)))) &&& (BitVec.ofInt 64 (1 : Int))).toNat : Int))) := by kernel_rfl

noncomputable abbrev impl_Bits_list.s : Sg := ⟨[.lend], [.agg [.int .i64, .sl false false 94]], ⟨[vo 3], [none]⟩, Try.f68⟩
noncomputable def impl_Bits_list.gs (δ : Type) : List (Nat × Callee (GT tab) δ) := [(108, impl_Bits_at.k)]
theorem impl_Bits_list.gok (δ : Type) : AllCon Try.prog tab (impl_Bits_list.gs δ) := .cons impl_Bits_at.con .nil
noncomputable def impl_Bits_list.c := cx impl_Bits_list.s [] [(3, [1, 3, 6, 7])] false (impl_Bits_list.gs _)
noncomputable def impl_Bits_list (x0 : Int × (List Int)) : Option (List Int) := fnW impl_Bits_list.s impl_Bits_list.c x0
theorem impl_Bits_list.fok : FkS impl_Bits_list.s 68 := ⟨Try.func68, by kernel_rfl, by kernel_rfl⟩
noncomputable def impl_Bits_list.fn (x : Args tab impl_Bits_list.s.ar) : Option (ResT tab impl_Bits_list.s.rs) := impl_Bits_list x
noncomputable abbrev impl_Bits_list.k {δ : Type} : Callee (GT tab) δ := kS impl_Bits_list.s impl_Bits_list.fn
theorem impl_Bits_list.con {δ : Type} : Con Try.prog (KT tab) 68 (impl_Bits_list.k (δ := δ)) := con_shape (c := impl_Bits_list.c) mixed tysOk (getG_con (impl_Bits_list.gok _)) impl_Bits_list.fok rfl rfl fun _ => rfl
noncomputable def impl_Bits_list_l0 (v0 v1 v2 : Int) (v3 v4 : List Int) : Option (List Int) := lpW impl_Bits_list.s impl_Bits_list.c 0 (ud 10 [.undef, .ptr 0 0, .undef, .sl 1 0, .undef, .undef, .int .i64 v0, .int .i64 v1]) [.box 32 [.int .i64 v2, .vs false 94 v3], .row 0 true 3 v4] 2
theorem impl_Bits_list.eq (x0 : Int × (List Int)) : impl_Bits_list x0 =
    impl_Bits_list_l0 x0.1 (0 : Int) x0.1 x0.2 ([] : List Int) := by kernel_rfl
theorem impl_Bits_list_l0.eq (v0 v1 v2 : Int) (v3 v4 : List Int) : impl_Bits_list_l0 v0 v1 v2 v3 v4 =
    bif decide (v1 < v0) then
      (impl_Bits_at (v2, v3) v1).bind fun y1 =>
      bif decide ((v4.length + ([y1] : List Int).length) * 8 ≤ 140737488355328) then
        impl_Bits_list_l0 v0 (IntKind.i64.wrap (v1 + (1 : Int))) v2 v3 (v4 ++ ([y1] : List Int))
      else
        none
    else
      some v4 := (Lw_eq tysOk (getG_con (impl_Bits_list.gok _)) _ _).trans (by kernel_rfl)

noncomputable abbrev impl_BitsList.s : Sg := ⟨[.lend], [.agg [.int .i64, .sl false false 94]], ⟨[vo 3], [none]⟩, Try.f91⟩
noncomputable def impl_BitsList.gs (δ : Type) : List (Nat × Callee (GT tab) δ) := [(59, impl_BitsOk.k), (68, impl_Bits_list.k)]
theorem impl_BitsList.gok (δ : Type) : AllCon Try.prog tab (impl_BitsList.gs δ) := .cons impl_BitsOk.con (.cons impl_Bits_list.con .nil)
noncomputable def impl_BitsList.c := cx impl_BitsList.s [] [] false (impl_BitsList.gs _)
noncomputable def impl_BitsList (x0 : Int × (List Int)) : Option (List Int) := fnW impl_BitsList.s impl_BitsList.c x0
theorem impl_BitsList.fok : FkS impl_BitsList.s 91 := ⟨Try.func91, by kernel_rfl, by kernel_rfl⟩
noncomputable def impl_BitsList.fn (x : Args tab impl_BitsList.s.ar) : Option (ResT tab impl_BitsList.s.rs) := impl_BitsList x
noncomputable abbrev impl_BitsList.k {δ : Type} : Callee (GT tab) δ := kS impl_BitsList.s impl_BitsList.fn
theorem impl_BitsList.con {δ : Type} : Con Try.prog (KT tab) 91 (impl_BitsList.k (δ := δ)) := con_shape (c := impl_BitsList.c) mixed tysOk (getG_con (impl_BitsList.gok _)) impl_BitsList.fok rfl rfl fun _ => rfl
theorem impl_BitsList.eq (x0 : Int × (List Int)) : impl_BitsList x0 =
    (impl_BitsOk x0).bind fun y1 =>
    bif !y1 then
      some ([] : List Int)
    else
      (impl_Bits_list x0).bind fun y2 =>
      some y2 := by kernel_rfl

end Go.Ev.W
