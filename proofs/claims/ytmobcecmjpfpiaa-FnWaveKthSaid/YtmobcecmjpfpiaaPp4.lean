/- What functions of the program come to. -/
import Derived.Test.YtmobcecmjpfpiaaPpT
import Derived.Test.YtmobcecmjpfpiaaPp3
import Derived.Test.YtmobcecmjpfpiaaPp5
namespace Go.Ev.W
open Go.Ev Go.Proofs
set_option maxRecDepth 100000
set_option linter.unusedVariables false

noncomputable abbrev spec_PackOk.s : Sg := ⟨[.lend], [.agg [.int .i64, .int .i64, .int .i64, .sl false false 94]], ⟨[vb], [none]⟩, Try.f21⟩
noncomputable def spec_PackOk.gs (δ : Type) : List (Nat × Callee (GT tab) δ) := [(20, spec_BitsOk.k)]
theorem spec_PackOk.gok (δ : Type) : AllCon Try.prog tab (spec_PackOk.gs δ) := .cons spec_BitsOk.con .nil
noncomputable def spec_PackOk.c := cx spec_PackOk.s [] [] false (spec_PackOk.gs _)
noncomputable def spec_PackOk (x0 : Int × Int × Int × (List Int)) : Option (Bool) := fnW spec_PackOk.s spec_PackOk.c x0
theorem spec_PackOk.fok : FkS spec_PackOk.s 21 := ⟨Try.func21, by kernel_rfl, by kernel_rfl⟩
noncomputable def spec_PackOk.fn (x : Args tab spec_PackOk.s.ar) : Option (ResT tab spec_PackOk.s.rs) := spec_PackOk x
noncomputable abbrev spec_PackOk.k {δ : Type} : Callee (GT tab) δ := kS spec_PackOk.s spec_PackOk.fn
theorem spec_PackOk.con {δ : Type} : Con Try.prog (KT tab) 21 (spec_PackOk.k (δ := δ)) := con_shape (c := spec_PackOk.c) mixed tysOk (getG_con (spec_PackOk.gok _)) spec_PackOk.fok rfl rfl fun _ => rfl
theorem spec_PackOk.eq (x0 : Int × Int × Int × (List Int)) : spec_PackOk x0 =
    bif decide (x0.1 ≥ (0 : Int)) then
      bif decide (x0.1 ≤ (32 : Int)) then
        bif decide (x0.2.1 ≥ (0 : Int)) then
          bif decide (x0.2.1 ≤ (5000 : Int)) then
            (spec_BitsOk x0.2.2).bind fun y1 =>
            bif y1 then
              some (x0.2.2.1 == IntKind.i64.wrap (x0.1 * x0.2.1))
            else
              some false
          else
            some false
        else
          some false
      else
        some false
    else
      some false := by kernel_rfl

noncomputable abbrev spec_PackOf.s : Sg := ⟨[.lend, .lend], [vl 3, vi], ⟨[.agg [.int .i64, .int .i64, .int .i64, .sl true true 94], vb], [none, none]⟩, Try.f98⟩
noncomputable def spec_PackOf.gs (δ : Type) : List (Nat × Callee (GT tab) δ) := [(56, spec_BitsOf.k), (88, spec_l02Pow.k)]
theorem spec_PackOf.gok (δ : Type) : AllCon Try.prog tab (spec_PackOf.gs δ) := .cons spec_BitsOf.con (.cons spec_l02Pow.con .nil)
noncomputable def spec_PackOf.c := cx spec_PackOf.s [3, 10] [(3, [0, 1, 4]), (5, [0, 1, 4, 6, 7]), (10, [0, 1, 4, 6, 7, 8]), (11, [0, 1, 4, 6, 7, 8, 9])] false (spec_PackOf.gs _)
noncomputable def spec_PackOf (x0 : List Int) (x1 : Int) : Option ((Int × Int × Int × (List Int)) × Bool) := fnW spec_PackOf.s spec_PackOf.c (x0, x1)
theorem spec_PackOf.fok : FkS spec_PackOf.s 98 := ⟨Try.func98, by kernel_rfl, by kernel_rfl⟩
noncomputable def spec_PackOf.fn (x : Args tab spec_PackOf.s.ar) : Option (ResT tab spec_PackOf.s.rs) := spec_PackOf x.1 x.2
noncomputable abbrev spec_PackOf.k {δ : Type} : Callee (GT tab) δ := kS spec_PackOf.s spec_PackOf.fn
theorem spec_PackOf.con {δ : Type} : Con Try.prog (KT tab) 98 (spec_PackOf.k (δ := δ)) := con_shape (c := spec_PackOf.c) mixed tysOk (getG_con (spec_PackOf.gok _)) spec_PackOf.fok rfl rfl fun _ => rfl
noncomputable def spec_PackOf_l0 (v0 : List Int) (v1 v2 v3 v4 : Int) (v5 : List Int) : Option ((Int × Int × Int × (List Int)) × Bool) := lpW spec_PackOf.s spec_PackOf.c 0 (ud 68 [.vs false 3 v0, .int .i64 v1, .undef, .undef, .ptr 0 0]) [.box 34 [.int .i64 v2, .int .i64 v3, .int .i64 v4, .sl 1 0], .row 0 true 94 v5] 2
noncomputable def spec_PackOf_l1 (v0 : List Int) (v1 v2 v3 v4 v5 : Int) (v6 v7 : List Int) : Option ((Int × Int × Int × (List Int)) × Bool) := lpW spec_PackOf.s spec_PackOf.c 1 (ud 65 [.vs false 3 v0, .int .i64 v1, .undef, .undef, .ptr 0 0, .undef, .sl 2 0, .int .i64 v2]) [.box 34 [.int .i64 v3, .int .i64 v4, .int .i64 v5, .sl 1 0], .row 0 true 94 v6, .row 0 true 3 v7] 3
noncomputable def spec_PackOf_l2 (v0 : List Int) (v1 v2 v3 v4 v5 v6 : Int) (v7 v8 : List Int) : Option ((Int × Int × Int × (List Int)) × Bool) := lpW spec_PackOf.s spec_PackOf.c 2 (ud 64 [.vs false 3 v0, .int .i64 v1, .undef, .undef, .ptr 0 0, .undef, .sl 2 0, .int .i64 v2, .int .i64 v3]) [.box 34 [.int .i64 v4, .int .i64 v5, .int .i64 v6, .sl 1 0], .row 0 true 94 v7, .row 0 true 3 v8] 3
noncomputable def spec_PackOf_l3 (v0 : List Int) (v1 v2 v3 v4 v5 v6 v7 : Int) (v8 v9 : List Int) : Option ((Int × Int × Int × (List Int)) × Bool) := lpW spec_PackOf.s spec_PackOf.c 3 (ud 63 [.vs false 3 v0, .int .i64 v1, .undef, .undef, .ptr 0 0, .undef, .sl 2 0, .int .i64 v2, .int .i64 v3, .int .i64 v4]) [.box 34 [.int .i64 v5, .int .i64 v6, .int .i64 v7, .sl 1 0], .row 0 true 94 v8, .row 0 true 3 v9] 3
theorem spec_PackOf.eq (x0 : List Int) (x1 : Int) : spec_PackOf x0 x1 =
    bif decide (x1 < (0 : Int)) then
      some (((0 : Int), (0 : Int), (0 : Int), ([] : List Int)), false)
    else
      bif decide (x1 > (32 : Int)) then
        some (((0 : Int), (0 : Int), (0 : Int), ([] : List Int)), false)
      else
        bif decide ((x0.length : Int) > (5000 : Int)) then
          some (((0 : Int), (0 : Int), (0 : Int), ([] : List Int)), false)
        else
          bif decide (IntKind.i64.wrap ((x0.length : Int) * x1) > (5000 : Int)) then
            some (((0 : Int), (0 : Int), (0 : Int), ([] : List Int)), false)
          else
            spec_PackOf_l0 x0 x1 (0 : Int) (0 : Int) (0 : Int) ([] : List Int) := by kernel_rfl
theorem spec_PackOf_l0.eq (v0 : List Int) (v1 v2 v3 v4 : Int) (v5 : List Int) : spec_PackOf_l0 v0 v1 v2 v3 v4 v5 =
    spec_PackOf_l1 v0 v1 (0 : Int) v2 v3 v4 v5 ([] : List Int) := (Lw_eq tysOk (getG_con (spec_PackOf.gok _)) _ _).trans (by kernel_rfl)
theorem spec_PackOf_l1.eq (v0 : List Int) (v1 v2 v3 v4 v5 : Int) (v6 v7 : List Int) : spec_PackOf_l1 v0 v1 v2 v3 v4 v5 v6 v7 =
    bif decide (v2 < (v0.length : Int)) then
      (at? v0 v2).bind fun y1 =>
      bif decide (y1 < (0 : Int)) then
        some (((0 : Int), (0 : Int), (0 : Int), ([] : List Int)), false)
      else
        (spec_l02Pow v1).bind fun y2 =>
        bif decide (y1 ≥ y2) then
          some (((0 : Int), (0 : Int), (0 : Int), ([] : List Int)), false)
        else
          spec_PackOf_l2 v0 v1 v2 y1 v3 v4 v5 v6 v7
    else
      (spec_BitsOf v7).bind fun y3 =>
      some ((v1, (v0.length : Int), y3.1.1, y3.1.2), true) := (Lw_eq tysOk (getG_con (spec_PackOf.gok _)) _ _).trans (by kernel_rfl)
theorem spec_PackOf_l2.eq (v0 : List Int) (v1 v2 v3 v4 v5 v6 : Int) (v7 v8 : List Int) : spec_PackOf_l2 v0 v1 v2 v3 v4 v5 v6 v7 v8 =
    spec_PackOf_l3 v0 v1 v2 v3 (0 : Int) v4 v5 v6 v7 v8 := (Lw_eq tysOk (getG_con (spec_PackOf.gok _)) _ _).trans (by kernel_rfl)
theorem spec_PackOf_l3.eq (v0 : List Int) (v1 v2 v3 v4 v5 v6 v7 : Int) (v8 v9 : List Int) : spec_PackOf_l3 v0 v1 v2 v3 v4 v5 v6 v7 v8 v9 =
    bif decide (v4 < v1) then
      bif decide ((v9.length + ([v3.tmod (2 : Int)] : List Int).length) * 8 ≤ 140737488355328) then
        spec_PackOf_l3 v0 v1 v2 (IntKind.i64.wrap (v3.tdiv (2 : Int))) (IntKind.i64.wrap (v4 + (1 : Int))) v5 v6 v7 v8 (v9 ++ ([v3.tmod (2 : Int)] : List Int))
      else
        none
    else
      spec_PackOf_l1 v0 v1 (IntKind.i64.wrap (v2 + (1 : Int))) v5 v6 v7 v8 v9 := (Lw_eq tysOk (getG_con (spec_PackOf.gok _)) _ _).trans (by kernel_rfl)

noncomputable abbrev impl_PackOk.s : Sg := ⟨[.lend], [.agg [.int .i64, .int .i64, .int .i64, .sl false false 94]], ⟨[vb], [none]⟩, Try.f61⟩
noncomputable def impl_PackOk.gs (δ : Type) : List (Nat × Callee (GT tab) δ) := [(59, impl_BitsOk.k), (77, impl_within.k)]
theorem impl_PackOk.gok (δ : Type) : AllCon Try.prog tab (impl_PackOk.gs δ) := .cons impl_BitsOk.con (.cons impl_within.con .nil)
noncomputable def impl_PackOk.c := cx impl_PackOk.s [] [] false (impl_PackOk.gs _)
noncomputable def impl_PackOk (x0 : Int × Int × Int × (List Int)) : Option (Bool) := fnW impl_PackOk.s impl_PackOk.c x0
theorem impl_PackOk.fok : FkS impl_PackOk.s 61 := ⟨Try.func61, by kernel_rfl, by kernel_rfl⟩
noncomputable def impl_PackOk.fn (x : Args tab impl_PackOk.s.ar) : Option (ResT tab impl_PackOk.s.rs) := impl_PackOk x
noncomputable abbrev impl_PackOk.k {δ : Type} : Callee (GT tab) δ := kS impl_PackOk.s impl_PackOk.fn
theorem impl_PackOk.con {δ : Type} : Con Try.prog (KT tab) 61 (impl_PackOk.k (δ := δ)) := con_shape (c := impl_PackOk.c) mixed tysOk (getG_con (impl_PackOk.gok _)) impl_PackOk.fok rfl rfl fun _ => rfl
theorem impl_PackOk.eq (x0 : Int × Int × Int × (List Int)) : impl_PackOk x0 =
    (impl_within x0.1 (0 : Int) (32 : Int)).bind fun y1 =>
    bif y1 then
      (impl_within x0.2.1 (0 : Int) (5000 : Int)).bind fun y2 =>
      bif y2 then
        (impl_BitsOk x0.2.2).bind fun y3 =>
        bif y3 then
          some (x0.2.2.1 == IntKind.i64.wrap (x0.2.1 * x0.1))
        else
          some false
      else
        some false
    else
      some false := by kernel_rfl

end Go.Ev.W
