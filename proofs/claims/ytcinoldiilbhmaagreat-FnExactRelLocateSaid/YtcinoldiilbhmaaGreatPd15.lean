/- What functions of the program come to. -/
import Derived.Test.YtcinoldiilbhmaaGreatPdT
import Derived.Test.YtcinoldiilbhmaaGreatPd1
import Derived.Test.YtcinoldiilbhmaaGreatPd10
namespace Go.Ev.W
open Go.Ev Go.Proofs
set_option maxRecDepth 100000
set_option linter.unusedVariables false

noncomputable abbrev spec_FmIsa.s : Sg := ⟨[.lend, .lend], [.agg [.int .i64, .int .i64, .int .i64, .sl false false 3, .sl false false 41, .sl false false 3, .int .i64, .sl false false 157, .int .i64, .int .i64, .int .i64, .sl false false 157, .int .i64, .int .i64, .int .i64, .sl false false 157], vi], ⟨[vi], [none, none]⟩, Tryz.f84⟩
noncomputable def spec_FmIsa.gs (δ : Type) : List (Nat × Callee (GT tab) δ) := [(114, spec_l09Text.k), (129, spec_SuffixRows.k), (145, spec_Inverse.k)]
theorem spec_FmIsa.gok (δ : Type) : AllCon Tryz.prog tab (spec_FmIsa.gs δ) := .cons spec_l09Text.con (.cons spec_SuffixRows.con (.cons spec_Inverse.con .nil))
noncomputable def spec_FmIsa.c := cx spec_FmIsa.s [] [] false (spec_FmIsa.gs _)
noncomputable def spec_FmIsa (x0 : Int × Int × Int × (List Int) × (List (Int × (List Int))) × (List Int) × Int × (List Int) × Int × Int × Int × (List Int) × Int × Int × Int × (List Int)) (x1 : Int) : Option (Int) := fnW spec_FmIsa.s spec_FmIsa.c (x0, x1)
theorem spec_FmIsa.fok : FkS spec_FmIsa.s 84 := ⟨Tryz.func84, by kernel_rfl, by kernel_rfl⟩
noncomputable def spec_FmIsa.fn (x : Args tab spec_FmIsa.s.ar) : Option (ResT tab spec_FmIsa.s.rs) := spec_FmIsa x.1 x.2
noncomputable abbrev spec_FmIsa.k {δ : Type} : Callee (GT tab) δ := kS spec_FmIsa.s spec_FmIsa.fn
theorem spec_FmIsa.con {δ : Type} : Con Tryz.prog (KT tab) 84 (spec_FmIsa.k (δ := δ)) := con_shape (c := spec_FmIsa.c) mixed tysOk (getG_con (spec_FmIsa.gok _)) spec_FmIsa.fok rfl rfl fun _ => rfl
theorem spec_FmIsa.eq (x0 : Int × Int × Int × (List Int) × (List (Int × (List Int))) × (List Int) × Int × (List Int) × Int × Int × Int × (List Int) × Int × Int × Int × (List Int)) (x1 : Int) : spec_FmIsa x0 x1 =
    (spec_l09Text x0).bind fun y1 =>
    bif !y1.2 then
      some (-1 : Int)
    else
      bif decide (x1 < (0 : Int)) then
        some (-1 : Int)
      else
        bif decide (x1 > (y1.1.length : Int)) then
          some (-1 : Int)
        else
          (spec_SuffixRows y1.1).bind fun y2 =>
          (spec_Inverse y2).bind fun y3 =>
          (at? y3.1 x1).bind fun y4 =>
          y3.1[x1.toNat]?.bind fun y5 =>
          some y5 := by kernel_rfl

noncomputable abbrev spec_RelIsa.s : Sg := ⟨[.lend, .lend, .lend], [.agg [.int .i64, .int .i64, .int .i64, .sl false false 3, .sl false false 41, .sl false false 3, .int .i64, .sl false false 157, .int .i64, .int .i64, .int .i64, .sl false false 157, .int .i64, .int .i64, .int .i64, .sl false false 157], .agg [.int .i64, .int .i64, .int .i64, .sl false false 157, .int .i64, .sl false false 157, .int .i64, .sl false false 3, .sl false false 41, .int .i64, .sl false false 3, .sl false false 41, .sl false false 3, .int .i64, .sl false false 157, .int .i64, .int .i64, .int .i64, .sl false false 157, .int .i64, .int .i64, .int .i64, .sl false false 157], vi], ⟨[vi], [none, none, none]⟩, Tryz.f31⟩
noncomputable def spec_RelIsa.gs (δ : Type) : List (Nat × Callee (GT tab) δ) := [(79, spec_l14Own.k), (84, spec_FmIsa.k)]
theorem spec_RelIsa.gok (δ : Type) : AllCon Tryz.prog tab (spec_RelIsa.gs δ) := .cons spec_l14Own.con (.cons spec_FmIsa.con .nil)
noncomputable def spec_RelIsa.c := cx spec_RelIsa.s [] [] false (spec_RelIsa.gs _)
noncomputable def spec_RelIsa (x0 : Int × Int × Int × (List Int) × (List (Int × (List Int))) × (List Int) × Int × (List Int) × Int × Int × Int × (List Int) × Int × Int × Int × (List Int)) (x1 : Int × Int × Int × (List Int) × Int × (List Int) × Int × (List Int) × (List (Int × (List Int))) × Int × (List Int) × (List (Int × (List Int))) × (List Int) × Int × (List Int) × Int × Int × Int × (List Int) × Int × Int × Int × (List Int)) (x2 : Int) : Option (Int) := fnW spec_RelIsa.s spec_RelIsa.c (x0, x1, x2)
theorem spec_RelIsa.fok : FkS spec_RelIsa.s 31 := ⟨Tryz.func31, by kernel_rfl, by kernel_rfl⟩
noncomputable def spec_RelIsa.fn (x : Args tab spec_RelIsa.s.ar) : Option (ResT tab spec_RelIsa.s.rs) := spec_RelIsa x.1 x.2.1 x.2.2
noncomputable abbrev spec_RelIsa.k {δ : Type} : Callee (GT tab) δ := kS spec_RelIsa.s spec_RelIsa.fn
theorem spec_RelIsa.con {δ : Type} : Con Tryz.prog (KT tab) 31 (spec_RelIsa.k (δ := δ)) := con_shape (c := spec_RelIsa.c) mixed tysOk (getG_con (spec_RelIsa.gok _)) spec_RelIsa.fok rfl rfl fun _ => rfl
theorem spec_RelIsa.eq (x0 : Int × Int × Int × (List Int) × (List (Int × (List Int))) × (List Int) × Int × (List Int) × Int × Int × Int × (List Int) × Int × Int × Int × (List Int)) (x1 : Int × Int × Int × (List Int) × Int × (List Int) × Int × (List Int) × (List (Int × (List Int))) × Int × (List Int) × (List (Int × (List Int))) × (List Int) × Int × (List Int) × Int × Int × Int × (List Int) × Int × Int × Int × (List Int)) (x2 : Int) : spec_RelIsa x0 x1 x2 =
    (spec_l14Own x0 x1).bind fun y1 =>
    (spec_FmIsa y1 x2).bind fun y2 =>
    some y2 := by kernel_rfl

noncomputable abbrev impl_FmIsa.s : Sg := ⟨[.lend, .lend], [.agg [.int .i64, .int .i64, .int .i64, .sl false false 3, .sl false false 41, .sl false false 3, .int .i64, .sl false false 157, .int .i64, .int .i64, .int .i64, .sl false false 157, .int .i64, .int .i64, .int .i64, .sl false false 157], vi], ⟨[vi], [none, none]⟩, Tryz.f85⟩
noncomputable def impl_FmIsa.gs (δ : Type) : List (Nat × Callee (GT tab) δ) := [(68, impl_within.k), (132, impl_Fm_read.k), (137, impl_suffixRows.k), (146, impl_inverse.k)]
theorem impl_FmIsa.gok (δ : Type) : AllCon Tryz.prog tab (impl_FmIsa.gs δ) := .cons impl_within.con (.cons impl_Fm_read.con (.cons impl_suffixRows.con (.cons impl_inverse.con .nil)))
noncomputable def impl_FmIsa.c := cx impl_FmIsa.s [] [] false (impl_FmIsa.gs _)
noncomputable def impl_FmIsa (x0 : Int × Int × Int × (List Int) × (List (Int × (List Int))) × (List Int) × Int × (List Int) × Int × Int × Int × (List Int) × Int × Int × Int × (List Int)) (x1 : Int) : Option (Int) := fnW impl_FmIsa.s impl_FmIsa.c (x0, x1)
theorem impl_FmIsa.fok : FkS impl_FmIsa.s 85 := ⟨Tryz.func85, by kernel_rfl, by kernel_rfl⟩
noncomputable def impl_FmIsa.fn (x : Args tab impl_FmIsa.s.ar) : Option (ResT tab impl_FmIsa.s.rs) := impl_FmIsa x.1 x.2
noncomputable abbrev impl_FmIsa.k {δ : Type} : Callee (GT tab) δ := kS impl_FmIsa.s impl_FmIsa.fn
theorem impl_FmIsa.con {δ : Type} : Con Tryz.prog (KT tab) 85 (impl_FmIsa.k (δ := δ)) := con_shape (c := impl_FmIsa.c) mixed tysOk (getG_con (impl_FmIsa.gok _)) impl_FmIsa.fok rfl rfl fun _ => rfl
theorem impl_FmIsa.eq (x0 : Int × Int × Int × (List Int) × (List (Int × (List Int))) × (List Int) × Int × (List Int) × Int × Int × Int × (List Int) × Int × Int × Int × (List Int)) (x1 : Int) : impl_FmIsa x0 x1 =
    (impl_Fm_read x0).bind fun y1 =>
    bif !y1.2 then
      some (-1 : Int)
    else
      (impl_within x1 (0 : Int) (y1.1.length : Int)).bind fun y2 =>
      bif !y2 then
        some (-1 : Int)
      else
        (impl_suffixRows y1.1).bind fun y3 =>
        (impl_inverse y3).bind fun y4 =>
        (at? y4 x1).bind fun y5 =>
        y4[x1.toNat]?.bind fun y6 =>
        some y6 := by kernel_rfl

noncomputable abbrev impl_RelIsa.s : Sg := ⟨[.lend, .lend, .lend], [.agg [.int .i64, .int .i64, .int .i64, .sl false false 3, .sl false false 41, .sl false false 3, .int .i64, .sl false false 157, .int .i64, .int .i64, .int .i64, .sl false false 157, .int .i64, .int .i64, .int .i64, .sl false false 157], .agg [.int .i64, .int .i64, .int .i64, .sl false false 157, .int .i64, .sl false false 157, .int .i64, .sl false false 3, .sl false false 41, .int .i64, .sl false false 3, .sl false false 41, .sl false false 3, .int .i64, .sl false false 157, .int .i64, .int .i64, .int .i64, .sl false false 157, .int .i64, .int .i64, .int .i64, .sl false false 157], vi], ⟨[vi], [none, none, none]⟩, Tryz.f32⟩
noncomputable def impl_RelIsa.gs (δ : Type) : List (Nat × Callee (GT tab) δ) := [(81, impl_Rel_full.k), (85, impl_FmIsa.k)]
theorem impl_RelIsa.gok (δ : Type) : AllCon Tryz.prog tab (impl_RelIsa.gs δ) := .cons impl_Rel_full.con (.cons impl_FmIsa.con .nil)
noncomputable def impl_RelIsa.c := cx impl_RelIsa.s [] [] false (impl_RelIsa.gs _)
noncomputable def impl_RelIsa (x0 : Int × Int × Int × (List Int) × (List (Int × (List Int))) × (List Int) × Int × (List Int) × Int × Int × Int × (List Int) × Int × Int × Int × (List Int)) (x1 : Int × Int × Int × (List Int) × Int × (List Int) × Int × (List Int) × (List (Int × (List Int))) × Int × (List Int) × (List (Int × (List Int))) × (List Int) × Int × (List Int) × Int × Int × Int × (List Int) × Int × Int × Int × (List Int)) (x2 : Int) : Option (Int) := fnW impl_RelIsa.s impl_RelIsa.c (x0, x1, x2)
theorem impl_RelIsa.fok : FkS impl_RelIsa.s 32 := ⟨Tryz.func32, by kernel_rfl, by kernel_rfl⟩
noncomputable def impl_RelIsa.fn (x : Args tab impl_RelIsa.s.ar) : Option (ResT tab impl_RelIsa.s.rs) := impl_RelIsa x.1 x.2.1 x.2.2
noncomputable abbrev impl_RelIsa.k {δ : Type} : Callee (GT tab) δ := kS impl_RelIsa.s impl_RelIsa.fn
theorem impl_RelIsa.con {δ : Type} : Con Tryz.prog (KT tab) 32 (impl_RelIsa.k (δ := δ)) := con_shape (c := impl_RelIsa.c) mixed tysOk (getG_con (impl_RelIsa.gok _)) impl_RelIsa.fok rfl rfl fun _ => rfl
theorem impl_RelIsa.eq (x0 : Int × Int × Int × (List Int) × (List (Int × (List Int))) × (List Int) × Int × (List Int) × Int × Int × Int × (List Int) × Int × Int × Int × (List Int)) (x1 : Int × Int × Int × (List Int) × Int × (List Int) × Int × (List Int) × (List (Int × (List Int))) × Int × (List Int) × (List (Int × (List Int))) × (List Int) × Int × (List Int) × Int × Int × Int × (List Int) × Int × Int × Int × (List Int)) (x2 : Int) : impl_RelIsa x0 x1 x2 =
    (impl_Rel_full x1 x0).bind fun y1 =>
    (impl_FmIsa y1 x2).bind fun y2 =>
    some y2 := by kernel_rfl

end Go.Ev.W
