/- What functions of the program come to. -/
import Derived.Test.YtcinoldiilbhmaaGreatPdT
import Derived.Test.YtcinoldiilbhmaaGreatPd1
import Derived.Test.YtcinoldiilbhmaaGreatPd10
namespace Go.Ev.W
open Go.Ev Go.Proofs
set_option maxRecDepth 100000
set_option linter.unusedVariables false

noncomputable abbrev spec_FmSa.s : Sg := ⟨[.lend, .lend], [.agg [.int .i64, .int .i64, .int .i64, .sl false false 3, .sl false false 41, .sl false false 3, .int .i64, .sl false false 157, .int .i64, .int .i64, .int .i64, .sl false false 157, .int .i64, .int .i64, .int .i64, .sl false false 157], vi], ⟨[vi], [none, none]⟩, Tryz.f82⟩
noncomputable def spec_FmSa.gs (δ : Type) : List (Nat × Callee (GT tab) δ) := [(114, spec_l09Text.k), (129, spec_SuffixRows.k)]
theorem spec_FmSa.gok (δ : Type) : AllCon Tryz.prog tab (spec_FmSa.gs δ) := .cons spec_l09Text.con (.cons spec_SuffixRows.con .nil)
noncomputable def spec_FmSa.c := cx spec_FmSa.s [] [] false (spec_FmSa.gs _)
noncomputable def spec_FmSa (x0 : Int × Int × Int × (List Int) × (List (Int × (List Int))) × (List Int) × Int × (List Int) × Int × Int × Int × (List Int) × Int × Int × Int × (List Int)) (x1 : Int) : Option (Int) := fnW spec_FmSa.s spec_FmSa.c (x0, x1)
theorem spec_FmSa.fok : FkS spec_FmSa.s 82 := ⟨Tryz.func82, by kernel_rfl, by kernel_rfl⟩
noncomputable def spec_FmSa.fn (x : Args tab spec_FmSa.s.ar) : Option (ResT tab spec_FmSa.s.rs) := spec_FmSa x.1 x.2
noncomputable abbrev spec_FmSa.k {δ : Type} : Callee (GT tab) δ := kS spec_FmSa.s spec_FmSa.fn
theorem spec_FmSa.con {δ : Type} : Con Tryz.prog (KT tab) 82 (spec_FmSa.k (δ := δ)) := con_shape (c := spec_FmSa.c) mixed tysOk (getG_con (spec_FmSa.gok _)) spec_FmSa.fok rfl rfl fun _ => rfl
theorem spec_FmSa.eq (x0 : Int × Int × Int × (List Int) × (List (Int × (List Int))) × (List Int) × Int × (List Int) × Int × Int × Int × (List Int) × Int × Int × Int × (List Int)) (x1 : Int) : spec_FmSa x0 x1 =
    (spec_l09Text x0).bind fun y1 =>
    bif !y1.2 then
      some (-1 : Int)
    else
      bif decide (x1 < (0 : Int)) then
        some (-1 : Int)
      else
        bif decide (x1 > (y1.1.length : Int)) then
          some (-1 : Int)
        else
          (spec_SuffixRows y1.1).bind fun y2 =>
          (at? y2 x1).bind fun y3 =>
          y2[x1.toNat]?.bind fun y4 =>
          some y4 := by kernel_rfl

noncomputable abbrev spec_RelSa.s : Sg := ⟨[.lend, .lend, .lend], [.agg [.int .i64, .int .i64, .int .i64, .sl false false 3, .sl false false 41, .sl false false 3, .int .i64, .sl false false 157, .int .i64, .int .i64, .int .i64, .sl false false 157, .int .i64, .int .i64, .int .i64, .sl false false 157], .agg [.int .i64, .int .i64, .int .i64, .sl false false 157, .int .i64, .sl false false 157, .int .i64, .sl false false 3, .sl false false 41, .int .i64, .sl false false 3, .sl false false 41, .sl false false 3, .int .i64, .sl false false 157, .int .i64, .int .i64, .int .i64, .sl false false 157, .int .i64, .int .i64, .int .i64, .sl false false 157], vi], ⟨[vi], [none, none, none]⟩, Tryz.f29⟩
noncomputable def spec_RelSa.gs (δ : Type) : List (Nat × Callee (GT tab) δ) := [(79, spec_l14Own.k), (82, spec_FmSa.k)]
theorem spec_RelSa.gok (δ : Type) : AllCon Tryz.prog tab (spec_RelSa.gs δ) := .cons spec_l14Own.con (.cons spec_FmSa.con .nil)
noncomputable def spec_RelSa.c := cx spec_RelSa.s [] [] false (spec_RelSa.gs _)
noncomputable def spec_RelSa (x0 : Int × Int × Int × (List Int) × (List (Int × (List Int))) × (List Int) × Int × (List Int) × Int × Int × Int × (List Int) × Int × Int × Int × (List Int)) (x1 : Int × Int × Int × (List Int) × Int × (List Int) × Int × (List Int) × (List (Int × (List Int))) × Int × (List Int) × (List (Int × (List Int))) × (List Int) × Int × (List Int) × Int × Int × Int × (List Int) × Int × Int × Int × (List Int)) (x2 : Int) : Option (Int) := fnW spec_RelSa.s spec_RelSa.c (x0, x1, x2)
theorem spec_RelSa.fok : FkS spec_RelSa.s 29 := ⟨Tryz.func29, by kernel_rfl, by kernel_rfl⟩
noncomputable def spec_RelSa.fn (x : Args tab spec_RelSa.s.ar) : Option (ResT tab spec_RelSa.s.rs) := spec_RelSa x.1 x.2.1 x.2.2
noncomputable abbrev spec_RelSa.k {δ : Type} : Callee (GT tab) δ := kS spec_RelSa.s spec_RelSa.fn
theorem spec_RelSa.con {δ : Type} : Con Tryz.prog (KT tab) 29 (spec_RelSa.k (δ := δ)) := con_shape (c := spec_RelSa.c) mixed tysOk (getG_con (spec_RelSa.gok _)) spec_RelSa.fok rfl rfl fun _ => rfl
theorem spec_RelSa.eq (x0 : Int × Int × Int × (List Int) × (List (Int × (List Int))) × (List Int) × Int × (List Int) × Int × Int × Int × (List Int) × Int × Int × Int × (List Int)) (x1 : Int × Int × Int × (List Int) × Int × (List Int) × Int × (List Int) × (List (Int × (List Int))) × Int × (List Int) × (List (Int × (List Int))) × (List Int) × Int × (List Int) × Int × Int × Int × (List Int) × Int × Int × Int × (List Int)) (x2 : Int) : spec_RelSa x0 x1 x2 =
    (spec_l14Own x0 x1).bind fun y1 =>
    (spec_FmSa y1 x2).bind fun y2 =>
    some y2 := by kernel_rfl

noncomputable abbrev impl_FmSa.s : Sg := ⟨[.lend, .lend], [.agg [.int .i64, .int .i64, .int .i64, .sl false false 3, .sl false false 41, .sl false false 3, .int .i64, .sl false false 157, .int .i64, .int .i64, .int .i64, .sl false false 157, .int .i64, .int .i64, .int .i64, .sl false false 157], vi], ⟨[vi], [none, none]⟩, Tryz.f83⟩
noncomputable def impl_FmSa.gs (δ : Type) : List (Nat × Callee (GT tab) δ) := [(68, impl_within.k), (132, impl_Fm_read.k), (137, impl_suffixRows.k)]
theorem impl_FmSa.gok (δ : Type) : AllCon Tryz.prog tab (impl_FmSa.gs δ) := .cons impl_within.con (.cons impl_Fm_read.con (.cons impl_suffixRows.con .nil))
noncomputable def impl_FmSa.c := cx impl_FmSa.s [] [] false (impl_FmSa.gs _)
noncomputable def impl_FmSa (x0 : Int × Int × Int × (List Int) × (List (Int × (List Int))) × (List Int) × Int × (List Int) × Int × Int × Int × (List Int) × Int × Int × Int × (List Int)) (x1 : Int) : Option (Int) := fnW impl_FmSa.s impl_FmSa.c (x0, x1)
theorem impl_FmSa.fok : FkS impl_FmSa.s 83 := ⟨Tryz.func83, by kernel_rfl, by kernel_rfl⟩
noncomputable def impl_FmSa.fn (x : Args tab impl_FmSa.s.ar) : Option (ResT tab impl_FmSa.s.rs) := impl_FmSa x.1 x.2
noncomputable abbrev impl_FmSa.k {δ : Type} : Callee (GT tab) δ := kS impl_FmSa.s impl_FmSa.fn
theorem impl_FmSa.con {δ : Type} : Con Tryz.prog (KT tab) 83 (impl_FmSa.k (δ := δ)) := con_shape (c := impl_FmSa.c) mixed tysOk (getG_con (impl_FmSa.gok _)) impl_FmSa.fok rfl rfl fun _ => rfl
theorem impl_FmSa.eq (x0 : Int × Int × Int × (List Int) × (List (Int × (List Int))) × (List Int) × Int × (List Int) × Int × Int × Int × (List Int) × Int × Int × Int × (List Int)) (x1 : Int) : impl_FmSa x0 x1 =
    (impl_Fm_read x0).bind fun y1 =>
    bif !y1.2 then
      some (-1 : Int)
    else
      (impl_within x1 (0 : Int) (y1.1.length : Int)).bind fun y2 =>
      bif !y2 then
        some (-1 : Int)
      else
        (impl_suffixRows y1.1).bind fun y3 =>
        (at? y3 x1).bind fun y4 =>
        y3[x1.toNat]?.bind fun y5 =>
        some y5 := by kernel_rfl

noncomputable abbrev impl_RelSa.s : Sg := ⟨[.lend, .lend, .lend], [.agg [.int .i64, .int .i64, .int .i64, .sl false false 3, .sl false false 41, .sl false false 3, .int .i64, .sl false false 157, .int .i64, .int .i64, .int .i64, .sl false false 157, .int .i64, .int .i64, .int .i64, .sl false false 157], .agg [.int .i64, .int .i64, .int .i64, .sl false false 157, .int .i64, .sl false false 157, .int .i64, .sl false false 3, .sl false false 41, .int .i64, .sl false false 3, .sl false false 41, .sl false false 3, .int .i64, .sl false false 157, .int .i64, .int .i64, .int .i64, .sl false false 157, .int .i64, .int .i64, .int .i64, .sl false false 157], vi], ⟨[vi], [none, none, none]⟩, Tryz.f30⟩
noncomputable def impl_RelSa.gs (δ : Type) : List (Nat × Callee (GT tab) δ) := [(81, impl_Rel_full.k), (83, impl_FmSa.k)]
theorem impl_RelSa.gok (δ : Type) : AllCon Tryz.prog tab (impl_RelSa.gs δ) := .cons impl_Rel_full.con (.cons impl_FmSa.con .nil)
noncomputable def impl_RelSa.c := cx impl_RelSa.s [] [] false (impl_RelSa.gs _)
noncomputable def impl_RelSa (x0 : Int × Int × Int × (List Int) × (List (Int × (List Int))) × (List Int) × Int × (List Int) × Int × Int × Int × (List Int) × Int × Int × Int × (List Int)) (x1 : Int × Int × Int × (List Int) × Int × (List Int) × Int × (List Int) × (List (Int × (List Int))) × Int × (List Int) × (List (Int × (List Int))) × (List Int) × Int × (List Int) × Int × Int × Int × (List Int) × Int × Int × Int × (List Int)) (x2 : Int) : Option (Int) := fnW impl_RelSa.s impl_RelSa.c (x0, x1, x2)
theorem impl_RelSa.fok : FkS impl_RelSa.s 30 := ⟨Tryz.func30, by kernel_rfl, by kernel_rfl⟩
noncomputable def impl_RelSa.fn (x : Args tab impl_RelSa.s.ar) : Option (ResT tab impl_RelSa.s.rs) := impl_RelSa x.1 x.2.1 x.2.2
noncomputable abbrev impl_RelSa.k {δ : Type} : Callee (GT tab) δ := kS impl_RelSa.s impl_RelSa.fn
theorem impl_RelSa.con {δ : Type} : Con Tryz.prog (KT tab) 30 (impl_RelSa.k (δ := δ)) := con_shape (c := impl_RelSa.c) mixed tysOk (getG_con (impl_RelSa.gok _)) impl_RelSa.fok rfl rfl fun _ => rfl
theorem impl_RelSa.eq (x0 : Int × Int × Int × (List Int) × (List (Int × (List Int))) × (List Int) × Int × (List Int) × Int × Int × Int × (List Int) × Int × Int × Int × (List Int)) (x1 : Int × Int × Int × (List Int) × Int × (List Int) × Int × (List Int) × (List (Int × (List Int))) × Int × (List Int) × (List (Int × (List Int))) × (List Int) × Int × (List Int) × Int × Int × Int × (List Int) × Int × Int × Int × (List Int)) (x2 : Int) : impl_RelSa x0 x1 x2 =
    (impl_Rel_full x1 x0).bind fun y1 =>
    (impl_FmSa y1 x2).bind fun y2 =>
    some y2 := by kernel_rfl

end Go.Ev.W
