/- What functions of the program come to. -/
import Derived.Test.YtcinoldiilbhmaaGreatPdT
import Derived.Test.YtcinoldiilbhmaaGreatPd1
import Derived.Test.YtcinoldiilbhmaaGreatPd10
namespace Go.Ev.W
open Go.Ev Go.Proofs
set_option maxRecDepth 100000
set_option linter.unusedVariables false

noncomputable abbrev spec_FmLf.s : Sg := ⟨[.lend, .lend], [.agg [.int .i64, .int .i64, .int .i64, .sl false false 3, .sl false false 41, .sl false false 3, .int .i64, .sl false false 157, .int .i64, .int .i64, .int .i64, .sl false false 157, .int .i64, .int .i64, .int .i64, .sl false false 157], vi], ⟨[vi], [none, none]⟩, Tryz.f78⟩
noncomputable def spec_FmLf.gs (δ : Type) : List (Nat × Callee (GT tab) δ) := [(62, spec_BwtOf.k), (114, spec_l09Text.k), (142, spec_LfOf.k)]
theorem spec_FmLf.gok (δ : Type) : AllCon Tryz.prog tab (spec_FmLf.gs δ) := .cons spec_BwtOf.con (.cons spec_l09Text.con (.cons spec_LfOf.con .nil))
noncomputable def spec_FmLf.c := cx spec_FmLf.s [] [] false (spec_FmLf.gs _)
noncomputable def spec_FmLf (x0 : Int × Int × Int × (List Int) × (List (Int × (List Int))) × (List Int) × Int × (List Int) × Int × Int × Int × (List Int) × Int × Int × Int × (List Int)) (x1 : Int) : Option (Int) := fnW spec_FmLf.s spec_FmLf.c (x0, x1)
theorem spec_FmLf.fok : FkS spec_FmLf.s 78 := ⟨Tryz.func78, by kernel_rfl, by kernel_rfl⟩
noncomputable def spec_FmLf.fn (x : Args tab spec_FmLf.s.ar) : Option (ResT tab spec_FmLf.s.rs) := spec_FmLf x.1 x.2
noncomputable abbrev spec_FmLf.k {δ : Type} : Callee (GT tab) δ := kS spec_FmLf.s spec_FmLf.fn
theorem spec_FmLf.con {δ : Type} : Con Tryz.prog (KT tab) 78 (spec_FmLf.k (δ := δ)) := con_shape (c := spec_FmLf.c) mixed tysOk (getG_con (spec_FmLf.gok _)) spec_FmLf.fok rfl rfl fun _ => rfl
theorem spec_FmLf.eq (x0 : Int × Int × Int × (List Int) × (List (Int × (List Int))) × (List Int) × Int × (List Int) × Int × Int × Int × (List Int) × Int × Int × Int × (List Int)) (x1 : Int) : spec_FmLf x0 x1 =
    (spec_l09Text x0).bind fun y1 =>
    bif !y1.2 then
      some (-1 : Int)
    else
      bif decide (x1 < (0 : Int)) then
        some (-1 : Int)
      else
        bif decide (x1 > (y1.1.length : Int)) then
          some (-1 : Int)
        else
          (spec_BwtOf y1.1).bind fun y2 =>
          (spec_LfOf y2).bind fun y3 =>
          (at? y3 x1).bind fun y4 =>
          y3[x1.toNat]?.bind fun y5 =>
          some y5 := by kernel_rfl

noncomputable abbrev spec_RelLf.s : Sg := ⟨[.lend, .lend, .lend], [.agg [.int .i64, .int .i64, .int .i64, .sl false false 3, .sl false false 41, .sl false false 3, .int .i64, .sl false false 157, .int .i64, .int .i64, .int .i64, .sl false false 157, .int .i64, .int .i64, .int .i64, .sl false false 157], .agg [.int .i64, .int .i64, .int .i64, .sl false false 157, .int .i64, .sl false false 157, .int .i64, .sl false false 3, .sl false false 41, .int .i64, .sl false false 3, .sl false false 41, .sl false false 3, .int .i64, .sl false false 157, .int .i64, .int .i64, .int .i64, .sl false false 157, .int .i64, .int .i64, .int .i64, .sl false false 157], vi], ⟨[vi], [none, none, none]⟩, Tryz.f27⟩
noncomputable def spec_RelLf.gs (δ : Type) : List (Nat × Callee (GT tab) δ) := [(78, spec_FmLf.k), (79, spec_l14Own.k)]
theorem spec_RelLf.gok (δ : Type) : AllCon Tryz.prog tab (spec_RelLf.gs δ) := .cons spec_FmLf.con (.cons spec_l14Own.con .nil)
noncomputable def spec_RelLf.c := cx spec_RelLf.s [] [] false (spec_RelLf.gs _)
noncomputable def spec_RelLf (x0 : Int × Int × Int × (List Int) × (List (Int × (List Int))) × (List Int) × Int × (List Int) × Int × Int × Int × (List Int) × Int × Int × Int × (List Int)) (x1 : Int × Int × Int × (List Int) × Int × (List Int) × Int × (List Int) × (List (Int × (List Int))) × Int × (List Int) × (List (Int × (List Int))) × (List Int) × Int × (List Int) × Int × Int × Int × (List Int) × Int × Int × Int × (List Int)) (x2 : Int) : Option (Int) := fnW spec_RelLf.s spec_RelLf.c (x0, x1, x2)
theorem spec_RelLf.fok : FkS spec_RelLf.s 27 := ⟨Tryz.func27, by kernel_rfl, by kernel_rfl⟩
noncomputable def spec_RelLf.fn (x : Args tab spec_RelLf.s.ar) : Option (ResT tab spec_RelLf.s.rs) := spec_RelLf x.1 x.2.1 x.2.2
noncomputable abbrev spec_RelLf.k {δ : Type} : Callee (GT tab) δ := kS spec_RelLf.s spec_RelLf.fn
theorem spec_RelLf.con {δ : Type} : Con Tryz.prog (KT tab) 27 (spec_RelLf.k (δ := δ)) := con_shape (c := spec_RelLf.c) mixed tysOk (getG_con (spec_RelLf.gok _)) spec_RelLf.fok rfl rfl fun _ => rfl
theorem spec_RelLf.eq (x0 : Int × Int × Int × (List Int) × (List (Int × (List Int))) × (List Int) × Int × (List Int) × Int × Int × Int × (List Int) × Int × Int × Int × (List Int)) (x1 : Int × Int × Int × (List Int) × Int × (List Int) × Int × (List Int) × (List (Int × (List Int))) × Int × (List Int) × (List (Int × (List Int))) × (List Int) × Int × (List Int) × Int × Int × Int × (List Int) × Int × Int × Int × (List Int)) (x2 : Int) : spec_RelLf x0 x1 x2 =
    (spec_l14Own x0 x1).bind fun y1 =>
    (spec_FmLf y1 x2).bind fun y2 =>
    some y2 := by kernel_rfl

noncomputable abbrev impl_FmLf.s : Sg := ⟨[.lend, .lend], [.agg [.int .i64, .int .i64, .int .i64, .sl false false 3, .sl false false 41, .sl false false 3, .int .i64, .sl false false 157, .int .i64, .int .i64, .int .i64, .sl false false 157, .int .i64, .int .i64, .int .i64, .sl false false 157], vi], ⟨[vi], [none, none]⟩, Tryz.f80⟩
noncomputable def impl_FmLf.gs (δ : Type) : List (Nat × Callee (GT tab) δ) := [(68, impl_within.k), (69, impl_bwtOf.k), (132, impl_Fm_read.k), (143, impl_lfOf.k)]
theorem impl_FmLf.gok (δ : Type) : AllCon Tryz.prog tab (impl_FmLf.gs δ) := .cons impl_within.con (.cons impl_bwtOf.con (.cons impl_Fm_read.con (.cons impl_lfOf.con .nil)))
noncomputable def impl_FmLf.c := cx impl_FmLf.s [] [] false (impl_FmLf.gs _)
noncomputable def impl_FmLf (x0 : Int × Int × Int × (List Int) × (List (Int × (List Int))) × (List Int) × Int × (List Int) × Int × Int × Int × (List Int) × Int × Int × Int × (List Int)) (x1 : Int) : Option (Int) := fnW impl_FmLf.s impl_FmLf.c (x0, x1)
theorem impl_FmLf.fok : FkS impl_FmLf.s 80 := ⟨Tryz.func80, by kernel_rfl, by kernel_rfl⟩
noncomputable def impl_FmLf.fn (x : Args tab impl_FmLf.s.ar) : Option (ResT tab impl_FmLf.s.rs) := impl_FmLf x.1 x.2
noncomputable abbrev impl_FmLf.k {δ : Type} : Callee (GT tab) δ := kS impl_FmLf.s impl_FmLf.fn
theorem impl_FmLf.con {δ : Type} : Con Tryz.prog (KT tab) 80 (impl_FmLf.k (δ := δ)) := con_shape (c := impl_FmLf.c) mixed tysOk (getG_con (impl_FmLf.gok _)) impl_FmLf.fok rfl rfl fun _ => rfl
theorem impl_FmLf.eq (x0 : Int × Int × Int × (List Int) × (List (Int × (List Int))) × (List Int) × Int × (List Int) × Int × Int × Int × (List Int) × Int × Int × Int × (List Int)) (x1 : Int) : impl_FmLf x0 x1 =
    (impl_Fm_read x0).bind fun y1 =>
    bif !y1.2 then
      some (-1 : Int)
    else
      (impl_within x1 (0 : Int) (y1.1.length : Int)).bind fun y2 =>
      bif !y2 then
        some (-1 : Int)
      else
        (impl_bwtOf y1.1).bind fun y3 =>
        (impl_lfOf y3).bind fun y4 =>
        (at? y4 x1).bind fun y5 =>
        y4[x1.toNat]?.bind fun y6 =>
        some y6 := by kernel_rfl

noncomputable abbrev impl_RelLf.s : Sg := ⟨[.lend, .lend, .lend], [.agg [.int .i64, .int .i64, .int .i64, .sl false false 3, .sl false false 41, .sl false false 3, .int .i64, .sl false false 157, .int .i64, .int .i64, .int .i64, .sl false false 157, .int .i64, .int .i64, .int .i64, .sl false false 157], .agg [.int .i64, .int .i64, .int .i64, .sl false false 157, .int .i64, .sl false false 157, .int .i64, .sl false false 3, .sl false false 41, .int .i64, .sl false false 3, .sl false false 41, .sl false false 3, .int .i64, .sl false false 157, .int .i64, .int .i64, .int .i64, .sl false false 157, .int .i64, .int .i64, .int .i64, .sl false false 157], vi], ⟨[vi], [none, none, none]⟩, Tryz.f28⟩
noncomputable def impl_RelLf.gs (δ : Type) : List (Nat × Callee (GT tab) δ) := [(80, impl_FmLf.k), (81, impl_Rel_full.k)]
theorem impl_RelLf.gok (δ : Type) : AllCon Tryz.prog tab (impl_RelLf.gs δ) := .cons impl_FmLf.con (.cons impl_Rel_full.con .nil)
noncomputable def impl_RelLf.c := cx impl_RelLf.s [] [] false (impl_RelLf.gs _)
noncomputable def impl_RelLf (x0 : Int × Int × Int × (List Int) × (List (Int × (List Int))) × (List Int) × Int × (List Int) × Int × Int × Int × (List Int) × Int × Int × Int × (List Int)) (x1 : Int × Int × Int × (List Int) × Int × (List Int) × Int × (List Int) × (List (Int × (List Int))) × Int × (List Int) × (List (Int × (List Int))) × (List Int) × Int × (List Int) × Int × Int × Int × (List Int) × Int × Int × Int × (List Int)) (x2 : Int) : Option (Int) := fnW impl_RelLf.s impl_RelLf.c (x0, x1, x2)
theorem impl_RelLf.fok : FkS impl_RelLf.s 28 := ⟨Tryz.func28, by kernel_rfl, by kernel_rfl⟩
noncomputable def impl_RelLf.fn (x : Args tab impl_RelLf.s.ar) : Option (ResT tab impl_RelLf.s.rs) := impl_RelLf x.1 x.2.1 x.2.2
noncomputable abbrev impl_RelLf.k {δ : Type} : Callee (GT tab) δ := kS impl_RelLf.s impl_RelLf.fn
theorem impl_RelLf.con {δ : Type} : Con Tryz.prog (KT tab) 28 (impl_RelLf.k (δ := δ)) := con_shape (c := impl_RelLf.c) mixed tysOk (getG_con (impl_RelLf.gok _)) impl_RelLf.fok rfl rfl fun _ => rfl
theorem impl_RelLf.eq (x0 : Int × Int × Int × (List Int) × (List (Int × (List Int))) × (List Int) × Int × (List Int) × Int × Int × Int × (List Int) × Int × Int × Int × (List Int)) (x1 : Int × Int × Int × (List Int) × Int × (List Int) × Int × (List Int) × (List (Int × (List Int))) × Int × (List Int) × (List (Int × (List Int))) × (List Int) × Int × (List Int) × Int × Int × Int × (List Int) × Int × Int × Int × (List Int)) (x2 : Int) : impl_RelLf x0 x1 x2 =
    (impl_Rel_full x1 x0).bind fun y1 =>
    (impl_FmLf y1 x2).bind fun y2 =>
    some y2 := by kernel_rfl

end Go.Ev.W
