/- What functions of the program come to. -/
import Derived.Test.YtcinoldiilbhmaaGreatPdT
import Derived.Test.YtcinoldiilbhmaaGreatPd1
import Derived.Test.YtcinoldiilbhmaaGreatPd10
namespace Go.Ev.W
open Go.Ev Go.Proofs
set_option maxRecDepth 100000
set_option linter.unusedVariables false

noncomputable abbrev spec_FmExtract.s : Sg := ⟨[.lend, .lend, .lend], [.agg [.int .i64, .int .i64, .int .i64, .sl false false 3, .sl false false 41, .sl false false 3, .int .i64, .sl false false 157, .int .i64, .int .i64, .int .i64, .sl false false 157, .int .i64, .int .i64, .int .i64, .sl false false 157], vi, vi], ⟨[vo 5, vb], [none, none, none]⟩, Tryz.f100⟩
noncomputable def spec_FmExtract.gs (δ : Type) : List (Nat × Callee (GT tab) δ) := [(114, spec_l09Text.k)]
theorem spec_FmExtract.gok (δ : Type) : AllCon Tryz.prog tab (spec_FmExtract.gs δ) := .cons spec_l09Text.con .nil
noncomputable def spec_FmExtract.c := cx spec_FmExtract.s [] [] false (spec_FmExtract.gs _)
noncomputable def spec_FmExtract (x0 : Int × Int × Int × (List Int) × (List (Int × (List Int))) × (List Int) × Int × (List Int) × Int × Int × Int × (List Int) × Int × Int × Int × (List Int)) (x1 x2 : Int) : Option ((List Int) × Bool) := fnW spec_FmExtract.s spec_FmExtract.c (x0, x1, x2)
theorem spec_FmExtract.fok : FkS spec_FmExtract.s 100 := ⟨Tryz.func100, by kernel_rfl, by kernel_rfl⟩
noncomputable def spec_FmExtract.fn (x : Args tab spec_FmExtract.s.ar) : Option (ResT tab spec_FmExtract.s.rs) := spec_FmExtract x.1 x.2.1 x.2.2
noncomputable abbrev spec_FmExtract.k {δ : Type} : Callee (GT tab) δ := kS spec_FmExtract.s spec_FmExtract.fn
theorem spec_FmExtract.con {δ : Type} : Con Tryz.prog (KT tab) 100 (spec_FmExtract.k (δ := δ)) := con_shape (c := spec_FmExtract.c) mixed tysOk (getG_con (spec_FmExtract.gok _)) spec_FmExtract.fok rfl rfl fun _ => rfl
theorem spec_FmExtract.eq (x0 : Int × Int × Int × (List Int) × (List (Int × (List Int))) × (List Int) × Int × (List Int) × Int × Int × Int × (List Int) × Int × Int × Int × (List Int)) (x1 x2 : Int) : spec_FmExtract x0 x1 x2 =
    (spec_l09Text x0).bind fun y1 =>
    bif !y1.2 then
      some (([] : List Int), false)
    else
      bif decide (x1 < (0 : Int)) then
        some (([] : List Int), false)
      else
        bif decide (x1 > x2) then
          some (([] : List Int), false)
        else
          bif decide (x2 > (y1.1.length : Int)) then
            some (([] : List Int), false)
          else
            bif decide (0 ≤ x2 ∧ x2 ≤ ((y1.1.length : Nat) : Int)) then
              bif decide (0 ≤ x1 ∧ x1 ≤ ((x2.toNat : Nat) : Int)) then
                bif decide ((([] : List Int).length + ((y1.1.drop x1.toNat).take (x2.toNat - x1.toNat)).length) * 1 ≤ 140737488355328) then
                  some (([] : List Int) ++ ((y1.1.drop x1.toNat).take (x2.toNat - x1.toNat)), true)
                else
                  none
              else
                none
            else
              none := by kernel_rfl

noncomputable abbrev spec_RelExtract.s : Sg := ⟨[.lend, .lend, .lend, .lend], [.agg [.int .i64, .int .i64, .int .i64, .sl false false 3, .sl false false 41, .sl false false 3, .int .i64, .sl false false 157, .int .i64, .int .i64, .int .i64, .sl false false 157, .int .i64, .int .i64, .int .i64, .sl false false 157], .agg [.int .i64, .int .i64, .int .i64, .sl false false 157, .int .i64, .sl false false 157, .int .i64, .sl false false 3, .sl false false 41, .int .i64, .sl false false 3, .sl false false 41, .sl false false 3, .int .i64, .sl false false 157, .int .i64, .int .i64, .int .i64, .sl false false 157, .int .i64, .int .i64, .int .i64, .sl false false 157], vi, vi], ⟨[vo 5, vb], [none, none, none, none]⟩, Tryz.f48⟩
noncomputable def spec_RelExtract.gs (δ : Type) : List (Nat × Callee (GT tab) δ) := [(79, spec_l14Own.k), (100, spec_FmExtract.k)]
theorem spec_RelExtract.gok (δ : Type) : AllCon Tryz.prog tab (spec_RelExtract.gs δ) := .cons spec_l14Own.con (.cons spec_FmExtract.con .nil)
noncomputable def spec_RelExtract.c := cx spec_RelExtract.s [] [] false (spec_RelExtract.gs _)
noncomputable def spec_RelExtract (x0 : Int × Int × Int × (List Int) × (List (Int × (List Int))) × (List Int) × Int × (List Int) × Int × Int × Int × (List Int) × Int × Int × Int × (List Int)) (x1 : Int × Int × Int × (List Int) × Int × (List Int) × Int × (List Int) × (List (Int × (List Int))) × Int × (List Int) × (List (Int × (List Int))) × (List Int) × Int × (List Int) × Int × Int × Int × (List Int) × Int × Int × Int × (List Int)) (x2 x3 : Int) : Option ((List Int) × Bool) := fnW spec_RelExtract.s spec_RelExtract.c (x0, x1, x2, x3)
theorem spec_RelExtract.fok : FkS spec_RelExtract.s 48 := ⟨Tryz.func48, by kernel_rfl, by kernel_rfl⟩
noncomputable def spec_RelExtract.fn (x : Args tab spec_RelExtract.s.ar) : Option (ResT tab spec_RelExtract.s.rs) := spec_RelExtract x.1 x.2.1 x.2.2.1 x.2.2.2
noncomputable abbrev spec_RelExtract.k {δ : Type} : Callee (GT tab) δ := kS spec_RelExtract.s spec_RelExtract.fn
theorem spec_RelExtract.con {δ : Type} : Con Tryz.prog (KT tab) 48 (spec_RelExtract.k (δ := δ)) := con_shape (c := spec_RelExtract.c) mixed tysOk (getG_con (spec_RelExtract.gok _)) spec_RelExtract.fok rfl rfl fun _ => rfl
theorem spec_RelExtract.eq (x0 : Int × Int × Int × (List Int) × (List (Int × (List Int))) × (List Int) × Int × (List Int) × Int × Int × Int × (List Int) × Int × Int × Int × (List Int)) (x1 : Int × Int × Int × (List Int) × Int × (List Int) × Int × (List Int) × (List (Int × (List Int))) × Int × (List Int) × (List (Int × (List Int))) × (List Int) × Int × (List Int) × Int × Int × Int × (List Int) × Int × Int × Int × (List Int)) (x2 x3 : Int) : spec_RelExtract x0 x1 x2 x3 =
    (spec_l14Own x0 x1).bind fun y1 =>
    (spec_FmExtract y1 x2 x3).bind fun y2 =>
    some (y2.1, y2.2) := by kernel_rfl

noncomputable abbrev impl_isRange.s : Sg := ⟨[.lend, .lend, .lend], [vi, vi, vi], ⟨[vb], [none, none, none]⟩, Tryz.f159⟩
noncomputable def impl_isRange.gs (δ : Type) : List (Nat × Callee (GT tab) δ) := []
theorem impl_isRange.gok (δ : Type) : AllCon Tryz.prog tab (impl_isRange.gs δ) := .nil
noncomputable def impl_isRange.c := cx impl_isRange.s [] [] false (impl_isRange.gs _)
noncomputable def impl_isRange (x0 x1 x2 : Int) : Option (Bool) := fnW impl_isRange.s impl_isRange.c (x0, x1, x2)
theorem impl_isRange.fok : FkS impl_isRange.s 159 := ⟨Tryz.func159, by kernel_rfl, by kernel_rfl⟩
noncomputable def impl_isRange.fn (x : Args tab impl_isRange.s.ar) : Option (ResT tab impl_isRange.s.rs) := impl_isRange x.1 x.2.1 x.2.2
noncomputable abbrev impl_isRange.k {δ : Type} : Callee (GT tab) δ := kS impl_isRange.s impl_isRange.fn
theorem impl_isRange.con {δ : Type} : Con Tryz.prog (KT tab) 159 (impl_isRange.k (δ := δ)) := con_shape (c := impl_isRange.c) mixed tysOk (getG_con (impl_isRange.gok _)) impl_isRange.fok rfl rfl fun _ => rfl
theorem impl_isRange.eq (x0 x1 x2 : Int) : impl_isRange x0 x1 x2 =
    bif decide ((0 : Int) ≤ x0) then
      bif decide (x0 ≤ x1) then
        some (decide (x1 ≤ x2))
      else
        some false
    else
      some false := by kernel_rfl

noncomputable abbrev bytes_Clone.s : Sg := ⟨[.lend], [vl 5], ⟨[vo 5], [none]⟩, Tryz.f160⟩
noncomputable def bytes_Clone.gs (δ : Type) : List (Nat × Callee (GT tab) δ) := []
theorem bytes_Clone.gok (δ : Type) : AllCon Tryz.prog tab (bytes_Clone.gs δ) := .nil
noncomputable def bytes_Clone.c := cx bytes_Clone.s [] [] false (bytes_Clone.gs _)
noncomputable def bytes_Clone (x0 : List Int) : Option (List Int) := fnW bytes_Clone.s bytes_Clone.c x0
theorem bytes_Clone.fok : FkS bytes_Clone.s 160 := ⟨Tryz.func160, by kernel_rfl, by kernel_rfl⟩
noncomputable def bytes_Clone.fn (x : Args tab bytes_Clone.s.ar) : Option (ResT tab bytes_Clone.s.rs) := bytes_Clone x
noncomputable abbrev bytes_Clone.k {δ : Type} : Callee (GT tab) δ := kS bytes_Clone.s bytes_Clone.fn
theorem bytes_Clone.con {δ : Type} : Con Tryz.prog (KT tab) 160 (bytes_Clone.k (δ := δ)) := con_shape (c := bytes_Clone.c) mixed tysOk (getG_con (bytes_Clone.gok _)) bytes_Clone.fok rfl rfl fun _ => rfl
theorem bytes_Clone.eq (x0 : List Int) : bytes_Clone x0 =
    bif x0.length.beq 0 then
      both (some ([] : List Int)) (bif decide ((([] : List Int).length + x0.length) * 1 ≤ 140737488355328) then
        some (([] : List Int) ++ x0)
      else
        none)
    else
      bif decide ((([] : List Int).length + x0.length) * 1 ≤ 140737488355328) then
        some (([] : List Int) ++ x0)
      else
        none := by kernel_rfl

noncomputable abbrev impl_FmExtract.s : Sg := ⟨[.lend, .lend, .lend], [.agg [.int .i64, .int .i64, .int .i64, .sl false false 3, .sl false false 41, .sl false false 3, .int .i64, .sl false false 157, .int .i64, .int .i64, .int .i64, .sl false false 157, .int .i64, .int .i64, .int .i64, .sl false false 157], vi, vi], ⟨[vo 5, vb], [none, none, none]⟩, Tryz.f101⟩
noncomputable def impl_FmExtract.gs (δ : Type) : List (Nat × Callee (GT tab) δ) := [(132, impl_Fm_read.k), (159, impl_isRange.k), (160, bytes_Clone.k)]
theorem impl_FmExtract.gok (δ : Type) : AllCon Tryz.prog tab (impl_FmExtract.gs δ) := .cons impl_Fm_read.con (.cons impl_isRange.con (.cons bytes_Clone.con .nil))
noncomputable def impl_FmExtract.c := cx impl_FmExtract.s [] [] false (impl_FmExtract.gs _)
noncomputable def impl_FmExtract (x0 : Int × Int × Int × (List Int) × (List (Int × (List Int))) × (List Int) × Int × (List Int) × Int × Int × Int × (List Int) × Int × Int × Int × (List Int)) (x1 x2 : Int) : Option ((List Int) × Bool) := fnW impl_FmExtract.s impl_FmExtract.c (x0, x1, x2)
theorem impl_FmExtract.fok : FkS impl_FmExtract.s 101 := ⟨Tryz.func101, by kernel_rfl, by kernel_rfl⟩
noncomputable def impl_FmExtract.fn (x : Args tab impl_FmExtract.s.ar) : Option (ResT tab impl_FmExtract.s.rs) := impl_FmExtract x.1 x.2.1 x.2.2
noncomputable abbrev impl_FmExtract.k {δ : Type} : Callee (GT tab) δ := kS impl_FmExtract.s impl_FmExtract.fn
theorem impl_FmExtract.con {δ : Type} : Con Tryz.prog (KT tab) 101 (impl_FmExtract.k (δ := δ)) := con_shape (c := impl_FmExtract.c) mixed tysOk (getG_con (impl_FmExtract.gok _)) impl_FmExtract.fok rfl rfl fun _ => rfl
theorem impl_FmExtract.eq (x0 : Int × Int × Int × (List Int) × (List (Int × (List Int))) × (List Int) × Int × (List Int) × Int × Int × Int × (List Int) × Int × Int × Int × (List Int)) (x1 x2 : Int) : impl_FmExtract x0 x1 x2 =
    (impl_Fm_read x0).bind fun y1 =>
    bif !y1.2 then
      some (([] : List Int), false)
    else
      (impl_isRange x1 x2 (y1.1.length : Int)).bind fun y2 =>
      bif !y2 then
        some (([] : List Int), false)
      else
        bif decide (0 ≤ x2 ∧ x2 ≤ ((y1.1.length : Nat) : Int)) then
          bif decide (0 ≤ x1 ∧ x1 ≤ ((x2.toNat : Nat) : Int)) then
            (bytes_Clone ((y1.1.drop x1.toNat).take (x2.toNat - x1.toNat))).bind fun y3 =>
            some (y3, true)
          else
            none
        else
          none := by kernel_rfl

noncomputable abbrev impl_RelExtract.s : Sg := ⟨[.lend, .lend, .lend, .lend], [.agg [.int .i64, .int .i64, .int .i64, .sl false false 3, .sl false false 41, .sl false false 3, .int .i64, .sl false false 157, .int .i64, .int .i64, .int .i64, .sl false false 157, .int .i64, .int .i64, .int .i64, .sl false false 157], .agg [.int .i64, .int .i64, .int .i64, .sl false false 157, .int .i64, .sl false false 157, .int .i64, .sl false false 3, .sl false false 41, .int .i64, .sl false false 3, .sl false false 41, .sl false false 3, .int .i64, .sl false false 157, .int .i64, .int .i64, .int .i64, .sl false false 157, .int .i64, .int .i64, .int .i64, .sl false false 157], vi, vi], ⟨[vo 5, vb], [none, none, none, none]⟩, Tryz.f49⟩
noncomputable def impl_RelExtract.gs (δ : Type) : List (Nat × Callee (GT tab) δ) := [(81, impl_Rel_full.k), (101, impl_FmExtract.k)]
theorem impl_RelExtract.gok (δ : Type) : AllCon Tryz.prog tab (impl_RelExtract.gs δ) := .cons impl_Rel_full.con (.cons impl_FmExtract.con .nil)
noncomputable def impl_RelExtract.c := cx impl_RelExtract.s [] [] false (impl_RelExtract.gs _)
noncomputable def impl_RelExtract (x0 : Int × Int × Int × (List Int) × (List (Int × (List Int))) × (List Int) × Int × (List Int) × Int × Int × Int × (List Int) × Int × Int × Int × (List Int)) (x1 : Int × Int × Int × (List Int) × Int × (List Int) × Int × (List Int) × (List (Int × (List Int))) × Int × (List Int) × (List (Int × (List Int))) × (List Int) × Int × (List Int) × Int × Int × Int × (List Int) × Int × Int × Int × (List Int)) (x2 x3 : Int) : Option ((List Int) × Bool) := fnW impl_RelExtract.s impl_RelExtract.c (x0, x1, x2, x3)
theorem impl_RelExtract.fok : FkS impl_RelExtract.s 49 := ⟨Tryz.func49, by kernel_rfl, by kernel_rfl⟩
noncomputable def impl_RelExtract.fn (x : Args tab impl_RelExtract.s.ar) : Option (ResT tab impl_RelExtract.s.rs) := impl_RelExtract x.1 x.2.1 x.2.2.1 x.2.2.2
noncomputable abbrev impl_RelExtract.k {δ : Type} : Callee (GT tab) δ := kS impl_RelExtract.s impl_RelExtract.fn
theorem impl_RelExtract.con {δ : Type} : Con Tryz.prog (KT tab) 49 (impl_RelExtract.k (δ := δ)) := con_shape (c := impl_RelExtract.c) mixed tysOk (getG_con (impl_RelExtract.gok _)) impl_RelExtract.fok rfl rfl fun _ => rfl
theorem impl_RelExtract.eq (x0 : Int × Int × Int × (List Int) × (List (Int × (List Int))) × (List Int) × Int × (List Int) × Int × Int × Int × (List Int) × Int × Int × Int × (List Int)) (x1 : Int × Int × Int × (List Int) × Int × (List Int) × Int × (List Int) × (List (Int × (List Int))) × Int × (List Int) × (List (Int × (List Int))) × (List Int) × Int × (List Int) × Int × Int × Int × (List Int) × Int × Int × Int × (List Int)) (x2 x3 : Int) : impl_RelExtract x0 x1 x2 x3 =
    (impl_Rel_full x1 x0).bind fun y1 =>
    (impl_FmExtract y1 x2 x3).bind fun y2 =>
    some (y2.1, y2.2) := by kernel_rfl

end Go.Ev.W
