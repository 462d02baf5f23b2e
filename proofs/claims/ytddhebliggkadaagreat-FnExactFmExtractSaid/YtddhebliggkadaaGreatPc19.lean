/- What functions of the program come to. -/
import Derived.Test.YtddhebliggkadaaGreatPcT
import Derived.Test.YtddhebliggkadaaGreatPc1
namespace Go.Ev.W
open Go.Ev Go.Proofs
set_option maxRecDepth 100000
set_option linter.unusedVariables false

noncomputable abbrev spec_FmExtract.s : Sg := ⟨[.lend, .lend, .lend], [.agg [.int .i64, .int .i64, .int .i64, .sl false false 3, .sl false false 30, .sl false false 3, .int .i64, .sl false false 126, .int .i64, .int .i64, .int .i64, .sl false false 126, .int .i64, .int .i64, .int .i64, .sl false false 126], vi, vi], ⟨[vo 5, vb], [none, none, none]⟩, Tryz.f41⟩
noncomputable def spec_FmExtract.gs (δ : Type) : List (Nat × Callee (GT tab) δ) := [(60, spec_l09Text.k)]
theorem spec_FmExtract.gok (δ : Type) : AllCon Tryz.prog tab (spec_FmExtract.gs δ) := .cons spec_l09Text.con .nil
noncomputable def spec_FmExtract.c := cx spec_FmExtract.s [] [] false (spec_FmExtract.gs _)
noncomputable def spec_FmExtract (x0 : Int × Int × Int × (List Int) × (List (Int × (List Int))) × (List Int) × Int × (List Int) × Int × Int × Int × (List Int) × Int × Int × Int × (List Int)) (x1 x2 : Int) : Option ((List Int) × Bool) := fnW spec_FmExtract.s spec_FmExtract.c (x0, x1, x2)
theorem spec_FmExtract.fok : FkS spec_FmExtract.s 41 := ⟨Tryz.func41, by kernel_rfl, by kernel_rfl⟩
noncomputable def spec_FmExtract.fn (x : Args tab spec_FmExtract.s.ar) : Option (ResT tab spec_FmExtract.s.rs) := spec_FmExtract x.1 x.2.1 x.2.2
noncomputable abbrev spec_FmExtract.k {δ : Type} : Callee (GT tab) δ := kS spec_FmExtract.s spec_FmExtract.fn
theorem spec_FmExtract.con {δ : Type} : Con Tryz.prog (KT tab) 41 (spec_FmExtract.k (δ := δ)) := con_shape (c := spec_FmExtract.c) mixed tysOk (getG_con (spec_FmExtract.gok _)) spec_FmExtract.fok rfl rfl fun _ => rfl
theorem spec_FmExtract.eq (x0 : Int × Int × Int × (List Int) × (List (Int × (List Int))) × (List Int) × Int × (List Int) × Int × Int × Int × (List Int) × Int × Int × Int × (List Int)) (x1 x2 : Int) : spec_FmExtract x0 x1 x2 =
    (spec_l09Text x0).bind fun y1 =>
    bif !y1.2 then
      some (([] : List Int), false)
    else
      bif decide (x1 < (0 : Int)) then
        some (([] : List Int), false)
      else
        bif decide (x1 > x2) then
          some (([] : List Int), false)
        else
          bif decide (x2 > (y1.1.length : Int)) then
            some (([] : List Int), false)
          else
            bif decide (0 ≤ x2 ∧ x2 ≤ ((y1.1.length : Nat) : Int)) then
              bif decide (0 ≤ x1 ∧ x1 ≤ ((x2.toNat : Nat) : Int)) then
                bif decide ((([] : List Int).length + ((y1.1.drop x1.toNat).take (x2.toNat - x1.toNat)).length) * 1 ≤ 140737488355328) then
                  some (([] : List Int) ++ ((y1.1.drop x1.toNat).take (x2.toNat - x1.toNat)), true)
                else
                  none
              else
                none
            else
              none := by kernel_rfl

noncomputable abbrev impl_isRange.s : Sg := ⟨[.lend, .lend, .lend], [vi, vi, vi], ⟨[vb], [none, none, none]⟩, Tryz.f93⟩
noncomputable def impl_isRange.gs (δ : Type) : List (Nat × Callee (GT tab) δ) := []
theorem impl_isRange.gok (δ : Type) : AllCon Tryz.prog tab (impl_isRange.gs δ) := .nil
noncomputable def impl_isRange.c := cx impl_isRange.s [] [] false (impl_isRange.gs _)
noncomputable def impl_isRange (x0 x1 x2 : Int) : Option (Bool) := fnW impl_isRange.s impl_isRange.c (x0, x1, x2)
theorem impl_isRange.fok : FkS impl_isRange.s 93 := ⟨Tryz.func93, by kernel_rfl, by kernel_rfl⟩
noncomputable def impl_isRange.fn (x : Args tab impl_isRange.s.ar) : Option (ResT tab impl_isRange.s.rs) := impl_isRange x.1 x.2.1 x.2.2
noncomputable abbrev impl_isRange.k {δ : Type} : Callee (GT tab) δ := kS impl_isRange.s impl_isRange.fn
theorem impl_isRange.con {δ : Type} : Con Tryz.prog (KT tab) 93 (impl_isRange.k (δ := δ)) := con_shape (c := impl_isRange.c) mixed tysOk (getG_con (impl_isRange.gok _)) impl_isRange.fok rfl rfl fun _ => rfl
theorem impl_isRange.eq (x0 x1 x2 : Int) : impl_isRange x0 x1 x2 =
    bif decide ((0 : Int) ≤ x0) then
      bif decide (x0 ≤ x1) then
        some (decide (x1 ≤ x2))
      else
        some false
    else
      some false := by kernel_rfl

noncomputable abbrev bytes_Clone.s : Sg := ⟨[.lend], [vl 5], ⟨[vo 5], [none]⟩, Tryz.f94⟩
noncomputable def bytes_Clone.gs (δ : Type) : List (Nat × Callee (GT tab) δ) := []
theorem bytes_Clone.gok (δ : Type) : AllCon Tryz.prog tab (bytes_Clone.gs δ) := .nil
noncomputable def bytes_Clone.c := cx bytes_Clone.s [] [] false (bytes_Clone.gs _)
noncomputable def bytes_Clone (x0 : List Int) : Option (List Int) := fnW bytes_Clone.s bytes_Clone.c x0
theorem bytes_Clone.fok : FkS bytes_Clone.s 94 := ⟨Tryz.func94, by kernel_rfl, by kernel_rfl⟩
noncomputable def bytes_Clone.fn (x : Args tab bytes_Clone.s.ar) : Option (ResT tab bytes_Clone.s.rs) := bytes_Clone x
noncomputable abbrev bytes_Clone.k {δ : Type} : Callee (GT tab) δ := kS bytes_Clone.s bytes_Clone.fn
theorem bytes_Clone.con {δ : Type} : Con Tryz.prog (KT tab) 94 (bytes_Clone.k (δ := δ)) := con_shape (c := bytes_Clone.c) mixed tysOk (getG_con (bytes_Clone.gok _)) bytes_Clone.fok rfl rfl fun _ => rfl
theorem bytes_Clone.eq (x0 : List Int) : bytes_Clone x0 =
    bif x0.length.beq 0 then
      both (some ([] : List Int)) (bif decide ((([] : List Int).length + x0.length) * 1 ≤ 140737488355328) then
        some (([] : List Int) ++ x0)
      else
        none)
    else
      bif decide ((([] : List Int).length + x0.length) * 1 ≤ 140737488355328) then
        some (([] : List Int) ++ x0)
      else
        none := by kernel_rfl

noncomputable abbrev impl_FmExtract.s : Sg := ⟨[.lend, .lend, .lend], [.agg [.int .i64, .int .i64, .int .i64, .sl false false 3, .sl false false 30, .sl false false 3, .int .i64, .sl false false 126, .int .i64, .int .i64, .int .i64, .sl false false 126, .int .i64, .int .i64, .int .i64, .sl false false 126], vi, vi], ⟨[vo 5, vb], [none, none, none]⟩, Tryz.f42⟩
noncomputable def impl_FmExtract.gs (δ : Type) : List (Nat × Callee (GT tab) δ) := [(58, impl_Fm_read.k), (93, impl_isRange.k), (94, bytes_Clone.k)]
theorem impl_FmExtract.gok (δ : Type) : AllCon Tryz.prog tab (impl_FmExtract.gs δ) := .cons impl_Fm_read.con (.cons impl_isRange.con (.cons bytes_Clone.con .nil))
noncomputable def impl_FmExtract.c := cx impl_FmExtract.s [] [] false (impl_FmExtract.gs _)
noncomputable def impl_FmExtract (x0 : Int × Int × Int × (List Int) × (List (Int × (List Int))) × (List Int) × Int × (List Int) × Int × Int × Int × (List Int) × Int × Int × Int × (List Int)) (x1 x2 : Int) : Option ((List Int) × Bool) := fnW impl_FmExtract.s impl_FmExtract.c (x0, x1, x2)
theorem impl_FmExtract.fok : FkS impl_FmExtract.s 42 := ⟨Tryz.func42, by kernel_rfl, by kernel_rfl⟩
noncomputable def impl_FmExtract.fn (x : Args tab impl_FmExtract.s.ar) : Option (ResT tab impl_FmExtract.s.rs) := impl_FmExtract x.1 x.2.1 x.2.2
noncomputable abbrev impl_FmExtract.k {δ : Type} : Callee (GT tab) δ := kS impl_FmExtract.s impl_FmExtract.fn
theorem impl_FmExtract.con {δ : Type} : Con Tryz.prog (KT tab) 42 (impl_FmExtract.k (δ := δ)) := con_shape (c := impl_FmExtract.c) mixed tysOk (getG_con (impl_FmExtract.gok _)) impl_FmExtract.fok rfl rfl fun _ => rfl
theorem impl_FmExtract.eq (x0 : Int × Int × Int × (List Int) × (List (Int × (List Int))) × (List Int) × Int × (List Int) × Int × Int × Int × (List Int) × Int × Int × Int × (List Int)) (x1 x2 : Int) : impl_FmExtract x0 x1 x2 =
    (impl_Fm_read x0).bind fun y1 =>
    bif !y1.2 then
      some (([] : List Int), false)
    else
      (impl_isRange x1 x2 (y1.1.length : Int)).bind fun y2 =>
      bif !y2 then
        some (([] : List Int), false)
      else
        bif decide (0 ≤ x2 ∧ x2 ≤ ((y1.1.length : Nat) : Int)) then
          bif decide (0 ≤ x1 ∧ x1 ≤ ((x2.toNat : Nat) : Int)) then
            (bytes_Clone ((y1.1.drop x1.toNat).take (x2.toNat - x1.toNat))).bind fun y3 =>
            some (y3, true)
          else
            none
        else
          none := by kernel_rfl

end Go.Ev.W
