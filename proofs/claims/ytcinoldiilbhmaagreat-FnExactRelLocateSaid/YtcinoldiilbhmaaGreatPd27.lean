/- What functions of the program come to. -/
import Derived.Test.YtcinoldiilbhmaaGreatPdT
import Derived.Test.YtcinoldiilbhmaaGreatPd1
import Derived.Test.YtcinoldiilbhmaaGreatPd10
import Derived.Test.YtcinoldiilbhmaaGreatPd17
namespace Go.Ev.W
open Go.Ev Go.Proofs
set_option maxRecDepth 100000
set_option linter.unusedVariables false

noncomputable abbrev spec_FmLocate.s : Sg := ⟨[.lend, .lend], [.agg [.int .i64, .int .i64, .int .i64, .sl false false 3, .sl false false 41, .sl false false 3, .int .i64, .sl false false 157, .int .i64, .int .i64, .int .i64, .sl false false 157, .int .i64, .int .i64, .int .i64, .sl false false 157], vl 5], ⟨[vo 3], [none, none]⟩, Tryz.f102⟩
noncomputable def spec_FmLocate.gs (δ : Type) : List (Nat × Callee (GT tab) δ) := [(114, spec_l09Text.k), (161, spec_Occurs.k)]
theorem spec_FmLocate.gok (δ : Type) : AllCon Tryz.prog tab (spec_FmLocate.gs δ) := .cons spec_l09Text.con (.cons spec_Occurs.con .nil)
noncomputable def spec_FmLocate.c := cx spec_FmLocate.s [] [] false (spec_FmLocate.gs _)
noncomputable def spec_FmLocate (x0 : Int × Int × Int × (List Int) × (List (Int × (List Int))) × (List Int) × Int × (List Int) × Int × Int × Int × (List Int) × Int × Int × Int × (List Int)) (x1 : List Int) : Option (List Int) := fnW spec_FmLocate.s spec_FmLocate.c (x0, x1)
theorem spec_FmLocate.fok : FkS spec_FmLocate.s 102 := ⟨Tryz.func102, by kernel_rfl, by kernel_rfl⟩
noncomputable def spec_FmLocate.fn (x : Args tab spec_FmLocate.s.ar) : Option (ResT tab spec_FmLocate.s.rs) := spec_FmLocate x.1 x.2
noncomputable abbrev spec_FmLocate.k {δ : Type} : Callee (GT tab) δ := kS spec_FmLocate.s spec_FmLocate.fn
theorem spec_FmLocate.con {δ : Type} : Con Tryz.prog (KT tab) 102 (spec_FmLocate.k (δ := δ)) := con_shape (c := spec_FmLocate.c) mixed tysOk (getG_con (spec_FmLocate.gok _)) spec_FmLocate.fok rfl rfl fun _ => rfl
theorem spec_FmLocate.eq (x0 : Int × Int × Int × (List Int) × (List (Int × (List Int))) × (List Int) × Int × (List Int) × Int × Int × Int × (List Int) × Int × Int × Int × (List Int)) (x1 : List Int) : spec_FmLocate x0 x1 =
    (spec_l09Text x0).bind fun y1 =>
    bif !y1.2 then
      some ([] : List Int)
    else
      (spec_Occurs y1.1 x1).bind fun y2 =>
      some y2 := by kernel_rfl

noncomputable abbrev spec_RelLocate.s : Sg := ⟨[.lend, .lend, .lend], [.agg [.int .i64, .int .i64, .int .i64, .sl false false 3, .sl false false 41, .sl false false 3, .int .i64, .sl false false 157, .int .i64, .int .i64, .int .i64, .sl false false 157, .int .i64, .int .i64, .int .i64, .sl false false 157], .agg [.int .i64, .int .i64, .int .i64, .sl false false 157, .int .i64, .sl false false 157, .int .i64, .sl false false 3, .sl false false 41, .int .i64, .sl false false 3, .sl false false 41, .sl false false 3, .int .i64, .sl false false 157, .int .i64, .int .i64, .int .i64, .sl false false 157, .int .i64, .int .i64, .int .i64, .sl false false 157], vl 5], ⟨[vo 3], [none, none, none]⟩, Tryz.f50⟩
noncomputable def spec_RelLocate.gs (δ : Type) : List (Nat × Callee (GT tab) δ) := [(79, spec_l14Own.k), (102, spec_FmLocate.k)]
theorem spec_RelLocate.gok (δ : Type) : AllCon Tryz.prog tab (spec_RelLocate.gs δ) := .cons spec_l14Own.con (.cons spec_FmLocate.con .nil)
noncomputable def spec_RelLocate.c := cx spec_RelLocate.s [] [] false (spec_RelLocate.gs _)
noncomputable def spec_RelLocate (x0 : Int × Int × Int × (List Int) × (List (Int × (List Int))) × (List Int) × Int × (List Int) × Int × Int × Int × (List Int) × Int × Int × Int × (List Int)) (x1 : Int × Int × Int × (List Int) × Int × (List Int) × Int × (List Int) × (List (Int × (List Int))) × Int × (List Int) × (List (Int × (List Int))) × (List Int) × Int × (List Int) × Int × Int × Int × (List Int) × Int × Int × Int × (List Int)) (x2 : List Int) : Option (List Int) := fnW spec_RelLocate.s spec_RelLocate.c (x0, x1, x2)
theorem spec_RelLocate.fok : FkS spec_RelLocate.s 50 := ⟨Tryz.func50, by kernel_rfl, by kernel_rfl⟩
noncomputable def spec_RelLocate.fn (x : Args tab spec_RelLocate.s.ar) : Option (ResT tab spec_RelLocate.s.rs) := spec_RelLocate x.1 x.2.1 x.2.2
noncomputable abbrev spec_RelLocate.k {δ : Type} : Callee (GT tab) δ := kS spec_RelLocate.s spec_RelLocate.fn
theorem spec_RelLocate.con {δ : Type} : Con Tryz.prog (KT tab) 50 (spec_RelLocate.k (δ := δ)) := con_shape (c := spec_RelLocate.c) mixed tysOk (getG_con (spec_RelLocate.gok _)) spec_RelLocate.fok rfl rfl fun _ => rfl
theorem spec_RelLocate.eq (x0 : Int × Int × Int × (List Int) × (List (Int × (List Int))) × (List Int) × Int × (List Int) × Int × Int × Int × (List Int) × Int × Int × Int × (List Int)) (x1 : Int × Int × Int × (List Int) × Int × (List Int) × Int × (List Int) × (List (Int × (List Int))) × Int × (List Int) × (List (Int × (List Int))) × (List Int) × Int × (List Int) × Int × Int × Int × (List Int) × Int × Int × Int × (List Int)) (x2 : List Int) : spec_RelLocate x0 x1 x2 =
    (spec_l14Own x0 x1).bind fun y1 =>
    (spec_FmLocate y1 x2).bind fun y2 =>
    some y2 := by kernel_rfl

noncomputable abbrev impl_TextOk.s : Sg := ⟨[.lend], [vl 5], ⟨[vb], [none]⟩, Tryz.f211⟩
noncomputable def impl_TextOk.gs (δ : Type) : List (Nat × Callee (GT tab) δ) := []
theorem impl_TextOk.gok (δ : Type) : AllCon Tryz.prog tab (impl_TextOk.gs δ) := .nil
noncomputable def impl_TextOk.c := cx impl_TextOk.s [] [] false (impl_TextOk.gs _)
noncomputable def impl_TextOk (x0 : List Int) : Option (Bool) := fnW impl_TextOk.s impl_TextOk.c x0
theorem impl_TextOk.fok : FkS impl_TextOk.s 211 := ⟨Tryz.func211, by kernel_rfl, by kernel_rfl⟩
noncomputable def impl_TextOk.fn (x : Args tab impl_TextOk.s.ar) : Option (ResT tab impl_TextOk.s.rs) := impl_TextOk x
noncomputable abbrev impl_TextOk.k {δ : Type} : Callee (GT tab) δ := kS impl_TextOk.s impl_TextOk.fn
theorem impl_TextOk.con {δ : Type} : Con Tryz.prog (KT tab) 211 (impl_TextOk.k (δ := δ)) := con_shape (c := impl_TextOk.c) mixed tysOk (getG_con (impl_TextOk.gok _)) impl_TextOk.fok rfl rfl fun _ => rfl
theorem impl_TextOk.eq (x0 : List Int) : impl_TextOk x0 =
    some (decide ((x0.length : Int) ≤ (300 : Int))) := by kernel_rfl

noncomputable abbrev impl_Occurs.s : Sg := ⟨[.lend, .lend], [vl 5, vl 5], ⟨[vo 3], [none, none]⟩, Tryz.f162⟩
noncomputable def impl_Occurs.gs (δ : Type) : List (Nat × Callee (GT tab) δ) := [(201, bytes_HasPrefix.k), (211, impl_TextOk.k)]
theorem impl_Occurs.gok (δ : Type) : AllCon Tryz.prog tab (impl_Occurs.gs δ) := .cons bytes_HasPrefix.con (.cons impl_TextOk.con .nil)
noncomputable def impl_Occurs.c := cx impl_Occurs.s [] [(5, [0, 1, 5, 12, 13])] false (impl_Occurs.gs _)
noncomputable def impl_Occurs (x0 x1 : List Int) : Option (List Int) := fnW impl_Occurs.s impl_Occurs.c (x0, x1)
theorem impl_Occurs.fok : FkS impl_Occurs.s 162 := ⟨Tryz.func162, by kernel_rfl, by kernel_rfl⟩
noncomputable def impl_Occurs.fn (x : Args tab impl_Occurs.s.ar) : Option (ResT tab impl_Occurs.s.rs) := impl_Occurs x.1 x.2
noncomputable abbrev impl_Occurs.k {δ : Type} : Callee (GT tab) δ := kS impl_Occurs.s impl_Occurs.fn
theorem impl_Occurs.con {δ : Type} : Con Tryz.prog (KT tab) 162 (impl_Occurs.k (δ := δ)) := con_shape (c := impl_Occurs.c) mixed tysOk (getG_con (impl_Occurs.gok _)) impl_Occurs.fok rfl rfl fun _ => rfl
noncomputable def impl_Occurs_l0 (v0 v1 : List Int) (v2 v3 : Int) (v4 : List Int) : Option (List Int) := lpW impl_Occurs.s impl_Occurs.c 0 (ud 13 [.vs false 5 v0, .vs false 5 v1, .undef, .undef, .undef, .sl 0 0, .undef, .undef, .undef, .undef, .undef, .undef, .int .i64 v2, .int .i64 v3]) [.row 0 true 3 v4] 1
theorem impl_Occurs.eq (x0 x1 : List Int) : impl_Occurs x0 x1 =
    (impl_TextOk x0).bind fun y1 =>
    bif !y1 then
      some ([] : List Int)
    else
      impl_Occurs_l0 x0 x1 (IntKind.i64.wrap ((x0.length : Int) + (1 : Int))) (0 : Int) ([] : List Int) := by kernel_rfl
theorem impl_Occurs_l0.eq (v0 v1 : List Int) (v2 v3 : Int) (v4 : List Int) : impl_Occurs_l0 v0 v1 v2 v3 v4 =
    bif decide (v3 < v2) then
      bif decide (0 ≤ v3 ∧ v3 ≤ ((v0.length : Nat) : Int)) then
        (bytes_HasPrefix ((v0.take v0.length).drop v3.toNat) v1).bind fun y1 =>
        bif y1 then
          bif decide ((v4.length + ([v3] : List Int).length) * 8 ≤ 140737488355328) then
            impl_Occurs_l0 v0 v1 v2 (IntKind.i64.wrap (v3 + (1 : Int))) (v4 ++ ([v3] : List Int))
          else
            none
        else
          impl_Occurs_l0 v0 v1 v2 (IntKind.i64.wrap (v3 + (1 : Int))) v4
      else
        none
    else
      some v4 := (Lw_eq tysOk (getG_con (impl_Occurs.gok _)) _ _).trans (by kernel_rfl)

noncomputable abbrev impl_FmLocate.s : Sg := ⟨[.lend, .lend], [.agg [.int .i64, .int .i64, .int .i64, .sl false false 3, .sl false false 41, .sl false false 3, .int .i64, .sl false false 157, .int .i64, .int .i64, .int .i64, .sl false false 157, .int .i64, .int .i64, .int .i64, .sl false false 157], vl 5], ⟨[vo 3], [none, none]⟩, Tryz.f103⟩
noncomputable def impl_FmLocate.gs (δ : Type) : List (Nat × Callee (GT tab) δ) := [(132, impl_Fm_read.k), (162, impl_Occurs.k)]
theorem impl_FmLocate.gok (δ : Type) : AllCon Tryz.prog tab (impl_FmLocate.gs δ) := .cons impl_Fm_read.con (.cons impl_Occurs.con .nil)
noncomputable def impl_FmLocate.c := cx impl_FmLocate.s [] [] false (impl_FmLocate.gs _)
noncomputable def impl_FmLocate (x0 : Int × Int × Int × (List Int) × (List (Int × (List Int))) × (List Int) × Int × (List Int) × Int × Int × Int × (List Int) × Int × Int × Int × (List Int)) (x1 : List Int) : Option (List Int) := fnW impl_FmLocate.s impl_FmLocate.c (x0, x1)
theorem impl_FmLocate.fok : FkS impl_FmLocate.s 103 := ⟨Tryz.func103, by kernel_rfl, by kernel_rfl⟩
noncomputable def impl_FmLocate.fn (x : Args tab impl_FmLocate.s.ar) : Option (ResT tab impl_FmLocate.s.rs) := impl_FmLocate x.1 x.2
noncomputable abbrev impl_FmLocate.k {δ : Type} : Callee (GT tab) δ := kS impl_FmLocate.s impl_FmLocate.fn
theorem impl_FmLocate.con {δ : Type} : Con Tryz.prog (KT tab) 103 (impl_FmLocate.k (δ := δ)) := con_shape (c := impl_FmLocate.c) mixed tysOk (getG_con (impl_FmLocate.gok _)) impl_FmLocate.fok rfl rfl fun _ => rfl
theorem impl_FmLocate.eq (x0 : Int × Int × Int × (List Int) × (List (Int × (List Int))) × (List Int) × Int × (List Int) × Int × Int × Int × (List Int) × Int × Int × Int × (List Int)) (x1 : List Int) : impl_FmLocate x0 x1 =
    (impl_Fm_read x0).bind fun y1 =>
    bif !y1.2 then
      some ([] : List Int)
    else
      (impl_Occurs y1.1 x1).bind fun y2 =>
      some y2 := by kernel_rfl

noncomputable abbrev impl_RelLocate.s : Sg := ⟨[.lend, .lend, .lend], [.agg [.int .i64, .int .i64, .int .i64, .sl false false 3, .sl false false 41, .sl false false 3, .int .i64, .sl false false 157, .int .i64, .int .i64, .int .i64, .sl false false 157, .int .i64, .int .i64, .int .i64, .sl false false 157], .agg [.int .i64, .int .i64, .int .i64, .sl false false 157, .int .i64, .sl false false 157, .int .i64, .sl false false 3, .sl false false 41, .int .i64, .sl false false 3, .sl false false 41, .sl false false 3, .int .i64, .sl false false 157, .int .i64, .int .i64, .int .i64, .sl false false 157, .int .i64, .int .i64, .int .i64, .sl false false 157], vl 5], ⟨[vo 3], [none, none, none]⟩, Tryz.f51⟩
noncomputable def impl_RelLocate.gs (δ : Type) : List (Nat × Callee (GT tab) δ) := [(81, impl_Rel_full.k), (103, impl_FmLocate.k)]
theorem impl_RelLocate.gok (δ : Type) : AllCon Tryz.prog tab (impl_RelLocate.gs δ) := .cons impl_Rel_full.con (.cons impl_FmLocate.con .nil)
noncomputable def impl_RelLocate.c := cx impl_RelLocate.s [] [] false (impl_RelLocate.gs _)
noncomputable def impl_RelLocate (x0 : Int × Int × Int × (List Int) × (List (Int × (List Int))) × (List Int) × Int × (List Int) × Int × Int × Int × (List Int) × Int × Int × Int × (List Int)) (x1 : Int × Int × Int × (List Int) × Int × (List Int) × Int × (List Int) × (List (Int × (List Int))) × Int × (List Int) × (List (Int × (List Int))) × (List Int) × Int × (List Int) × Int × Int × Int × (List Int) × Int × Int × Int × (List Int)) (x2 : List Int) : Option (List Int) := fnW impl_RelLocate.s impl_RelLocate.c (x0, x1, x2)
theorem impl_RelLocate.fok : FkS impl_RelLocate.s 51 := ⟨Tryz.func51, by kernel_rfl, by kernel_rfl⟩
noncomputable def impl_RelLocate.fn (x : Args tab impl_RelLocate.s.ar) : Option (ResT tab impl_RelLocate.s.rs) := impl_RelLocate x.1 x.2.1 x.2.2
noncomputable abbrev impl_RelLocate.k {δ : Type} : Callee (GT tab) δ := kS impl_RelLocate.s impl_RelLocate.fn
theorem impl_RelLocate.con {δ : Type} : Con Tryz.prog (KT tab) 51 (impl_RelLocate.k (δ := δ)) := con_shape (c := impl_RelLocate.c) mixed tysOk (getG_con (impl_RelLocate.gok _)) impl_RelLocate.fok rfl rfl fun _ => rfl
theorem impl_RelLocate.eq (x0 : Int × Int × Int × (List Int) × (List (Int × (List Int))) × (List Int) × Int × (List Int) × Int × Int × Int × (List Int) × Int × Int × Int × (List Int)) (x1 : Int × Int × Int × (List Int) × Int × (List Int) × Int × (List Int) × (List (Int × (List Int))) × Int × (List Int) × (List (Int × (List Int))) × (List Int) × Int × (List Int) × Int × Int × Int × (List Int) × Int × Int × Int × (List Int)) (x2 : List Int) : impl_RelLocate x0 x1 x2 =
    (impl_Rel_full x1 x0).bind fun y1 =>
    (impl_FmLocate y1 x2).bind fun y2 =>
    some y2 := by kernel_rfl

noncomputable abbrev laws_heldIntS.s : Sg := ⟨[.lend, .lend], [vl 3, vi], ⟨[vi], [none, none]⟩, Tryz.f54⟩
noncomputable def laws_heldIntS.gs (δ : Type) : List (Nat × Callee (GT tab) δ) := []
theorem laws_heldIntS.gok (δ : Type) : AllCon Tryz.prog tab (laws_heldIntS.gs δ) := .nil
noncomputable def laws_heldIntS.c := cx laws_heldIntS.s [] [(2, [0, 1, 5])] false (laws_heldIntS.gs _)
noncomputable def laws_heldIntS (x0 : List Int) (x1 : Int) : Option (Int) := fnW laws_heldIntS.s laws_heldIntS.c (x0, x1)
theorem laws_heldIntS.fok : FkS laws_heldIntS.s 54 := ⟨Tryz.func54, by kernel_rfl, by kernel_rfl⟩
noncomputable def laws_heldIntS.fn (x : Args tab laws_heldIntS.s.ar) : Option (ResT tab laws_heldIntS.s.rs) := laws_heldIntS x.1 x.2
noncomputable abbrev laws_heldIntS.k {δ : Type} : Callee (GT tab) δ := kS laws_heldIntS.s laws_heldIntS.fn
theorem laws_heldIntS.con {δ : Type} : Con Tryz.prog (KT tab) 54 (laws_heldIntS.k (δ := δ)) := con_shape (c := laws_heldIntS.c) mixed tysOk (getG_con (laws_heldIntS.gok _)) laws_heldIntS.fok rfl rfl fun _ => rfl
noncomputable def laws_heldIntS_l0 (v0 : List Int) (v1 v2 : Int) : Option (Int) := lpW laws_heldIntS.s laws_heldIntS.c 0 (ud 15 [.vs false 3 v0, .int .i64 v1, .undef, .undef, .undef, .int .i64 v2]) [] 0
theorem laws_heldIntS.eq (x0 : List Int) (x1 : Int) : laws_heldIntS x0 x1 =
    laws_heldIntS_l0 x0 x1 (0 : Int) := by kernel_rfl
theorem laws_heldIntS_l0.eq (v0 : List Int) (v1 v2 : Int) : laws_heldIntS_l0 v0 v1 v2 =
    bif decide (v2 < (v0.length : Int)) then
      (at? v0 v2).bind fun y1 =>
      bif y1 != v1 then
        some (-1 : Int)
      else
        laws_heldIntS_l0 v0 (IntKind.i64.wrap (v1 + (1 : Int))) (IntKind.i64.wrap (v2 + (1 : Int)))
    else
      some v1 := (Lw_eq tysOk (getG_con (laws_heldIntS.gok _)) _ _).trans (by kernel_rfl)

end Go.Ev.W
