/- What functions of the program come to. -/
import Derived.Test.YtmdkpcneakoagaaGreatPhT
import Derived.Test.YtmdkpcneakoagaaGreatPh2
import Derived.Test.YtmdkpcneakoagaaGreatPh3
namespace Go.Ev.W
open Go.Ev Go.Proofs
set_option maxRecDepth 100000
set_option linter.unusedVariables false
noncomputable abbrev Q1x.s : Sg := ⟨[.lend], [ag6], ⟨[vo 5], [none]⟩, Tryz.f11⟩
noncomputable def Q1x.gs (δ : Type) : List (Nat × KC δ) := [(41, Q08.k)]
theorem Q1x.gok (δ : Type) : Q4 Tryz.prog tab (Q1x.gs δ) := .cons Q08.con .nil
noncomputable def Q1x.c := cx Q1x.s [] [] [] false (Q1x.gs _)
noncomputable def Q1x (x0 : FmA) : Option (List Int) := fnW Q1x.s Q1x.c x0
theorem Q1x.fok : FkS Q1x.s 11 := ⟨Tryz.func11, by kernel_rfl, by kernel_rfl⟩
noncomputable def Q1x.fn (x : Args tab Q1x.s.ar) : Option (ResT tab Q1x.s.rs) := Q1x x
noncomputable abbrev Q1x.k {δ : Type} : KC δ := kS Q1x.s Q1x.fn
theorem Q1x.con {δ : Type} : Con Tryz.prog (KT tab) 11 (Q1x.k (δ := δ)) := Q5 (c := Q1x.c) mixed Q0 (Q1 (Q1x.gok _)) Q1x.fok rfl rfl fun _ => rfl
theorem Q1x.eq (x0 : FmA) : Q1x x0 =
 (Q08 x0).bind fun y1 =>
 some y1.1 := by kernel_rfl
noncomputable abbrev Q1y.s : Sg := ⟨[.lend, .lend, .lend, .lend], [vl 5, vl 5, vi, vi], ⟨[vo 140], [none, none, none, none]⟩, Tryz.f10⟩
noncomputable def Q1y.gs (δ : Type) : List (Nat × KC δ) := [(47, Q0Q.k), (50, QB.k)]
theorem Q1y.gok (δ : Type) : Q4 Tryz.prog tab (Q1y.gs δ) := .cons Q0Q.con (.cons QB.con .nil)
noncomputable def Q1y.c := cx Q1y.s [] [] [] false (Q1y.gs _)
noncomputable def Q1y (x0 x1 : List Int) (x2 x3 : Int) : Option (List (Int × Int)) := fnW Q1y.s Q1y.c (x0, x1, x2, x3)
theorem Q1y.fok : FkS Q1y.s 10 := ⟨Tryz.func10, by kernel_rfl, by kernel_rfl⟩
noncomputable def Q1y.fn (x : Args tab Q1y.s.ar) : Option (ResT tab Q1y.s.rs) := Q1y x.1 x.2.1 x.2.2.1 x.2.2.2
noncomputable abbrev Q1y.k {δ : Type} : KC δ := kS Q1y.s Q1y.fn
theorem Q1y.con {δ : Type} : Con Tryz.prog (KT tab) 10 (Q1y.k (δ := δ)) := Q5 (c := Q1y.c) mixed Q0 (Q1 (Q1y.gok _)) Q1y.fok rfl rfl fun _ => rfl
theorem Q1y.eq (x0 x1 : List Int) (x2 x3 : Int) : Q1y x0 x1 x2 x3 =
 (Q0Q x0 x1 x2).bind fun y1 =>
 bif !y1 then
 some ([] : List (Int × Int))
 else
 (QB x0 x1 x2 x3).bind fun y2 =>
 some y2 := by kernel_rfl
noncomputable abbrev Q01.s : Sg := ⟨[.lend, .lend], [ag3, ag3], ⟨[vb], [none, none]⟩, Tryz.f13⟩
noncomputable def Q01.gs (δ : Type) : List (Nat × KC δ) := []
theorem Q01.gok (δ : Type) : Q4 Tryz.prog tab (Q01.gs δ) := .nil
noncomputable def Q01.c := cx Q01.s [] [3] [(3, [2, 3]), (4, [2, 3, 5])] false (Q01.gs _)
noncomputable def Q01 (x0 x1 : Int × (List Int)) : Option (Bool) := fnW Q01.s Q01.c (x0, x1)
theorem Q01.fok : FkS Q01.s 13 := ⟨Tryz.func13, by kernel_rfl, by kernel_rfl⟩
noncomputable def Q01.fn (x : Args tab Q01.s.ar) : Option (ResT tab Q01.s.rs) := Q01 x.1 x.2
noncomputable abbrev Q01.k {δ : Type} : KC δ := kS Q01.s Q01.fn
theorem Q01.con {δ : Type} : Con Tryz.prog (KT tab) 13 (Q01.k (δ := δ)) := Q5 (c := Q01.c) mixed Q0 (Q1 (Q01.gok _)) Q01.fok rfl rfl fun _ => rfl
noncomputable def Q01_l0 (v0 : Int) (v1 : List Int) (v2 : Int) (v3 : List Int) : Option (Bool) := lpW Q01.s Q01.c 0 (ud 34 [.undef, .undef, .ptr 0 0, .ptr 1 0]) [.box 30 [.int .i64 v0, .vs false 90 v1], .box 30 [.int .i64 v2, .vs false 90 v3]] 2
noncomputable def Q01_l1 (v0 v1 : Int) (v2 : List Int) (v3 : Int) (v4 : List Int) : Option (Bool) := lpW Q01.s Q01.c 1 (ud 32 [.undef, .undef, .ptr 0 0, .ptr 1 0, .undef, .int .i64 v0]) [.box 30 [.int .i64 v1, .vs false 90 v2], .box 30 [.int .i64 v3, .vs false 90 v4]] 2
theorem Q01.eq (x0 x1 : Int × (List Int)) : Q01 x0 x1 =
 bif x0.1 != x1.1 then
 some false
 else
 bif (x0.2.length : Int) != (x1.2.length : Int) then
 some false
 else
 Q01_l0 x0.1 x0.2 x1.1 x1.2 := by kernel_rfl
theorem Q01_l0.eq (v0 : Int) (v1 : List Int) (v2 : Int) (v3 : List Int) : Q01_l0 v0 v1 v2 v3 =
 Q01_l1 0 v0 v1 v2 v3 := (Q7 Q0 (Q1 (Q01.gok _)) _ _).trans (by kernel_rfl)
theorem Q01_l1.eq (v0 v1 : Int) (v2 : List Int) (v3 : Int) (v4 : List Int) : Q01_l1 v0 v1 v2 v3 v4 =
 bif decide (v0 < (v2.length : Int)) then
 (at? v2 v0).bind fun y1 =>
 (at? v4 v0).bind fun y2 =>
 bif y1 != y2 then
 some false
 else
 Q01_l1 (IntKind.i64.wrap (v0 + 1)) v1 v2 v3 v4
 else
 some true := (Q7 Q0 (Q1 (Q01.gok _)) _ _).trans (by kernel_rfl)
end Go.Ev.W
