/- What functions of the program come to. -/
import Derived.Test.YtmdkpcneakoagaaGreatPhT
import Derived.Test.YtmdkpcneakoagaaGreatEvCmp
import Derived.Test.YtmdkpcneakoagaaGreatEvGrow
import Derived.Test.YtmdkpcneakoagaaGreatEvSort
import Derived.Test.YtmdkpcneakoagaaGreatEvTable
import Derived.Test.YtmdkpcneakoagaaGreatPhI183
import Derived.Test.YtmdkpcneakoagaaGreatPhL
namespace Go.Ev.W
open Go.Ev Go.Proofs
noncomputable section
set_option maxRecDepth 100000
set_option linter.unusedVariables false
abbrev Q0S.s : Sg := ⟨[.lend], [vl 5], ⟨[vb], [none]⟩, Tryz.f85⟩
def Q0S.gs (δ : Type) : List (Nat × KC δ) := []
theorem Q0S.gok (δ : Type) : Q4 Tryz.prog tab (Q0S.gs δ) := .nil
def Q0S.c := cx Q0S.s [] [] [] false (Q0S.gs _)
def Q0S (x0 : List Int) : Option (Bool) := fnW Q0S.s Q0S.c x0
theorem Q0S.fok : FkS Q0S.s 85 := ⟨Tryz.func85, by kernel_rfl, by kernel_rfl⟩
def Q0S.fn (x : Args tab Q0S.s.ar) : Option (ResT tab Q0S.s.rs) := Q0S x
abbrev Q0S.k {δ : Type} : KC δ := kS Q0S.s Q0S.fn
theorem Q0S.con {δ : Type} : Con Tryz.prog (KT tab) 85 (Q0S.k (δ := δ)) := Q5 (c := Q0S.c) mixed Q0 (Q1 (Q0S.gok _)) Q0S.fok rfl rfl fun _ => rfl
theorem Q0S.eq (x0 : List Int) : Q0S x0 =
 some (decide ((x0.length : Int) ≤ 300)) := by kernel_rfl
abbrev Q0I.s : Sg := ⟨[.lend], [vi], ⟨[vb], [none]⟩, Tryz.f43⟩
def Q0I.gs (δ : Type) : List (Nat × KC δ) := []
theorem Q0I.gok (δ : Type) : Q4 Tryz.prog tab (Q0I.gs δ) := .nil
def Q0I.c := cx Q0I.s [] [] [] false (Q0I.gs _)
def Q0I (x0 : Int) : Option (Bool) := fnW Q0I.s Q0I.c x0
theorem Q0I.fok : FkS Q0I.s 43 := ⟨Tryz.func43, by kernel_rfl, by kernel_rfl⟩
def Q0I.fn (x : Args tab Q0I.s.ar) : Option (ResT tab Q0I.s.rs) := Q0I x
abbrev Q0I.k {δ : Type} : KC δ := kS Q0I.s Q0I.fn
theorem Q0I.con {δ : Type} : Con Tryz.prog (KT tab) 43 (Q0I.k (δ := δ)) := Q5 (c := Q0I.c) mixed Q0 (Q1 (Q0I.gok _)) Q0I.fok rfl rfl fun _ => rfl
theorem Q0I.eq (x0 : Int) : Q0I x0 =
 bif decide (x0 ≥ 1) then
 some (decide (x0 ≤ 64))
 else
 some false := by kernel_rfl
abbrev QH.s : Sg := ⟨[.lend, .lend], [vl 5, vl 5], ⟨[vi], [none, none]⟩, Tryz.f136⟩
def QH.gs (δ : Type) : List (Nat × KC δ) := []
theorem QH.gok (δ : Type) : Q4 Tryz.prog tab (QH.gs δ) := .nil
def QH.c := cx QH.s [] [4] [(2, [0, 1, 5]), (4, [0, 1, 5])] false (QH.gs _)
def QH (x0 x1 : List Int) : Option (Int) := fnW QH.s QH.c (x0, x1)
theorem QH.fok : FkS QH.s 136 := ⟨Tryz.func136, by kernel_rfl, by kernel_rfl⟩
def QH.fn (x : Args tab QH.s.ar) : Option (ResT tab QH.s.rs) := QH x.1 x.2
abbrev QH.k {δ : Type} : KC δ := kS QH.s QH.fn
theorem QH.con {δ : Type} : Con Tryz.prog (KT tab) 136 (QH.k (δ := δ)) := Q5 (c := QH.c) mixed Q0 (Q1 (QH.gok _)) QH.fok rfl rfl fun _ => rfl
def QH_l0 (v0 v1 : List Int) (v2 : Int) : Option (Int) := lpW QH.s QH.c 0 (ud 40 [.vs false 5 v0, .vs false 5 v1, .undef, .undef, .undef, .int .i64 v2]) [] 0
def QH_l1 (v0 v1 : List Int) (v2 : Int) : Option (Int) := lpW QH.s QH.c 1 (ud 40 [.vs false 5 v0, .vs false 5 v1, .undef, .undef, .undef, .int .i64 v2]) [] 0
theorem QH.eq (x0 x1 : List Int) : QH x0 x1 =
 QH_l0 x0 x1 0 := by kernel_rfl
theorem QH_l0.eq (v0 v1 : List Int) (v2 : Int) : QH_l0 v0 v1 v2 =
 bif decide (v2 < (v0.length : Int)) then
 bif decide (v2 < (v1.length : Int)) then
 QH_l1 v0 v1 v2
 else
 bif decide ((v0.length : Int) < (v1.length : Int)) then
 some (-1 : Int)
 else
 bif decide ((v0.length : Int) > (v1.length : Int)) then
 some 1
 else
 some 0
 else
 bif decide ((v0.length : Int) < (v1.length : Int)) then
 some (-1 : Int)
 else
 bif decide ((v0.length : Int) > (v1.length : Int)) then
 some 1
 else
 some 0 := (Q7 Q0 (Q1 (QH.gok _)) _ _).trans (by kernel_rfl)
theorem QH_l1.eq (v0 v1 : List Int) (v2 : Int) : QH_l1 v0 v1 v2 =
 (at? v0 v2).bind fun y1 =>
 (at? v1 v2).bind fun y2 =>
 bif decide (y1 < y2) then
 some (-1 : Int)
 else
 (at? v0 v2).bind fun y3 =>
 (at? v1 v2).bind fun y4 =>
 bif decide (y3 > y4) then
 some 1
 else
 QH_l0 v0 v1 (IntKind.i64.wrap (v2 + 1)) := (Q7 Q0 (Q1 (QH.gok _)) _ _).trans (by kernel_rfl)
abbrev QD.s : Sg := ⟨[.lend], [vl 5], ⟨[vo 3], [none]⟩, Tryz.f86⟩
def QD.gs (δ : Type) : List (Nat × KC δ) := [(85, Q0S.k), (136, QH.k)]
theorem QD.gok (δ : Type) : Q4 Tryz.prog tab (QD.gs δ) := .cons Q0S.con (.cons QH.con .nil)
def QD.c := cx QD.s [] [] [(5, [0, 3, 4]), (9, [0, 3, 4, 5, 6])] false (QD.gs _)
def QD (x0 : List Int) : Option (List Int) := fnW QD.s QD.c x0
theorem QD.fok : FkS QD.s 86 := ⟨Tryz.func86, by kernel_rfl, by kernel_rfl⟩
def QD.fn (x : Args tab QD.s.ar) : Option (ResT tab QD.s.rs) := QD x
abbrev QD.k {δ : Type} : KC δ := kS QD.s QD.fn
theorem QD.con {δ : Type} : Con Tryz.prog (KT tab) 86 (QD.k (δ := δ)) := Q5 (c := QD.c) mixed Q0 (Q1 (QD.gok _)) QD.fok rfl rfl fun _ => rfl
def QD_l0 (v0 : List Int) (v1 : Int) (v2 : List Int) : Option (List Int) := lpW QD.s QD.c 0 (ud 51 [.vs false 5 v0, .undef, .undef, .sl 0 0, .int .i64 v1]) [.row 0 true 3 v2] 1
def QD_l1 (v0 : List Int) (v1 v2 v3 : Int) (v4 : List Int) : Option (List Int) := lpW QD.s QD.c 1 (ud 49 [.vs false 5 v0, .undef, .undef, .sl 0 0, .int .i64 v1, .int .i64 v2, .int .i64 v3]) [.row 0 true 3 v4] 1
theorem QD.eq (x0 : List Int) : QD x0 =
 (Q0S x0).bind fun y1 =>
 bif !y1 then
 some ([] : List Int)
 else
 QD_l0 x0 (x0.length : Int) ([] : List Int) := by kernel_rfl
theorem QD_l0.eq (v0 : List Int) (v1 : Int) (v2 : List Int) : QD_l0 v0 v1 v2 =
 bif decide (v1 ≥ 0) then
 QD_l1 v0 v1 0 (v2.length : Int) v2
 else
 some v2 := (Q7 Q0 (Q1 (QD.gok _)) _ _).trans (by kernel_rfl)
theorem QD_l1.eq (v0 : List Int) (v1 v2 v3 : Int) (v4 : List Int) : QD_l1 v0 v1 v2 v3 v4 =
 bif decide (v2 < v3) then
 (at? v4 (IntKind.i64.wrap ((IntKind.i64.wrap (v2 + v3)).tdiv 2))).bind fun y1 =>
 v4[(IntKind.i64.wrap ((IntKind.i64.wrap (v2 + v3)).tdiv 2)).toNat]?.bind fun y2 =>
 bif decide (0 ≤ y2 ∧ y2 ≤ ((v0.length : Nat) : Int)) then
 bif decide (0 ≤ v1 ∧ v1 ≤ ((v0.length : Nat) : Int)) then
 (QH ((v0.take v0.length).drop y2.toNat) ((v0.take v0.length).drop v1.toNat)).bind fun y3 =>
 bif decide (y3 < 0) then
 QD_l1 v0 v1 (IntKind.i64.wrap ((IntKind.i64.wrap ((IntKind.i64.wrap (v2 + v3)).tdiv 2)) + 1)) v3 v4
 else
 QD_l1 v0 v1 v2 (IntKind.i64.wrap ((IntKind.i64.wrap (v2 + v3)).tdiv 2)) v4
 else
 none
 else
 none
 else
 bif decide (0 ≤ v2 ∧ v2 ≤ ((v4.length : Nat) : Int)) then
 bif decide ((([v1] : List Int).length + ((v4.drop v2.toNat).take (v4.length - v2.toNat)).length) * 8 ≤ 140737488355328) then
 bif decide (0 ≤ v2 ∧ v2 ≤ ((v4.length : Nat) : Int)) then
 bif decide ((([] : List Int).length + ((v4.drop 0).take (v2.toNat - 0)).length) * 8 ≤ 140737488355328) then
 bif decide (((([] : List Int) ++ ((v4.drop 0).take (v2.toNat - 0))).length + (([v1] : List Int) ++ ((v4.drop v2.toNat).take (v4.length - v2.toNat))).length) * 8 ≤ 140737488355328) then
 QD_l0 v0 (IntKind.i64.wrap (v1 - 1)) ((([] : List Int) ++ ((v4.drop 0).take (v2.toNat - 0))) ++ (([v1] : List Int) ++ ((v4.drop v2.toNat).take (v4.length - v2.toNat))))
 else
 none
 else
 none
 else
 none
 else
 none
 else
 none := (Q7 Q0 (Q1 (QD.gok _)) _ _).trans (by kernel_rfl)
abbrev QM.s : Sg := ⟨[.lend], [vl 3], ⟨[vo 3, vb], [none]⟩, Tryz.f87⟩
def QM.gs (δ : Type) : List (Nat × KC δ) := []
theorem QM.gok (δ : Type) : Q4 Tryz.prog tab (QM.gs δ) := .nil
def QM.c := cx QM.s [] [] [(5, [0, 4, 5]), (9, [0, 4, 5, 6, 7])] false (QM.gs _)
def QM (x0 : List Int) : Option ((List Int) × Bool) := fnW QM.s QM.c x0
theorem QM.fok : FkS QM.s 87 := ⟨Tryz.func87, by kernel_rfl, by kernel_rfl⟩
def QM.fn (x : Args tab QM.s.ar) : Option (ResT tab QM.s.rs) := QM x
abbrev QM.k {δ : Type} : KC δ := kS QM.s QM.fn
theorem QM.con {δ : Type} : Con Tryz.prog (KT tab) 87 (QM.k (δ := δ)) := Q5 (c := QM.c) mixed Q0 (Q1 (QM.gok _)) QM.fok rfl rfl fun _ => rfl
def QM_l0 (v0 : List Int) (v1 : Int) (v2 : List Int) : Option ((List Int) × Bool) := lpW QM.s QM.c 0 (ud 32 [.vs false 3 v0, .undef, .undef, .undef, .sl 0 0, .int .i64 v1]) [.row 0 true 3 v2] 1
def QM_l1 (v0 : List Int) (v1 v2 v3 : Int) (v4 : List Int) : Option ((List Int) × Bool) := lpW QM.s QM.c 1 (ud 30 [.vs false 3 v0, .undef, .undef, .undef, .sl 0 0, .int .i64 v1, .int .i64 v2, .int .i64 v3]) [.row 0 true 3 v4] 1
theorem QM.eq (x0 : List Int) : QM x0 =
 bif decide ((x0.length : Int) > 301) then
 some (([] : List Int), false)
 else
 QM_l0 x0 0 ([] : List Int) := by kernel_rfl
theorem QM_l0.eq (v0 : List Int) (v1 : Int) (v2 : List Int) : QM_l0 v0 v1 v2 =
 bif decide (v1 < (v0.length : Int)) then
 QM_l1 v0 v1 (-1 : Int) 0 v2
 else
 some (v2, true) := (Q7 Q0 (Q1 (QM.gok _)) _ _).trans (by kernel_rfl)
theorem QM_l1.eq (v0 : List Int) (v1 v2 v3 : Int) (v4 : List Int) : QM_l1 v0 v1 v2 v3 v4 =
 bif decide (v3 < (v0.length : Int)) then
 (at? v0 v3).bind fun y1 =>
 bif y1 == v1 then
 QM_l1 v0 v1 v3 (IntKind.i64.wrap (v3 + 1)) v4
 else
 QM_l1 v0 v1 v2 (IntKind.i64.wrap (v3 + 1)) v4
 else
 bif decide (v2 < 0) then
 some (([] : List Int), false)
 else
 bif decide ((v4.length + ([v2] : List Int).length) * 8 ≤ 140737488355328) then
 QM_l0 v0 (IntKind.i64.wrap (v1 + 1)) (v4 ++ ([v2] : List Int))
 else
 none := (Q7 Q0 (Q1 (QM.gok _)) _ _).trans (by kernel_rfl)
abbrev Qw.s : Sg := ⟨[.lend], [vl 5], ⟨[vo 3], [none]⟩, Tryz.f88⟩
def Qw.gs (δ : Type) : List (Nat × KC δ) := [(86, QD.k)]
theorem Qw.gok (δ : Type) : Q4 Tryz.prog tab (Qw.gs δ) := .cons QD.con .nil
def Qw.c := cx Qw.s [] [] [(4, [0, 3, 4, 5])] false (Qw.gs _)
def Qw (x0 : List Int) : Option (List Int) := fnW Qw.s Qw.c x0
theorem Qw.fok : FkS Qw.s 88 := ⟨Tryz.func88, by kernel_rfl, by kernel_rfl⟩
def Qw.fn (x : Args tab Qw.s.ar) : Option (ResT tab Qw.s.rs) := Qw x
abbrev Qw.k {δ : Type} : KC δ := kS Qw.s Qw.fn
theorem Qw.con {δ : Type} : Con Tryz.prog (KT tab) 88 (Qw.k (δ := δ)) := Q5 (c := Qw.c) mixed Q0 (Q1 (Qw.gok _)) Qw.fok rfl rfl fun _ => rfl
def Qw_l0 (v0 : List Int) (v1 : Int) (v2 v3 : List Int) : Option (List Int) := lpW Qw.s Qw.c 0 (ud 31 [.vs false 5 v0, .undef, .undef, .sl 0 0, .sl 1 0, .int .i64 v1]) [.row 0 true 3 v2, .row 0 true 3 v3] 2
theorem Qw.eq (x0 : List Int) : Qw x0 =
 (QD x0).bind fun y1 =>
 Qw_l0 x0 0 y1 ([] : List Int) := by kernel_rfl
theorem Qw_l0.eq (v0 : List Int) (v1 : Int) (v2 v3 : List Int) : Qw_l0 v0 v1 v2 v3 =
 bif decide (v1 < (v2.length : Int)) then
 (at? v2 v1).bind fun y1 =>
 v2[v1.toNat]?.bind fun y2 =>
 bif y2 == 0 then
 bif decide ((v3.length + ([0] : List Int).length) * 8 ≤ 140737488355328) then
 Qw_l0 v0 (IntKind.i64.wrap (v1 + 1)) v2 (v3 ++ ([0] : List Int))
 else
 none
 else
 (at? v2 v1).bind fun y3 =>
 v2[v1.toNat]?.bind fun y4 =>
 (at? v0 (IntKind.i64.wrap (y4 - 1))).bind fun y5 =>
 bif decide ((v3.length + ([IntKind.i64.wrap ((IntKind.i64.wrap y5) + 1)] : List Int).length) * 8 ≤ 140737488355328) then
 Qw_l0 v0 (IntKind.i64.wrap (v1 + 1)) v2 (v3 ++ ([IntKind.i64.wrap ((IntKind.i64.wrap y5) + 1)] : List Int))
 else
 none
 else
 some v3 := (Q7 Q0 (Q1 (Qw.gok _)) _ _).trans (by kernel_rfl)
abbrev Q0c.s : Sg := ⟨[.lend], [vl 3], ⟨[vb], [none]⟩, Tryz.f137⟩
def Q0c.gs (δ : Type) : List (Nat × KC δ) := []
theorem Q0c.gok (δ : Type) : Q4 Tryz.prog tab (Q0c.gs δ) := .nil
def Q0c.c := cx Q0c.s [] [] [(4, [0, 3])] false (Q0c.gs _)
def Q0c (x0 : List Int) : Option (Bool) := fnW Q0c.s Q0c.c x0
theorem Q0c.fok : FkS Q0c.s 137 := ⟨Tryz.func137, by kernel_rfl, by kernel_rfl⟩
def Q0c.fn (x : Args tab Q0c.s.ar) : Option (ResT tab Q0c.s.rs) := Q0c x
abbrev Q0c.k {δ : Type} : KC δ := kS Q0c.s Q0c.fn
theorem Q0c.con {δ : Type} : Con Tryz.prog (KT tab) 137 (Q0c.k (δ := δ)) := Q5 (c := Q0c.c) mixed Q0 (Q1 (Q0c.gok _)) Q0c.fok rfl rfl fun _ => rfl
def Q0c_l0 (v0 : List Int) (v1 : Int) : Option (Bool) := lpW Q0c.s Q0c.c 0 (ud 21 [.vs false 3 v0, .undef, .undef, .int .i64 v1]) [] 0
theorem Q0c.eq (x0 : List Int) : Q0c x0 =
 bif decide ((x0.length : Int) > 301) then
 some false
 else
 Q0c_l0 x0 0 := by kernel_rfl
theorem Q0c_l0.eq (v0 : List Int) (v1 : Int) : Q0c_l0 v0 v1 =
 bif decide (v1 < (v0.length : Int)) then
 (at? v0 v1).bind fun y1 =>
 bif decide (y1 < 0) then
 some false
 else
 (at? v0 v1).bind fun y2 =>
 bif decide (y2 > 256) then
 some false
 else
 Q0c_l0 v0 (IntKind.i64.wrap (v1 + 1))
 else
 some true := (Q7 Q0 (Q1 (Q0c.gok _)) _ _).trans (by kernel_rfl)
abbrev QN.s : Sg := ⟨[.lend], [vl 3], ⟨[vo 3], [none]⟩, Tryz.f89⟩
def QN.gs (δ : Type) : List (Nat × KC δ) := [(137, Q0c.k)]
theorem QN.gok (δ : Type) : Q4 Tryz.prog tab (QN.gs δ) := .cons Q0c.con .nil
def QN.c := cx QN.s [] [] [(5, [0, 3, 4]), (9, [0, 3, 4, 5, 6])] false (QN.gs _)
def QN (x0 : List Int) : Option (List Int) := fnW QN.s QN.c x0
theorem QN.fok : FkS QN.s 89 := ⟨Tryz.func89, by kernel_rfl, by kernel_rfl⟩
def QN.fn (x : Args tab QN.s.ar) : Option (ResT tab QN.s.rs) := QN x
abbrev QN.k {δ : Type} : KC δ := kS QN.s QN.fn
theorem QN.con {δ : Type} : Con Tryz.prog (KT tab) 89 (QN.k (δ := δ)) := Q5 (c := QN.c) mixed Q0 (Q1 (QN.gok _)) QN.fok rfl rfl fun _ => rfl
def QN_l0 (v0 : List Int) (v1 : Int) (v2 : List Int) : Option (List Int) := lpW QN.s QN.c 0 (ud 29 [.vs false 3 v0, .undef, .undef, .sl 0 0, .int .i64 v1]) [.row 0 true 3 v2] 1
def QN_l1 (v0 : List Int) (v1 v2 v3 : Int) (v4 : List Int) : Option (List Int) := lpW QN.s QN.c 1 (ud 27 [.vs false 3 v0, .undef, .undef, .sl 0 0, .int .i64 v1, .int .i64 v2, .int .i64 v3]) [.row 0 true 3 v4] 1
theorem QN.eq (x0 : List Int) : QN x0 =
 (Q0c x0).bind fun y1 =>
 bif !y1 then
 some ([] : List Int)
 else
 QN_l0 x0 0 ([] : List Int) := by kernel_rfl
theorem QN_l0.eq (v0 : List Int) (v1 : Int) (v2 : List Int) : QN_l0 v0 v1 v2 =
 bif decide (v1 ≤ 257) then
 QN_l1 v0 v1 0 0 v2
 else
 some v2 := (Q7 Q0 (Q1 (QN.gok _)) _ _).trans (by kernel_rfl)
theorem QN_l1.eq (v0 : List Int) (v1 v2 v3 : Int) (v4 : List Int) : QN_l1 v0 v1 v2 v3 v4 =
 bif decide (v3 < (v0.length : Int)) then
 (at? v0 v3).bind fun y1 =>
 bif decide (y1 < v1) then
 QN_l1 v0 v1 (IntKind.i64.wrap (v2 + 1)) (IntKind.i64.wrap (v3 + 1)) v4
 else
 QN_l1 v0 v1 v2 (IntKind.i64.wrap (v3 + 1)) v4
 else
 bif decide ((v4.length + ([v2] : List Int).length) * 8 ≤ 140737488355328) then
 QN_l0 v0 (IntKind.i64.wrap (v1 + 1)) (v4 ++ ([v2] : List Int))
 else
 none := (Q7 Q0 (Q1 (QN.gok _)) _ _).trans (by kernel_rfl)
abbrev Q0d.s : Sg := ⟨[.lend], [vi], ⟨[vi], [none]⟩, Tryz.f138⟩
def Q0d.gs (δ : Type) : List (Nat × KC δ) := []
theorem Q0d.gok (δ : Type) : Q4 Tryz.prog tab (Q0d.gs δ) := .nil
def Q0d.c := cx Q0d.s [] [] [(2, [0, 3])] false (Q0d.gs _)
def Q0d (x0 : Int) : Option (Int) := fnW Q0d.s Q0d.c x0
theorem Q0d.fok : FkS Q0d.s 138 := ⟨Tryz.func138, by kernel_rfl, by kernel_rfl⟩
def Q0d.fn (x : Args tab Q0d.s.ar) : Option (ResT tab Q0d.s.rs) := Q0d x
abbrev Q0d.k {δ : Type} : KC δ := kS Q0d.s Q0d.fn
theorem Q0d.con {δ : Type} : Con Tryz.prog (KT tab) 138 (Q0d.k (δ := δ)) := Q5 (c := Q0d.c) mixed Q0 (Q1 (Q0d.gok _)) Q0d.fok rfl rfl fun _ => rfl
def Q0d_l0 (v0 v1 : Int) : Option (Int) := lpW Q0d.s Q0d.c 0 (ud 7 [.int .i64 v0, .undef, .undef, .int .i64 v1]) [] 0
theorem Q0d.eq (x0 : Int) : Q0d x0 =
 Q0d_l0 x0 1 := by kernel_rfl
theorem Q0d_l0.eq (v0 v1 : Int) : Q0d_l0 v0 v1 =
 bif decide (v0 > 0) then
 Q0d_l0 (IntKind.i64.wrap (v0 - 1)) (IntKind.i64.wrap ((2 : Int) * v1))
 else
 some v1 := (Q7 Q0 (Q1 (Q0d.gok _)) _ _).trans (by kernel_rfl)
abbrev Q0o.s : Sg := ⟨[.lend], [vi], ⟨[.one (.b (.b (.b (.b (.int .u64)))))], [none]⟩, Tryz.f139⟩
def Q0o.gs (δ : Type) : List (Nat × KC δ) := []
theorem Q0o.gok (δ : Type) : Q4 Tryz.prog tab (Q0o.gs δ) := .nil
def Q0o.c := cx Q0o.s [] [] [(2, [0, 3])] false (Q0o.gs _)
def Q0o (x0 : Int) : Option (Int) := fnW Q0o.s Q0o.c x0
theorem Q0o.fok : FkS Q0o.s 139 := ⟨Tryz.func139, by kernel_rfl, by kernel_rfl⟩
def Q0o.fn (x : Args tab Q0o.s.ar) : Option (ResT tab Q0o.s.rs) := Q0o x
abbrev Q0o.k {δ : Type} : KC δ := kS Q0o.s Q0o.fn
theorem Q0o.con {δ : Type} : Con Tryz.prog (KT tab) 139 (Q0o.k (δ := δ)) := Q5 (c := Q0o.c) mixed Q0 (Q1 (Q0o.gok _)) Q0o.fok rfl rfl fun _ => rfl
def Q0o_l0 (v0 v1 : Int) : Option (Int) := lpW Q0o.s Q0o.c 0 (ud 7 [.int .i64 v0, .undef, .undef, .int .u64 v1]) [] 0
theorem Q0o.eq (x0 : Int) : Q0o x0 =
 Q0o_l0 x0 1 := by kernel_rfl
theorem Q0o_l0.eq (v0 v1 : Int) : Q0o_l0 v0 v1 =
 bif decide (v0 > 0) then
 Q0o_l0 (IntKind.i64.wrap (v0 - 1)) (IntKind.u64.wrap ((2 : Int) * v1))
 else
 some v1 := (Q7 Q0 (Q1 (Q0o.gok _)) _ _).trans (by kernel_rfl)
abbrev Qo.s : Sg := ⟨[.lend], [vl 3], ⟨[ag0, vb], [none]⟩, Tryz.f92⟩
def Qo.gs (δ : Type) : List (Nat × KC δ) := [(139, Q0o.k)]
theorem Qo.gok (δ : Type) : Q4 Tryz.prog tab (Qo.gs δ) := .cons Q0o.con .nil
def Qo.c := cx Qo.s [] [9] [(5, [0, 2, 4, 5]), (9, [0, 2, 4, 5])] false (Qo.gs _)
def Qo (x0 : List Int) : Option ((Int × (List Int)) × Bool) := fnW Qo.s Qo.c x0
theorem Qo.fok : FkS Qo.s 92 := ⟨Tryz.func92, by kernel_rfl, by kernel_rfl⟩
def Qo.fn (x : Args tab Qo.s.ar) : Option (ResT tab Qo.s.rs) := Qo x
abbrev Qo.k {δ : Type} : KC δ := kS Qo.s Qo.fn
theorem Qo.con {δ : Type} : Con Tryz.prog (KT tab) 92 (Qo.k (δ := δ)) := Q5 (c := Qo.c) mixed Q0 (Q1 (Qo.gok _)) Qo.fok rfl rfl fun _ => rfl
def Qo_l0 (v0 : List Int) (v1 v2 : Int) (v3 : List Int) (v4 : Int) (v5 : List Int) : Option ((Int × (List Int)) × Bool) := lpW Qo.s Qo.c 0 (ud 55 [.vs false 3 v0, .undef, .ptr 0 0, .undef, .ptr 2 0, .int .i64 v1]) [.box 30 [.int .i64 v2, .sl 1 0], .row 0 true 90 v3, .box 30 [.int .i64 v4, .sl 3 0], .row 0 true 90 v5] 4
def Qo_l1 (v0 : List Int) (v1 v2 : Int) (v3 : List Int) (v4 : Int) (v5 : List Int) : Option ((Int × (List Int)) × Bool) := lpW Qo.s Qo.c 1 (ud 55 [.vs false 3 v0, .undef, .ptr 0 0, .undef, .ptr 2 0, .int .i64 v1]) [.box 30 [.int .i64 v2, .sl 1 0], .row 0 true 90 v3, .box 30 [.int .i64 v4, .sl 3 0], .row 0 true 90 v5] 4
theorem Qo.eq (x0 : List Int) : Qo x0 =
 bif decide ((x0.length : Int) > 5000) then
 some ((0, ([] : List Int)), false)
 else
 Qo_l0 x0 0 0 ([] : List Int) (x0.length : Int) ([] : List Int) := by kernel_rfl
theorem Qo_l0.eq (v0 : List Int) (v1 v2 : Int) (v3 : List Int) (v4 : Int) (v5 : List Int) : Qo_l0 v0 v1 v2 v3 v4 v5 =
 bif decide (v1 < (v0.length : Int)) then
 (at? v0 v1).bind fun y1 =>
 bif y1 != 0 then
 (at? v0 v1).bind fun y2 =>
 bif y2 != 1 then
 some ((0, ([] : List Int)), false)
 else
 Qo_l1 v0 v1 v2 v3 v4 v5
 else
 Qo_l1 v0 v1 v2 v3 v4 v5
 else
 some ((v4, v5), true) := (Q7 Q0 (Q1 (Qo.gok _)) _ _).trans (by kernel_rfl)
theorem Qo_l1.eq (v0 : List Int) (v1 v2 : Int) (v3 : List Int) (v4 : Int) (v5 : List Int) : Qo_l1 v0 v1 v2 v3 v4 v5 =
 bif v1.tmod (64 : Int) == 0 then
 bif decide ((v5.length + ([0] : List Int).length) * 8 ≤ 140737488355328) then
 (at? v0 v1).bind fun y1 =>
 bif y1 == 1 then
 (at? (v5 ++ ([0] : List Int)) (IntKind.i64.wrap (v1.tdiv 64))).bind fun y2 =>
 (v5 ++ ([0] : List Int))[(IntKind.i64.wrap (v1.tdiv 64)).toNat]?.bind fun y3 =>
 (Q0o (v1.tmod 64)).bind fun y4 =>
 (at? (v5 ++ ([0] : List Int)) (IntKind.i64.wrap (v1.tdiv 64))).bind fun y5 =>
 (v5 ++ ([0] : List Int))[(IntKind.i64.wrap (v1.tdiv 64)).toNat]?.bind fun y6 =>
 Qo_l0 v0 (IntKind.i64.wrap (v1 + 1)) v2 v3 v4 ((v5 ++ ([0] : List Int)).set ((IntKind.i64.wrap (v1.tdiv 64)).toNat) (IntKind.u64.wrap (y3 + y4)))
 else
 Qo_l0 v0 (IntKind.i64.wrap (v1 + 1)) v2 v3 v4 (v5 ++ ([0] : List Int))
 else
 none
 else
 (at? v0 v1).bind fun y7 =>
 bif y7 == 1 then
 (at? v5 (IntKind.i64.wrap (v1.tdiv 64))).bind fun y8 =>
 v5[(IntKind.i64.wrap (v1.tdiv 64)).toNat]?.bind fun y9 =>
 (Q0o (v1.tmod 64)).bind fun y10 =>
 (at? v5 (IntKind.i64.wrap (v1.tdiv 64))).bind fun y11 =>
 v5[(IntKind.i64.wrap (v1.tdiv 64)).toNat]?.bind fun y12 =>
 Qo_l0 v0 (IntKind.i64.wrap (v1 + 1)) v2 v3 v4 (v5.set ((IntKind.i64.wrap (v1.tdiv 64)).toNat) (IntKind.u64.wrap (y9 + y10)))
 else
 Qo_l0 v0 (IntKind.i64.wrap (v1 + 1)) v2 v3 v4 v5 := (Q7 Q0 (Q1 (Qo.gok _)) _ _).trans (by kernel_rfl)
abbrev Qj.s : Sg := ⟨[.lend], [vl 3], ⟨[ag1, vb], [none]⟩, Tryz.f90⟩
def Qj.gs (δ : Type) : List (Nat × KC δ) := [(92, Qo.k), (138, Q0d.k)]
theorem Qj.gok (δ : Type) : Q4 Tryz.prog tab (Qj.gs δ) := .cons Qo.con (.cons Q0d.con .nil)
def Qj.c := cx Qj.s [] [] [(4, [0, 2, 4]), (11, [2, 5, 6, 7]), (17, [2, 5, 6, 7, 8, 9, 10, 11])] false (Qj.gs _)
def Qj (x0 : List Int) : Option ((Int × (List Int) × (List (Int × (List Int)))) × Bool) := fnW Qj.s Qj.c x0
theorem Qj.fok : FkS Qj.s 90 := ⟨Tryz.func90, by kernel_rfl, by kernel_rfl⟩
def Qj.fn (x : Args tab Qj.s.ar) : Option (ResT tab Qj.s.rs) := Qj x
abbrev Qj.k {δ : Type} : KC δ := kS Qj.s Qj.fn
theorem Qj.con {δ : Type} : Con Tryz.prog (KT tab) 90 (Qj.k (δ := δ)) := Q5 (c := Qj.c) mixed Q0 (Q1 (Qj.gok _)) Qj.fok rfl rfl fun _ => rfl
def Qj_l0 (v0 : List Int) (v1 v2 : Int) (v3 : List Int) (v4 : List (Int × (List Int))) : Option ((Int × (List Int) × (List (Int × (List Int)))) × Bool) := lpW Qj.s Qj.c 0 (ud 103 [.vs false 3 v0, .undef, .ptr 0 0, .undef, .int .i64 v1]) [.box 27 [.int .i64 v2, .sl 1 0, .sl 2 0], .row 0 true 3 v3, .row 0 true 30 v4] 3
def Qj_l1 (v0 v1 : Int) (v2 : List Int) (v3 : List (Int × (List Int))) (v4 : Int) (v5 : List Int) (v6 : List (Int × (List Int))) (v7 : List Int) : Option ((Int × (List Int) × (List (Int × (List Int)))) × Bool) := lpW Qj.s Qj.c 1 (ud 100 [.undef, .undef, .ptr 0 0, .undef, .undef, .ptr 3 0, .sl 6 0, .int .i64 v0]) [.box 27 [.int .i64 v1, .sl 1 0, .sl 2 0], .row 0 true 3 v2, .row 0 true 30 v3, .box 27 [.int .i64 v4, .sl 4 0, .sl 5 0], .row 0 true 3 v5, .row 0 true 30 v6, .row 0 true 3 v7] 7
def Qj_l2 (v0 v1 v2 : Int) (v3 : List Int) (v4 : List (Int × (List Int))) (v5 : Int) (v6 : List Int) (v7 : List (Int × (List Int))) (v8 v9 v10 v11 : List Int) : Option ((Int × (List Int) × (List (Int × (List Int)))) × Bool) := lpW Qj.s Qj.c 2 (ud 96 [.undef, .undef, .ptr 0 0, .undef, .undef, .ptr 3 0, .sl 6 0, .int .i64 v0, .sl 7 0, .sl 8 0, .sl 9 0, .int .i64 v1]) [.box 27 [.int .i64 v2, .sl 1 0, .sl 2 0], .row 0 true 3 v3, .row 0 true 30 v4, .box 27 [.int .i64 v5, .sl 4 0, .sl 5 0], .row 0 true 3 v6, .row 0 true 30 v7, .row 0 true 3 v8, .row 0 true 3 v9, .row 0 true 3 v10, .row 0 true 3 v11] 10
theorem Qj.eq (x0 : List Int) : Qj x0 =
 bif decide ((x0.length : Int) > 1000) then
 some ((0, ([] : List Int), ([] : List (Int × (List Int)))), false)
 else
 Qj_l0 x0 0 0 ([] : List Int) ([] : List (Int × (List Int))) := by kernel_rfl
theorem Qj_l0.eq (v0 : List Int) (v1 v2 : Int) (v3 : List Int) (v4 : List (Int × (List Int))) : Qj_l0 v0 v1 v2 v3 v4 =
 bif decide (v1 < (v0.length : Int)) then
 (at? v0 v1).bind fun y1 =>
 bif decide (y1 < 0) then
 some ((0, ([] : List Int), ([] : List (Int × (List Int)))), false)
 else
 (at? v0 v1).bind fun y2 =>
 bif decide (y2 > 511) then
 some ((0, ([] : List Int), ([] : List (Int × (List Int)))), false)
 else
 Qj_l0 v0 (IntKind.i64.wrap (v1 + 1)) v2 v3 v4
 else
 bif decide ((([] : List Int).length + v0.length) * 8 ≤ 140737488355328) then
 Qj_l1 0 v2 v3 v4 (v0.length : Int) ([] : List Int) ([] : List (Int × (List Int))) (([] : List Int) ++ v0)
 else
 none := (Q7 Q0 (Q1 (Qj.gok _)) _ _).trans (by kernel_rfl)
theorem Qj_l1.eq (v0 v1 : Int) (v2 : List Int) (v3 : List (Int × (List Int))) (v4 : Int) (v5 : List Int) (v6 : List (Int × (List Int))) (v7 : List Int) : Qj_l1 v0 v1 v2 v3 v4 v5 v6 v7 =
 bif decide (v0 < 9) then
 Qj_l2 v0 0 v1 v2 v3 v4 v5 v6 v7 ([] : List Int) ([] : List Int) ([] : List Int)
 else
 some ((v4, v5, v6), true) := (Q7 Q0 (Q1 (Qj.gok _)) _ _).trans (by kernel_rfl)
theorem Qj_l2.eq (v0 v1 v2 : Int) (v3 : List Int) (v4 : List (Int × (List Int))) (v5 : Int) (v6 : List Int) (v7 : List (Int × (List Int))) (v8 v9 v10 v11 : List Int) : Qj_l2 v0 v1 v2 v3 v4 v5 v6 v7 v8 v9 v10 v11 =
 bif decide (v1 < (v8.length : Int)) then
 (at? v8 v1).bind fun y1 =>
 v8[v1.toNat]?.bind fun y2 =>
 (Q0d (IntKind.i64.wrap ((8 : Int) - v0))).bind fun y3 =>
 bif decide (y3 = 0) then
 none
 else
 bif decide ((v9.length + ([(IntKind.i64.wrap (y2.tdiv y3)).tmod 2] : List Int).length) * 8 ≤ 140737488355328) then
 bif (IntKind.i64.wrap (y2.tdiv y3)).tmod (2 : Int) == 0 then
 (at? v8 v1).bind fun y4 =>
 v8[v1.toNat]?.bind fun y5 =>
 bif decide ((v10.length + ([y5] : List Int).length) * 8 ≤ 140737488355328) then
 Qj_l2 v0 (IntKind.i64.wrap (v1 + 1)) v2 v3 v4 v5 v6 v7 v8 (v9 ++ ([(IntKind.i64.wrap (y2.tdiv y3)).tmod 2] : List Int)) (v10 ++ ([y5] : List Int)) v11
 else
 none
 else
 (at? v8 v1).bind fun y6 =>
 v8[v1.toNat]?.bind fun y7 =>
 bif decide ((v11.length + ([y7] : List Int).length) * 8 ≤ 140737488355328) then
 Qj_l2 v0 (IntKind.i64.wrap (v1 + 1)) v2 v3 v4 v5 v6 v7 v8 (v9 ++ ([(IntKind.i64.wrap (y2.tdiv y3)).tmod 2] : List Int)) v10 (v11 ++ ([y7] : List Int))
 else
 none
 else
 none
 else
 (Qo v9).bind fun y8 =>
 bif decide ((v7.length + ([(y8.1.1, y8.1.2)] : List (Int × (List Int))).length) * 32 ≤ 140737488355328) then
 bif decide ((v6.length + ([(v10.length : Int)] : List Int).length) * 8 ≤ 140737488355328) then
 bif decide ((v10.length + v11.length) * 8 ≤ 140737488355328) then
 Qj_l1 (IntKind.i64.wrap (v0 + 1)) v2 v3 v4 v5 (v6 ++ ([(v10.length : Int)] : List Int)) (v7 ++ ([(y8.1.1, y8.1.2)] : List (Int × (List Int)))) (v10 ++ v11)
 else
 none
 else
 none
 else
 none := (Q7 Q0 (Q1 (Qj.gok _)) _ _).trans (by kernel_rfl)
abbrev Q0X.s : Sg := ⟨[.lend], [vb], ⟨[vi], [none]⟩, Tryz.f91⟩
def Q0X.gs (δ : Type) : List (Nat × KC δ) := []
theorem Q0X.gok (δ : Type) : Q4 Tryz.prog tab (Q0X.gs δ) := .nil
def Q0X.c := cx Q0X.s [] [] [] false (Q0X.gs _)
def Q0X (x0 : Bool) : Option (Int) := fnW Q0X.s Q0X.c x0
theorem Q0X.fok : FkS Q0X.s 91 := ⟨Tryz.func91, by kernel_rfl, by kernel_rfl⟩
def Q0X.fn (x : Args tab Q0X.s.ar) : Option (ResT tab Q0X.s.rs) := Q0X x
abbrev Q0X.k {δ : Type} : KC δ := kS Q0X.s Q0X.fn
theorem Q0X.con {δ : Type} : Con Tryz.prog (KT tab) 91 (Q0X.k (δ := δ)) := Q5 (c := Q0X.c) mixed Q0 (Q1 (Q0X.gok _)) Q0X.fok rfl rfl fun _ => rfl
theorem Q0X.eq (x0 : Bool) : Q0X x0 =
 bif x0 then
 some 1
 else
 some 0 := by kernel_rfl
abbrev Q0p.s : Sg := ⟨[.lend], [vi], ⟨[vi], [none]⟩, Tryz.f94⟩
def Q0p.gs (δ : Type) : List (Nat × KC δ) := []
theorem Q0p.gok (δ : Type) : Q4 Tryz.prog tab (Q0p.gs δ) := .nil
def Q0p.c := cx Q0p.s [] [] [(4, [0, 3])] false (Q0p.gs _)
def Q0p (x0 : Int) : Option (Int) := fnW Q0p.s Q0p.c x0
theorem Q0p.fok : FkS Q0p.s 94 := ⟨Tryz.func94, by kernel_rfl, by kernel_rfl⟩
def Q0p.fn (x : Args tab Q0p.s.ar) : Option (ResT tab Q0p.s.rs) := Q0p x
abbrev Q0p.k {δ : Type} : KC δ := kS Q0p.s Q0p.fn
theorem Q0p.con {δ : Type} : Con Tryz.prog (KT tab) 94 (Q0p.k (δ := δ)) := Q5 (c := Q0p.c) mixed Q0 (Q1 (Q0p.gok _)) Q0p.fok rfl rfl fun _ => rfl
def Q0p_l0 (v0 v1 : Int) : Option (Int) := lpW Q0p.s Q0p.c 0 (ud 9 [.int .i64 v0, .undef, .undef, .int .i64 v1]) [] 0
theorem Q0p.eq (x0 : Int) : Q0p x0 =
 bif decide (x0 < 0) then
 some (-1 : Int)
 else
 Q0p_l0 x0 0 := by kernel_rfl
theorem Q0p_l0.eq (v0 v1 : Int) : Q0p_l0 v0 v1 =
 bif decide (v0 > 0) then
 Q0p_l0 (IntKind.i64.wrap (v0.tdiv 2)) (IntKind.i64.wrap (v1 + 1))
 else
 some v1 := (Q7 Q0 (Q1 (Q0p.gok _)) _ _).trans (by kernel_rfl)
abbrev Qn.s : Sg := ⟨[.lend, .lend], [vl 3, vi], ⟨[ag2, vb], [none, none]⟩, Tryz.f93⟩
def Qn.gs (δ : Type) : List (Nat × KC δ) := [(92, Qo.k), (138, Q0d.k)]
theorem Qn.gok (δ : Type) : Q4 Tryz.prog tab (Qn.gs δ) := .cons Qo.con (.cons Q0d.con .nil)
def Qn.c := cx Qn.s [] [3, 10] [(3, [0, 1, 4]), (5, [0, 1, 4, 6, 7]), (10, [0, 1, 4, 6, 7, 8]), (11, [0, 1, 4, 6, 7, 8, 9])] false (Qn.gs _)
def Qn (x0 : List Int) (x1 : Int) : Option ((Int × Int × Int × (List Int)) × Bool) := fnW Qn.s Qn.c (x0, x1)
theorem Qn.fok : FkS Qn.s 93 := ⟨Tryz.func93, by kernel_rfl, by kernel_rfl⟩
def Qn.fn (x : Args tab Qn.s.ar) : Option (ResT tab Qn.s.rs) := Qn x.1 x.2
abbrev Qn.k {δ : Type} : KC δ := kS Qn.s Qn.fn
theorem Qn.con {δ : Type} : Con Tryz.prog (KT tab) 93 (Qn.k (δ := δ)) := Q5 (c := Qn.c) mixed Q0 (Q1 (Qn.gok _)) Qn.fok rfl rfl fun _ => rfl
def Qn_l0 (v0 : List Int) (v1 v2 v3 v4 : Int) (v5 : List Int) : Option ((Int × Int × Int × (List Int)) × Bool) := lpW Qn.s Qn.c 0 (ud 68 [.vs false 3 v0, .int .i64 v1, .undef, .undef, .ptr 0 0]) [.box 32 [.int .i64 v2, .int .i64 v3, .int .i64 v4, .sl 1 0], .row 0 true 90 v5] 2
def Qn_l1 (v0 : List Int) (v1 v2 v3 v4 v5 : Int) (v6 v7 : List Int) : Option ((Int × Int × Int × (List Int)) × Bool) := lpW Qn.s Qn.c 1 (ud 65 [.vs false 3 v0, .int .i64 v1, .undef, .undef, .ptr 0 0, .undef, .sl 2 0, .int .i64 v2]) [.box 32 [.int .i64 v3, .int .i64 v4, .int .i64 v5, .sl 1 0], .row 0 true 90 v6, .row 0 true 3 v7] 3
def Qn_l2 (v0 : List Int) (v1 v2 v3 v4 v5 v6 : Int) (v7 v8 : List Int) : Option ((Int × Int × Int × (List Int)) × Bool) := lpW Qn.s Qn.c 2 (ud 64 [.vs false 3 v0, .int .i64 v1, .undef, .undef, .ptr 0 0, .undef, .sl 2 0, .int .i64 v2, .int .i64 v3]) [.box 32 [.int .i64 v4, .int .i64 v5, .int .i64 v6, .sl 1 0], .row 0 true 90 v7, .row 0 true 3 v8] 3
def Qn_l3 (v0 : List Int) (v1 v2 v3 v4 v5 v6 v7 : Int) (v8 v9 : List Int) : Option ((Int × Int × Int × (List Int)) × Bool) := lpW Qn.s Qn.c 3 (ud 63 [.vs false 3 v0, .int .i64 v1, .undef, .undef, .ptr 0 0, .undef, .sl 2 0, .int .i64 v2, .int .i64 v3, .int .i64 v4]) [.box 32 [.int .i64 v5, .int .i64 v6, .int .i64 v7, .sl 1 0], .row 0 true 90 v8, .row 0 true 3 v9] 3
theorem Qn.eq (x0 : List Int) (x1 : Int) : Qn x0 x1 =
 bif decide (x1 < 0) then
 some ((0, 0, 0, ([] : List Int)), false)
 else
 bif decide (x1 > 32) then
 some ((0, 0, 0, ([] : List Int)), false)
 else
 bif decide ((x0.length : Int) > 5000) then
 some ((0, 0, 0, ([] : List Int)), false)
 else
 bif decide (IntKind.i64.wrap ((x0.length : Int) * x1) > 5000) then
 some ((0, 0, 0, ([] : List Int)), false)
 else
 Qn_l0 x0 x1 0 0 0 ([] : List Int) := by kernel_rfl
theorem Qn_l0.eq (v0 : List Int) (v1 v2 v3 v4 : Int) (v5 : List Int) : Qn_l0 v0 v1 v2 v3 v4 v5 =
 Qn_l1 v0 v1 0 v2 v3 v4 v5 ([] : List Int) := (Q7 Q0 (Q1 (Qn.gok _)) _ _).trans (by kernel_rfl)
theorem Qn_l1.eq (v0 : List Int) (v1 v2 v3 v4 v5 : Int) (v6 v7 : List Int) : Qn_l1 v0 v1 v2 v3 v4 v5 v6 v7 =
 bif decide (v2 < (v0.length : Int)) then
 (at? v0 v2).bind fun y1 =>
 bif decide (y1 < 0) then
 some ((0, 0, 0, ([] : List Int)), false)
 else
 (Q0d v1).bind fun y2 =>
 bif decide (y1 ≥ y2) then
 some ((0, 0, 0, ([] : List Int)), false)
 else
 Qn_l2 v0 v1 v2 y1 v3 v4 v5 v6 v7
 else
 (Qo v7).bind fun y3 =>
 some ((v1, (v0.length : Int), y3.1.1, y3.1.2), true) := (Q7 Q0 (Q1 (Qn.gok _)) _ _).trans (by kernel_rfl)
theorem Qn_l2.eq (v0 : List Int) (v1 v2 v3 v4 v5 v6 : Int) (v7 v8 : List Int) : Qn_l2 v0 v1 v2 v3 v4 v5 v6 v7 v8 =
 Qn_l3 v0 v1 v2 v3 0 v4 v5 v6 v7 v8 := (Q7 Q0 (Q1 (Qn.gok _)) _ _).trans (by kernel_rfl)
theorem Qn_l3.eq (v0 : List Int) (v1 v2 v3 v4 v5 v6 v7 : Int) (v8 v9 : List Int) : Qn_l3 v0 v1 v2 v3 v4 v5 v6 v7 v8 v9 =
 bif decide (v4 < v1) then
 bif decide ((v9.length + ([v3.tmod 2] : List Int).length) * 8 ≤ 140737488355328) then
 Qn_l3 v0 v1 v2 (IntKind.i64.wrap (v3.tdiv 2)) (IntKind.i64.wrap (v4 + 1)) v5 v6 v7 v8 (v9 ++ ([v3.tmod 2] : List Int))
 else
 none
 else
 Qn_l1 v0 v1 (IntKind.i64.wrap (v2 + 1)) v5 v6 v7 v8 v9 := (Q7 Q0 (Q1 (Qn.gok _)) _ _).trans (by kernel_rfl)
abbrev Qk.s : Sg := ⟨[.lend, .lend], [vl 5, vi], ⟨[ag3, vb], [none, none]⟩, Tryz.f34⟩
def Qk.gs (δ : Type) : List (Nat × KC δ) := [(43, Q0I.k), (85, Q0S.k), (86, QD.k), (87, QM.k), (88, Qw.k), (89, QN.k), (90, Qj.k), (91, Q0X.k), (92, Qo.k), (93, Qn.k), (94, Q0p.k)]
theorem Qk.gok (δ : Type) : Q4 Tryz.prog tab (Qk.gs δ) := .cons Q0I.con (.cons Q0S.con (.cons QD.con (.cons QM.con (.cons Qw.con (.cons QN.con (.cons Qj.con (.cons Q0X.con (.cons Qo.con (.cons Qn.con (.cons Q0p.con .nil))))))))))
def Qk.c := cx Qk.s [] [3] [(3, [0, 1, 4]), (11, [0, 1, 4, 6, 7, 10, 11, 12, 13]), (18, [0, 1, 4, 7, 10, 11, 12, 14, 15])] false (Qk.gs _)
def Qk (x0 : List Int) (x1 : Int) : Option ((FmA) × Bool) := fnW Qk.s Qk.c (x0, x1)
theorem Qk.fok : FkS Qk.s 34 := ⟨Tryz.func34, by kernel_rfl, by kernel_rfl⟩
def Qk.fn (x : Args tab Qk.s.ar) : Option (ResT tab Qk.s.rs) := Qk x.1 x.2
abbrev Qk.k {δ : Type} : KC δ := kS Qk.s Qk.fn
theorem Qk.con {δ : Type} : Con Tryz.prog (KT tab) 34 (Qk.k (δ := δ)) := Q5 (c := Qk.c) mixed Q0 (Q1 (Qk.gok _)) Qk.fok rfl rfl fun _ => rfl
def Qk_l0 (v0 : List Int) (v1 v2 v3 v4 v5 v6 v7 v8 v9 v10 v11 : Int) (v12 : List Int) (v13 : List (Int × (List Int))) (v14 v15 v16 v17 : List Int) : Option ((FmA) × Bool) := lpW Qk.s Qk.c 0 (ud 116 [.vs false 5 v0, .int .i64 v1, .undef, .undef, .ptr 0 0]) [.box 34 [.int .i64 v2, .int .i64 v3, .int .i64 v4, .sl 1 0, .sl 2 0, .sl 3 0, .int .i64 v5, .sl 4 0, .int .i64 v6, .int .i64 v7, .int .i64 v8, .sl 5 0, .int .i64 v9, .int .i64 v10, .int .i64 v11, .sl 6 0], .row 0 true 3 v12, .row 0 true 30 v13, .row 0 true 3 v14, .row 0 true 90 v15, .row 0 true 90 v16, .row 0 true 90 v17] 7
def Qk_l1 (v0 : List Int) (v1 v2 v3 v4 v5 v6 v7 v8 v9 v10 v11 v12 : Int) (v13 : List Int) (v14 : List (Int × (List Int))) (v15 v16 v17 v18 v19 v20 : List Int) (v21 v22 v23 v24 v25 v26 v27 v28 v29 v30 : Int) (v31 : List Int) (v32 : List (Int × (List Int))) (v33 v34 v35 v36 v37 v38 : List Int) : Option ((FmA) × Bool) := lpW Qk.s Qk.c 1 (ud 107 [.vs false 5 v0, .int .i64 v1, .undef, .undef, .ptr 0 0, .undef, .sl 7 0, .sl 8 0, .undef, .undef, .ptr 9 0, .sl 16 0, .sl 17 0, .int .i64 v2]) [.box 34 [.int .i64 v3, .int .i64 v4, .int .i64 v5, .sl 1 0, .sl 2 0, .sl 3 0, .int .i64 v6, .sl 4 0, .int .i64 v7, .int .i64 v8, .int .i64 v9, .sl 5 0, .int .i64 v10, .int .i64 v11, .int .i64 v12, .sl 6 0], .row 0 true 3 v13, .row 0 true 30 v14, .row 0 true 3 v15, .row 0 true 90 v16, .row 0 true 90 v17, .row 0 true 90 v18, .row 0 true 3 v19, .row 0 true 3 v20, .box 34 [.int .i64 v21, .int .i64 v22, .int .i64 v23, .sl 10 0, .sl 11 0, .sl 12 0, .int .i64 v24, .sl 13 0, .int .i64 v25, .int .i64 v26, .int .i64 v27, .sl 14 0, .int .i64 v28, .int .i64 v29, .int .i64 v30, .sl 15 0], .row 0 true 3 v31, .row 0 true 30 v32, .row 0 true 3 v33, .row 0 true 90 v34, .row 0 true 90 v35, .row 0 true 90 v36, .row 0 true 3 v37, .row 0 true 3 v38] 18
def Qk_l2 (v0 : List Int) (v1 v2 v3 v4 v5 v6 v7 v8 v9 v10 v11 v12 : Int) (v13 : List Int) (v14 : List (Int × (List Int))) (v15 v16 v17 v18 v19 : List Int) (v20 v21 v22 v23 v24 v25 v26 v27 v28 v29 : Int) (v30 : List Int) (v31 : List (Int × (List Int))) (v32 v33 v34 v35 v36 v37 v38 : List Int) : Option ((FmA) × Bool) := lpW Qk.s Qk.c 2 (ud 105 [.vs false 5 v0, .int .i64 v1, .undef, .undef, .ptr 0 0, .undef, .undef, .sl 7 0, .undef, .undef, .ptr 8 0, .sl 15 0, .sl 16 0, .undef, .sl 17 0, .int .i64 v2]) [.box 34 [.int .i64 v3, .int .i64 v4, .int .i64 v5, .sl 1 0, .sl 2 0, .sl 3 0, .int .i64 v6, .sl 4 0, .int .i64 v7, .int .i64 v8, .int .i64 v9, .sl 5 0, .int .i64 v10, .int .i64 v11, .int .i64 v12, .sl 6 0], .row 0 true 3 v13, .row 0 true 30 v14, .row 0 true 3 v15, .row 0 true 90 v16, .row 0 true 90 v17, .row 0 true 90 v18, .row 0 true 3 v19, .box 34 [.int .i64 v20, .int .i64 v21, .int .i64 v22, .sl 9 0, .sl 10 0, .sl 11 0, .int .i64 v23, .sl 12 0, .int .i64 v24, .int .i64 v25, .int .i64 v26, .sl 13 0, .int .i64 v27, .int .i64 v28, .int .i64 v29, .sl 14 0], .row 0 true 3 v30, .row 0 true 30 v31, .row 0 true 3 v32, .row 0 true 90 v33, .row 0 true 90 v34, .row 0 true 90 v35, .row 0 true 3 v36, .row 0 true 3 v37, .row 0 true 3 v38] 18
theorem Qk.eq (x0 : List Int) (x1 : Int) : Qk x0 x1 =
 (Q0S x0).bind fun y1 =>
 bif !y1 then
 some ((0, 0, 0, ([] : List Int), ([] : List (Int × (List Int))), ([] : List Int), 0, ([] : List Int), 0, 0, 0, ([] : List Int), 0, 0, 0, ([] : List Int)), false)
 else
 (Q0I x1).bind fun y2 =>
 bif !y2 then
 some ((0, 0, 0, ([] : List Int), ([] : List (Int × (List Int))), ([] : List Int), 0, ([] : List Int), 0, 0, 0, ([] : List Int), 0, 0, 0, ([] : List Int)), false)
 else
 Qk_l0 x0 x1 0 0 0 0 0 0 0 0 0 0 ([] : List Int) ([] : List (Int × (List Int))) ([] : List Int) ([] : List Int) ([] : List Int) ([] : List Int) := by kernel_rfl
theorem Qk_l0.eq (v0 : List Int) (v1 v2 v3 v4 v5 v6 v7 v8 v9 v10 v11 : Int) (v12 : List Int) (v13 : List (Int × (List Int))) (v14 v15 v16 v17 : List Int) : Qk_l0 v0 v1 v2 v3 v4 v5 v6 v7 v8 v9 v10 v11 v12 v13 v14 v15 v16 v17 =
 (QD v0).bind fun y1 =>
 (QM y1).bind fun y2 =>
 (Qw v0).bind fun y3 =>
 (QN y3).bind fun y4 =>
 (Qj y3).bind fun y5 =>
 Qk_l1 v0 v1 0 v2 v3 v4 v5 v6 v7 v8 v9 v10 v11 v12 v13 v14 v15 v16 v17 y1 y2.1 (v0.length : Int) v1 y5.1.1 0 0 0 0 0 0 0 y5.1.2.1 y5.1.2.2 y4 ([] : List Int) ([] : List Int) ([] : List Int) ([] : List Int) ([] : List Int) := (Q7 Q0 (Q1 (Qk.gok _)) _ _).trans (by kernel_rfl)
theorem Qk_l1.eq (v0 : List Int) (v1 v2 v3 v4 v5 v6 v7 v8 v9 v10 v11 v12 : Int) (v13 : List Int) (v14 : List (Int × (List Int))) (v15 v16 v17 v18 v19 v20 : List Int) (v21 v22 v23 v24 v25 v26 v27 v28 v29 v30 : Int) (v31 : List Int) (v32 : List (Int × (List Int))) (v33 v34 v35 v36 v37 v38 : List Int) : Qk_l1 v0 v1 v2 v3 v4 v5 v6 v7 v8 v9 v10 v11 v12 v13 v14 v15 v16 v17 v18 v19 v20 v21 v22 v23 v24 v25 v26 v27 v28 v29 v30 v31 v32 v33 v34 v35 v36 v37 v38 =
 bif decide (v2 < (v19.length : Int)) then
 (at? v19 v2).bind fun y1 =>
 v19[v2.toNat]?.bind fun y2 =>
 bif decide (v1 = 0) then
 none
 else
 (Q0X (y2.tmod v1 == 0)).bind fun y3 =>
 bif decide ((v37.length + ([y3] : List Int).length) * 8 ≤ 140737488355328) then
 (at? v19 v2).bind fun y4 =>
 v19[v2.toNat]?.bind fun y5 =>
 bif decide (v1 = 0) then
 none
 else
 bif y5.tmod v1 == 0 then
 (at? v19 v2).bind fun y6 =>
 v19[v2.toNat]?.bind fun y7 =>
 bif decide (v1 = 0) then
 none
 else
 bif decide ((v38.length + ([IntKind.i64.wrap (y7.tdiv v1)] : List Int).length) * 8 ≤ 140737488355328) then
 Qk_l1 v0 v1 (IntKind.i64.wrap (v2 + 1)) v3 v4 v5 v6 v7 v8 v9 v10 v11 v12 v13 v14 v15 v16 v17 v18 v19 v20 v21 v22 v23 v24 v25 v26 v27 v28 v29 v30 v31 v32 v33 v34 v35 v36 (v37 ++ ([y3] : List Int)) (v38 ++ ([IntKind.i64.wrap (y7.tdiv v1)] : List Int))
 else
 none
 else
 Qk_l1 v0 v1 (IntKind.i64.wrap (v2 + 1)) v3 v4 v5 v6 v7 v8 v9 v10 v11 v12 v13 v14 v15 v16 v17 v18 v19 v20 v21 v22 v23 v24 v25 v26 v27 v28 v29 v30 v31 v32 v33 v34 v35 v36 (v37 ++ ([y3] : List Int)) v38
 else
 none
 else
 Qk_l2 v0 v1 0 v3 v4 v5 v6 v7 v8 v9 v10 v11 v12 v13 v14 v15 v16 v17 v18 v20 v21 v22 v23 v24 v25 v26 v27 v28 v29 v30 v31 v32 v33 v34 v35 v36 v37 v38 ([] : List Int) := (Q7 Q0 (Q1 (Qk.gok _)) _ _).trans (by kernel_rfl)
theorem Qk_l2.eq (v0 : List Int) (v1 v2 v3 v4 v5 v6 v7 v8 v9 v10 v11 v12 : Int) (v13 : List Int) (v14 : List (Int × (List Int))) (v15 v16 v17 v18 v19 : List Int) (v20 v21 v22 v23 v24 v25 v26 v27 v28 v29 : Int) (v30 : List Int) (v31 : List (Int × (List Int))) (v32 v33 v34 v35 v36 v37 v38 : List Int) : Qk_l2 v0 v1 v2 v3 v4 v5 v6 v7 v8 v9 v10 v11 v12 v13 v14 v15 v16 v17 v18 v19 v20 v21 v22 v23 v24 v25 v26 v27 v28 v29 v30 v31 v32 v33 v34 v35 v36 v37 v38 =
 bif decide (v2 ≤ (v0.length : Int)) then
 (at? v19 v2).bind fun y1 =>
 v19[v2.toNat]?.bind fun y2 =>
 bif decide ((v38.length + ([y2] : List Int).length) * 8 ≤ 140737488355328) then
 Qk_l2 v0 v1 (IntKind.i64.wrap (v2 + v1)) v3 v4 v5 v6 v7 v8 v9 v10 v11 v12 v13 v14 v15 v16 v17 v18 v19 v20 v21 v22 v23 v24 v25 v26 v27 v28 v29 v30 v31 v32 v33 v34 v35 v36 v37 (v38 ++ ([y2] : List Int))
 else
 none
 else
 (Qo v36).bind fun y3 =>
 (Q0p (v0.length : Int)).bind fun y4 =>
 (Qn v37 y4).bind fun y5 =>
 (Q0p (v0.length : Int)).bind fun y6 =>
 (Qn v38 y6).bind fun y7 =>
 some ((v20, v21, v22, v30, v31, v32, y3.1.1, y3.1.2, y5.1.1, y5.1.2.1, y5.1.2.2.1, y5.1.2.2.2, y7.1.1, y7.1.2.1, y7.1.2.2.1, y7.1.2.2.2), true) := (Q7 Q0 (Q1 (Qk.gok _)) _ _).trans (by kernel_rfl)
abbrev Qq.s : Sg := ⟨[.lend], [ag4], ⟨[vo 3], [none]⟩, Tryz.f105⟩
def Qq.gs (δ : Type) : List (Nat × KC δ) := []
theorem Qq.gok (δ : Type) : Q4 Tryz.prog tab (Qq.gs δ) := .nil
def Qq.c := cx Qq.s [] [] [(3, [1, 3, 4]), (7, [1, 3, 4, 5, 6])] false (Qq.gs _)
def Qq (x0 : Int × (List Int)) : Option (List Int) := fnW Qq.s Qq.c x0
theorem Qq.fok : FkS Qq.s 105 := ⟨Tryz.func105, by kernel_rfl, by kernel_rfl⟩
def Qq.fn (x : Args tab Qq.s.ar) : Option (ResT tab Qq.s.rs) := Qq x
abbrev Qq.k {δ : Type} : KC δ := kS Qq.s Qq.fn
theorem Qq.con {δ : Type} : Con Tryz.prog (KT tab) 105 (Qq.k (δ := δ)) := Q5 (c := Qq.c) mixed Q0 (Q1 (Qq.gok _)) Qq.fok rfl rfl fun _ => rfl
def Qq_l0 (v0 v1 : Int) (v2 v3 : List Int) : Option (List Int) := lpW Qq.s Qq.c 0 (ud 30 [.undef, .ptr 0 0, .undef, .sl 1 0, .int .i64 v0]) [.box 30 [.int .i64 v1, .vs false 90 v2], .row 0 true 3 v3] 2
def Qq_l1 (v0 v1 v2 v3 : Int) (v4 v5 : List Int) : Option (List Int) := lpW Qq.s Qq.c 1 (ud 28 [.undef, .ptr 0 0, .undef, .sl 1 0, .int .i64 v0, .int .u64 v1, .int .i64 v2]) [.box 30 [.int .i64 v3, .vs false 90 v4], .row 0 true 3 v5] 2
theorem Qq.eq (x0 : Int × (List Int)) : Qq x0 =
 Qq_l0 0 x0.1 x0.2 ([] : List Int) := by kernel_rfl
theorem Qq_l0.eq (v0 v1 : Int) (v2 v3 : List Int) : Qq_l0 v0 v1 v2 v3 =
 bif decide (v0 < v1) then
 (at? v2 (IntKind.i64.wrap (v0.tdiv 64))).bind fun y1 =>
 Qq_l1 v0 y1 (v0.tmod 64) v1 v2 v3
 else
 some v3 := (Q7 Q0 (Q1 (Qq.gok _)) _ _).trans (by kernel_rfl)
theorem Qq_l1.eq (v0 v1 v2 v3 : Int) (v4 v5 : List Int) : Qq_l1 v0 v1 v2 v3 v4 v5 =
 bif decide (v2 > 0) then
 Qq_l1 v0 (IntKind.u64.wrap (v1.tdiv 2)) (IntKind.i64.wrap (v2 - 1)) v3 v4 v5
 else
 bif decide ((v5.length + ([IntKind.i64.wrap (v1.tmod 2)] : List Int).length) * 8 ≤ 140737488355328) then
 Qq_l0 (IntKind.i64.wrap (v0 + 1)) v3 v4 (v5 ++ ([IntKind.i64.wrap (v1.tmod 2)] : List Int))
 else
 none := (Q7 Q0 (Q1 (Qq.gok _)) _ _).trans (by kernel_rfl)
abbrev QA.s : Sg := ⟨[.lend], [ag4], ⟨[vb], [none]⟩, Tryz.f171⟩
def QA.gs (δ : Type) : List (Nat × KC δ) := [(92, Qo.k), (105, Qq.k)]
theorem QA.gok (δ : Type) : Q4 Tryz.prog tab (QA.gs δ) := .cons Qo.con (.cons Qq.con .nil)
def QA.c := cx QA.s [] [3] [(3, [1]), (5, [1, 3, 5])] false (QA.gs _)
def QA (x0 : Int × (List Int)) : Option (Bool) := fnW QA.s QA.c x0
theorem QA.fok : FkS QA.s 171 := ⟨Tryz.func171, by kernel_rfl, by kernel_rfl⟩
def QA.fn (x : Args tab QA.s.ar) : Option (ResT tab QA.s.rs) := QA x
abbrev QA.k {δ : Type} : KC δ := kS QA.s QA.fn
theorem QA.con {δ : Type} : Con Tryz.prog (KT tab) 171 (QA.k (δ := δ)) := Q5 (c := QA.c) mixed Q0 (Q1 (QA.gok _)) QA.fok rfl rfl fun _ => rfl
def QA_l0 (v0 : Int) (v1 : List Int) : Option (Bool) := lpW QA.s QA.c 0 (ud 46 [.undef, .ptr 0 0]) [.box 30 [.int .i64 v0, .vs false 90 v1]] 1
def QA_l1 (v0 v1 : Int) (v2 : List Int) (v3 : Int) (v4 : List Int) : Option (Bool) := lpW QA.s QA.c 1 (ud 42 [.undef, .ptr 0 0, .undef, .ptr 1 0, .undef, .int .i64 v0]) [.box 30 [.int .i64 v1, .vs false 90 v2], .box 30 [.int .i64 v3, .sl 2 0], .row 0 true 90 v4] 3
theorem QA.eq (x0 : Int × (List Int)) : QA x0 =
 bif decide (x0.1 < 0) then
 some false
 else
 bif decide (x0.1 > 5000) then
 some false
 else
 bif (x0.2.length : Int) != IntKind.i64.wrap ((IntKind.i64.wrap (x0.1 + 63)).tdiv 64) then
 some false
 else
 QA_l0 x0.1 x0.2 := by kernel_rfl
theorem QA_l0.eq (v0 : Int) (v1 : List Int) : QA_l0 v0 v1 =
 (Qq (v0, v1)).bind fun y1 =>
 (Qo y1).bind fun y2 =>
 QA_l1 0 v0 v1 y2.1.1 y2.1.2 := (Q7 Q0 (Q1 (QA.gok _)) _ _).trans (by kernel_rfl)
theorem QA_l1.eq (v0 v1 : Int) (v2 : List Int) (v3 : Int) (v4 : List Int) : QA_l1 v0 v1 v2 v3 v4 =
 bif decide (v0 < (v2.length : Int)) then
 (at? v2 v0).bind fun y1 =>
 (at? v4 v0).bind fun y2 =>
 v4[v0.toNat]?.bind fun y3 =>
 bif y1 != y3 then
 some false
 else
 QA_l1 (IntKind.i64.wrap (v0 + 1)) v1 v2 v3 v4
 else
 some true := (Q7 Q0 (Q1 (QA.gok _)) _ _).trans (by kernel_rfl)
abbrev Q1f.s : Sg := ⟨[.lend], [vi], ⟨[vb], [none]⟩, Tryz.f204⟩
def Q1f.gs (δ : Type) : List (Nat × KC δ) := []
theorem Q1f.gok (δ : Type) : Q4 Tryz.prog tab (Q1f.gs δ) := .nil
def Q1f.c := cx Q1f.s [] [] [] false (Q1f.gs _)
def Q1f (x0 : Int) : Option (Bool) := fnW Q1f.s Q1f.c x0
theorem Q1f.fok : FkS Q1f.s 204 := ⟨Tryz.func204, by kernel_rfl, by kernel_rfl⟩
def Q1f.fn (x : Args tab Q1f.s.ar) : Option (ResT tab Q1f.s.rs) := Q1f x
abbrev Q1f.k {δ : Type} : KC δ := kS Q1f.s Q1f.fn
theorem Q1f.con {δ : Type} : Con Tryz.prog (KT tab) 204 (Q1f.k (δ := δ)) := Q5 (c := Q1f.c) mixed Q0 (Q1 (Q1f.gok _)) Q1f.fok rfl rfl fun _ => rfl
theorem Q1f.eq (x0 : Int) : Q1f x0 =
 bif x0 == 0 then
 some true
 else
 some (x0 == 1) := by kernel_rfl
abbrev Qx.s : Sg := ⟨[.lend, .lend, .lend], [ag4, vi, vi], ⟨[vi], [none, none, none]⟩, Tryz.f180⟩
def Qx.gs (δ : Type) : List (Nat × KC δ) := [(105, Qq.k), (171, QA.k), (204, Q1f.k)]
theorem Qx.gok (δ : Type) : Q4 Tryz.prog tab (Qx.gs δ) := .cons Qq.con (.cons QA.con (.cons Q1f.con .nil))
def Qx.c := cx Qx.s [] [3] [(3, [1, 2, 3]), (6, [1, 2, 7, 8, 9])] false (Qx.gs _)
def Qx (x0 : Int × (List Int)) (x1 x2 : Int) : Option (Int) := fnW Qx.s Qx.c (x0, x1, x2)
theorem Qx.fok : FkS Qx.s 180 := ⟨Tryz.func180, by kernel_rfl, by kernel_rfl⟩
def Qx.fn (x : Args tab Qx.s.ar) : Option (ResT tab Qx.s.rs) := Qx x.1 x.2.1 x.2.2
abbrev Qx.k {δ : Type} : KC δ := kS Qx.s Qx.fn
theorem Qx.con {δ : Type} : Con Tryz.prog (KT tab) 180 (Qx.k (δ := δ)) := Q5 (c := Qx.c) mixed Q0 (Q1 (Qx.gok _)) Qx.fok rfl rfl fun _ => rfl
def Qx_l0 (v0 v1 v2 : Int) (v3 : List Int) : Option (Int) := lpW Qx.s Qx.c 0 (ud 40 [.undef, .int .i64 v0, .int .i64 v1, .ptr 0 0]) [.box 30 [.int .i64 v2, .vs false 90 v3]] 1
def Qx_l1 (v0 v1 v2 v3 : Int) (v4 : List Int) : Option (Int) := lpW Qx.s Qx.c 1 (ud 34 [.undef, .int .i64 v0, .int .i64 v1, .undef, .undef, .undef, .undef, .sl 0 0, .int .i64 v2, .int .i64 v3]) [.row 0 true 3 v4] 1
theorem Qx.eq (x0 : Int × (List Int)) (x1 x2 : Int) : Qx x0 x1 x2 =
 (QA x0).bind fun y1 =>
 bif !y1 then
 some (-1 : Int)
 else
 (Q1f x1).bind fun y2 =>
 bif !y2 then
 some (-1 : Int)
 else
 bif decide (x2 < 0) then
 some (-1 : Int)
 else
 bif decide (x2 > x0.1) then
 some (-1 : Int)
 else
 Qx_l0 x1 x2 x0.1 x0.2 := by kernel_rfl
theorem Qx_l0.eq (v0 v1 v2 : Int) (v3 : List Int) : Qx_l0 v0 v1 v2 v3 =
 (Qq (v2, v3)).bind fun y1 =>
 Qx_l1 v0 v1 0 0 y1 := (Q7 Q0 (Q1 (Qx.gok _)) _ _).trans (by kernel_rfl)
theorem Qx_l1.eq (v0 v1 v2 v3 : Int) (v4 : List Int) : Qx_l1 v0 v1 v2 v3 v4 =
 bif decide (v3 < v1) then
 (at? v4 v3).bind fun y1 =>
 v4[v3.toNat]?.bind fun y2 =>
 bif y2 == v0 then
 Qx_l1 v0 v1 (IntKind.i64.wrap (v2 + 1)) (IntKind.i64.wrap (v3 + 1)) v4
 else
 Qx_l1 v0 v1 v2 (IntKind.i64.wrap (v3 + 1)) v4
 else
 some v2 := (Q7 Q0 (Q1 (Qx.gok _)) _ _).trans (by kernel_rfl)
abbrev QF.s : Sg := ⟨[.lend], [ag5], ⟨[vb], [none]⟩, Tryz.f143⟩
def QF.gs (δ : Type) : List (Nat × KC δ) := [(171, QA.k), (180, Qx.k)]
theorem QF.gok (δ : Type) : Q4 Tryz.prog tab (QF.gs δ) := .cons QA.con (.cons Qx.con .nil)
def QF.c := cx QF.s [] [3] [(3, [1]), (4, [1, 3])] false (QF.gs _)
def QF (x0 : Int × (List Int) × (List (Int × (List Int)))) : Option (Bool) := fnW QF.s QF.c x0
theorem QF.fok : FkS QF.s 143 := ⟨Tryz.func143, by kernel_rfl, by kernel_rfl⟩
def QF.fn (x : Args tab QF.s.ar) : Option (ResT tab QF.s.rs) := QF x
abbrev QF.k {δ : Type} : KC δ := kS QF.s QF.fn
theorem QF.con {δ : Type} : Con Tryz.prog (KT tab) 143 (QF.k (δ := δ)) := Q5 (c := QF.c) mixed Q0 (Q1 (QF.gok _)) QF.fok rfl rfl fun _ => rfl
def QF_l0 (v0 : Int) (v1 : List Int) (v2 : List (Int × (List Int))) : Option (Bool) := lpW QF.s QF.c 0 (ud 60 [.undef, .ptr 0 0]) [.box 27 [.int .i64 v0, .vs false 3 v1, .vs false 30 v2]] 1
def QF_l1 (v0 v1 : Int) (v2 : List Int) (v3 : List (Int × (List Int))) : Option (Bool) := lpW QF.s QF.c 1 (ud 58 [.undef, .ptr 0 0, .undef, .int .i64 v0]) [.box 27 [.int .i64 v1, .vs false 3 v2, .vs false 30 v3]] 1
theorem QF.eq (x0 : Int × (List Int) × (List (Int × (List Int)))) : QF x0 =
 bif decide (x0.1 < 0) then
 some false
 else
 bif decide (x0.1 > 1000) then
 some false
 else
 bif (x0.2.2.length : Int) != 9 then
 some false
 else
 bif (x0.2.1.length : Int) != 9 then
 some false
 else
 QF_l0 x0.1 x0.2.1 x0.2.2 := by kernel_rfl
theorem QF_l0.eq (v0 : Int) (v1 : List Int) (v2 : List (Int × (List Int))) : QF_l0 v0 v1 v2 =
 QF_l1 0 v0 v1 v2 := (Q7 Q0 (Q1 (QF.gok _)) _ _).trans (by kernel_rfl)
theorem QF_l1.eq (v0 v1 : Int) (v2 : List Int) (v3 : List (Int × (List Int))) : QF_l1 v0 v1 v2 v3 =
 bif decide (v0 < 9) then
 (at? v3 v0).bind fun y1 =>
 bif y1.1 != v1 then
 some false
 else
 (at? v3 v0).bind fun y2 =>
 (QA y2).bind fun y3 =>
 bif !y3 then
 some false
 else
 (at? v3 v0).bind fun y4 =>
 (Qx y4 0 v1).bind fun y5 =>
 (at? v2 v0).bind fun y6 =>
 bif y5 != y6 then
 some false
 else
 QF_l1 (IntKind.i64.wrap (v0 + 1)) v1 v2 v3
 else
 some true := (Q7 Q0 (Q1 (QF.gok _)) _ _).trans (by kernel_rfl)
abbrev Qg.s : Sg := ⟨[.lend], [ag5], ⟨[vo 3], [none]⟩, Tryz.f144⟩
def Qg.gs (δ : Type) : List (Nat × KC δ) := [(105, Qq.k)]
theorem Qg.gok (δ : Type) : Q4 Tryz.prog tab (Qg.gs δ) := .cons Qq.con .nil
def Qg.c := cx Qg.s [] [] [(4, [1, 3, 4, 5]), (8, [1, 3, 4, 6]), (13, [1, 3, 4, 6, 7, 8, 9]), (19, [1, 3, 4, 6, 7, 8, 9, 10, 11, 12, 13])] false (Qg.gs _)
def Qg (x0 : Int × (List Int) × (List (Int × (List Int)))) : Option (List Int) := fnW Qg.s Qg.c x0
theorem Qg.fok : FkS Qg.s 144 := ⟨Tryz.func144, by kernel_rfl, by kernel_rfl⟩
def Qg.fn (x : Args tab Qg.s.ar) : Option (ResT tab Qg.s.rs) := Qg x
abbrev Qg.k {δ : Type} : KC δ := kS Qg.s Qg.fn
theorem Qg.con {δ : Type} : Con Tryz.prog (KT tab) 144 (Qg.k (δ := δ)) := Q5 (c := Qg.c) mixed Q0 (Q1 (Qg.gok _)) Qg.fok rfl rfl fun _ => rfl
def Qg_l0 (v0 v1 : Int) (v2 : List Int) (v3 : List (Int × (List Int))) (v4 : List Int) (v5 : List (List Int)) : Option (List Int) := lpW Qg.s Qg.c 0 (ud 88 [.undef, .ptr 0 0, .undef, .sl 1 0, .sl 2 0, .int .i64 v0]) [.box 27 [.int .i64 v1, .vs false 3 v2, .vs false 30 v3], .row 0 true 3 v4, .row 0 true 24 v5] 3
def Qg_l1 (v0 v1 : Int) (v2 : List Int) (v3 : List (Int × (List Int))) (v4 : List Int) (v5 : List (List Int)) : Option (List Int) := lpW Qg.s Qg.c 1 (ud 87 [.undef, .ptr 0 0, .undef, .sl 1 0, .sl 2 0, .undef, .int .i64 v0]) [.box 27 [.int .i64 v1, .vs false 3 v2, .vs false 30 v3], .row 0 true 3 v4, .row 0 true 24 v5] 3
def Qg_l2 (v0 v1 v2 v3 v4 : Int) (v5 : List Int) (v6 : List (Int × (List Int))) (v7 : List Int) (v8 : List (List Int)) : Option (List Int) := lpW Qg.s Qg.c 2 (ud 84 [.undef, .ptr 0 0, .undef, .sl 1 0, .sl 2 0, .undef, .int .i64 v0, .int .i64 v1, .int .i64 v2, .int .i64 v3]) [.box 27 [.int .i64 v4, .vs false 3 v5, .vs false 30 v6], .row 0 true 3 v7, .row 0 true 24 v8] 3
def Qg_l3 (v0 v1 v2 v3 v4 v5 v6 v7 v8 : Int) (v9 : List Int) (v10 : List (Int × (List Int))) (v11 : List Int) (v12 : List (List Int)) : Option (List Int) := lpW Qg.s Qg.c 3 (ud 80 [.undef, .ptr 0 0, .undef, .sl 1 0, .sl 2 0, .undef, .int .i64 v0, .int .i64 v1, .int .i64 v2, .int .i64 v3, .int .i64 v4, .int .i64 v5, .int .i64 v6, .int .i64 v7]) [.box 27 [.int .i64 v8, .vs false 3 v9, .vs false 30 v10], .row 0 true 3 v11, .row 0 true 24 v12] 3
theorem Qg.eq (x0 : Int × (List Int) × (List (Int × (List Int)))) : Qg x0 =
 Qg_l0 0 x0.1 x0.2.1 x0.2.2 ([] : List Int) ([] : List (List Int)) := by kernel_rfl
theorem Qg_l0.eq (v0 v1 : Int) (v2 : List Int) (v3 : List (Int × (List Int))) (v4 : List Int) (v5 : List (List Int)) : Qg_l0 v0 v1 v2 v3 v4 v5 =
 bif decide (v0 < 9) then
 (at? v3 v0).bind fun y1 =>
 (Qq y1).bind fun y2 =>
 bif decide ((v5.length + ([y2] : List (List Int)).length) * 24 ≤ 140737488355328) then
 Qg_l0 (IntKind.i64.wrap (v0 + 1)) v1 v2 v3 v4 (v5 ++ ([y2] : List (List Int)))
 else
 none
 else
 Qg_l1 0 v1 v2 v3 v4 v5 := (Q7 Q0 (Q1 (Qg.gok _)) _ _).trans (by kernel_rfl)
theorem Qg_l1.eq (v0 v1 : Int) (v2 : List Int) (v3 : List (Int × (List Int))) (v4 : List Int) (v5 : List (List Int)) : Qg_l1 v0 v1 v2 v3 v4 v5 =
 bif decide (v0 < v1) then
 Qg_l2 v0 v0 0 0 v1 v2 v3 v4 v5
 else
 some v4 := (Q7 Q0 (Q1 (Qg.gok _)) _ _).trans (by kernel_rfl)
theorem Qg_l2.eq (v0 v1 v2 v3 v4 : Int) (v5 : List Int) (v6 : List (Int × (List Int))) (v7 : List Int) (v8 : List (List Int)) : Qg_l2 v0 v1 v2 v3 v4 v5 v6 v7 v8 =
 bif decide (v3 < 9) then
 (at? v8 v3).bind fun y1 =>
 v8[v3.toNat]?.bind fun y2 =>
 (at? y2 v1).bind fun y3 =>
 y2[v1.toNat]?.bind fun y4 =>
 Qg_l3 v0 v1 v2 v3 y4 0 0 0 v4 v5 v6 v7 (v8.set v3.toNat y2)
 else
 bif decide ((v7.length + ([v2] : List Int).length) * 8 ≤ 140737488355328) then
 Qg_l1 (IntKind.i64.wrap (v0 + 1)) v4 v5 v6 (v7 ++ ([v2] : List Int)) v8
 else
 none := (Q7 Q0 (Q1 (Qg.gok _)) _ _).trans (by kernel_rfl)
theorem Qg_l3.eq (v0 v1 v2 v3 v4 v5 v6 v7 v8 : Int) (v9 : List Int) (v10 : List (Int × (List Int))) (v11 : List Int) (v12 : List (List Int)) : Qg_l3 v0 v1 v2 v3 v4 v5 v6 v7 v8 v9 v10 v11 v12 =
 bif decide (v7 < v8) then
 (at? v12 v3).bind fun y1 =>
 v12[v3.toNat]?.bind fun y2 =>
 (at? y2 v7).bind fun y3 =>
 y2[v7.toNat]?.bind fun y4 =>
 bif y4 == 0 then
 bif decide (v7 < v1) then
 (at? (v12.set v3.toNat y2) v3).bind fun y5 =>
 (v12.set v3.toNat y2)[v3.toNat]?.bind fun y6 =>
 (at? y6 v7).bind fun y7 =>
 y6[v7.toNat]?.bind fun y8 =>
 bif y8 == v4 then
 Qg_l3 v0 v1 v2 v3 v4 (IntKind.i64.wrap (v5 + 1)) (IntKind.i64.wrap (v6 + 1)) (IntKind.i64.wrap (v7 + 1)) v8 v9 v10 v11 ((v12.set v3.toNat y2).set v3.toNat y6)
 else
 Qg_l3 v0 v1 v2 v3 v4 v5 (IntKind.i64.wrap (v6 + 1)) (IntKind.i64.wrap (v7 + 1)) v8 v9 v10 v11 ((v12.set v3.toNat y2).set v3.toNat y6)
 else
 Qg_l3 v0 v1 v2 v3 v4 v5 (IntKind.i64.wrap (v6 + 1)) (IntKind.i64.wrap (v7 + 1)) v8 v9 v10 v11 (v12.set v3.toNat y2)
 else
 bif decide (v7 < v1) then
 (at? (v12.set v3.toNat y2) v3).bind fun y9 =>
 (v12.set v3.toNat y2)[v3.toNat]?.bind fun y10 =>
 (at? y10 v7).bind fun y11 =>
 y10[v7.toNat]?.bind fun y12 =>
 bif y12 == v4 then
 Qg_l3 v0 v1 v2 v3 v4 (IntKind.i64.wrap (v5 + 1)) v6 (IntKind.i64.wrap (v7 + 1)) v8 v9 v10 v11 ((v12.set v3.toNat y2).set v3.toNat y10)
 else
 Qg_l3 v0 v1 v2 v3 v4 v5 v6 (IntKind.i64.wrap (v7 + 1)) v8 v9 v10 v11 ((v12.set v3.toNat y2).set v3.toNat y10)
 else
 Qg_l3 v0 v1 v2 v3 v4 v5 v6 (IntKind.i64.wrap (v7 + 1)) v8 v9 v10 v11 (v12.set v3.toNat y2)
 else
 bif v4 == 1 then
 Qg_l2 v0 (IntKind.i64.wrap (v6 + v5)) (IntKind.i64.wrap ((IntKind.i64.wrap ((2 : Int) * v2)) + v4)) (IntKind.i64.wrap (v3 + 1)) v8 v9 v10 v11 v12
 else
 Qg_l2 v0 v5 (IntKind.i64.wrap ((IntKind.i64.wrap ((2 : Int) * v2)) + v4)) (IntKind.i64.wrap (v3 + 1)) v8 v9 v10 v11 v12 := (Q7 Q0 (Q1 (Qg.gok _)) _ _).trans (by kernel_rfl)
abbrev Q12.s : Sg := ⟨[.lend], [ag5], ⟨[vo 3], [none]⟩, Tryz.f99⟩
def Q12.gs (δ : Type) : List (Nat × KC δ) := [(143, QF.k), (144, Qg.k)]
theorem Q12.gok (δ : Type) : Q4 Tryz.prog tab (Q12.gs δ) := .cons QF.con (.cons Qg.con .nil)
def Q12.c := cx Q12.s [] [] [] false (Q12.gs _)
def Q12 (x0 : Int × (List Int) × (List (Int × (List Int)))) : Option (List Int) := fnW Q12.s Q12.c x0
theorem Q12.fok : FkS Q12.s 99 := ⟨Tryz.func99, by kernel_rfl, by kernel_rfl⟩
def Q12.fn (x : Args tab Q12.s.ar) : Option (ResT tab Q12.s.rs) := Q12 x
abbrev Q12.k {δ : Type} : KC δ := kS Q12.s Q12.fn
theorem Q12.con {δ : Type} : Con Tryz.prog (KT tab) 99 (Q12.k (δ := δ)) := Q5 (c := Q12.c) mixed Q0 (Q1 (Q12.gok _)) Q12.fok rfl rfl fun _ => rfl
theorem Q12.eq (x0 : Int × (List Int) × (List (Int × (List Int)))) : Q12 x0 =
 (QF x0).bind fun y1 =>
 bif !y1 then
 some ([] : List Int)
 else
 (Qg x0).bind fun y2 =>
 some y2 := by kernel_rfl
abbrev QI.s : Sg := ⟨[.lend], [vl 3], ⟨[vo 3], [none]⟩, Tryz.f142⟩
def QI.gs (δ : Type) : List (Nat × KC δ) := [(137, Q0c.k)]
theorem QI.gok (δ : Type) : Q4 Tryz.prog tab (QI.gs δ) := .cons Q0c.con .nil
def QI.c := cx QI.s [] [] [(5, [0, 3, 4]), (9, [0, 3, 4, 5, 6])] false (QI.gs _)
def QI (x0 : List Int) : Option (List Int) := fnW QI.s QI.c x0
theorem QI.fok : FkS QI.s 142 := ⟨Tryz.func142, by kernel_rfl, by kernel_rfl⟩
def QI.fn (x : Args tab QI.s.ar) : Option (ResT tab QI.s.rs) := QI x
abbrev QI.k {δ : Type} : KC δ := kS QI.s QI.fn
theorem QI.con {δ : Type} : Con Tryz.prog (KT tab) 142 (QI.k (δ := δ)) := Q5 (c := QI.c) mixed Q0 (Q1 (QI.gok _)) QI.fok rfl rfl fun _ => rfl
def QI_l0 (v0 : List Int) (v1 : Int) (v2 : List Int) : Option (List Int) := lpW QI.s QI.c 0 (ud 50 [.vs false 3 v0, .undef, .undef, .sl 0 0, .int .i64 v1]) [.row 0 true 3 v2] 1
def QI_l1 (v0 : List Int) (v1 v2 v3 : Int) (v4 : List Int) : Option (List Int) := lpW QI.s QI.c 1 (ud 48 [.vs false 3 v0, .undef, .undef, .sl 0 0, .int .i64 v1, .int .i64 v2, .int .i64 v3]) [.row 0 true 3 v4] 1
theorem QI.eq (x0 : List Int) : QI x0 =
 (Q0c x0).bind fun y1 =>
 bif !y1 then
 some ([] : List Int)
 else
 QI_l0 x0 0 ([] : List Int) := by kernel_rfl
theorem QI_l0.eq (v0 : List Int) (v1 : Int) (v2 : List Int) : QI_l0 v0 v1 v2 =
 bif decide (v1 < (v0.length : Int)) then
 QI_l1 v0 v1 0 0 v2
 else
 some v2 := (Q7 Q0 (Q1 (QI.gok _)) _ _).trans (by kernel_rfl)
theorem QI_l1.eq (v0 : List Int) (v1 v2 v3 : Int) (v4 : List Int) : QI_l1 v0 v1 v2 v3 v4 =
 bif decide (v3 < (v0.length : Int)) then
 (at? v0 v3).bind fun y1 =>
 (at? v0 v1).bind fun y2 =>
 bif decide (y1 < y2) then
 QI_l1 v0 v1 (IntKind.i64.wrap (v2 + 1)) (IntKind.i64.wrap (v3 + 1)) v4
 else
 bif decide (v3 < v1) then
 (at? v0 v3).bind fun y3 =>
 (at? v0 v1).bind fun y4 =>
 bif y3 == y4 then
 QI_l1 v0 v1 (IntKind.i64.wrap (v2 + 1)) (IntKind.i64.wrap (v3 + 1)) v4
 else
 QI_l1 v0 v1 v2 (IntKind.i64.wrap (v3 + 1)) v4
 else
 QI_l1 v0 v1 v2 (IntKind.i64.wrap (v3 + 1)) v4
 else
 bif decide ((v4.length + ([v2] : List Int).length) * 8 ≤ 140737488355328) then
 QI_l0 v0 (IntKind.i64.wrap (v1 + 1)) (v4 ++ ([v2] : List Int))
 else
 none := (Q7 Q0 (Q1 (QI.gok _)) _ _).trans (by kernel_rfl)
abbrev Q01.s : Sg := ⟨[.lend, .lend], [vl 3, vl 3], ⟨[vb], [none, none]⟩, Tryz.f100⟩
def Q01.gs (δ : Type) : List (Nat × KC δ) := []
theorem Q01.gok (δ : Type) : Q4 Tryz.prog tab (Q01.gs δ) := .nil
def Q01.c := cx Q01.s [] [] [(4, [0, 1, 5])] false (Q01.gs _)
def Q01 (x0 x1 : List Int) : Option (Bool) := fnW Q01.s Q01.c (x0, x1)
theorem Q01.fok : FkS Q01.s 100 := ⟨Tryz.func100, by kernel_rfl, by kernel_rfl⟩
def Q01.fn (x : Args tab Q01.s.ar) : Option (ResT tab Q01.s.rs) := Q01 x.1 x.2
abbrev Q01.k {δ : Type} : KC δ := kS Q01.s Q01.fn
theorem Q01.con {δ : Type} : Con Tryz.prog (KT tab) 100 (Q01.k (δ := δ)) := Q5 (c := Q01.c) mixed Q0 (Q1 (Q01.gok _)) Q01.fok rfl rfl fun _ => rfl
def Q01_l0 (v0 v1 : List Int) (v2 : Int) : Option (Bool) := lpW Q01.s Q01.c 0 (ud 20 [.vs false 3 v0, .vs false 3 v1, .undef, .undef, .undef, .int .i64 v2]) [] 0
theorem Q01.eq (x0 x1 : List Int) : Q01 x0 x1 =
 bif (x0.length : Int) != (x1.length : Int) then
 some false
 else
 Q01_l0 x0 x1 0 := by kernel_rfl
theorem Q01_l0.eq (v0 v1 : List Int) (v2 : Int) : Q01_l0 v0 v1 v2 =
 bif decide (v2 < (v0.length : Int)) then
 (at? v0 v2).bind fun y1 =>
 (at? v1 v2).bind fun y2 =>
 bif y1 != y2 then
 some false
 else
 Q01_l0 v0 v1 (IntKind.i64.wrap (v2 + 1))
 else
 some true := (Q7 Q0 (Q1 (Q01.gok _)) _ _).trans (by kernel_rfl)
abbrev Qy.s : Sg := ⟨[.lend], [vl 3], ⟨[vo 5, vb], [none]⟩, Tryz.f98⟩
def Qy.gs (δ : Type) : List (Nat × KC δ) := [(88, Qw.k), (100, Q01.k), (137, Q0c.k), (142, QI.k)]
theorem Qy.gok (δ : Type) : Q4 Tryz.prog tab (Qy.gs δ) := .cons Qw.con (.cons Q01.con (.cons Q0c.con (.cons QI.con .nil)))
def Qy.c := cx Qy.s [] [3, 9] [(3, [0]), (7, [0, 4, 5, 6, 7]), (9, [0, 4, 5, 6, 7])] false (Qy.gs _)
def Qy (x0 : List Int) : Option ((List Int) × Bool) := fnW Qy.s Qy.c x0
theorem Qy.fok : FkS Qy.s 98 := ⟨Tryz.func98, by kernel_rfl, by kernel_rfl⟩
def Qy.fn (x : Args tab Qy.s.ar) : Option (ResT tab Qy.s.rs) := Qy x
abbrev Qy.k {δ : Type} : KC δ := kS Qy.s Qy.fn
theorem Qy.con {δ : Type} : Con Tryz.prog (KT tab) 98 (Qy.k (δ := δ)) := Q5 (c := Qy.c) mixed Q0 (Q1 (Qy.gok _)) Qy.fok rfl rfl fun _ => rfl
def Qy_l0 (v0 : List Int) : Option ((List Int) × Bool) := lpW Qy.s Qy.c 0 (ud 51 [.vs false 3 v0]) [] 0
def Qy_l1 (v0 : List Int) (v1 v2 : Int) (v3 v4 : List Int) : Option ((List Int) × Bool) := lpW Qy.s Qy.c 1 (ud 44 [.vs false 3 v0, .undef, .undef, .undef, .sl 0 0, .sl 1 0, .int .i64 v1, .int .i64 v2]) [.row 0 true 3 v3, .row 0 true 5 v4] 2
def Qy_l2 (v0 : List Int) (v1 v2 : Int) (v3 v4 : List Int) : Option ((List Int) × Bool) := lpW Qy.s Qy.c 2 (ud 44 [.vs false 3 v0, .undef, .undef, .undef, .sl 0 0, .sl 1 0, .int .i64 v1, .int .i64 v2]) [.row 0 true 3 v3, .row 0 true 5 v4] 2
theorem Qy.eq (x0 : List Int) : Qy x0 =
 (Q0c x0).bind fun y1 =>
 bif !y1 then
 some (([] : List Int), false)
 else
 bif (x0.length : Int) == 0 then
 some (([] : List Int), false)
 else
 Qy_l0 x0 := by kernel_rfl
theorem Qy_l0.eq (v0 : List Int) : Qy_l0 v0 =
 (QI v0).bind fun y1 =>
 Qy_l1 v0 0 0 y1 ([] : List Int) := (Q7 Q0 (Q1 (Qy.gok _)) _ _).trans (by kernel_rfl)
theorem Qy_l1.eq (v0 : List Int) (v1 v2 : Int) (v3 v4 : List Int) : Qy_l1 v0 v1 v2 v3 v4 =
 bif decide (v2 < IntKind.i64.wrap ((v0.length : Int) - 1)) then
 (at? v0 v1).bind fun y1 =>
 bif decide (y1 > 0) then
 Qy_l2 v0 v1 v2 v3 v4
 else
 (Qw v4).bind fun y2 =>
 (Q01 y2 v0).bind fun y3 =>
 bif !y3 then
 some (([] : List Int), false)
 else
 some (v4, true)
 else
 (Qw v4).bind fun y4 =>
 (Q01 y4 v0).bind fun y5 =>
 bif !y5 then
 some (([] : List Int), false)
 else
 some (v4, true) := (Q7 Q0 (Q1 (Qy.gok _)) _ _).trans (by kernel_rfl)
theorem Qy_l2.eq (v0 : List Int) (v1 v2 : Int) (v3 v4 : List Int) : Qy_l2 v0 v1 v2 v3 v4 =
 (at? v0 v1).bind fun y1 =>
 bif decide ((([IntKind.u8.wrap (IntKind.i64.wrap (y1 - 1))] : List Int).length + v4.length) * 1 ≤ 140737488355328) then
 (at? v3 v1).bind fun y2 =>
 v3[v1.toNat]?.bind fun y3 =>
 Qy_l1 v0 y3 (IntKind.i64.wrap (v2 + 1)) v3 (([IntKind.u8.wrap (IntKind.i64.wrap (y1 - 1))] : List Int) ++ v4)
 else
 none := (Q7 Q0 (Q1 (Qy.gok _)) _ _).trans (by kernel_rfl)
abbrev QJ.s : Sg := ⟨[.lend, .lend], [ag4, ag4], ⟨[vb], [none, none]⟩, Tryz.f101⟩
def QJ.gs (δ : Type) : List (Nat × KC δ) := []
theorem QJ.gok (δ : Type) : Q4 Tryz.prog tab (QJ.gs δ) := .nil
def QJ.c := cx QJ.s [] [3] [(3, [2, 3]), (4, [2, 3, 5])] false (QJ.gs _)
def QJ (x0 x1 : Int × (List Int)) : Option (Bool) := fnW QJ.s QJ.c (x0, x1)
theorem QJ.fok : FkS QJ.s 101 := ⟨Tryz.func101, by kernel_rfl, by kernel_rfl⟩
def QJ.fn (x : Args tab QJ.s.ar) : Option (ResT tab QJ.s.rs) := QJ x.1 x.2
abbrev QJ.k {δ : Type} : KC δ := kS QJ.s QJ.fn
theorem QJ.con {δ : Type} : Con Tryz.prog (KT tab) 101 (QJ.k (δ := δ)) := Q5 (c := QJ.c) mixed Q0 (Q1 (QJ.gok _)) QJ.fok rfl rfl fun _ => rfl
def QJ_l0 (v0 : Int) (v1 : List Int) (v2 : Int) (v3 : List Int) : Option (Bool) := lpW QJ.s QJ.c 0 (ud 34 [.undef, .undef, .ptr 0 0, .ptr 1 0]) [.box 30 [.int .i64 v0, .vs false 90 v1], .box 30 [.int .i64 v2, .vs false 90 v3]] 2
def QJ_l1 (v0 v1 : Int) (v2 : List Int) (v3 : Int) (v4 : List Int) : Option (Bool) := lpW QJ.s QJ.c 1 (ud 32 [.undef, .undef, .ptr 0 0, .ptr 1 0, .undef, .int .i64 v0]) [.box 30 [.int .i64 v1, .vs false 90 v2], .box 30 [.int .i64 v3, .vs false 90 v4]] 2
theorem QJ.eq (x0 x1 : Int × (List Int)) : QJ x0 x1 =
 bif x0.1 != x1.1 then
 some false
 else
 bif (x0.2.length : Int) != (x1.2.length : Int) then
 some false
 else
 QJ_l0 x0.1 x0.2 x1.1 x1.2 := by kernel_rfl
theorem QJ_l0.eq (v0 : Int) (v1 : List Int) (v2 : Int) (v3 : List Int) : QJ_l0 v0 v1 v2 v3 =
 QJ_l1 0 v0 v1 v2 v3 := (Q7 Q0 (Q1 (QJ.gok _)) _ _).trans (by kernel_rfl)
theorem QJ_l1.eq (v0 v1 : Int) (v2 : List Int) (v3 : Int) (v4 : List Int) : QJ_l1 v0 v1 v2 v3 v4 =
 bif decide (v0 < (v2.length : Int)) then
 (at? v2 v0).bind fun y1 =>
 (at? v4 v0).bind fun y2 =>
 bif y1 != y2 then
 some false
 else
 QJ_l1 (IntKind.i64.wrap (v0 + 1)) v1 v2 v3 v4
 else
 some true := (Q7 Q0 (Q1 (QJ.gok _)) _ _).trans (by kernel_rfl)
abbrev Q0Y.s : Sg := ⟨[.lend, .lend], [ag6, ag6], ⟨[vb], [none, none]⟩, Tryz.f102⟩
def Q0Y.gs (δ : Type) : List (Nat × KC δ) := [(101, QJ.k)]
theorem Q0Y.gok (δ : Type) : Q4 Tryz.prog tab (Q0Y.gs δ) := .cons QJ.con .nil
def Q0Y.c := cx Q0Y.s [] [] [] false (Q0Y.gs _)
def Q0Y (x0 x1 : Int × Int × Int × (List Int)) : Option (Bool) := fnW Q0Y.s Q0Y.c (x0, x1)
theorem Q0Y.fok : FkS Q0Y.s 102 := ⟨Tryz.func102, by kernel_rfl, by kernel_rfl⟩
def Q0Y.fn (x : Args tab Q0Y.s.ar) : Option (ResT tab Q0Y.s.rs) := Q0Y x.1 x.2
abbrev Q0Y.k {δ : Type} : KC δ := kS Q0Y.s Q0Y.fn
theorem Q0Y.con {δ : Type} : Con Tryz.prog (KT tab) 102 (Q0Y.k (δ := δ)) := Q5 (c := Q0Y.c) mixed Q0 (Q1 (Q0Y.gok _)) Q0Y.fok rfl rfl fun _ => rfl
theorem Q0Y.eq (x0 x1 : Int × Int × Int × (List Int)) : Q0Y x0 x1 =
 bif x0.1 == x1.1 then
 bif x0.2.1 == x1.2.1 then
 (QJ x0.2.2 x1.2.2).bind fun y1 =>
 some y1
 else
 some false
 else
 some false := by kernel_rfl
abbrev QT.s : Sg := ⟨[.lend], [ag7], ⟨[vo 5, vb], [none]⟩, Tryz.f41⟩
def QT.gs (δ : Type) : List (Nat × KC δ) := [(34, Qk.k), (43, Q0I.k), (98, Qy.k), (99, Q12.k), (100, Q01.k), (101, QJ.k), (102, Q0Y.k)]
theorem QT.gok (δ : Type) : Q4 Tryz.prog tab (QT.gs δ) := .cons Qk.con (.cons Q0I.con (.cons Qy.con (.cons Q12.con (.cons Q01.con (.cons QJ.con (.cons Q0Y.con .nil))))))
def QT.c := cx QT.s [] [3] [(3, [1])] false (QT.gs _)
def QT (x0 : FmA) : Option ((List Int) × Bool) := fnW QT.s QT.c x0
theorem QT.fok : FkS QT.s 41 := ⟨Tryz.func41, by kernel_rfl, by kernel_rfl⟩
def QT.fn (x : Args tab QT.s.ar) : Option (ResT tab QT.s.rs) := QT x
abbrev QT.k {δ : Type} : KC δ := kS QT.s QT.fn
theorem QT.con {δ : Type} : Con Tryz.prog (KT tab) 41 (QT.k (δ := δ)) := Q5 (c := QT.c) mixed Q0 (Q1 (QT.gok _)) QT.fok rfl rfl fun _ => rfl
def QT_l0 (v0 v1 v2 : Int) (v3 : List Int) (v4 : List (Int × (List Int))) (v5 : List Int) (v6 : Int) (v7 : List Int) (v8 v9 v10 : Int) (v11 : List Int) (v12 v13 v14 : Int) (v15 : List Int) : Option ((List Int) × Bool) := lpW QT.s QT.c 0 (ud 70 [.undef, .ptr 0 0]) [.box 34 [.int .i64 v0, .int .i64 v1, .int .i64 v2, .vs false 3 v3, .vs false 30 v4, .vs false 3 v5, .int .i64 v6, .vs false 90 v7, .int .i64 v8, .int .i64 v9, .int .i64 v10, .vs false 90 v11, .int .i64 v12, .int .i64 v13, .int .i64 v14, .vs false 90 v15]] 1
theorem QT.eq (x0 : FmA) : QT x0 =
 (Q0I x0.2.1).bind fun y1 =>
 bif !y1 then
 some (([] : List Int), false)
 else
 bif decide (x0.2.2.1 > 301) then
 some (([] : List Int), false)
 else
 QT_l0 x0.1 x0.2.1 x0.2.2.1 x0.2.2.2.1 x0.2.2.2.2.1 x0.2.2.2.2.2.1 x0.2.2.2.2.2.2.1 x0.2.2.2.2.2.2.2.1 x0.2.2.2.2.2.2.2.2.1 x0.2.2.2.2.2.2.2.2.2.1 x0.2.2.2.2.2.2.2.2.2.2.1 x0.2.2.2.2.2.2.2.2.2.2.2.1 x0.2.2.2.2.2.2.2.2.2.2.2.2.1 x0.2.2.2.2.2.2.2.2.2.2.2.2.2.1 x0.2.2.2.2.2.2.2.2.2.2.2.2.2.2.1 x0.2.2.2.2.2.2.2.2.2.2.2.2.2.2.2 := by kernel_rfl
theorem QT_l0.eq (v0 v1 v2 : Int) (v3 : List Int) (v4 : List (Int × (List Int))) (v5 : List Int) (v6 : Int) (v7 : List Int) (v8 v9 v10 : Int) (v11 : List Int) (v12 v13 v14 : Int) (v15 : List Int) : QT_l0 v0 v1 v2 v3 v4 v5 v6 v7 v8 v9 v10 v11 v12 v13 v14 v15 =
 (Q12 (v2, v3, v4)).bind fun y1 =>
 (Qy y1).bind fun y2 =>
 bif !y2.2 then
 some (([] : List Int), false)
 else
 (Qk y2.1 v1).bind fun y3 =>
 bif v0 != y3.1.1 then
 some (([] : List Int), false)
 else
 (Q01 v5 y3.1.2.2.2.2.2.1).bind fun y4 =>
 bif !y4 then
 some (([] : List Int), false)
 else
 (QJ (v6, v7) (y3.1.2.2.2.2.2.2.1, y3.1.2.2.2.2.2.2.2.1)).bind fun y5 =>
 bif !y5 then
 some (([] : List Int), false)
 else
 (Q0Y (v8, v9, v10, v11) (y3.1.2.2.2.2.2.2.2.2.1, y3.1.2.2.2.2.2.2.2.2.2.1, y3.1.2.2.2.2.2.2.2.2.2.2.1, y3.1.2.2.2.2.2.2.2.2.2.2.2.1)).bind fun y6 =>
 bif !y6 then
 some (([] : List Int), false)
 else
 (Q0Y (v12, v13, v14, v15) y3.1.2.2.2.2.2.2.2.2.2.2.2.2).bind fun y7 =>
 bif !y7 then
 some (([] : List Int), false)
 else
 some (y2.1, true) := (Q7 Q0 (Q1 (QT.gok _)) _ _).trans (by kernel_rfl)
abbrev Q18.s : Sg := ⟨[.lend, .lend, .lend], [vl 5, vl 5, vi], ⟨[vb], [none, none, none]⟩, Tryz.f42⟩
def Q18.gs (δ : Type) : List (Nat × KC δ) := [(85, Q0S.k)]
theorem Q18.gok (δ : Type) : Q4 Tryz.prog tab (Q18.gs δ) := .cons Q0S.con .nil
def Q18.c := cx Q18.s [] [] [] false (Q18.gs _)
def Q18 (x0 x1 : List Int) (x2 : Int) : Option (Bool) := fnW Q18.s Q18.c (x0, x1, x2)
theorem Q18.fok : FkS Q18.s 42 := ⟨Tryz.func42, by kernel_rfl, by kernel_rfl⟩
def Q18.fn (x : Args tab Q18.s.ar) : Option (ResT tab Q18.s.rs) := Q18 x.1 x.2.1 x.2.2
abbrev Q18.k {δ : Type} : KC δ := kS Q18.s Q18.fn
theorem Q18.con {δ : Type} : Con Tryz.prog (KT tab) 42 (Q18.k (δ := δ)) := Q5 (c := Q18.c) mixed Q0 (Q1 (Q18.gok _)) Q18.fok rfl rfl fun _ => rfl
theorem Q18.eq (x0 x1 : List Int) (x2 : Int) : Q18 x0 x1 x2 =
 (Q0S x0).bind fun y1 =>
 bif y1 then
 (Q0S x1).bind fun y2 =>
 bif y2 then
 bif decide (x2 ≥ 0) then
 some (decide (x2 ≤ 8))
 else
 some false
 else
 some false
 else
 some false := by kernel_rfl
abbrev Q1v.s : Sg := ⟨[.lend, .lend, .lend], [vl 5, vi, vi], ⟨[vl 5], [none, none, none]⟩, Tryz.f181⟩
def Q1v.gs (δ : Type) : List (Nat × KC δ) := []
theorem Q1v.gok (δ : Type) : Q4 Tryz.prog tab (Q1v.gs δ) := .nil
def Q1v.c := cx Q1v.s [] [] [] false (Q1v.gs _)
def Q1v (x0 : List Int) (x1 x2 : Int) : Option (List Int) := fnW Q1v.s Q1v.c (x0, x1, x2)
theorem Q1v.fok : FkS Q1v.s 181 := ⟨Tryz.func181, by kernel_rfl, by kernel_rfl⟩
def Q1v.fn (x : Args tab Q1v.s.ar) : Option (ResT tab Q1v.s.rs) := Q1v x.1 x.2.1 x.2.2
abbrev Q1v.k {δ : Type} : KC δ := kS Q1v.s Q1v.fn
theorem Q1v.con {δ : Type} : Con Tryz.prog (KT tab) 181 (Q1v.k (δ := δ)) := Q5 (c := Q1v.c) mixed Q0 (Q1 (Q1v.gok _)) Q1v.fok rfl rfl fun _ => rfl
theorem Q1v.eq (x0 : List Int) (x1 x2 : Int) : Q1v x0 x1 x2 =
 bif decide (0 ≤ (if IntKind.i64.wrap (x1 + x2) < (x0.length : Int) then IntKind.i64.wrap (x1 + x2) else (x0.length : Int)) ∧ (if IntKind.i64.wrap (x1 + x2) < (x0.length : Int) then IntKind.i64.wrap (x1 + x2) else (x0.length : Int)) ≤ ((x0.length : Nat) : Int)) then
 bif decide (0 ≤ x1 ∧ x1 ≤ (((if IntKind.i64.wrap (x1 + x2) < (x0.length : Int) then IntKind.i64.wrap (x1 + x2) else (x0.length : Int)).toNat : Nat) : Int)) then
 some ((x0.take ((if IntKind.i64.wrap (x1 + x2) < (x0.length : Int) then IntKind.i64.wrap (x1 + x2) else (x0.length : Int)).toNat)).drop x1.toNat)
 else
 none
 else
 none := by kernel_rfl
abbrev Q0q.s : Sg := ⟨[.lend, .lend], [vl 5, vi], ⟨[.one (.b (.b (.b (.b (.sl true false 22)))))], [none, none]⟩, Tryz.f145⟩
def Q0q.gs (δ : Type) : List (Nat × KC δ) := [(86, QD.k), (181, Q1v.k)]
theorem Q0q.gok (δ : Type) : Q4 Tryz.prog tab (Q0q.gs δ) := .cons QD.con (.cons Q1v.con .nil)
def Q0q.c := cx Q0q.s [22] [] [(4, [0, 1, 5, 6, 7])] false (Q0q.gs _)
def Q0q (x0 : List Int) (x1 : Int) : Option (List (List Int)) := fnW Q0q.s Q0q.c (x0, x1)
theorem Q0q.fok : FkS Q0q.s 145 := ⟨Tryz.func145, by kernel_rfl, by kernel_rfl⟩
def Q0q.fn (x : Args tab Q0q.s.ar) : Option (ResT tab Q0q.s.rs) := Q0q x.1 x.2
abbrev Q0q.k {δ : Type} : KC δ := kS Q0q.s Q0q.fn
theorem Q0q.con {δ : Type} : Con Tryz.prog (KT tab) 145 (Q0q.k (δ := δ)) := Q5 (c := Q0q.c) mixed Q0 (Q1 (Q0q.gok _)) Q0q.fok rfl rfl fun _ => rfl
def Q0q_l0 (v0 : List Int) (v1 v2 : Int) (v3 : List Int) (v4 : List (List Int)) : Option (List (List Int)) := lpW Q0q.s Q0q.c 0 (ud 20 [.vs false 5 v0, .int .i64 v1, .undef, .undef, .undef, .sl 0 0, .sl 1 0, .int .i64 v2]) [.row 0 true 3 v3, .row 0 false 22 v4] 2
theorem Q0q.eq (x0 : List Int) (x1 : Int) : Q0q x0 x1 =
 (QD x0).bind fun y1 =>
 Q0q_l0 x0 x1 0 y1 ([] : List (List Int)) := by kernel_rfl
theorem Q0q_l0.eq (v0 : List Int) (v1 v2 : Int) (v3 : List Int) (v4 : List (List Int)) : Q0q_l0 v0 v1 v2 v3 v4 =
 bif decide (v2 < (v3.length : Int)) then
 (at? v3 v2).bind fun y1 =>
 v3[v2.toNat]?.bind fun y2 =>
 (Q1v v0 y2 v1).bind fun y3 =>
 bif decide ((v4.length + ([y3] : List (List Int)).length) * 24 ≤ 140737488355328) then
 Q0q_l0 v0 v1 (IntKind.i64.wrap (v2 + 1)) v3 (v4 ++ ([y3] : List (List Int)))
 else
 none
 else
 some v4 := (Q7 Q0 (Q1 (Q0q.gok _)) _ _).trans (by kernel_rfl)
abbrev Q0j.s : Sg := ⟨[.lend, .lend], [vl 22, vl 5], ⟨[vi, vi], [none, none]⟩, Tryz.f146⟩
def Q0j.gs (δ : Type) : List (Nat × KC δ) := [(136, QH.k)]
theorem Q0j.gok (δ : Type) : Q4 Tryz.prog tab (Q0j.gs δ) := .cons QH.con .nil
def Q0j.c := cx Q0j.s [] [] [(4, [0, 1, 6, 7, 8])] false (Q0j.gs _)
def Q0j (x0 : List (List Int)) (x1 : List Int) : Option (Int × Int) := fnW Q0j.s Q0j.c (x0, x1)
theorem Q0j.fok : FkS Q0j.s 146 := ⟨Tryz.func146, by kernel_rfl, by kernel_rfl⟩
def Q0j.fn (x : Args tab Q0j.s.ar) : Option (ResT tab Q0j.s.rs) := Q0j x.1 x.2
abbrev Q0j.k {δ : Type} : KC δ := kS Q0j.s Q0j.fn
theorem Q0j.con {δ : Type} : Con Tryz.prog (KT tab) 146 (Q0j.k (δ := δ)) := Q5 (c := Q0j.c) mixed Q0 (Q1 (Q0j.gok _)) Q0j.fok rfl rfl fun _ => rfl
def Q0j_l0 (v0 : List (List Int)) (v1 : List Int) (v2 v3 v4 : Int) : Option (Int × Int) := lpW Q0j.s Q0j.c 0 (ud 23 [.vs false 22 v0, .vs false 5 v1, .undef, .undef, .undef, .undef, .int .i64 v2, .int .i64 v3, .int .i64 v4]) [] 0
theorem Q0j.eq (x0 : List (List Int)) (x1 : List Int) : Q0j x0 x1 =
 Q0j_l0 x0 x1 0 0 0 := by kernel_rfl
theorem Q0j_l0.eq (v0 : List (List Int)) (v1 : List Int) (v2 v3 v4 : Int) : Q0j_l0 v0 v1 v2 v3 v4 =
 bif decide (v4 < (v0.length : Int)) then
 (at? v0 v4).bind fun y1 =>
 (QH y1 v1).bind fun y2 =>
 bif decide (y2 < 0) then
 bif decide (y2 ≤ 0) then
 Q0j_l0 v0 v1 (IntKind.i64.wrap (v2 + 1)) (IntKind.i64.wrap (v3 + 1)) (IntKind.i64.wrap (v4 + 1))
 else
 Q0j_l0 v0 v1 (IntKind.i64.wrap (v2 + 1)) v3 (IntKind.i64.wrap (v4 + 1))
 else
 bif decide (y2 ≤ 0) then
 Q0j_l0 v0 v1 v2 (IntKind.i64.wrap (v3 + 1)) (IntKind.i64.wrap (v4 + 1))
 else
 Q0j_l0 v0 v1 v2 v3 (IntKind.i64.wrap (v4 + 1))
 else
 some (v2, v3) := (Q7 Q0 (Q1 (Q0j.gok _)) _ _).trans (by kernel_rfl)
abbrev Qm.s : Sg := ⟨[.lend, .lend, .lend], [vl 5, vl 5, vi], ⟨[vl 137], [none, none, none]⟩, Tryz.f106⟩
def Qm.gs (δ : Type) : List (Nat × KC δ) := [(42, Q18.k), (136, QH.k), (145, Q0q.k), (146, Q0j.k)]
theorem Qm.gok (δ : Type) : Q4 Tryz.prog tab (Qm.gs δ) := .cons Q18.con (.cons QH.con (.cons Q0q.con (.cons Q0j.con .nil)))
def Qm.c := cx Qm.s [22] [] [(8, [7, 8, 9, 10, 11]), (12, [7, 8, 9, 10, 11, 12, 13]), (20, [7, 8, 10, 15, 16])] false (Qm.gs _)
def Qm (x0 x1 : List Int) (x2 : Int) : Option (List ((List Int) × Int × Int × Int × Int)) := fnW Qm.s Qm.c (x0, x1, x2)
theorem Qm.fok : FkS Qm.s 106 := ⟨Tryz.func106, by kernel_rfl, by kernel_rfl⟩
def Qm.fn (x : Args tab Qm.s.ar) : Option (ResT tab Qm.s.rs) := Qm x.1 x.2.1 x.2.2
abbrev Qm.k {δ : Type} : KC δ := kS Qm.s Qm.fn
theorem Qm.con {δ : Type} : Con Tryz.prog (KT tab) 106 (Qm.k (δ := δ)) := Q5 (c := Qm.c) mixed Q0 (Q1 (Qm.gok _)) Qm.fok rfl rfl fun _ => rfl
def Qm_l0 (v0 : Int) (v1 v2 v3 v4 : List (List Int)) : Option (List ((List Int) × Int × Int × Int × Int)) := lpW Qm.s Qm.c 0 (ud 119 [.undef, .undef, .undef, .undef, .undef, .undef, .undef, .sl 0 0, .sl 1 0, .sl 2 0, .sl 3 0, .int .i64 v0]) [.row 0 false 22 v1, .row 0 false 22 v2, .row 0 false 22 v3, .row 0 false 22 v4] 4
def Qm_l1 (v0 v1 : Int) (v2 : Bool) (v3 v4 v5 v6 : List (List Int)) : Option (List ((List Int) × Int × Int × Int × Int)) := lpW Qm.s Qm.c 1 (ud 117 [.undef, .undef, .undef, .undef, .undef, .undef, .undef, .sl 0 0, .sl 1 0, .sl 2 0, .sl 3 0, .int .i64 v0, .int .i64 v1, .bool v2]) [.row 0 false 22 v3, .row 0 false 22 v4, .row 0 false 22 v5, .row 0 false 22 v6] 4
def Qm_l2 (v0 : Int) (v1 v2 v3 : List (List Int)) (v4 : List ((List Int) × Int × Int × Int × Int)) : Option (List ((List Int) × Int × Int × Int × Int)) := lpW Qm.s Qm.c 2 (ud 114 [.undef, .undef, .undef, .undef, .undef, .undef, .undef, .sl 0 0, .sl 1 0, .undef, .sl 2 0, .undef, .undef, .undef, .undef, .sl 3 0, .int .i64 v0]) [.row 0 false 22 v1, .row 0 false 22 v2, .row 0 false 22 v3, .row 0 true 137 v4] 4
theorem Qm.eq (x0 x1 : List Int) (x2 : Int) : Qm x0 x1 x2 =
 (Q18 x0 x1 x2).bind fun y1 =>
 bif !y1 then
 some ([] : List ((List Int) × Int × Int × Int × Int))
 else
 (Q0q x0 x2).bind fun y2 =>
 (Q0q x1 x2).bind fun y3 =>
 bif decide ((([] : List (List Int)).length + y2.length) * 24 ≤ 140737488355328) then
 bif decide (((([] : List (List Int)) ++ y2).length + y3.length) * 24 ≤ 140737488355328) then
 Qm_l0 0 y2 y3 ((([] : List (List Int)) ++ y2) ++ y3) ([] : List (List Int))
 else
 none
 else
 none := by kernel_rfl
theorem Qm_l0.eq (v0 : Int) (v1 v2 v3 v4 : List (List Int)) : Qm_l0 v0 v1 v2 v3 v4 =
 bif decide (v0 < (v3.length : Int)) then
 Qm_l1 v0 0 false v1 v2 v3 v4
 else
 Qm_l2 0 v1 v2 v4 ([] : List ((List Int) × Int × Int × Int × Int)) := (Q7 Q0 (Q1 (Qm.gok _)) _ _).trans (by kernel_rfl)
theorem Qm_l1.eq (v0 v1 : Int) (v2 : Bool) (v3 v4 v5 v6 : List (List Int)) : Qm_l1 v0 v1 v2 v3 v4 v5 v6 =
 bif decide (v1 < (v6.length : Int)) then
 (at? v6 v1).bind fun y1 =>
 v6[v1.toNat]?.bind fun y2 =>
 (at? v5 v0).bind fun y3 =>
 v5[v0.toNat]?.bind fun y4 =>
 (QH y2 y4).bind fun y5 =>
 bif decide (y5 ≤ 0) then
 bif v2 then
 Qm_l1 v0 (IntKind.i64.wrap (v1 + 1)) true v3 v4 v5 v6
 else
 (at? v6 v1).bind fun y6 =>
 v6[v1.toNat]?.bind fun y7 =>
 (at? v5 v0).bind fun y8 =>
 v5[v0.toNat]?.bind fun y9 =>
 (QH y7 y9).bind fun y10 =>
 Qm_l1 v0 (IntKind.i64.wrap (v1 + 1)) (y10 == 0) v3 v4 v5 v6
 else
 bif !v2 then
 (at? v5 v0).bind fun y11 =>
 v5[v0.toNat]?.bind fun y12 =>
 bif decide (0 ≤ v1 ∧ v1 ≤ ((v6.length : Nat) : Int)) then
 bif decide ((([y12] : List (List Int)).length + ((v6.drop v1.toNat).take (v6.length - v1.toNat)).length) * 24 ≤ 140737488355328) then
 bif decide (0 ≤ v1 ∧ v1 ≤ ((v6.length : Nat) : Int)) then
 bif decide ((([] : List (List Int)).length + ((v6.drop 0).take (v1.toNat - 0)).length) * 24 ≤ 140737488355328) then
 bif decide (((([] : List (List Int)) ++ ((v6.drop 0).take (v1.toNat - 0))).length + (([y12] : List (List Int)) ++ ((v6.drop v1.toNat).take (v6.length - v1.toNat))).length) * 24 ≤ 140737488355328) then
 Qm_l0 (IntKind.i64.wrap (v0 + 1)) v3 v4 v5 ((([] : List (List Int)) ++ ((v6.drop 0).take (v1.toNat - 0))) ++ (([y12] : List (List Int)) ++ ((v6.drop v1.toNat).take (v6.length - v1.toNat))))
 else
 none
 else
 none
 else
 none
 else
 none
 else
 none
 else
 Qm_l0 (IntKind.i64.wrap (v0 + 1)) v3 v4 v5 v6
 else
 bif !v2 then
 (at? v5 v0).bind fun y13 =>
 v5[v0.toNat]?.bind fun y14 =>
 bif decide (0 ≤ v1 ∧ v1 ≤ ((v6.length : Nat) : Int)) then
 bif decide ((([y14] : List (List Int)).length + ((v6.drop v1.toNat).take (v6.length - v1.toNat)).length) * 24 ≤ 140737488355328) then
 bif decide (0 ≤ v1 ∧ v1 ≤ ((v6.length : Nat) : Int)) then
 bif decide ((([] : List (List Int)).length + ((v6.drop 0).take (v1.toNat - 0)).length) * 24 ≤ 140737488355328) then
 bif decide (((([] : List (List Int)) ++ ((v6.drop 0).take (v1.toNat - 0))).length + (([y14] : List (List Int)) ++ ((v6.drop v1.toNat).take (v6.length - v1.toNat))).length) * 24 ≤ 140737488355328) then
 Qm_l0 (IntKind.i64.wrap (v0 + 1)) v3 v4 v5 ((([] : List (List Int)) ++ ((v6.drop 0).take (v1.toNat - 0))) ++ (([y14] : List (List Int)) ++ ((v6.drop v1.toNat).take (v6.length - v1.toNat))))
 else
 none
 else
 none
 else
 none
 else
 none
 else
 none
 else
 Qm_l0 (IntKind.i64.wrap (v0 + 1)) v3 v4 v5 v6 := (Q7 Q0 (Q1 (Qm.gok _)) _ _).trans (by kernel_rfl)
theorem Qm_l2.eq (v0 : Int) (v1 v2 v3 : List (List Int)) (v4 : List ((List Int) × Int × Int × Int × Int)) : Qm_l2 v0 v1 v2 v3 v4 =
 bif decide (v0 < (v3.length : Int)) then
 (at? v3 v0).bind fun y1 =>
 v3[v0.toNat]?.bind fun y2 =>
 bif decide ((([] : List Int).length + y2.length) * 1 ≤ 140737488355328) then
 (at? v3 v0).bind fun y3 =>
 v3[v0.toNat]?.bind fun y4 =>
 (Q0j v1 y4).bind fun y5 =>
 (at? v3 v0).bind fun y6 =>
 v3[v0.toNat]?.bind fun y7 =>
 (Q0j v2 y7).bind fun y8 =>
 bif decide ((v4.length + ([(([] : List Int) ++ y2, y5.1, y5.2, y8.1, y8.2)] : List ((List Int) × Int × Int × Int × Int)).length) * 56 ≤ 140737488355328) then
 Qm_l2 (IntKind.i64.wrap (v0 + 1)) v1 v2 v3 (v4 ++ ([(([] : List Int) ++ y2, y5.1, y5.2, y8.1, y8.2)] : List ((List Int) × Int × Int × Int × Int)))
 else
 none
 else
 none
 else
 some v4 := (Q7 Q0 (Q1 (Qm.gok _)) _ _).trans (by kernel_rfl)
abbrev Q0J.s : Sg := ⟨[.lend], [vl 3], ⟨[vb], [none]⟩, Tryz.f182⟩
def Q0J.gs (δ : Type) : List (Nat × KC δ) := []
theorem Q0J.gok (δ : Type) : Q4 Tryz.prog tab (Q0J.gs δ) := .nil
def Q0J.c := cx Q0J.s [] [] [] false (Q0J.gs _)
def Q0J (x0 : List Int) : Option (Bool) := fnW Q0J.s Q0J.c x0
theorem Q0J.fok : FkS Q0J.s 182 := ⟨Tryz.func182, by kernel_rfl, by kernel_rfl⟩
def Q0J.fn (x : Args tab Q0J.s.ar) : Option (ResT tab Q0J.s.rs) := Q0J x
abbrev Q0J.k {δ : Type} : KC δ := kS Q0J.s Q0J.fn
theorem Q0J.con {δ : Type} : Con Tryz.prog (KT tab) 182 (Q0J.k (δ := δ)) := Q5 (c := Q0J.c) mixed Q0 (Q1 (Q0J.gok _)) Q0J.fok rfl rfl fun _ => rfl
theorem Q0J.eq (x0 : List Int) : Q0J x0 =
 some (decide ((x0.length : Int) ≤ 301)) := by kernel_rfl
def Q2f.ms : List Mode := [.lend, .lend]
def Q2f.as : List VSh := [.one (.b (.b (.b (.b (.sl false false 3))))), .one (.b (.b (.b (.b (.sl false false 3)))))]
def Q2f.rs : RSh := ⟨[.one (.b (.b (.b (.b (.sl false false 24)))))], [none, none]⟩
def Q2f (x0 : List Int) (x1 : List Int) : Option (List (List Int)) := (tableC fS (List.map (fun x => x) x0) (List.map (fun x => x) x1)).map (List.map fun x => x)
def Q2f.fn : Args tab Q2f.as → Option (ResT tab Q2f.rs) := fun x => Q2f x.1 x.2
abbrev Q2f.k {δ : Type} : KC δ := Q26 tab Q2f.ms Q2f.as Q2f.rs Q2f.fn
theorem Q2f.con {δ : Type} : Con Tryz.prog (KT tab) 183 (Q2f.k (δ := δ)) := con_table (l := tab) Tryz.func183 (by kernel_rfl) rfl It.T183.tableOk (e := 24) (e3 := 3) (g := fun x => x) (g' := fun x => x) (h := fun x => x) rfl (fun _ => rfl) (fun ys => Eq.trans rfl (congrArg (fun z => [T.sl false false 3 z]) (List.map_id ys).symm))
abbrev Q1w.s : Sg := ⟨[.lend, .lend], [vl 3, vl 3], ⟨[vi], [none, none]⟩, Tryz.f147⟩
def Q1w.gs (δ : Type) : List (Nat × KC δ) := [(182, Q0J.k), (183, Q2f.k)]
theorem Q1w.gok (δ : Type) : Q4 Tryz.prog tab (Q1w.gs δ) := .cons Q0J.con (.cons Q2f.con .nil)
def Q1w.c := cx Q1w.s [] [] [] false (Q1w.gs _)
def Q1w (x0 x1 : List Int) : Option (Int) := fnW Q1w.s Q1w.c (x0, x1)
theorem Q1w.fok : FkS Q1w.s 147 := ⟨Tryz.func147, by kernel_rfl, by kernel_rfl⟩
def Q1w.fn (x : Args tab Q1w.s.ar) : Option (ResT tab Q1w.s.rs) := Q1w x.1 x.2
abbrev Q1w.k {δ : Type} : KC δ := kS Q1w.s Q1w.fn
theorem Q1w.con {δ : Type} : Con Tryz.prog (KT tab) 147 (Q1w.k (δ := δ)) := Q5 (c := Q1w.c) mixed Q0 (Q1 (Q1w.gok _)) Q1w.fok rfl rfl fun _ => rfl
theorem Q1w.eq (x0 x1 : List Int) : Q1w x0 x1 =
 (Q0J x0).bind fun y1 =>
 bif !y1 then
 some (-1 : Int)
 else
 (Q0J x1).bind fun y2 =>
 bif !y2 then
 some (-1 : Int)
 else
 (Q2f x0 x1).bind fun y3 =>
 (at? y3 0).bind fun y4 =>
 (at? y4 0).bind fun y5 =>
 some y5 := by kernel_rfl
abbrev Ql.s : Sg := ⟨[.lend, .lend], [vl 3, vl 3], ⟨[vo 140], [none, none]⟩, Tryz.f148⟩
def Ql.gs (δ : Type) : List (Nat × KC δ) := [(182, Q0J.k), (183, Q2f.k)]
theorem Ql.gok (δ : Type) : Q4 Tryz.prog tab (Ql.gs δ) := .cons Q0J.con (.cons Q2f.con .nil)
def Ql.c := cx Ql.s [] [3] [(3, [0, 1]), (7, [0, 1, 5, 6, 7, 8]), (10, [0, 1, 5, 6, 7, 8, 9, 10]), (12, [0, 1, 5, 6, 7, 8, 9, 10, 11])] false (Ql.gs _)
def Ql (x0 x1 : List Int) : Option (List (Int × Int)) := fnW Ql.s Ql.c (x0, x1)
theorem Ql.fok : FkS Ql.s 148 := ⟨Tryz.func148, by kernel_rfl, by kernel_rfl⟩
def Ql.fn (x : Args tab Ql.s.ar) : Option (ResT tab Ql.s.rs) := Ql x.1 x.2
abbrev Ql.k {δ : Type} : KC δ := kS Ql.s Ql.fn
theorem Ql.con {δ : Type} : Con Tryz.prog (KT tab) 148 (Ql.k (δ := δ)) := Q5 (c := Ql.c) mixed Q0 (Q1 (Ql.gok _)) Ql.fok rfl rfl fun _ => rfl
def Ql_l0 (v0 v1 : List Int) : Option (List (Int × Int)) := lpW Ql.s Ql.c 0 (ud 84 [.vs false 3 v0, .vs false 3 v1]) [] 0
def Ql_l1 (v0 v1 : List Int) (v2 : List (List Int)) (v3 v4 : Int) (v5 : List (Int × Int)) : Option (List (Int × Int)) := lpW Ql.s Ql.c 1 (ud 77 [.vs false 3 v0, .vs false 3 v1, .undef, .undef, .undef, .vs false 24 v2, .sl 0 0, .int .i64 v3, .int .i64 v4]) [.row 0 true 140 v5] 1
def Ql_l2 (v0 v1 : List Int) (v2 : List (List Int)) (v3 v4 v5 v6 : Int) (v7 : List (Int × Int)) : Option (List (Int × Int)) := lpW Ql.s Ql.c 2 (ud 75 [.vs false 3 v0, .vs false 3 v1, .undef, .undef, .undef, .vs false 24 v2, .sl 0 0, .int .i64 v3, .int .i64 v4, .int .i64 v5, .int .i64 v6]) [.row 0 true 140 v7] 1
def Ql_l3 (v0 v1 : List Int) (v2 : List (List Int)) (v3 v4 v5 v6 v7 : Int) (v8 : List (Int × Int)) : Option (List (Int × Int)) := lpW Ql.s Ql.c 3 (ud 74 [.vs false 3 v0, .vs false 3 v1, .undef, .undef, .undef, .vs false 24 v2, .sl 0 0, .int .i64 v3, .int .i64 v4, .int .i64 v5, .int .i64 v6, .int .i64 v7]) [.row 0 true 140 v8] 1
theorem Ql.eq (x0 x1 : List Int) : Ql x0 x1 =
 (Q0J x0).bind fun y1 =>
 bif !y1 then
 some ([] : List (Int × Int))
 else
 (Q0J x1).bind fun y2 =>
 bif !y2 then
 some ([] : List (Int × Int))
 else
 Ql_l0 x0 x1 := by kernel_rfl
theorem Ql_l0.eq (v0 v1 : List Int) : Ql_l0 v0 v1 =
 (Q2f v0 v1).bind fun y1 =>
 Ql_l1 v0 v1 y1 0 0 ([] : List (Int × Int)) := (Q7 Q0 (Q1 (Ql.gok _)) _ _).trans (by kernel_rfl)
theorem Ql_l1.eq (v0 v1 : List Int) (v2 : List (List Int)) (v3 v4 : Int) (v5 : List (Int × Int)) : Ql_l1 v0 v1 v2 v3 v4 v5 =
 (at? v2 v3).bind fun y1 =>
 (at? y1 v4).bind fun y2 =>
 bif decide (y2 > 0) then
 Ql_l2 v0 v1 v2 v3 v4 v3 (-1 : Int) v5
 else
 some v5 := (Q7 Q0 (Q1 (Ql.gok _)) _ _).trans (by kernel_rfl)
theorem Ql_l2.eq (v0 v1 : List Int) (v2 : List (List Int)) (v3 v4 v5 v6 : Int) (v7 : List (Int × Int)) : Ql_l2 v0 v1 v2 v3 v4 v5 v6 v7 =
 bif decide (v6 < 0) then
 Ql_l3 v0 v1 v2 v3 v4 v5 v6 (IntKind.i64.wrap ((v1.length : Int) - 1)) v7
 else
 bif decide ((v7.length + ([(IntKind.i64.wrap (v5 - 1), v6)] : List (Int × Int)).length) * 16 ≤ 140737488355328) then
 Ql_l1 v0 v1 v2 v5 (IntKind.i64.wrap (v6 + 1)) (v7 ++ ([(IntKind.i64.wrap (v5 - 1), v6)] : List (Int × Int)))
 else
 none := (Q7 Q0 (Q1 (Ql.gok _)) _ _).trans (by kernel_rfl)
theorem Ql_l3.eq (v0 v1 : List Int) (v2 : List (List Int)) (v3 v4 v5 v6 v7 : Int) (v8 : List (Int × Int)) : Ql_l3 v0 v1 v2 v3 v4 v5 v6 v7 v8 =
 bif decide (v7 ≥ v4) then
 (at? v0 v5).bind fun y1 =>
 (at? v1 v7).bind fun y2 =>
 bif y1 == y2 then
 (at? v2 (IntKind.i64.wrap (v5 + 1))).bind fun y3 =>
 (at? y3 (IntKind.i64.wrap (v7 + 1))).bind fun y4 =>
 (at? v2 v3).bind fun y5 =>
 (at? y5 v4).bind fun y6 =>
 bif IntKind.i64.wrap ((1 : Int) + y4) == y6 then
 Ql_l3 v0 v1 v2 v3 v4 v5 v7 (IntKind.i64.wrap (v7 - 1)) v8
 else
 Ql_l3 v0 v1 v2 v3 v4 v5 v6 (IntKind.i64.wrap (v7 - 1)) v8
 else
 Ql_l3 v0 v1 v2 v3 v4 v5 v6 (IntKind.i64.wrap (v7 - 1)) v8
 else
 Ql_l2 v0 v1 v2 v3 v4 (IntKind.i64.wrap (v5 + 1)) v6 v8 := (Q7 Q0 (Q1 (Ql.gok _)) _ _).trans (by kernel_rfl)
abbrev Q1g.s : Sg := ⟨[.lend, .lend, .lend], [vl 3, vl 3, vi], ⟨[vo 140], [none, none, none]⟩, Tryz.f107⟩
def Q1g.gs (δ : Type) : List (Nat × KC δ) := [(147, Q1w.k), (148, Ql.k)]
theorem Q1g.gok (δ : Type) : Q4 Tryz.prog tab (Q1g.gs δ) := .cons Q1w.con (.cons Ql.con .nil)
def Q1g.c := cx Q1g.s [] [] [] false (Q1g.gs _)
def Q1g (x0 x1 : List Int) (x2 : Int) : Option (List (Int × Int)) := fnW Q1g.s Q1g.c (x0, x1, x2)
theorem Q1g.fok : FkS Q1g.s 107 := ⟨Tryz.func107, by kernel_rfl, by kernel_rfl⟩
def Q1g.fn (x : Args tab Q1g.s.ar) : Option (ResT tab Q1g.s.rs) := Q1g x.1 x.2.1 x.2.2
abbrev Q1g.k {δ : Type} : KC δ := kS Q1g.s Q1g.fn
theorem Q1g.con {δ : Type} : Con Tryz.prog (KT tab) 107 (Q1g.k (δ := δ)) := Q5 (c := Q1g.c) mixed Q0 (Q1 (Q1g.gok _)) Q1g.fok rfl rfl fun _ => rfl
theorem Q1g.eq (x0 x1 : List Int) (x2 : Int) : Q1g x0 x1 x2 =
 (Q1w x0 x1).bind fun y1 =>
 bif decide (y1 < 0) then
 some ([] : List (Int × Int))
 else
 bif decide (IntKind.i64.wrap ((IntKind.i64.wrap ((x0.length : Int) + (x1.length : Int))) - (IntKind.i64.wrap ((2 : Int) * y1))) > x2) then
 some ([] : List (Int × Int))
 else
 (Ql x0 x1).bind fun y2 =>
 some y2 := by kernel_rfl
abbrev QU.s : Sg := ⟨[.lend, .lend, .lend, .lend], [vl 5, vl 5, vi, vi], ⟨[vo 140], [none, none, none, none]⟩, Tryz.f45⟩
def QU.gs (δ : Type) : List (Nat × KC δ) := [(88, Qw.k), (106, Qm.k), (107, Q1g.k)]
theorem QU.gok (δ : Type) : Q4 Tryz.prog tab (QU.gs δ) := .cons Qw.con (.cons Qm.con (.cons Q1g.con .nil))
def QU.c := cx QU.s [] [] [(6, [3, 9, 10, 11, 12, 13]), (11, [3, 9, 10, 11, 12, 13, 14, 15, 16])] false (QU.gs _)
def QU (x0 x1 : List Int) (x2 x3 : Int) : Option (List (Int × Int)) := fnW QU.s QU.c (x0, x1, x2, x3)
theorem QU.fok : FkS QU.s 45 := ⟨Tryz.func45, by kernel_rfl, by kernel_rfl⟩
def QU.fn (x : Args tab QU.s.ar) : Option (ResT tab QU.s.rs) := QU x.1 x.2.1 x.2.2.1 x.2.2.2
abbrev QU.k {δ : Type} : KC δ := kS QU.s QU.fn
theorem QU.con {δ : Type} : Con Tryz.prog (KT tab) 45 (QU.k (δ := δ)) := Q5 (c := QU.c) mixed Q0 (Q1 (QU.gok _)) QU.fok rfl rfl fun _ => rfl
def QU_l0 (v0 : Int) (v1 : List ((List Int) × Int × Int × Int × Int)) (v2 : Int) (v3 : List (Int × Int)) (v4 v5 : List Int) : Option (List (Int × Int)) := lpW QU.s QU.c 0 (ud 63 [.undef, .undef, .undef, .int .i64 v0, .undef, .undef, .undef, .undef, .undef, .sl 0 0, .vs false 137 v1, .sl 1 0, .sl 2 0, .int .i64 v2]) [.row 0 true 140 v3, .row 0 true 3 v4, .row 0 true 3 v5] 3
def QU_l1 (v0 : Int) (v1 : List ((List Int) × Int × Int × Int × Int)) (v2 v3 : Int) (v4 : List (Int × Int)) (v5 v6 v7 : List Int) (v8 v9 v10 v11 : Int) (v12 : List (Int × Int)) : Option (List (Int × Int)) := lpW QU.s QU.c 1 (ud 60 [.undef, .undef, .undef, .int .i64 v0, .undef, .undef, .undef, .undef, .undef, .sl 0 0, .vs false 137 v1, .sl 1 0, .sl 2 0, .int .i64 v2, .ptr 3 0, .sl 4 0, .int .i64 v3]) [.row 0 true 140 v4, .row 0 true 3 v5, .row 0 true 3 v6, .box 137 [.vs false 5 v7, .int .i64 v8, .int .i64 v9, .int .i64 v10, .int .i64 v11], .row 0 true 140 v12] 5
theorem QU.eq (x0 x1 : List Int) (x2 x3 : Int) : QU x0 x1 x2 x3 =
 (Qm x0 x1 x2).bind fun y1 =>
 (Qw x0).bind fun y2 =>
 (Qw x1).bind fun y3 =>
 QU_l0 x3 y1 0 ([] : List (Int × Int)) y2 y3 := by kernel_rfl
theorem QU_l0.eq (v0 : Int) (v1 : List ((List Int) × Int × Int × Int × Int)) (v2 : Int) (v3 : List (Int × Int)) (v4 v5 : List Int) : QU_l0 v0 v1 v2 v3 v4 v5 =
 bif decide (v2 < (v1.length : Int)) then
 (at? v1 v2).bind fun y1 =>
 bif decide (0 ≤ y1.2.2.1 ∧ y1.2.2.1 ≤ ((v4.length : Nat) : Int)) then
 bif decide (0 ≤ y1.2.1 ∧ y1.2.1 ≤ ((y1.2.2.1.toNat : Nat) : Int)) then
 bif decide (0 ≤ y1.2.2.2.2 ∧ y1.2.2.2.2 ≤ ((v5.length : Nat) : Int)) then
 bif decide (0 ≤ y1.2.2.2.1 ∧ y1.2.2.2.1 ≤ ((y1.2.2.2.2.toNat : Nat) : Int)) then
 (Q1g ((v4.drop y1.2.1.toNat).take (y1.2.2.1.toNat - y1.2.1.toNat)) ((v5.drop y1.2.2.2.1.toNat).take (y1.2.2.2.2.toNat - y1.2.2.2.1.toNat)) v0).bind fun y2 =>
 QU_l1 v0 v1 v2 0 v3 v4 v5 y1.1 y1.2.1 y1.2.2.1 y1.2.2.2.1 y1.2.2.2.2 y2
 else
 none
 else
 none
 else
 none
 else
 none
 else
 some v3 := (Q7 Q0 (Q1 (QU.gok _)) _ _).trans (by kernel_rfl)
theorem QU_l1.eq (v0 : Int) (v1 : List ((List Int) × Int × Int × Int × Int)) (v2 v3 : Int) (v4 : List (Int × Int)) (v5 v6 v7 : List Int) (v8 v9 v10 v11 : Int) (v12 : List (Int × Int)) : QU_l1 v0 v1 v2 v3 v4 v5 v6 v7 v8 v9 v10 v11 v12 =
 bif decide (v3 < (v12.length : Int)) then
 (at? v12 v3).bind fun y1 =>
 v12[v3.toNat]?.bind fun y2 =>
 (at? v12 v3).bind fun y3 =>
 v12[v3.toNat]?.bind fun y4 =>
 bif decide ((v4.length + ([(IntKind.i64.wrap (y2.1 + v8), IntKind.i64.wrap (y4.2 + v10))] : List (Int × Int)).length) * 16 ≤ 140737488355328) then
 QU_l1 v0 v1 v2 (IntKind.i64.wrap (v3 + 1)) (v4 ++ ([(IntKind.i64.wrap (y2.1 + v8), IntKind.i64.wrap (y4.2 + v10))] : List (Int × Int))) v5 v6 v7 v8 v9 v10 v11 v12
 else
 none
 else
 QU_l0 v0 v1 (IntKind.i64.wrap (v2 + 1)) v4 v5 v6 := (Q7 Q0 (Q1 (QU.gok _)) _ _).trans (by kernel_rfl)
abbrev QV.s : Sg := ⟨[.lend, .lend, .lend], [vi, vl 3, vl 140], ⟨[.agg [.int .i64, .sl true true 90, .int .i64, .sl true true 90, .sl true true 3]], [none, none, none]⟩, Tryz.f103⟩
def QV.gs (δ : Type) : List (Nat × KC δ) := [(92, Qo.k)]
theorem QV.gok (δ : Type) : Q4 Tryz.prog tab (QV.gs δ) := .cons Qo.con .nil
def QV.c := cx QV.s [] [] [(4, [1, 2, 6, 7, 8, 9]), (12, [1, 6, 8, 10, 11])] false (QV.gs _)
def QV (x0 : Int) (x1 : List Int) (x2 : List (Int × Int)) : Option (Int × (List Int) × Int × (List Int) × (List Int)) := fnW QV.s QV.c (x0, x1, x2)
theorem QV.fok : FkS QV.s 103 := ⟨Tryz.func103, by kernel_rfl, by kernel_rfl⟩
def QV.fn (x : Args tab QV.s.ar) : Option (ResT tab QV.s.rs) := QV x.1 x.2.1 x.2.2
abbrev QV.k {δ : Type} : KC δ := kS QV.s QV.fn
theorem QV.con {δ : Type} : Con Tryz.prog (KT tab) 103 (QV.k (δ := δ)) := Q5 (c := QV.c) mixed Q0 (Q1 (QV.gok _)) QV.fok rfl rfl fun _ => rfl
def QV_l0 (v0 : List Int) (v1 : List (Int × Int)) (v2 v3 v4 : Int) (v5 v6 v7 v8 v9 : List Int) : Option (Int × (List Int) × Int × (List Int) × (List Int)) := lpW QV.s QV.c 0 (ud 61 [.undef, .vs false 3 v0, .vs false 140 v1, .undef, .undef, .undef, .ptr 0 0, .sl 4 0, .sl 5 0, .int .i64 v2]) [.box 130 [.int .i64 v3, .sl 1 0, .int .i64 v4, .sl 2 0, .sl 3 0], .row 0 true 90 v5, .row 0 true 90 v6, .row 0 true 3 v7, .row 0 true 3 v8, .row 0 true 3 v9] 6
def QV_l1 (v0 : List Int) (v1 v2 v3 : Int) (v4 v5 v6 v7 : List Int) (v8 v9 : Int) (v10 v11 v12 : List Int) : Option (Int × (List Int) × Int × (List Int) × (List Int)) := lpW QV.s QV.c 1 (ud 59 [.undef, .vs false 3 v0, .undef, .undef, .undef, .undef, .ptr 0 0, .undef, .sl 4 0, .undef, .ptr 5 0, .int .i64 v1]) [.box 130 [.int .i64 v2, .sl 1 0, .int .i64 v3, .sl 2 0, .sl 3 0], .row 0 true 90 v4, .row 0 true 90 v5, .row 0 true 3 v6, .row 0 true 3 v7, .box 130 [.int .i64 v8, .sl 6 0, .int .i64 v9, .sl 7 0, .sl 8 0], .row 0 true 90 v10, .row 0 true 90 v11, .row 0 true 3 v12] 9
theorem QV.eq (x0 : Int) (x1 : List Int) (x2 : List (Int × Int)) : QV x0 x1 x2 =
 bif decide ((0 : Int) ≤ x0) && decide (x0.toNat * 8 ≤ 140737488355328) then
 bif decide ((0 : Int) ≤ (x1.length : Int)) && decide (((x1.length : Int).toNat) * 8 ≤ 140737488355328) then
 QV_l0 x1 x2 (0 : Int) (0 : Int) (0 : Int) ([] : List Int) ([] : List Int) ([] : List Int) (List.replicate x0.toNat (0 : Int)) (List.replicate ((x1.length : Int).toNat) (0 : Int))
 else
 none
 else
 none := by kernel_rfl
theorem QV_l0.eq (v0 : List Int) (v1 : List (Int × Int)) (v2 v3 v4 : Int) (v5 v6 v7 v8 v9 : List Int) : QV_l0 v0 v1 v2 v3 v4 v5 v6 v7 v8 v9 =
 bif decide (v2 < (v1.length : Int)) then
 (at? v1 v2).bind fun y1 =>
 (at? v8 y1.1).bind fun y2 =>
 v8[y1.1.toNat]?.bind fun y3 =>
 (at? v1 v2).bind fun y4 =>
 (at? v9 y4.2).bind fun y5 =>
 v9[y4.2.toNat]?.bind fun y6 =>
 QV_l0 v0 v1 (IntKind.i64.wrap (v2 + 1)) v3 v4 v5 v6 v7 (v8.set y1.1.toNat 1) (v9.set y4.2.toNat 1)
 else
 (Qo v8).bind fun y7 =>
 (Qo v9).bind fun y8 =>
 QV_l1 v0 0 v3 v4 v5 v6 v7 v9 y7.1.1 y8.1.1 y7.1.2 y8.1.2 ([] : List Int) := (Q7 Q0 (Q1 (QV.gok _)) _ _).trans (by kernel_rfl)
theorem QV_l1.eq (v0 : List Int) (v1 v2 v3 : Int) (v4 v5 v6 v7 : List Int) (v8 v9 : Int) (v10 v11 v12 : List Int) : QV_l1 v0 v1 v2 v3 v4 v5 v6 v7 v8 v9 v10 v11 v12 =
 bif decide (v1 < (v0.length : Int)) then
 (at? v7 v1).bind fun y1 =>
 v7[v1.toNat]?.bind fun y2 =>
 bif y2 == 0 then
 (at? v0 v1).bind fun y3 =>
 bif decide ((v12.length + ([y3] : List Int).length) * 8 ≤ 140737488355328) then
 QV_l1 v0 (IntKind.i64.wrap (v1 + 1)) v2 v3 v4 v5 v6 v7 v8 v9 v10 v11 (v12 ++ ([y3] : List Int))
 else
 none
 else
 QV_l1 v0 (IntKind.i64.wrap (v1 + 1)) v2 v3 v4 v5 v6 v7 v8 v9 v10 v11 v12
 else
 some (v8, v10, v9, v11, v12) := (Q7 Q0 (Q1 (QV.gok _)) _ _).trans (by kernel_rfl)
abbrev Q0k.s : Sg := ⟨[.lend, .lend], [vl 3, vl 3], ⟨[vo 3], [none, none]⟩, Tryz.f104⟩
def Q0k.gs (δ : Type) : List (Nat × KC δ) := []
theorem Q0k.gok (δ : Type) : Q4 Tryz.prog tab (Q0k.gs δ) := .nil
def Q0k.c := cx Q0k.s [] [] [(3, [0, 1, 5, 6])] false (Q0k.gs _)
def Q0k (x0 x1 : List Int) : Option (List Int) := fnW Q0k.s Q0k.c (x0, x1)
theorem Q0k.fok : FkS Q0k.s 104 := ⟨Tryz.func104, by kernel_rfl, by kernel_rfl⟩
def Q0k.fn (x : Args tab Q0k.s.ar) : Option (ResT tab Q0k.s.rs) := Q0k x.1 x.2
abbrev Q0k.k {δ : Type} : KC δ := kS Q0k.s Q0k.fn
theorem Q0k.con {δ : Type} : Con Tryz.prog (KT tab) 104 (Q0k.k (δ := δ)) := Q5 (c := Q0k.c) mixed Q0 (Q1 (Q0k.gok _)) Q0k.fok rfl rfl fun _ => rfl
def Q0k_l0 (v0 v1 : List Int) (v2 : Int) (v3 : List Int) : Option (List Int) := lpW Q0k.s Q0k.c 0 (ud 20 [.vs false 3 v0, .vs false 3 v1, .undef, .undef, .undef, .sl 0 0, .int .i64 v2]) [.row 0 true 3 v3] 1
theorem Q0k.eq (x0 x1 : List Int) : Q0k x0 x1 =
 Q0k_l0 x0 x1 0 ([] : List Int) := by kernel_rfl
theorem Q0k_l0.eq (v0 v1 : List Int) (v2 : Int) (v3 : List Int) : Q0k_l0 v0 v1 v2 v3 =
 bif decide (v2 < (v0.length : Int)) then
 (at? v1 v2).bind fun y1 =>
 bif y1 == 0 then
 (at? v0 v2).bind fun y2 =>
 bif decide ((v3.length + ([y2] : List Int).length) * 8 ≤ 140737488355328) then
 Q0k_l0 v0 v1 (IntKind.i64.wrap (v2 + 1)) (v3 ++ ([y2] : List Int))
 else
 none
 else
 Q0k_l0 v0 v1 (IntKind.i64.wrap (v2 + 1)) v3
 else
 some v3 := (Q7 Q0 (Q1 (Q0k.gok _)) _ _).trans (by kernel_rfl)
abbrev Q13.s : Sg := ⟨[.lend, .lend, .lend, .lend], [vl 5, vl 5, vl 140, vi], ⟨[ag8], [none, none, none, none]⟩, Tryz.f44⟩
def Q13.gs (δ : Type) : List (Nat × KC δ) := [(34, Qk.k), (88, Qw.k), (90, Qj.k), (103, QV.k), (104, Q0k.k), (105, Qq.k)]
theorem Q13.gok (δ : Type) : Q4 Tryz.prog tab (Q13.gs δ) := .cons Qk.con (.cons Qw.con (.cons Qj.con (.cons QV.con (.cons Q0k.con (.cons Qq.con .nil)))))
def Q13.c := cx Q13.s [] [] [] false (Q13.gs _)
def Q13 (x0 x1 : List Int) (x2 : List (Int × Int)) (x3 : Int) : Option (RelA) := fnW Q13.s Q13.c (x0, x1, x2, x3)
theorem Q13.fok : FkS Q13.s 44 := ⟨Tryz.func44, by kernel_rfl, by kernel_rfl⟩
def Q13.fn (x : Args tab Q13.s.ar) : Option (ResT tab Q13.s.rs) := Q13 x.1 x.2.1 x.2.2.1 x.2.2.2
abbrev Q13.k {δ : Type} : KC δ := kS Q13.s Q13.fn
theorem Q13.con {δ : Type} : Con Tryz.prog (KT tab) 44 (Q13.k (δ := δ)) := Q5 (c := Q13.c) mixed Q0 (Q1 (Q13.gok _)) Q13.fok rfl rfl fun _ => rfl
theorem Q13.eq (x0 x1 : List Int) (x2 : List (Int × Int)) (x3 : Int) : Q13 x0 x1 x2 x3 =
 (Qk x1 x3).bind fun y1 =>
 (Qw x1).bind fun y2 =>
 (QV (IntKind.i64.wrap ((x0.length : Int) + 1)) y2 x2).bind fun y3 =>
 (Qw x0).bind fun y4 =>
 (Qq (y3.1, y3.2.1)).bind fun y5 =>
 (Q0k y4 y5).bind fun y6 =>
 (Qj y6).bind fun y7 =>
 (Qj y3.2.2.2.2).bind fun y8 =>
 some (y1.1.1, x3, y3.1, y3.2.1, y3.2.2.1, y3.2.2.2.1, y7.1.1, y7.1.2.1, y7.1.2.2, y8.1.1, y8.1.2.1, y8.1.2.2, y1.1.2.2.2.2.2.1, y1.1.2.2.2.2.2.2.1, y1.1.2.2.2.2.2.2.2.1, y1.1.2.2.2.2.2.2.2.2.1, y1.1.2.2.2.2.2.2.2.2.2.1, y1.1.2.2.2.2.2.2.2.2.2.2.1, y1.1.2.2.2.2.2.2.2.2.2.2.2.1, y1.1.2.2.2.2.2.2.2.2.2.2.2.2.1, y1.1.2.2.2.2.2.2.2.2.2.2.2.2.2.1, y1.1.2.2.2.2.2.2.2.2.2.2.2.2.2.2.1, y1.1.2.2.2.2.2.2.2.2.2.2.2.2.2.2.2) := by kernel_rfl
abbrev Q0K.s : Sg := ⟨[.lend, .lend, .lend, .lend, .lend], [ag7, vl 5, vi, vi, vi], ⟨[ag8, vb], [none, none, none, none, none]⟩, Tryz.f8⟩
def Q0K.gs (δ : Type) : List (Nat × KC δ) := [(41, QT.k), (42, Q18.k), (43, Q0I.k), (44, Q13.k), (45, QU.k)]
theorem Q0K.gok (δ : Type) : Q4 Tryz.prog tab (Q0K.gs δ) := .cons QT.con (.cons Q18.con (.cons Q0I.con (.cons Q13.con (.cons QU.con .nil))))
def Q0K.c := cx Q0K.s [] [] [] false (Q0K.gs _)
def Q0K (x0 : FmA) (x1 : List Int) (x2 x3 x4 : Int) : Option ((RelA) × Bool) := fnW Q0K.s Q0K.c (x0, x1, x2, x3, x4)
theorem Q0K.fok : FkS Q0K.s 8 := ⟨Tryz.func8, by kernel_rfl, by kernel_rfl⟩
def Q0K.fn (x : Args tab Q0K.s.ar) : Option (ResT tab Q0K.s.rs) := Q0K x.1 x.2.1 x.2.2.1 x.2.2.2.1 x.2.2.2.2
abbrev Q0K.k {δ : Type} : KC δ := kS Q0K.s Q0K.fn
theorem Q0K.con {δ : Type} : Con Tryz.prog (KT tab) 8 (Q0K.k (δ := δ)) := Q5 (c := Q0K.c) mixed Q0 (Q1 (Q0K.gok _)) Q0K.fok rfl rfl fun _ => rfl
theorem Q0K.eq (x0 : FmA) (x1 : List Int) (x2 x3 x4 : Int) : Q0K x0 x1 x2 x3 x4 =
 (QT x0).bind fun y1 =>
 bif !y1.2 then
 some ((0, 0, 0, ([] : List Int), 0, ([] : List Int), 0, ([] : List Int), ([] : List (Int × (List Int))), 0, ([] : List Int), ([] : List (Int × (List Int))), ([] : List Int), 0, ([] : List Int), 0, 0, 0, ([] : List Int), 0, 0, 0, ([] : List Int)), false)
 else
 (Q18 y1.1 x1 x2).bind fun y2 =>
 bif !y2 then
 some ((0, 0, 0, ([] : List Int), 0, ([] : List Int), 0, ([] : List Int), ([] : List (Int × (List Int))), 0, ([] : List Int), ([] : List (Int × (List Int))), ([] : List Int), 0, ([] : List Int), 0, 0, 0, ([] : List Int), 0, 0, 0, ([] : List Int)), false)
 else
 (Q0I x4).bind fun y3 =>
 bif !y3 then
 some ((0, 0, 0, ([] : List Int), 0, ([] : List Int), 0, ([] : List Int), ([] : List (Int × (List Int))), 0, ([] : List Int), ([] : List (Int × (List Int))), ([] : List Int), 0, ([] : List Int), 0, 0, 0, ([] : List Int), 0, 0, 0, ([] : List Int)), false)
 else
 (QU y1.1 x1 x2 x3).bind fun y4 =>
 (Q13 y1.1 x1 y4 x4).bind fun y5 =>
 some (y5, true) := by kernel_rfl
abbrev QB.s : Sg := ⟨[.lend, .lend, .lend], [vi, vi, vi], ⟨[vb], [none, none, none]⟩, Tryz.f58⟩
def QB.gs (δ : Type) : List (Nat × KC δ) := []
theorem QB.gok (δ : Type) : Q4 Tryz.prog tab (QB.gs δ) := .nil
def QB.c := cx QB.s [] [] [] false (QB.gs _)
def QB (x0 x1 x2 : Int) : Option (Bool) := fnW QB.s QB.c (x0, x1, x2)
theorem QB.fok : FkS QB.s 58 := ⟨Tryz.func58, by kernel_rfl, by kernel_rfl⟩
def QB.fn (x : Args tab QB.s.ar) : Option (ResT tab QB.s.rs) := QB x.1 x.2.1 x.2.2
abbrev QB.k {δ : Type} : KC δ := kS QB.s QB.fn
theorem QB.con {δ : Type} : Con Tryz.prog (KT tab) 58 (QB.k (δ := δ)) := Q5 (c := QB.c) mixed Q0 (Q1 (QB.gok _)) QB.fok rfl rfl fun _ => rfl
theorem QB.eq (x0 x1 x2 : Int) : QB x0 x1 x2 =
 bif decide (x1 ≤ x0) then
 some (decide (x0 ≤ x2))
 else
 some false := by kernel_rfl
abbrev Q0F.s : Sg := ⟨[.lend], [ag4], ⟨[vb], [none]⟩, Tryz.f150⟩
def Q0F.gs (δ : Type) : List (Nat × KC δ) := [(58, QB.k)]
theorem Q0F.gok (δ : Type) : Q4 Tryz.prog tab (Q0F.gs δ) := .cons QB.con .nil
def Q0F.c := cx Q0F.s [] [] [] false (Q0F.gs _)
def Q0F (x0 : Int × (List Int)) : Option (Bool) := fnW Q0F.s Q0F.c x0
theorem Q0F.fok : FkS Q0F.s 150 := ⟨Tryz.func150, by kernel_rfl, by kernel_rfl⟩
def Q0F.fn (x : Args tab Q0F.s.ar) : Option (ResT tab Q0F.s.rs) := Q0F x
abbrev Q0F.k {δ : Type} : KC δ := kS Q0F.s Q0F.fn
theorem Q0F.con {δ : Type} : Con Tryz.prog (KT tab) 150 (Q0F.k (δ := δ)) := Q5 (c := Q0F.c) mixed Q0 (Q1 (Q0F.gok _)) Q0F.fok rfl rfl fun _ => rfl
theorem Q0F.eq (x0 : Int × (List Int)) : Q0F x0 =
 (QB x0.1 0 5000).bind fun y1 =>
 bif !y1 then
 some false
 else
 bif (x0.2.length : Int) != IntKind.i64.wrap ((IntKind.i64.wrap ((IntKind.i64.wrap (x0.1 + 64)) - 1)).tdiv 64) then
 some false
 else
 bif x0.1.tmod (64 : Int) == 0 then
 some true
 else
 (at? x0.2 (IntKind.i64.wrap ((x0.2.length : Int) - 1))).bind fun y2 =>
 bif decide (x0.1.tmod (64 : Int) < 0) then
 none
 else
 some (y2.fdiv (2 ^ (min (x0.1.tmod 64).toNat 64)) == 0) := by kernel_rfl
abbrev Q19.s : Sg := ⟨[.lend, .lend], [ag4, vi], ⟨[vi], [none, none]⟩, Tryz.f118⟩
def Q19.gs (δ : Type) : List (Nat × KC δ) := []
theorem Q19.gok (δ : Type) : Q4 Tryz.prog tab (Q19.gs δ) := .nil
def Q19.c := cx Q19.s [] [] [] false (Q19.gs _)
def Q19 (x0 : Int × (List Int)) (x1 : Int) : Option (Int) := fnW Q19.s Q19.c (x0, x1)
theorem Q19.fok : FkS Q19.s 118 := ⟨Tryz.func118, by kernel_rfl, by kernel_rfl⟩
def Q19.fn (x : Args tab Q19.s.ar) : Option (ResT tab Q19.s.rs) := Q19 x.1 x.2
abbrev Q19.k {δ : Type} : KC δ := kS Q19.s Q19.fn
theorem Q19.con {δ : Type} : Con Tryz.prog (KT tab) 118 (Q19.k (δ := δ)) := Q5 (c := Q19.c) mixed Q0 (Q1 (Q19.gok _)) Q19.fok rfl rfl fun _ => rfl
theorem Q19.eq (x0 : Int × (List Int)) (x1 : Int) : Q19 x0 x1 =
 (at? x0.2 (IntKind.i64.wrap (x1.tdiv 64))).bind fun y1 =>
 bif decide (x1.tmod (64 : Int) < 0) then
 none
 else
 some (IntKind.i64.wrap (IntKind.u64.wrap (((BitVec.ofInt 64 (y1.fdiv (2 ^ (min (x1.tmod 64).toNat 64)))) &&& (BitVec.ofInt 64 1)).toNat : Int))) := by kernel_rfl
abbrev QW.s : Sg := ⟨[.lend], [ag4], ⟨[vo 3], [none]⟩, Tryz.f53⟩
def QW.gs (δ : Type) : List (Nat × KC δ) := [(118, Q19.k)]
theorem QW.gok (δ : Type) : Q4 Tryz.prog tab (QW.gs δ) := .cons Q19.con .nil
def QW.c := cx QW.s [] [] [(3, [1, 3, 6, 7])] false (QW.gs _)
def QW (x0 : Int × (List Int)) : Option (List Int) := fnW QW.s QW.c x0
theorem QW.fok : FkS QW.s 53 := ⟨Tryz.func53, by kernel_rfl, by kernel_rfl⟩
def QW.fn (x : Args tab QW.s.ar) : Option (ResT tab QW.s.rs) := QW x
abbrev QW.k {δ : Type} : KC δ := kS QW.s QW.fn
theorem QW.con {δ : Type} : Con Tryz.prog (KT tab) 53 (QW.k (δ := δ)) := Q5 (c := QW.c) mixed Q0 (Q1 (QW.gok _)) QW.fok rfl rfl fun _ => rfl
def QW_l0 (v0 v1 v2 : Int) (v3 v4 : List Int) : Option (List Int) := lpW QW.s QW.c 0 (ud 10 [.undef, .ptr 0 0, .undef, .sl 1 0, .undef, .undef, .int .i64 v0, .int .i64 v1]) [.box 30 [.int .i64 v2, .vs false 90 v3], .row 0 true 3 v4] 2
theorem QW.eq (x0 : Int × (List Int)) : QW x0 =
 QW_l0 x0.1 0 x0.1 x0.2 ([] : List Int) := by kernel_rfl
theorem QW_l0.eq (v0 v1 v2 : Int) (v3 v4 : List Int) : QW_l0 v0 v1 v2 v3 v4 =
 bif decide (v1 < v0) then
 (Q19 (v2, v3) v1).bind fun y1 =>
 bif decide ((v4.length + ([y1] : List Int).length) * 8 ≤ 140737488355328) then
 QW_l0 v0 (IntKind.i64.wrap (v1 + 1)) v2 v3 (v4 ++ ([y1] : List Int))
 else
 none
 else
 some v4 := (Q7 Q0 (Q1 (QW.gok _)) _ _).trans (by kernel_rfl)
abbrev Q1x.s : Sg := ⟨[.lend], [ag4], ⟨[vo 3], [none]⟩, Tryz.f149⟩
def Q1x.gs (δ : Type) : List (Nat × KC δ) := [(53, QW.k), (150, Q0F.k)]
theorem Q1x.gok (δ : Type) : Q4 Tryz.prog tab (Q1x.gs δ) := .cons QW.con (.cons Q0F.con .nil)
def Q1x.c := cx Q1x.s [] [] [] false (Q1x.gs _)
def Q1x (x0 : Int × (List Int)) : Option (List Int) := fnW Q1x.s Q1x.c x0
theorem Q1x.fok : FkS Q1x.s 149 := ⟨Tryz.func149, by kernel_rfl, by kernel_rfl⟩
def Q1x.fn (x : Args tab Q1x.s.ar) : Option (ResT tab Q1x.s.rs) := Q1x x
abbrev Q1x.k {δ : Type} : KC δ := kS Q1x.s Q1x.fn
theorem Q1x.con {δ : Type} : Con Tryz.prog (KT tab) 149 (Q1x.k (δ := δ)) := Q5 (c := Q1x.c) mixed Q0 (Q1 (Q1x.gok _)) Q1x.fok rfl rfl fun _ => rfl
theorem Q1x.eq (x0 : Int × (List Int)) : Q1x x0 =
 (Q0F x0).bind fun y1 =>
 bif !y1 then
 some ([] : List Int)
 else
 (QW x0).bind fun y2 =>
 some y2 := by kernel_rfl
abbrev Qz.s : Sg := ⟨[.lend, .lend], [vl 3, vi], ⟨[vi], [none, none]⟩, Tryz.f52⟩
def Qz.gs (δ : Type) : List (Nat × KC δ) := []
theorem Qz.gok (δ : Type) : Q4 Tryz.prog tab (Qz.gs δ) := .nil
def Qz.c := cx Qz.s [] [] [(3, [1, 5, 8, 9, 10])] false (Qz.gs _)
def Qz (x0 : List Int) (x1 : Int) : Option (Int) := fnW Qz.s Qz.c (x0, x1)
theorem Qz.fok : FkS Qz.s 52 := ⟨Tryz.func52, by kernel_rfl, by kernel_rfl⟩
def Qz.fn (x : Args tab Qz.s.ar) : Option (ResT tab Qz.s.rs) := Qz x.1 x.2
abbrev Qz.k {δ : Type} : KC δ := kS Qz.s Qz.fn
theorem Qz.con {δ : Type} : Con Tryz.prog (KT tab) 52 (Qz.k (δ := δ)) := Q5 (c := Qz.c) mixed Q0 (Q1 (Qz.gok _)) Qz.fok rfl rfl fun _ => rfl
def Qz_l0 (v0 v1 : Int) (v2 : List Int) (v3 v4 : Int) : Option (Int) := lpW Qz.s Qz.c 0 (ud 10 [.undef, .int .i64 v0, .undef, .undef, .undef, .int .i64 v1, .undef, .undef, .vs false 3 v2, .int .i64 v3, .int .i64 v4]) [] 0
theorem Qz.eq (x0 : List Int) (x1 : Int) : Qz x0 x1 =
 Qz_l0 x1 0 x0 (x0.length : Int) 0 := by kernel_rfl
theorem Qz_l0.eq (v0 v1 : Int) (v2 : List Int) (v3 v4 : Int) : Qz_l0 v0 v1 v2 v3 v4 =
 bif decide (v4 < v3) then
 (at? v2 v4).bind fun y1 =>
 bif y1 == v0 then
 Qz_l0 v0 (IntKind.i64.wrap (v1 + 1)) v2 v3 (IntKind.i64.wrap (v4 + 1))
 else
 Qz_l0 v0 v1 v2 v3 (IntKind.i64.wrap (v4 + 1))
 else
 some v1 := (Q7 Q0 (Q1 (Qz.gok _)) _ _).trans (by kernel_rfl)
abbrev Qd.s : Sg := ⟨[.lend], [ag5], ⟨[vo 3, vb], [none]⟩, Tryz.f108⟩
def Qd.gs (δ : Type) : List (Nat × KC δ) := [(52, Qz.k), (58, QB.k), (149, Q1x.k), (150, Q0F.k)]
theorem Qd.gok (δ : Type) : Q4 Tryz.prog tab (Qd.gs δ) := .cons Qz.con (.cons QB.con (.cons Q1x.con (.cons Q0F.con .nil)))
def Qd.c := cx Qd.s [] [3, 15] [(3, [1]), (5, [1, 4, 5, 40, 41]), (10, [1, 4, 5, 50, 51, 52]), (15, [1, 4, 5, 7, 9, 50, 51, 52]), (17, [1, 4, 5, 9, 10, 11, 12, 50, 51, 52, 87, 88, 89]), (24, [1, 4, 5, 9, 10, 50, 51, 52, 109, 110, 111])] false (Qd.gs _)
def Qd (x0 : Int × (List Int) × (List (Int × (List Int)))) : Option ((List Int) × Bool) := fnW Qd.s Qd.c x0
theorem Qd.fok : FkS Qd.s 108 := ⟨Tryz.func108, by kernel_rfl, by kernel_rfl⟩
def Qd.fn (x : Args tab Qd.s.ar) : Option (ResT tab Qd.s.rs) := Qd x
abbrev Qd.k {δ : Type} : KC δ := kS Qd.s Qd.fn
theorem Qd.con {δ : Type} : Con Tryz.prog (KT tab) 108 (Qd.k (δ := δ)) := Q5 (c := Qd.c) mixed Q0 (Q1 (Qd.gok _)) Qd.fok rfl rfl fun _ => rfl
def Qd_l0 (v0 : Int) (v1 : List Int) (v2 : List (Int × (List Int))) : Option ((List Int) × Bool) := lpW Qd.s Qd.c 0 (ud 137 [.undef, .ptr 0 0]) [.box 27 [.int .i64 v0, .vs false 3 v1, .vs false 30 v2]] 1
def Qd_l1 (v0 v1 v2 : Int) (v3 : List Int) (v4 : List (Int × (List Int))) (v5 v6 : List Int) : Option ((List Int) × Bool) := lpW Qd.s Qd.c 1 (ud 97 [.undef, .ptr 0 0, .undef, .undef, .sl 1 0, .sl 2 0, .undef, .undef, .undef, .undef, .undef, .undef, .undef, .undef, .undef, .undef, .undef, .undef, .undef, .undef, .undef, .undef, .undef, .undef, .undef, .undef, .undef, .undef, .undef, .undef, .undef, .undef, .undef, .undef, .undef, .undef, .undef, .undef, .undef, .undef, .int .i64 v0, .int .i64 v1]) [.box 27 [.int .i64 v2, .vs false 3 v3, .vs false 30 v4], .row 0 true 3 v5, .row 0 true 3 v6] 3
def Qd_l2 (v0 : List (Int × (List Int))) (v1 v2 v3 : Int) (v4 : List Int) (v5 : List (Int × (List Int))) (v6 v7 : List Int) : Option ((List Int) × Bool) := lpW Qd.s Qd.c 2 (ud 86 [.undef, .ptr 0 0, .undef, .undef, .sl 1 0, .sl 2 0, .undef, .undef, .undef, .undef, .undef, .undef, .undef, .undef, .undef, .undef, .undef, .undef, .undef, .undef, .undef, .undef, .undef, .undef, .undef, .undef, .undef, .undef, .undef, .undef, .undef, .undef, .undef, .undef, .undef, .undef, .undef, .undef, .undef, .undef, .undef, .undef, .undef, .undef, .undef, .undef, .undef, .undef, .undef, .undef, .vs false 30 v0, .int .i64 v1, .int .i64 v2]) [.box 27 [.int .i64 v3, .vs false 3 v4, .vs false 30 v5], .row 0 true 3 v6, .row 0 true 3 v7] 3
def Qd_l3 (v0 : Int) (v1 : List (Int × (List Int))) (v2 v3 v4 : Int) (v5 : List Int) (v6 : List (Int × (List Int))) (v7 v8 v9 : List Int) : Option ((List Int) × Bool) := lpW Qd.s Qd.c 3 (ud 86 [.undef, .ptr 0 0, .undef, .undef, .sl 1 0, .sl 2 0, .undef, .int .i64 v0, .undef, .sl 3 0, .undef, .undef, .undef, .undef, .undef, .undef, .undef, .undef, .undef, .undef, .undef, .undef, .undef, .undef, .undef, .undef, .undef, .undef, .undef, .undef, .undef, .undef, .undef, .undef, .undef, .undef, .undef, .undef, .undef, .undef, .undef, .undef, .undef, .undef, .undef, .undef, .undef, .undef, .undef, .undef, .vs false 30 v1, .int .i64 v2, .int .i64 v3]) [.box 27 [.int .i64 v4, .vs false 3 v5, .vs false 30 v6], .row 0 true 3 v7, .row 0 true 3 v8, .row 0 true 3 v9] 4
def Qd_l4 (v0 v1 : Int) (v2 : List (Int × (List Int))) (v3 v4 v5 v6 v7 : Int) (v8 : List Int) (v9 : List (Int × (List Int))) (v10 v11 v12 v13 : List Int) : Option ((List Int) × Bool) := lpW Qd.s Qd.c 4 (ud 49 [.undef, .ptr 0 0, .undef, .undef, .sl 1 0, .sl 2 0, .undef, .undef, .undef, .sl 3 0, .sl 4 0, .int .i64 v0, .int .i64 v1, .undef, .undef, .undef, .undef, .undef, .undef, .undef, .undef, .undef, .undef, .undef, .undef, .undef, .undef, .undef, .undef, .undef, .undef, .undef, .undef, .undef, .undef, .undef, .undef, .undef, .undef, .undef, .undef, .undef, .undef, .undef, .undef, .undef, .undef, .undef, .undef, .undef, .vs false 30 v2, .int .i64 v3, .int .i64 v4, .undef, .undef, .undef, .undef, .undef, .undef, .undef, .undef, .undef, .undef, .undef, .undef, .undef, .undef, .undef, .undef, .undef, .undef, .undef, .undef, .undef, .undef, .undef, .undef, .undef, .undef, .undef, .undef, .undef, .undef, .undef, .undef, .undef, .undef, .sl 3 0, .int .i64 v5, .int .i64 v6]) [.box 27 [.int .i64 v7, .vs false 3 v8, .vs false 30 v9], .row 0 true 3 v10, .row 0 true 3 v11, .row 0 true 3 v12, .row 0 true 3 v13] 5
def Qd_l5 (v0 : List (Int × (List Int))) (v1 v2 v3 v4 v5 : Int) (v6 : List Int) (v7 : List (Int × (List Int))) (v8 v9 v10 v11 : List Int) : Option ((List Int) × Bool) := lpW Qd.s Qd.c 5 (ud 27 [.undef, .ptr 0 0, .undef, .undef, .sl 1 0, .sl 2 0, .undef, .undef, .undef, .sl 3 0, .sl 4 0, .undef, .undef, .undef, .undef, .undef, .undef, .undef, .undef, .undef, .undef, .undef, .undef, .undef, .undef, .undef, .undef, .undef, .undef, .undef, .undef, .undef, .undef, .undef, .undef, .undef, .undef, .undef, .undef, .undef, .undef, .undef, .undef, .undef, .undef, .undef, .undef, .undef, .undef, .undef, .vs false 30 v0, .int .i64 v1, .int .i64 v2, .undef, .undef, .undef, .undef, .undef, .undef, .undef, .undef, .undef, .undef, .undef, .undef, .undef, .undef, .undef, .undef, .undef, .undef, .undef, .undef, .undef, .undef, .undef, .undef, .undef, .undef, .undef, .undef, .undef, .undef, .undef, .undef, .undef, .undef, .undef, .undef, .undef, .undef, .undef, .undef, .undef, .undef, .undef, .undef, .undef, .undef, .undef, .undef, .undef, .undef, .undef, .undef, .undef, .undef, .undef, .undef, .sl 2 0, .int .i64 v3, .int .i64 v4]) [.box 27 [.int .i64 v5, .vs false 3 v6, .vs false 30 v7], .row 0 true 3 v8, .row 0 true 3 v9, .row 0 true 3 v10, .row 0 true 3 v11] 5
theorem Qd.eq (x0 : Int × (List Int) × (List (Int × (List Int)))) : Qd x0 =
 (QB x0.1 0 1000).bind fun y1 =>
 bif !y1 then
 some (([] : List Int), false)
 else
 bif (x0.2.1.length : Int) != 9 then
 some (([] : List Int), false)
 else
 bif (x0.2.2.length : Int) != 9 then
 some (([] : List Int), false)
 else
 Qd_l0 x0.1 x0.2.1 x0.2.2 := by kernel_rfl
theorem Qd_l0.eq (v0 : Int) (v1 : List Int) (v2 : List (Int × (List Int))) : Qd_l0 v0 v1 v2 =
 bif decide ((0 : Int) ≤ v0) && decide (v0.toNat * 8 ≤ 140737488355328) then
 bif decide ((0 : Int) ≤ v0) && decide (v0.toNat * 8 ≤ 140737488355328) then
 Qd_l1 ((List.replicate v0.toNat (0 : Int)).length : Int) (0 : Int) v0 v1 v2 (List.replicate v0.toNat (0 : Int)) (List.replicate v0.toNat (0 : Int))
 else
 none
 else
 none := (Q7 Q0 (Q1 (Qd.gok _)) _ _).trans (by kernel_rfl)
theorem Qd_l1.eq (v0 v1 v2 : Int) (v3 : List Int) (v4 : List (Int × (List Int))) (v5 v6 : List Int) : Qd_l1 v0 v1 v2 v3 v4 v5 v6 =
 bif decide (v1 < v0) then
 (at? v6 v1).bind fun y1 =>
 v6[v1.toNat]?.bind fun y2 =>
 Qd_l1 v0 (IntKind.i64.wrap (v1 + 1)) v2 v3 v4 v5 (v6.set v1.toNat v1)
 else
 Qd_l2 v4 (v4.length : Int) 0 v2 v3 v4 v5 v6 := (Q7 Q0 (Q1 (Qd.gok _)) _ _).trans (by kernel_rfl)
theorem Qd_l2.eq (v0 : List (Int × (List Int))) (v1 v2 v3 : Int) (v4 : List Int) (v5 : List (Int × (List Int))) (v6 v7 : List Int) : Qd_l2 v0 v1 v2 v3 v4 v5 v6 v7 =
 bif decide (v2 < v1) then
 (at? v0 v2).bind fun y1 =>
 (Q1x y1).bind fun y2 =>
 (Q0F y1).bind fun y3 =>
 bif !y3 then
 some (([] : List Int), false)
 else
 bif y1.1 != v3 then
 some (([] : List Int), false)
 else
 (Qz y2 0).bind fun y4 =>
 (at? v4 v2).bind fun y5 =>
 bif y4 != y5 then
 some (([] : List Int), false)
 else
 Qd_l3 v2 v0 v1 v2 v3 v4 v5 v6 v7 y2
 else
 some (v6, true) := (Q7 Q0 (Q1 (Qd.gok _)) _ _).trans (by kernel_rfl)
theorem Qd_l3.eq (v0 : Int) (v1 : List (Int × (List Int))) (v2 v3 v4 : Int) (v5 : List Int) (v6 : List (Int × (List Int))) (v7 v8 v9 : List Int) : Qd_l3 v0 v1 v2 v3 v4 v5 v6 v7 v8 v9 =
 bif decide ((0 : Int) ≤ v4) && decide (v4.toNat * 8 ≤ 140737488355328) then
 (at? v5 v0).bind fun y1 =>
 Qd_l4 (0 : Int) y1 v1 v2 v3 (v9.length : Int) (0 : Int) v4 v5 v6 v7 v8 v9 (List.replicate v4.toNat (0 : Int))
 else
 none := (Q7 Q0 (Q1 (Qd.gok _)) _ _).trans (by kernel_rfl)
theorem Qd_l4.eq (v0 v1 : Int) (v2 : List (Int × (List Int))) (v3 v4 v5 v6 v7 : Int) (v8 : List Int) (v9 : List (Int × (List Int))) (v10 v11 v12 v13 : List Int) : Qd_l4 v0 v1 v2 v3 v4 v5 v6 v7 v8 v9 v10 v11 v12 v13 =
 bif decide (v6 < v5) then
 (at? v12 v6).bind fun y1 =>
 v12[v6.toNat]?.bind fun y2 =>
 bif y2 == 0 then
 (at? v13 v6).bind fun y3 =>
 v13[v6.toNat]?.bind fun y4 =>
 Qd_l4 (IntKind.i64.wrap (v0 + 1)) v1 v2 v3 v4 v5 (IntKind.i64.wrap (v6 + 1)) v7 v8 v9 v10 v11 v12 (v13.set v6.toNat v0)
 else
 (at? v13 v6).bind fun y5 =>
 v13[v6.toNat]?.bind fun y6 =>
 Qd_l4 v0 (IntKind.i64.wrap (v1 + 1)) v2 v3 v4 v5 (IntKind.i64.wrap (v6 + 1)) v7 v8 v9 v10 v11 v12 (v13.set v6.toNat v1)
 else
 Qd_l5 v2 v3 v4 (v11.length : Int) 0 v7 v8 v9 v10 v11 v12 v13 := (Q7 Q0 (Q1 (Qd.gok _)) _ _).trans (by kernel_rfl)
theorem Qd_l5.eq (v0 : List (Int × (List Int))) (v1 v2 v3 v4 v5 : Int) (v6 : List Int) (v7 : List (Int × (List Int))) (v8 v9 v10 v11 : List Int) : Qd_l5 v0 v1 v2 v3 v4 v5 v6 v7 v8 v9 v10 v11 =
 bif decide (v4 < v3) then
 (at? v9 v4).bind fun y1 =>
 v9[v4.toNat]?.bind fun y2 =>
 (at? v8 v4).bind fun y3 =>
 v8[v4.toNat]?.bind fun y4 =>
 (at? v10 y2).bind fun y5 =>
 v10[y2.toNat]?.bind fun y6 =>
 (at? v8 v4).bind fun y7 =>
 v8[v4.toNat]?.bind fun y8 =>
 (at? v11 y2).bind fun y9 =>
 v11[y2.toNat]?.bind fun y10 =>
 (at? v9 v4).bind fun y11 =>
 v9[v4.toNat]?.bind fun y12 =>
 Qd_l5 v0 v1 v2 v3 (IntKind.i64.wrap (v4 + 1)) v5 v6 v7 (v8.set v4.toNat (IntKind.i64.wrap (((BitVec.ofInt 64 (IntKind.i64.wrap (y4 * 2 ^ 1))) ||| (BitVec.ofInt 64 y6)).toNat : Int))) (v9.set v4.toNat y10) v10 v11
 else
 Qd_l2 v0 v1 (IntKind.i64.wrap (v2 + 1)) v5 v6 v7 v8 v9 := (Q7 Q0 (Q1 (Qd.gok _)) _ _).trans (by kernel_rfl)
abbrev Q0T.s : Sg := ⟨[.lend], [vi], ⟨[vb], [none]⟩, Tryz.f48⟩
def Q0T.gs (δ : Type) : List (Nat × KC δ) := [(58, QB.k)]
theorem Q0T.gok (δ : Type) : Q4 Tryz.prog tab (Q0T.gs δ) := .cons QB.con .nil
def Q0T.c := cx Q0T.s [] [] [] false (Q0T.gs _)
def Q0T (x0 : Int) : Option (Bool) := fnW Q0T.s Q0T.c x0
theorem Q0T.fok : FkS Q0T.s 48 := ⟨Tryz.func48, by kernel_rfl, by kernel_rfl⟩
def Q0T.fn (x : Args tab Q0T.s.ar) : Option (ResT tab Q0T.s.rs) := Q0T x
abbrev Q0T.k {δ : Type} : KC δ := kS Q0T.s Q0T.fn
theorem Q0T.con {δ : Type} : Con Tryz.prog (KT tab) 48 (Q0T.k (δ := δ)) := Q5 (c := Q0T.c) mixed Q0 (Q1 (Q0T.gok _)) Q0T.fok rfl rfl fun _ => rfl
theorem Q0T.eq (x0 : Int) : Q0T x0 =
 (QB x0 1 64).bind fun y1 =>
 some y1 := by kernel_rfl
abbrev Q1P.s : Sg := ⟨[.lend], [vi], ⟨[vb], [none]⟩, Tryz.f184⟩
def Q1P.gs (δ : Type) : List (Nat × KC δ) := [(58, QB.k)]
theorem Q1P.gok (δ : Type) : Q4 Tryz.prog tab (Q1P.gs δ) := .cons QB.con .nil
def Q1P.c := cx Q1P.s [] [] [] false (Q1P.gs _)
def Q1P (x0 : Int) : Option (Bool) := fnW Q1P.s Q1P.c x0
theorem Q1P.fok : FkS Q1P.s 184 := ⟨Tryz.func184, by kernel_rfl, by kernel_rfl⟩
def Q1P.fn (x : Args tab Q1P.s.ar) : Option (ResT tab Q1P.s.rs) := Q1P x
abbrev Q1P.k {δ : Type} : KC δ := kS Q1P.s Q1P.fn
theorem Q1P.con {δ : Type} : Con Tryz.prog (KT tab) 184 (Q1P.k (δ := δ)) := Q5 (c := Q1P.c) mixed Q0 (Q1 (Q1P.gok _)) Q1P.fok rfl rfl fun _ => rfl
theorem Q1P.eq (x0 : Int) : Q1P x0 =
 (QB x0 0 256).bind fun y1 =>
 some y1 := by kernel_rfl
abbrev Q1h.s : Sg := ⟨[.lend, .lend], [vi, .one (.ptr false 0 [.fn 184 []])], ⟨[vb], [none, none]⟩, Tryz.f198⟩
def Q1h.gs (δ : Type) : List (Nat × KC δ) := [(184, Q1P.k)]
theorem Q1h.gok (δ : Type) : Q4 Tryz.prog tab (Q1h.gs δ) := .cons Q1P.con .nil
def Q1h.c := cx Q1h.s [] [] [] false (Q1h.gs _)
def Q1h (x0 : Int) (x1 : Unit) : Option (Bool) := fnW Q1h.s Q1h.c (x0, x1)
theorem Q1h.fok : FkS Q1h.s 198 := ⟨Tryz.func198, by kernel_rfl, by kernel_rfl⟩
def Q1h.fn (x : Args tab Q1h.s.ar) : Option (ResT tab Q1h.s.rs) := Q1h x.1 x.2
abbrev Q1h.k {δ : Type} : KC δ := kS Q1h.s Q1h.fn
theorem Q1h.con {δ : Type} : Con Tryz.prog (KT tab) 198 (Q1h.k (δ := δ)) := Q5 (c := Q1h.c) mixed Q0 (Q1 (Q1h.gok _)) Q1h.fok rfl rfl fun _ => rfl
theorem Q1h.eq (x0 : Int) (x1 : Unit) : Q1h x0 x1 =
 (Q1P x0).bind fun y1 =>
 some (!y1) := by kernel_rfl
abbrev Q0L.s : Sg := ⟨[.lend, .lend], [vl 3, .one (.fn 198 [.ptr false 0 [.fn 184 []]])], ⟨[vi], [none, none]⟩, Tryz.f211⟩
def Q0L.gs (δ : Type) : List (Nat × KC δ) := [(198, Q1h.k)]
theorem Q0L.gok (δ : Type) : Q4 Tryz.prog tab (Q0L.gs δ) := .cons Q1h.con .nil
def Q0L.c := cx Q0L.s [] [] [(2, [0, 1, 7, 8])] false (Q0L.gs _)
def Q0L (x0 : List Int) (x1 : Unit) : Option (Int) := fnW Q0L.s Q0L.c (x0, x1)
theorem Q0L.fok : FkS Q0L.s 211 := ⟨Tryz.func211, by kernel_rfl, by kernel_rfl⟩
def Q0L.fn (x : Args tab Q0L.s.ar) : Option (ResT tab Q0L.s.rs) := Q0L x.1 x.2
abbrev Q0L.k {δ : Type} : KC δ := kS Q0L.s Q0L.fn
theorem Q0L.con {δ : Type} : Con Tryz.prog (KT tab) 211 (Q0L.k (δ := δ)) := Q5 (c := Q0L.c) mixed Q0 (Q1 (Q0L.gok _)) Q0L.fok rfl rfl fun _ => rfl
def Q0L_l0 (v0 : List Int) (v1 v2 : Int) : Option (Int) := lpW Q0L.s Q0L.c 0 (ud 10 [.vs false 3 v0, .fn 198 [.vp [.fn 184 []]], .undef, .undef, .undef, .undef, .undef, .int .i64 v1, .int .i64 v2]) [] 0
theorem Q0L.eq (x0 : List Int) (x1 : Unit) : Q0L x0 x1 =
 Q0L_l0 x0 (x0.length : Int) 0 := by kernel_rfl
theorem Q0L_l0.eq (v0 : List Int) (v1 v2 : Int) : Q0L_l0 v0 v1 v2 =
 bif decide (v2 < v1) then
 (at? v0 v2).bind fun y1 =>
 (Q1h y1 ()).bind fun y2 =>
 bif y2 then
 some v2
 else
 Q0L_l0 v0 v1 (IntKind.i64.wrap (v2 + 1))
 else
 some (-1 : Int) := (Q7 Q0 (Q1 (Q0L.gok _)) _ _).trans (by kernel_rfl)
abbrev Q1Q.s : Sg := ⟨[.lend, .lend], [vl 3, .one (.fn 198 [.ptr false 78 [.fn 184 []]])], ⟨[vb], [none, none]⟩, Tryz.f197⟩
def Q1Q.gs (δ : Type) : List (Nat × KC δ) := [(211, Q0L.k)]
theorem Q1Q.gok (δ : Type) : Q4 Tryz.prog tab (Q1Q.gs δ) := .cons Q0L.con .nil
def Q1Q.c := cx Q1Q.s [] [] [] false (Q1Q.gs _)
def Q1Q (x0 : List Int) (x1 : Unit) : Option (Bool) := fnW Q1Q.s Q1Q.c (x0, x1)
theorem Q1Q.fok : FkS Q1Q.s 197 := ⟨Tryz.func197, by kernel_rfl, by kernel_rfl⟩
def Q1Q.fn (x : Args tab Q1Q.s.ar) : Option (ResT tab Q1Q.s.rs) := Q1Q x.1 x.2
abbrev Q1Q.k {δ : Type} : KC δ := kS Q1Q.s Q1Q.fn
theorem Q1Q.con {δ : Type} : Con Tryz.prog (KT tab) 197 (Q1Q.k (δ := δ)) := Q5 (c := Q1Q.c) mixed Q0 (Q1 (Q1Q.gok _)) Q1Q.fok rfl rfl fun _ => rfl
theorem Q1Q.eq (x0 : List Int) (x1 : Unit) : Q1Q x0 x1 =
 (Q0L x0 ()).bind fun y1 =>
 some (decide (y1 ≥ 0)) := by kernel_rfl
abbrev Q1y.s : Sg := ⟨[.lend, .lend], [vl 3, .one (.fn 184 [])], ⟨[vb], [none, none]⟩, Tryz.f168⟩
def Q1y.gs (δ : Type) : List (Nat × KC δ) := [(197, Q1Q.k)]
theorem Q1y.gok (δ : Type) : Q4 Tryz.prog tab (Q1y.gs δ) := .cons Q1Q.con .nil
def Q1y.c := cx Q1y.s [] [] [] false (Q1y.gs _)
def Q1y (x0 : List Int) (x1 : Unit) : Option (Bool) := fnW Q1y.s Q1y.c (x0, x1)
theorem Q1y.fok : FkS Q1y.s 168 := ⟨Tryz.func168, by kernel_rfl, by kernel_rfl⟩
def Q1y.fn (x : Args tab Q1y.s.ar) : Option (ResT tab Q1y.s.rs) := Q1y x.1 x.2
abbrev Q1y.k {δ : Type} : KC δ := kS Q1y.s Q1y.fn
theorem Q1y.con {δ : Type} : Con Tryz.prog (KT tab) 168 (Q1y.k (δ := δ)) := Q5 (c := Q1y.c) mixed Q0 (Q1 (Q1y.gok _)) Q1y.fok rfl rfl fun _ => rfl
theorem Q1y.eq (x0 : List Int) (x1 : Unit) : Q1y x0 x1 =
 (Q1Q x0 ()).bind fun y1 =>
 some (!y1) := by kernel_rfl
abbrev Q1z.s : Sg := ⟨[.lend], [vl 3], ⟨[vb], [none]⟩, Tryz.f151⟩
def Q1z.gs (δ : Type) : List (Nat × KC δ) := [(168, Q1y.k)]
theorem Q1z.gok (δ : Type) : Q4 Tryz.prog tab (Q1z.gs δ) := .cons Q1y.con .nil
def Q1z.c := cx Q1z.s [] [] [] false (Q1z.gs _)
def Q1z (x0 : List Int) : Option (Bool) := fnW Q1z.s Q1z.c x0
theorem Q1z.fok : FkS Q1z.s 151 := ⟨Tryz.func151, by kernel_rfl, by kernel_rfl⟩
def Q1z.fn (x : Args tab Q1z.s.ar) : Option (ResT tab Q1z.s.rs) := Q1z x
abbrev Q1z.k {δ : Type} : KC δ := kS Q1z.s Q1z.fn
theorem Q1z.con {δ : Type} : Con Tryz.prog (KT tab) 151 (Q1z.k (δ := δ)) := Q5 (c := Q1z.c) mixed Q0 (Q1 (Q1z.gok _)) Q1z.fok rfl rfl fun _ => rfl
theorem Q1z.eq (x0 : List Int) : Q1z x0 =
 bif decide ((x0.length : Int) ≤ 301) then
 (Q1y x0 ()).bind fun y1 =>
 some y1
 else
 some false := by kernel_rfl
abbrev QK.s : Sg := ⟨[.lend], [vl 3], ⟨[vo 3], [none]⟩, Tryz.f156⟩
def QK.gs (δ : Type) : List (Nat × KC δ) := []
theorem QK.gok (δ : Type) : Q4 Tryz.prog tab (QK.gs δ) := .nil
def QK.c := cx QK.s [] [] [(3, [3, 8, 9, 10]), (8, [3, 6])] false (QK.gs _)
def QK (x0 : List Int) : Option (List Int) := fnW QK.s QK.c x0
theorem QK.fok : FkS QK.s 156 := ⟨Tryz.func156, by kernel_rfl, by kernel_rfl⟩
def QK.fn (x : Args tab QK.s.ar) : Option (ResT tab QK.s.rs) := QK x
abbrev QK.k {δ : Type} : KC δ := kS QK.s QK.fn
theorem QK.con {δ : Type} : Con Tryz.prog (KT tab) 156 (QK.k (δ := δ)) := Q5 (c := QK.c) mixed Q0 (Q1 (QK.gok _)) QK.fok rfl rfl fun _ => rfl
def QK_l0 (v0 : List Int) (v1 v2 : Int) (v3 : List Int) : Option (List Int) := lpW QK.s QK.c 0 (ud 27 [.undef, .undef, .undef, .sl 0 0, .undef, .undef, .undef, .undef, .vs false 3 v0, .int .i64 v1, .int .i64 v2]) [.row 0 true 3 v3] 1
def QK_l1 (v0 : Int) (v1 : List Int) : Option (List Int) := lpW QK.s QK.c 1 (ud 31 [.undef, .undef, .undef, .sl 0 0, .undef, .undef, .int .i64 v0]) [.row 0 true 3 v1] 1
theorem QK.eq (x0 : List Int) : QK x0 =
 QK_l0 x0 (x0.length : Int) (0 : Int) (List.replicate 258 (0 : Int)) := by kernel_rfl
theorem QK_l0.eq (v0 : List Int) (v1 v2 : Int) (v3 : List Int) : QK_l0 v0 v1 v2 v3 =
 bif decide (v2 < v1) then
 (at? v0 v2).bind fun y1 =>
 (at? v3 (IntKind.i64.wrap (y1 + 1))).bind fun y2 =>
 v3[(IntKind.i64.wrap (y1 + 1)).toNat]?.bind fun y3 =>
 (at? v3 (IntKind.i64.wrap (y1 + 1))).bind fun y4 =>
 v3[(IntKind.i64.wrap (y1 + 1)).toNat]?.bind fun y5 =>
 QK_l0 v0 v1 (IntKind.i64.wrap (v2 + 1)) (v3.set ((IntKind.i64.wrap (y1 + 1)).toNat) (IntKind.i64.wrap (y3 + 1)))
 else
 QK_l1 1 v3 := (Q7 Q0 (Q1 (QK.gok _)) _ _).trans (by kernel_rfl)
theorem QK_l1.eq (v0 : Int) (v1 : List Int) : QK_l1 v0 v1 =
 bif decide (v0 < 258) then
 (at? v1 v0).bind fun y1 =>
 v1[v0.toNat]?.bind fun y2 =>
 (at? v1 (IntKind.i64.wrap (v0 - 1))).bind fun y3 =>
 v1[(IntKind.i64.wrap (v0 - 1)).toNat]?.bind fun y4 =>
 (at? v1 v0).bind fun y5 =>
 v1[v0.toNat]?.bind fun y6 =>
 QK_l1 (IntKind.i64.wrap (v0 + 1)) (v1.set v0.toNat (IntKind.i64.wrap (y2 + y4)))
 else
 some v1 := (Q7 Q0 (Q1 (QK.gok _)) _ _).trans (by kernel_rfl)
abbrev Q0l.s : Sg := ⟨[.lend], [vl 3], ⟨[vo 3], [none]⟩, Tryz.f123⟩
def Q0l.gs (δ : Type) : List (Nat × KC δ) := [(156, QK.k)]
theorem Q0l.gok (δ : Type) : Q4 Tryz.prog tab (Q0l.gs δ) := .cons QK.con .nil
def Q0l.c := cx Q0l.s [] [] [(4, [3, 4, 9, 10, 11])] false (Q0l.gs _)
def Q0l (x0 : List Int) : Option (List Int) := fnW Q0l.s Q0l.c x0
theorem Q0l.fok : FkS Q0l.s 123 := ⟨Tryz.func123, by kernel_rfl, by kernel_rfl⟩
def Q0l.fn (x : Args tab Q0l.s.ar) : Option (ResT tab Q0l.s.rs) := Q0l x
abbrev Q0l.k {δ : Type} : KC δ := kS Q0l.s Q0l.fn
theorem Q0l.con {δ : Type} : Con Tryz.prog (KT tab) 123 (Q0l.k (δ := δ)) := Q5 (c := Q0l.c) mixed Q0 (Q1 (Q0l.gok _)) Q0l.fok rfl rfl fun _ => rfl
def Q0l_l0 (v0 : List Int) (v1 v2 : Int) (v3 v4 : List Int) : Option (List Int) := lpW Q0l.s Q0l.c 0 (ud 18 [.undef, .undef, .undef, .sl 0 0, .sl 1 0, .undef, .undef, .undef, .undef, .vs false 3 v0, .int .i64 v1, .int .i64 v2]) [.row 0 true 3 v3, .row 0 true 3 v4] 2
theorem Q0l.eq (x0 : List Int) : Q0l x0 =
 (QK x0).bind fun y1 =>
 Q0l_l0 x0 (x0.length : Int) 0 y1 ([] : List Int) := by kernel_rfl
theorem Q0l_l0.eq (v0 : List Int) (v1 v2 : Int) (v3 v4 : List Int) : Q0l_l0 v0 v1 v2 v3 v4 =
 bif decide (v2 < v1) then
 (at? v0 v2).bind fun y1 =>
 (at? v3 y1).bind fun y2 =>
 v3[y1.toNat]?.bind fun y3 =>
 bif decide ((v4.length + ([y3] : List Int).length) * 8 ≤ 140737488355328) then
 (at? v3 y1).bind fun y4 =>
 v3[y1.toNat]?.bind fun y5 =>
 (at? v3 y1).bind fun y6 =>
 v3[y1.toNat]?.bind fun y7 =>
 Q0l_l0 v0 v1 (IntKind.i64.wrap (v2 + 1)) (v3.set y1.toNat (IntKind.i64.wrap (y5 + 1))) (v4 ++ ([y3] : List Int))
 else
 none
 else
 some v4 := (Q7 Q0 (Q1 (Q0l.gok _)) _ _).trans (by kernel_rfl)
def Q2l.ms : List Mode := [.lend, .lend]
def Q2l.as : List VSh := [.one (.b (.b (.b (.b (.sl false false 5))))), .one (.b (.b (.b (.b (.sl false false 5)))))]
def Q2l.rs : RSh := ⟨[.one (.b (.b (.b (.b (.int .i64)))))], [none, none]⟩
def Q2l (x0 : List Int) (x1 : List Int) : Option (Int) := some (cmpB (x0.map fun x => x) (x1.map fun x => x))
def Q2l.fn : Args tab Q2l.as → Option (ResT tab Q2l.rs) := fun x => Q2l x.1 x.2
abbrev Q2l.k {δ : Type} : KC δ := Q26 tab Q2l.ms Q2l.as Q2l.rs Q2l.fn
theorem Q2l.con {δ : Type} : Con Tryz.prog (KT tab) 202 (Q2l.k (δ := δ)) := con_compare Tryz.func202 (by kernel_rfl) (by kernel_rfl) (by kernel_rfl) (by kernel_rfl) (l := tab) (e := 5) (g := fun x => x) rfl
abbrev Q1R.s : Sg := ⟨[.lend, .lend], [vl 5, vl 5], ⟨[vi], [none, none]⟩, Tryz.f177⟩
def Q1R.gs (δ : Type) : List (Nat × KC δ) := [(202, Q2l.k)]
theorem Q1R.gok (δ : Type) : Q4 Tryz.prog tab (Q1R.gs δ) := .cons Q2l.con .nil
def Q1R.c := cx Q1R.s [] [] [] false (Q1R.gs _)
def Q1R (x0 x1 : List Int) : Option (Int) := fnW Q1R.s Q1R.c (x0, x1)
theorem Q1R.fok : FkS Q1R.s 177 := ⟨Tryz.func177, by kernel_rfl, by kernel_rfl⟩
def Q1R.fn (x : Args tab Q1R.s.ar) : Option (ResT tab Q1R.s.rs) := Q1R x.1 x.2
abbrev Q1R.k {δ : Type} : KC δ := kS Q1R.s Q1R.fn
theorem Q1R.con {δ : Type} : Con Tryz.prog (KT tab) 177 (Q1R.k (δ := δ)) := Q5 (c := Q1R.c) mixed Q0 (Q1 (Q1R.gok _)) Q1R.fok rfl rfl fun _ => rfl
theorem Q1R.eq (x0 x1 : List Int) : Q1R x0 x1 =
 (Q2l x0 x1).bind fun y1 =>
 some y1 := by kernel_rfl
abbrev Q0Z.s : Sg := ⟨[.lend, .lend, .lend], [vi, vi, .one (.ptr false 22 [.b (.b (.b (.sl false false 5)))])], ⟨[vi], [none, none, none]⟩, Tryz.f176⟩
def Q0Z.gs (δ : Type) : List (Nat × KC δ) := [(177, Q1R.k)]
theorem Q0Z.gok (δ : Type) : Q4 Tryz.prog tab (Q0Z.gs δ) := .cons Q1R.con .nil
def Q0Z.c := cx Q0Z.s [] [] [] false (Q0Z.gs _)
def Q0Z (x0 x1 : Int) (x2 : List Int) : Option (Int) := fnW Q0Z.s Q0Z.c (x0, x1, x2)
theorem Q0Z.fok : FkS Q0Z.s 176 := ⟨Tryz.func176, by kernel_rfl, by kernel_rfl⟩
def Q0Z.fn (x : Args tab Q0Z.s.ar) : Option (ResT tab Q0Z.s.rs) := Q0Z x.1 x.2.1 x.2.2
abbrev Q0Z.k {δ : Type} : KC δ := kS Q0Z.s Q0Z.fn
theorem Q0Z.con {δ : Type} : Con Tryz.prog (KT tab) 176 (Q0Z.k (δ := δ)) := Q5 (c := Q0Z.c) mixed Q0 (Q1 (Q0Z.gok _)) Q0Z.fok rfl rfl fun _ => rfl
theorem Q0Z.eq (x0 x1 : Int) (x2 : List Int) : Q0Z x0 x1 x2 =
 bif decide (0 ≤ x0 ∧ x0 ≤ ((x2.length : Nat) : Int)) then
 bif decide (0 ≤ x1 ∧ x1 ≤ ((x2.length : Nat) : Int)) then
 (Q1R ((x2.take x2.length).drop x0.toNat) ((x2.take x2.length).drop x1.toNat)).bind fun y1 =>
 some y1
 else
 none
 else
 none := by kernel_rfl
def Q2i.ms : List Mode := [.keep, .lend]
def Q2i.as : List VSh := [.one (.b (.b (.b (.b (.sl true true 3))))), .one (.fn 176 [.ptr false 22 [.b (.b (.sl false false 5))]])]
def Q2i.rs : RSh := ⟨[], [some (.one (.b (.b (.b (.b (.sl true true 3)))))), none]⟩
def Q2i (x0 : List Int) (x1 : List Int) : Option (List Int) := sortC (fun a b => Q0Z a b x1) x0
def Q2i.fn : Args tab Q2i.as → Option (ResT tab Q2i.rs) := fun x => Q2i x.1 x.2
abbrev Q2i.k {δ : Type} : KC δ := Q26 tab Q2i.ms Q2i.as Q2i.rs Q2i.fn
theorem Q2i.con {δ : Type} : Con Tryz.prog (KT tab) 175 (Q2i.k (δ := δ)) := con_sort (l := tab) Tryz.laysSort175 rfl (e := 3) (g := fun x => x) rfl (gf := 176) (fun a w => FnOk.enters Q0Z.fok a w) (cv := .one (.fn 176 [.ptr false 22 [.b (.b (.sl false false 5))]])) (capsT := fun y => [.ptr false 22 [.sl false false 5 y]]) (fun _ => by kernel_rfl) (fun y => List.all_eq_true.1 (by kernel_rfl)) (cal := Q0Z.k) Q0Z.con (ks := [none, none, none]) (F := fun a b y => Q0Z a b y) (fun a b y => sem_map (by kernel_rfl))
abbrev Q0e.s : Sg := ⟨[.lend], [vl 5], ⟨[vo 3], [none]⟩, Tryz.f122⟩
def Q0e.gs (δ : Type) : List (Nat × KC δ) := [(175, Q2i.k)]
theorem Q0e.gok (δ : Type) : Q4 Tryz.prog tab (Q0e.gs δ) := .cons Q2i.con .nil
def Q0e.c := cx Q0e.s [] [] [(3, [1, 3, 7, 8])] false (Q0e.gs _)
def Q0e (x0 : List Int) : Option (List Int) := fnW Q0e.s Q0e.c x0
theorem Q0e.fok : FkS Q0e.s 122 := ⟨Tryz.func122, by kernel_rfl, by kernel_rfl⟩
def Q0e.fn (x : Args tab Q0e.s.ar) : Option (ResT tab Q0e.s.rs) := Q0e x
abbrev Q0e.k {δ : Type} : KC δ := kS Q0e.s Q0e.fn
theorem Q0e.con {δ : Type} : Con Tryz.prog (KT tab) 122 (Q0e.k (δ := δ)) := Q5 (c := Q0e.c) mixed Q0 (Q1 (Q0e.gok _)) Q0e.fok rfl rfl fun _ => rfl
def Q0e_l0 (v0 v1 : Int) (v2 v3 : List Int) : Option (List Int) := lpW Q0e.s Q0e.c 0 (ud 11 [.undef, .ptr 0 0, .undef, .sl 1 0, .undef, .undef, .undef, .int .i64 v0, .int .i64 v1]) [.box 22 [.vs false 5 v2], .row 0 true 3 v3] 2
theorem Q0e.eq (x0 : List Int) : Q0e x0 =
 Q0e_l0 (IntKind.i64.wrap ((x0.length : Int) + 1)) 0 x0 ([] : List Int) := by kernel_rfl
theorem Q0e_l0.eq (v0 v1 : Int) (v2 v3 : List Int) : Q0e_l0 v0 v1 v2 v3 =
 bif decide (v1 < v0) then
 bif decide ((v3.length + ([v1] : List Int).length) * 8 ≤ 140737488355328) then
 Q0e_l0 v0 (IntKind.i64.wrap (v1 + 1)) v2 (v3 ++ ([v1] : List Int))
 else
 none
 else
 (Q2i v3 v2).bind fun y1 =>
 some y1 := (Q7 Q0 (Q1 (Q0e.gok _)) _ _).trans (by kernel_rfl)
abbrev Qu.s : Sg := ⟨[.lend], [vl 5], ⟨[vo 3], [none]⟩, Tryz.f59⟩
def Qu.gs (δ : Type) : List (Nat × KC δ) := [(122, Q0e.k)]
theorem Qu.gok (δ : Type) : Q4 Tryz.prog tab (Qu.gs δ) := .cons Q0e.con .nil
def Qu.c := cx Qu.s [] [] [(3, [0, 3, 7, 8, 9])] false (Qu.gs _)
def Qu (x0 : List Int) : Option (List Int) := fnW Qu.s Qu.c x0
theorem Qu.fok : FkS Qu.s 59 := ⟨Tryz.func59, by kernel_rfl, by kernel_rfl⟩
def Qu.fn (x : Args tab Qu.s.ar) : Option (ResT tab Qu.s.rs) := Qu x
abbrev Qu.k {δ : Type} : KC δ := kS Qu.s Qu.fn
theorem Qu.con {δ : Type} : Con Tryz.prog (KT tab) 59 (Qu.k (δ := δ)) := Q5 (c := Qu.c) mixed Q0 (Q1 (Qu.gok _)) Qu.fok rfl rfl fun _ => rfl
def Qu_l0 (v0 : List Int) (v1 v2 : Int) (v3 v4 : List Int) : Option (List Int) := lpW Qu.s Qu.c 0 (ud 20 [.vs false 5 v0, .undef, .undef, .sl 0 0, .undef, .undef, .undef, .sl 1 0, .int .i64 v1, .int .i64 v2]) [.row 0 true 3 v3, .row 0 true 3 v4] 2
theorem Qu.eq (x0 : List Int) : Qu x0 =
 (Q0e x0).bind fun y1 =>
 Qu_l0 x0 (y1.length : Int) 0 ([] : List Int) y1 := by kernel_rfl
theorem Qu_l0.eq (v0 : List Int) (v1 v2 : Int) (v3 v4 : List Int) : Qu_l0 v0 v1 v2 v3 v4 =
 bif decide (v2 < v1) then
 (at? v4 v2).bind fun y1 =>
 v4[v2.toNat]?.bind fun y2 =>
 bif y2 == 0 then
 bif decide ((v3.length + ([0] : List Int).length) * 8 ≤ 140737488355328) then
 Qu_l0 v0 v1 (IntKind.i64.wrap (v2 + 1)) (v3 ++ ([0] : List Int)) v4
 else
 none
 else
 (at? v0 (IntKind.i64.wrap (y2 - 1))).bind fun y3 =>
 bif decide ((v3.length + ([IntKind.i64.wrap ((IntKind.i64.wrap y3) + 1)] : List Int).length) * 8 ≤ 140737488355328) then
 Qu_l0 v0 v1 (IntKind.i64.wrap (v2 + 1)) (v3 ++ ([IntKind.i64.wrap ((IntKind.i64.wrap y3) + 1)] : List Int)) v4
 else
 none
 else
 some v3 := (Q7 Q0 (Q1 (Qu.gok _)) _ _).trans (by kernel_rfl)
abbrev Q06.s : Sg := ⟨[.lend, .lend], [vl 3, vl 3], ⟨[vb], [none, none]⟩, Tryz.f152⟩
def Q06.gs (δ : Type) : List (Nat × KC δ) := []
theorem Q06.gok (δ : Type) : Q4 Tryz.prog tab (Q06.gs δ) := .nil
def Q06.c := cx Q06.s [] [] [(4, [0, 1, 12, 13])] false (Q06.gs _)
def Q06 (x0 x1 : List Int) : Option (Bool) := fnW Q06.s Q06.c (x0, x1)
theorem Q06.fok : FkS Q06.s 152 := ⟨Tryz.func152, by kernel_rfl, by kernel_rfl⟩
def Q06.fn (x : Args tab Q06.s.ar) : Option (ResT tab Q06.s.rs) := Q06 x.1 x.2
abbrev Q06.k {δ : Type} : KC δ := kS Q06.s Q06.fn
theorem Q06.con {δ : Type} : Con Tryz.prog (KT tab) 152 (Q06.k (δ := δ)) := Q5 (c := Q06.c) mixed Q0 (Q1 (Q06.gok _)) Q06.fok rfl rfl fun _ => rfl
def Q06_l0 (v0 v1 : List Int) (v2 v3 : Int) : Option (Bool) := lpW Q06.s Q06.c 0 (ud 12 [.vs false 3 v0, .vs false 3 v1, .undef, .undef, .undef, .undef, .undef, .undef, .undef, .undef, .undef, .undef, .int .i64 v2, .int .i64 v3]) [] 0
theorem Q06.eq (x0 x1 : List Int) : Q06 x0 x1 =
 bif (x0.length : Int) != (x1.length : Int) then
 some false
 else
 Q06_l0 x0 x1 (x0.length : Int) 0 := by kernel_rfl
theorem Q06_l0.eq (v0 v1 : List Int) (v2 v3 : Int) : Q06_l0 v0 v1 v2 v3 =
 bif decide (v3 < v2) then
 (at? v0 v3).bind fun y1 =>
 (at? v1 v3).bind fun y2 =>
 bif y1 != y2 then
 some false
 else
 Q06_l0 v0 v1 v2 (IntKind.i64.wrap (v3 + 1))
 else
 some true := (Q7 Q0 (Q1 (Q06.gok _)) _ _).trans (by kernel_rfl)
abbrev QO.s : Sg := ⟨[.lend], [vl 3], ⟨[vo 5, vb], [none]⟩, Tryz.f109⟩
def QO.gs (δ : Type) : List (Nat × KC δ) := [(52, Qz.k), (59, Qu.k), (123, Q0l.k), (151, Q1z.k), (152, Q06.k)]
theorem QO.gok (δ : Type) : Q4 Tryz.prog tab (QO.gs δ) := .cons Qz.con (.cons Qu.con (.cons Q0l.con (.cons Q1z.con (.cons Q06.con .nil))))
def QO.c := cx QO.s [] [3] [(3, [0]), (7, [0, 4, 5, 6, 7])] false (QO.gs _)
def QO (x0 : List Int) : Option ((List Int) × Bool) := fnW QO.s QO.c x0
theorem QO.fok : FkS QO.s 109 := ⟨Tryz.func109, by kernel_rfl, by kernel_rfl⟩
def QO.fn (x : Args tab QO.s.ar) : Option (ResT tab QO.s.rs) := QO x
abbrev QO.k {δ : Type} : KC δ := kS QO.s QO.fn
theorem QO.con {δ : Type} : Con Tryz.prog (KT tab) 109 (QO.k (δ := δ)) := Q5 (c := QO.c) mixed Q0 (Q1 (QO.gok _)) QO.fok rfl rfl fun _ => rfl
def QO_l0 (v0 : List Int) : Option ((List Int) × Bool) := lpW QO.s QO.c 0 (ud 52 [.vs false 3 v0]) [] 0
def QO_l1 (v0 : List Int) (v1 v2 : Int) (v3 v4 : List Int) : Option ((List Int) × Bool) := lpW QO.s QO.c 1 (ud 45 [.vs false 3 v0, .undef, .undef, .undef, .sl 0 0, .sl 1 0, .int .i64 v1, .int .i64 v2]) [.row 0 true 3 v3, .row 0 true 5 v4] 2
theorem QO.eq (x0 : List Int) : QO x0 =
 (Q1z x0).bind fun y1 =>
 bif !y1 then
 some (([] : List Int), false)
 else
 (Qz x0 0).bind fun y2 =>
 bif y2 != 1 then
 some (([] : List Int), false)
 else
 QO_l0 x0 := by kernel_rfl
theorem QO_l0.eq (v0 : List Int) : QO_l0 v0 =
 (Q0l v0).bind fun y1 =>
 bif decide ((0 : Int) ≤ IntKind.i64.wrap ((v0.length : Int) - 1)) && decide (((IntKind.i64.wrap ((v0.length : Int) - 1)).toNat) * 1 ≤ 140737488355328) then
 QO_l1 v0 (0 : Int) (IntKind.i64.wrap (((List.replicate ((IntKind.i64.wrap ((v0.length : Int) - (1 : Int))).toNat) (0 : Int)).length : Int) - (1 : Int))) y1 (List.replicate ((IntKind.i64.wrap ((v0.length : Int) - (1 : Int))).toNat) (0 : Int))
 else
 none := (Q7 Q0 (Q1 (QO.gok _)) _ _).trans (by kernel_rfl)
theorem QO_l1.eq (v0 : List Int) (v1 v2 : Int) (v3 v4 : List Int) : QO_l1 v0 v1 v2 v3 v4 =
 bif decide (v2 ≥ 0) then
 (at? v0 v1).bind fun y1 =>
 bif y1 == 0 then
 some (([] : List Int), false)
 else
 (at? v0 v1).bind fun y2 =>
 (at? v4 v2).bind fun y3 =>
 v4[v2.toNat]?.bind fun y4 =>
 (at? v3 v1).bind fun y5 =>
 v3[v1.toNat]?.bind fun y6 =>
 QO_l1 v0 y6 (IntKind.i64.wrap (v2 - 1)) v3 (v4.set v2.toNat (IntKind.u8.wrap (IntKind.i64.wrap (y2 - 1))))
 else
 (Qu v4).bind fun y7 =>
 (Q06 y7 v0).bind fun y8 =>
 bif !y8 then
 some (([] : List Int), false)
 else
 some (v4, true) := (Q7 Q0 (Q1 (QO.gok _)) _ _).trans (by kernel_rfl)
abbrev Q1S.s : Sg := ⟨[.lend], [vi], ⟨[vb], [none]⟩, Tryz.f169⟩
def Q1S.gs (δ : Type) : List (Nat × KC δ) := [(58, QB.k)]
theorem Q1S.gok (δ : Type) : Q4 Tryz.prog tab (Q1S.gs δ) := .cons QB.con .nil
def Q1S.c := cx Q1S.s [] [] [] false (Q1S.gs _)
def Q1S (x0 : Int) : Option (Bool) := fnW Q1S.s Q1S.c x0
theorem Q1S.fok : FkS Q1S.s 169 := ⟨Tryz.func169, by kernel_rfl, by kernel_rfl⟩
def Q1S.fn (x : Args tab Q1S.s.ar) : Option (ResT tab Q1S.s.rs) := Q1S x
abbrev Q1S.k {δ : Type} : KC δ := kS Q1S.s Q1S.fn
theorem Q1S.con {δ : Type} : Con Tryz.prog (KT tab) 169 (Q1S.k (δ := δ)) := Q5 (c := Q1S.c) mixed Q0 (Q1 (Q1S.gok _)) Q1S.fok rfl rfl fun _ => rfl
theorem Q1S.eq (x0 : Int) : Q1S x0 =
 (QB x0 0 511).bind fun y1 =>
 some y1 := by kernel_rfl
abbrev Q1i.s : Sg := ⟨[.lend, .lend], [vi, .one (.ptr false 0 [.fn 169 []])], ⟨[vb], [none, none]⟩, Tryz.f198⟩
def Q1i.gs (δ : Type) : List (Nat × KC δ) := [(169, Q1S.k)]
theorem Q1i.gok (δ : Type) : Q4 Tryz.prog tab (Q1i.gs δ) := .cons Q1S.con .nil
def Q1i.c := cx Q1i.s [] [] [] false (Q1i.gs _)
def Q1i (x0 : Int) (x1 : Unit) : Option (Bool) := fnW Q1i.s Q1i.c (x0, x1)
theorem Q1i.fok : FkS Q1i.s 198 := ⟨Tryz.func198, by kernel_rfl, by kernel_rfl⟩
def Q1i.fn (x : Args tab Q1i.s.ar) : Option (ResT tab Q1i.s.rs) := Q1i x.1 x.2
abbrev Q1i.k {δ : Type} : KC δ := kS Q1i.s Q1i.fn
theorem Q1i.con {δ : Type} : Con Tryz.prog (KT tab) 198 (Q1i.k (δ := δ)) := Q5 (c := Q1i.c) mixed Q0 (Q1 (Q1i.gok _)) Q1i.fok rfl rfl fun _ => rfl
theorem Q1i.eq (x0 : Int) (x1 : Unit) : Q1i x0 x1 =
 (Q1S x0).bind fun y1 =>
 some (!y1) := by kernel_rfl
abbrev Q0M.s : Sg := ⟨[.lend, .lend], [vl 3, .one (.fn 198 [.ptr false 0 [.fn 169 []]])], ⟨[vi], [none, none]⟩, Tryz.f211⟩
def Q0M.gs (δ : Type) : List (Nat × KC δ) := [(198, Q1i.k)]
theorem Q0M.gok (δ : Type) : Q4 Tryz.prog tab (Q0M.gs δ) := .cons Q1i.con .nil
def Q0M.c := cx Q0M.s [] [] [(2, [0, 1, 7, 8])] false (Q0M.gs _)
def Q0M (x0 : List Int) (x1 : Unit) : Option (Int) := fnW Q0M.s Q0M.c (x0, x1)
theorem Q0M.fok : FkS Q0M.s 211 := ⟨Tryz.func211, by kernel_rfl, by kernel_rfl⟩
def Q0M.fn (x : Args tab Q0M.s.ar) : Option (ResT tab Q0M.s.rs) := Q0M x.1 x.2
abbrev Q0M.k {δ : Type} : KC δ := kS Q0M.s Q0M.fn
theorem Q0M.con {δ : Type} : Con Tryz.prog (KT tab) 211 (Q0M.k (δ := δ)) := Q5 (c := Q0M.c) mixed Q0 (Q1 (Q0M.gok _)) Q0M.fok rfl rfl fun _ => rfl
def Q0M_l0 (v0 : List Int) (v1 v2 : Int) : Option (Int) := lpW Q0M.s Q0M.c 0 (ud 10 [.vs false 3 v0, .fn 198 [.vp [.fn 169 []]], .undef, .undef, .undef, .undef, .undef, .int .i64 v1, .int .i64 v2]) [] 0
theorem Q0M.eq (x0 : List Int) (x1 : Unit) : Q0M x0 x1 =
 Q0M_l0 x0 (x0.length : Int) 0 := by kernel_rfl
theorem Q0M_l0.eq (v0 : List Int) (v1 v2 : Int) : Q0M_l0 v0 v1 v2 =
 bif decide (v2 < v1) then
 (at? v0 v2).bind fun y1 =>
 (Q1i y1 ()).bind fun y2 =>
 bif y2 then
 some v2
 else
 Q0M_l0 v0 v1 (IntKind.i64.wrap (v2 + 1))
 else
 some (-1 : Int) := (Q7 Q0 (Q1 (Q0M.gok _)) _ _).trans (by kernel_rfl)
abbrev Q1T.s : Sg := ⟨[.lend, .lend], [vl 3, .one (.fn 198 [.ptr false 78 [.fn 169 []]])], ⟨[vb], [none, none]⟩, Tryz.f197⟩
def Q1T.gs (δ : Type) : List (Nat × KC δ) := [(211, Q0M.k)]
theorem Q1T.gok (δ : Type) : Q4 Tryz.prog tab (Q1T.gs δ) := .cons Q0M.con .nil
def Q1T.c := cx Q1T.s [] [] [] false (Q1T.gs _)
def Q1T (x0 : List Int) (x1 : Unit) : Option (Bool) := fnW Q1T.s Q1T.c (x0, x1)
theorem Q1T.fok : FkS Q1T.s 197 := ⟨Tryz.func197, by kernel_rfl, by kernel_rfl⟩
def Q1T.fn (x : Args tab Q1T.s.ar) : Option (ResT tab Q1T.s.rs) := Q1T x.1 x.2
abbrev Q1T.k {δ : Type} : KC δ := kS Q1T.s Q1T.fn
theorem Q1T.con {δ : Type} : Con Tryz.prog (KT tab) 197 (Q1T.k (δ := δ)) := Q5 (c := Q1T.c) mixed Q0 (Q1 (Q1T.gok _)) Q1T.fok rfl rfl fun _ => rfl
theorem Q1T.eq (x0 : List Int) (x1 : Unit) : Q1T x0 x1 =
 (Q0M x0 ()).bind fun y1 =>
 some (decide (y1 ≥ 0)) := by kernel_rfl
abbrev Q1A.s : Sg := ⟨[.lend, .lend], [vl 3, .one (.fn 169 [])], ⟨[vb], [none, none]⟩, Tryz.f168⟩
def Q1A.gs (δ : Type) : List (Nat × KC δ) := [(197, Q1T.k)]
theorem Q1A.gok (δ : Type) : Q4 Tryz.prog tab (Q1A.gs δ) := .cons Q1T.con .nil
def Q1A.c := cx Q1A.s [] [] [] false (Q1A.gs _)
def Q1A (x0 : List Int) (x1 : Unit) : Option (Bool) := fnW Q1A.s Q1A.c (x0, x1)
theorem Q1A.fok : FkS Q1A.s 168 := ⟨Tryz.func168, by kernel_rfl, by kernel_rfl⟩
def Q1A.fn (x : Args tab Q1A.s.ar) : Option (ResT tab Q1A.s.rs) := Q1A x.1 x.2
abbrev Q1A.k {δ : Type} : KC δ := kS Q1A.s Q1A.fn
theorem Q1A.con {δ : Type} : Con Tryz.prog (KT tab) 168 (Q1A.k (δ := δ)) := Q5 (c := Q1A.c) mixed Q0 (Q1 (Q1A.gok _)) Q1A.fok rfl rfl fun _ => rfl
theorem Q1A.eq (x0 : List Int) (x1 : Unit) : Q1A x0 x1 =
 (Q1T x0 ()).bind fun y1 =>
 some (!y1) := by kernel_rfl
abbrev QL.s : Sg := ⟨[.lend], [vl 3], ⟨[ag0], [none]⟩, Tryz.f113⟩
def QL.gs (δ : Type) : List (Nat × KC δ) := []
theorem QL.gok (δ : Type) : Q4 Tryz.prog tab (QL.gs δ) := .nil
def QL.c := cx QL.s [] [] [(3, [2, 3, 15, 16, 17])] false (QL.gs _)
def QL (x0 : List Int) : Option (Int × (List Int)) := fnW QL.s QL.c x0
theorem QL.fok : FkS QL.s 113 := ⟨Tryz.func113, by kernel_rfl, by kernel_rfl⟩
def QL.fn (x : Args tab QL.s.ar) : Option (ResT tab QL.s.rs) := QL x
abbrev QL.k {δ : Type} : KC δ := kS QL.s QL.fn
theorem QL.con {δ : Type} : Con Tryz.prog (KT tab) 113 (QL.k (δ := δ)) := Q5 (c := QL.c) mixed Q0 (Q1 (QL.gok _)) QL.fok rfl rfl fun _ => rfl
def QL_l0 (v0 : List Int) (v1 v2 v3 : Int) (v4 : List Int) (v5 : Int) (v6 : List Int) : Option (Int × (List Int)) := lpW QL.s QL.c 0 (ud 19 [.undef, .undef, .ptr 0 0, .ptr 2 0, .undef, .undef, .undef, .undef, .undef, .undef, .undef, .undef, .undef, .undef, .undef, .vs false 3 v0, .int .i64 v1, .int .i64 v2]) [.box 30 [.int .i64 v3, .sl 1 0], .row 0 true 90 v4, .box 30 [.int .i64 v5, .sl 3 0], .row 0 true 90 v6] 4
theorem QL.eq (x0 : List Int) : QL x0 =
 bif decide ((0 : Int) ≤ IntKind.i64.wrap ((IntKind.i64.wrap ((IntKind.i64.wrap ((x0.length : Int) + 64)) - 1)).tdiv 64)) && decide (((IntKind.i64.wrap ((IntKind.i64.wrap ((IntKind.i64.wrap ((x0.length : Int) + 64)) - 1)).tdiv 64)).toNat) * 8 ≤ 140737488355328) then
 QL_l0 x0 (x0.length : Int) (0 : Int) (0 : Int) ([] : List Int) (x0.length : Int) (List.replicate ((IntKind.i64.wrap ((IntKind.i64.wrap ((IntKind.i64.wrap ((x0.length : Int) + (64 : Int))) - (1 : Int))).tdiv (64 : Int))).toNat) (0 : Int))
 else
 none := by kernel_rfl
theorem QL_l0.eq (v0 : List Int) (v1 v2 v3 : Int) (v4 : List Int) (v5 : Int) (v6 : List Int) : QL_l0 v0 v1 v2 v3 v4 v5 v6 =
 bif decide (v2 < v1) then
 (at? v0 v2).bind fun y1 =>
 (at? v6 (IntKind.i64.wrap (v2.tdiv 64))).bind fun y2 =>
 v6[(IntKind.i64.wrap (v2.tdiv 64)).toNat]?.bind fun y3 =>
 bif decide (v2.tmod (64 : Int) < 0) then
 none
 else
 (at? v6 (IntKind.i64.wrap (v2.tdiv 64))).bind fun y4 =>
 v6[(IntKind.i64.wrap (v2.tdiv 64)).toNat]?.bind fun y5 =>
 QL_l0 v0 v1 (IntKind.i64.wrap (v2 + 1)) v3 v4 v5 (v6.set ((IntKind.i64.wrap (v2.tdiv 64)).toNat) (IntKind.u64.wrap (((BitVec.ofInt 64 y3) ||| (BitVec.ofInt 64 (IntKind.u64.wrap ((IntKind.u64.wrap y1) * 2 ^ (min (v2.tmod 64).toNat 64))))).toNat : Int)))
 else
 some (v5, v6) := (Q7 Q0 (Q1 (QL.gok _)) _ _).trans (by kernel_rfl)
def Q2m.ms : List Mode := [.give, .lend]
def Q2m.as : List VSh := [.one (.b (.b (.b (.b (.sl true true 3))))), .one (.b (.b (.b (.b (.int .i64)))))]
def Q2m.rs : RSh := ⟨[.one (.b (.b (.b (.b (.sl true true 3)))))], [none, none]⟩
def Q2m (x0 : List Int) (x1 : Int) : Option (List Int) := growF 8 (x0, x1)
def Q2m.fn : Args tab Q2m.as → Option (ResT tab Q2m.rs) := fun x => Q2m x.1 x.2
abbrev Q2m.k {δ : Type} : KC δ := Q26 tab Q2m.ms Q2m.as Q2m.rs Q2m.fn
theorem Q2m.con {δ : Type} : Con Tryz.prog (KT tab) 199 (Q2m.k (δ := δ)) := con_grow2 Tryz.laysGrow199 rfl rfl (ty := tyOf tys) Q0 (e := 3) rfl (by decide) rfl rfl
abbrev QX.s : Sg := ⟨[.lend], [vl 24], ⟨[vo 3], [none]⟩, Tryz.f170⟩
def QX.gs (δ : Type) : List (Nat × KC δ) := [(199, Q2m.k)]
theorem QX.gok (δ : Type) : Q4 Tryz.prog tab (QX.gs δ) := .cons Q2m.con .nil
def QX.c := cx QX.s [] [] [(3, [0, 3, 9, 10, 11]), (11, [6, 25, 26, 27])] false (QX.gs _)
def QX (x0 : List (List Int)) : Option (List Int) := fnW QX.s QX.c x0
theorem QX.fok : FkS QX.s 170 := ⟨Tryz.func170, by kernel_rfl, by kernel_rfl⟩
def QX.fn (x : Args tab QX.s.ar) : Option (ResT tab QX.s.rs) := QX x
abbrev QX.k {δ : Type} : KC δ := kS QX.s QX.fn
theorem QX.con {δ : Type} : Con Tryz.prog (KT tab) 170 (QX.k (δ := δ)) := Q5 (c := QX.c) mixed Q0 (Q1 (QX.gok _)) QX.fok rfl rfl fun _ => rfl
def QX_l0 (v0 : List (List Int)) (v1 : Int) (v2 : List (List Int)) (v3 v4 : Int) : Option (List Int) := lpW QX.s QX.c 0 (ud 24 [.vs false 24 v0, .undef, .undef, .int .i64 v1, .undef, .undef, .undef, .undef, .undef, .vs false 24 v2, .int .i64 v3, .int .i64 v4]) [] 0
def QX_l1 (v0 : List (List Int)) (v1 v2 : Int) (v3 : List Int) : Option (List Int) := lpW QX.s QX.c 1 (ud 8 [.undef, .undef, .undef, .undef, .undef, .undef, .sl 0 0, .undef, .undef, .undef, .undef, .undef, .undef, .undef, .undef, .undef, .undef, .undef, .undef, .undef, .undef, .undef, .undef, .undef, .undef, .vs false 24 v0, .int .i64 v1, .int .i64 v2]) [.row 0 true 3 v3] 1
theorem QX.eq (x0 : List (List Int)) : QX x0 =
 QX_l0 x0 0 x0 (x0.length : Int) 0 := by kernel_rfl
theorem QX_l0.eq (v0 : List (List Int)) (v1 : Int) (v2 : List (List Int)) (v3 v4 : Int) : QX_l0 v0 v1 v2 v3 v4 =
 bif decide (v4 < v3) then
 (at? v2 v4).bind fun y1 =>
 bif decide (IntKind.i64.wrap (v1 + (y1.length : Int)) < 0) then
 none
 else
 QX_l0 v0 (IntKind.i64.wrap (v1 + (y1.length : Int))) v2 v3 (IntKind.i64.wrap (v4 + 1))
 else
 (Q2m ([] : List Int) v1).bind fun y2 =>
 QX_l1 v0 (v0.length : Int) 0 y2 := (Q7 Q0 (Q1 (QX.gok _)) _ _).trans (by kernel_rfl)
theorem QX_l1.eq (v0 : List (List Int)) (v1 v2 : Int) (v3 : List Int) : QX_l1 v0 v1 v2 v3 =
 bif decide (v2 < v1) then
 (at? v0 v2).bind fun y1 =>
 bif decide ((v3.length + y1.length) * 8 ≤ 140737488355328) then
 QX_l1 v0 v1 (IntKind.i64.wrap (v2 + 1)) (v3 ++ y1)
 else
 none
 else
 some v3 := (Q7 Q0 (Q1 (QX.gok _)) _ _).trans (by kernel_rfl)
abbrev Qf.s : Sg := ⟨[.lend], [vl 3], ⟨[ag1, vb], [none]⟩, Tryz.f116⟩
def Qf.gs (δ : Type) : List (Nat × KC δ) := [(113, QL.k), (168, Q1A.k), (170, QX.k)]
theorem Qf.gok (δ : Type) : Q4 Tryz.prog tab (Qf.gs δ) := .cons QL.con (.cons Q1A.con (.cons QX.con .nil))
def Qf.c := cx Qf.s [] [3] [(3, [0, 2]), (5, [0, 2, 4, 24]), (9, [2, 4, 5, 6, 7, 8, 24, 27, 28, 29])] false (Qf.gs _)
def Qf (x0 : List Int) : Option ((Int × (List Int) × (List (Int × (List Int)))) × Bool) := fnW Qf.s Qf.c x0
theorem Qf.fok : FkS Qf.s 116 := ⟨Tryz.func116, by kernel_rfl, by kernel_rfl⟩
def Qf.fn (x : Args tab Qf.s.ar) : Option (ResT tab Qf.s.rs) := Qf x
abbrev Qf.k {δ : Type} : KC δ := kS Qf.s Qf.fn
theorem Qf.con {δ : Type} : Con Tryz.prog (KT tab) 116 (Qf.k (δ := δ)) := Q5 (c := Qf.c) mixed Q0 (Q1 (Qf.gok _)) Qf.fok rfl rfl fun _ => rfl
def Qf_l0 (v0 : List Int) (v1 : Int) (v2 : List Int) (v3 : List (Int × (List Int))) : Option ((Int × (List Int) × (List (Int × (List Int)))) × Bool) := lpW Qf.s Qf.c 0 (ud 70 [.vs false 3 v0, .undef, .ptr 0 0]) [.box 27 [.int .i64 v1, .sl 1 0, .sl 2 0], .row 0 true 3 v2, .row 0 true 30 v3] 3
def Qf_l1 (v0 : List Int) (v1 v2 : Int) (v3 : List Int) (v4 : List (Int × (List Int))) (v5 : Int) (v6 : List Int) (v7 : List (Int × (List Int))) : Option ((Int × (List Int) × (List (Int × (List Int)))) × Bool) := lpW Qf.s Qf.c 1 (ud 48 [.vs false 3 v0, .undef, .ptr 0 0, .undef, .ptr 3 0, .undef, .undef, .undef, .undef, .undef, .undef, .undef, .undef, .undef, .undef, .undef, .undef, .undef, .undef, .undef, .undef, .undef, .undef, .undef, .int .i64 v1]) [.box 27 [.int .i64 v2, .sl 1 0, .sl 2 0], .row 0 true 3 v3, .row 0 true 30 v4, .box 27 [.int .i64 v5, .sl 4 0, .sl 5 0], .row 0 true 3 v6, .row 0 true 30 v7] 6
def Qf_l2 (v0 v1 : Int) (v2 : List Int) (v3 v4 v5 : Int) (v6 : List Int) (v7 : List (Int × (List Int))) (v8 : Int) (v9 : List Int) (v10 : List (Int × (List Int))) (v11 v12 v13 : List Int) : Option ((Int × (List Int) × (List (Int × (List Int)))) × Bool) := lpW Qf.s Qf.c 2 (ud 43 [.undef, .undef, .ptr 0 0, .undef, .ptr 3 0, .int .i64 v0, .sl 6 0, .sl 7 0, .sl 8 0, .undef, .undef, .undef, .undef, .undef, .undef, .undef, .undef, .undef, .undef, .undef, .undef, .undef, .undef, .undef, .int .i64 v1, .undef, .undef, .vs false 3 v2, .int .i64 v3, .int .i64 v4]) [.box 27 [.int .i64 v5, .sl 1 0, .sl 2 0], .row 0 true 3 v6, .row 0 true 30 v7, .box 27 [.int .i64 v8, .sl 4 0, .sl 5 0], .row 0 true 3 v9, .row 0 true 30 v10, .row 0 true 3 v11, .row 0 true 3 v12, .row 0 true 3 v13] 9
def Qf_l3 (v0 : Int) (v1 : List Int) (v2 : Int) (v3 : List Int) (v4 : List (Int × (List Int))) (v5 : Int) (v6 : List Int) (v7 : List (Int × (List Int))) : Option ((Int × (List Int) × (List (Int × (List Int)))) × Bool) := lpW Qf.s Qf.c 1 (ud 48 [.sl 0 0, .undef, .ptr 1 0, .undef, .ptr 4 0, .undef, .undef, .undef, .undef, .undef, .undef, .undef, .undef, .undef, .undef, .undef, .undef, .undef, .undef, .undef, .undef, .undef, .undef, .undef, .int .i64 v0]) [.row 0 true 3 v1, .box 27 [.int .i64 v2, .sl 2 0, .sl 3 0], .row 0 true 3 v3, .row 0 true 30 v4, .box 27 [.int .i64 v5, .sl 5 0, .sl 6 0], .row 0 true 3 v6, .row 0 true 30 v7] 7
def Qf_l4 (v0 v1 v2 v3 v4 : Int) (v5 : List Int) (v6 : List (Int × (List Int))) (v7 : Int) (v8 : List Int) (v9 : List (Int × (List Int))) (v10 v11 v12 v13 : List Int) : Option ((Int × (List Int) × (List (Int × (List Int)))) × Bool) := lpW Qf.s Qf.c 2 (ud 43 [.undef, .undef, .ptr 0 0, .undef, .ptr 3 0, .int .i64 v0, .sl 6 0, .sl 7 0, .sl 8 0, .undef, .undef, .undef, .undef, .undef, .undef, .undef, .undef, .undef, .undef, .undef, .undef, .undef, .undef, .undef, .int .i64 v1, .undef, .undef, .sl 9 0, .int .i64 v2, .int .i64 v3]) [.box 27 [.int .i64 v4, .sl 1 0, .sl 2 0], .row 0 true 3 v5, .row 0 true 30 v6, .box 27 [.int .i64 v7, .sl 4 0, .sl 5 0], .row 0 true 3 v8, .row 0 true 30 v9, .row 0 true 3 v10, .row 0 true 3 v11, .row 0 true 3 v12, .row 0 true 3 v13] 10
theorem Qf.eq (x0 : List Int) : Qf x0 =
 bif decide ((x0.length : Int) > 1000) then
 some ((0, ([] : List Int), ([] : List (Int × (List Int)))), false)
 else
 (Q1A x0 ()).bind fun y1 =>
 bif !y1 then
 some ((0, ([] : List Int), ([] : List (Int × (List Int)))), false)
 else
 Qf_l0 x0 0 ([] : List Int) ([] : List (Int × (List Int))) := by kernel_rfl
theorem Qf_l0.eq (v0 : List Int) (v1 : Int) (v2 : List Int) (v3 : List (Int × (List Int))) : Qf_l0 v0 v1 v2 v3 =
 Qf_l1 v0 0 v1 v2 v3 (v0.length : Int) ([] : List Int) ([] : List (Int × (List Int))) := (Q7 Q0 (Q1 (Qf.gok _)) _ _).trans (by kernel_rfl)
theorem Qf_l1.eq (v0 : List Int) (v1 v2 : Int) (v3 : List Int) (v4 : List (Int × (List Int))) (v5 : Int) (v6 : List Int) (v7 : List (Int × (List Int))) : Qf_l1 v0 v1 v2 v3 v4 v5 v6 v7 =
 bif decide (v1 < 9) then
 Qf_l2 v1 v1 v0 (v0.length : Int) 0 v2 v3 v4 v5 v6 v7 ([] : List Int) ([] : List Int) ([] : List Int)
 else
 some ((v5, v6, v7), true) := (Q7 Q0 (Q1 (Qf.gok _)) _ _).trans (by kernel_rfl)
theorem Qf_l2.eq (v0 v1 : Int) (v2 : List Int) (v3 v4 v5 : Int) (v6 : List Int) (v7 : List (Int × (List Int))) (v8 : Int) (v9 : List Int) (v10 : List (Int × (List Int))) (v11 v12 v13 : List Int) : Qf_l2 v0 v1 v2 v3 v4 v5 v6 v7 v8 v9 v10 v11 v12 v13 =
 bif decide (v4 < v3) then
 (at? v2 v4).bind fun y1 =>
 bif decide (IntKind.i64.wrap ((8 : Int) - v0) < 0) then
 none
 else
 bif decide ((v13.length + ([IntKind.i64.wrap (((BitVec.ofInt 64 (y1.fdiv (2 ^ (min (IntKind.i64.wrap ((8 : Int) - v0)).toNat 64)))) &&& (BitVec.ofInt 64 1)).toNat : Int)] : List Int).length) * 8 ≤ 140737488355328) then
 bif IntKind.i64.wrap (((BitVec.ofInt 64 (y1.fdiv (2 ^ (min (IntKind.i64.wrap ((8 : Int) - v0)).toNat 64)))) &&& (BitVec.ofInt 64 1)).toNat : Int) == 0 then
 bif decide ((v11.length + ([y1] : List Int).length) * 8 ≤ 140737488355328) then
 Qf_l2 v0 v1 v2 v3 (IntKind.i64.wrap (v4 + 1)) v5 v6 v7 v8 v9 v10 (v11 ++ ([y1] : List Int)) v12 (v13 ++ ([IntKind.i64.wrap (((BitVec.ofInt 64 (y1.fdiv (2 ^ (min (IntKind.i64.wrap ((8 : Int) - v0)).toNat 64)))) &&& (BitVec.ofInt 64 1)).toNat : Int)] : List Int))
 else
 none
 else
 bif decide ((v12.length + ([y1] : List Int).length) * 8 ≤ 140737488355328) then
 Qf_l2 v0 v1 v2 v3 (IntKind.i64.wrap (v4 + 1)) v5 v6 v7 v8 v9 v10 v11 (v12 ++ ([y1] : List Int)) (v13 ++ ([IntKind.i64.wrap (((BitVec.ofInt 64 (y1.fdiv (2 ^ (min (IntKind.i64.wrap ((8 : Int) - v0)).toNat 64)))) &&& (BitVec.ofInt 64 1)).toNat : Int)] : List Int))
 else
 none
 else
 none
 else
 bif decide ((v9.length + ([(v11.length : Int)] : List Int).length) * 8 ≤ 140737488355328) then
 (QL v13).bind fun y2 =>
 bif decide ((v10.length + ([(y2.1, y2.2)] : List (Int × (List Int))).length) * 32 ≤ 140737488355328) then
 (QX ([v11, v12] : List (List Int))).bind fun y3 =>
 Qf_l3 (IntKind.i64.wrap (v1 + 1)) y3 v5 v6 v7 v8 (v9 ++ ([(v11.length : Int)] : List Int)) (v10 ++ ([(y2.1, y2.2)] : List (Int × (List Int))))
 else
 none
 else
 none := (Q7 Q0 (Q1 (Qf.gok _)) _ _).trans (by kernel_rfl)
theorem Qf_l3.eq (v0 : Int) (v1 : List Int) (v2 : Int) (v3 : List Int) (v4 : List (Int × (List Int))) (v5 : Int) (v6 : List Int) (v7 : List (Int × (List Int))) : Qf_l3 v0 v1 v2 v3 v4 v5 v6 v7 =
 bif decide (v0 < 9) then
 Qf_l4 v0 v0 (v1.length : Int) 0 v2 v3 v4 v5 v6 v7 ([] : List Int) ([] : List Int) ([] : List Int) v1
 else
 some ((v5, v6, v7), true) := (Q7 Q0 (Q1 (Qf.gok _)) _ _).trans (by kernel_rfl)
theorem Qf_l4.eq (v0 v1 v2 v3 v4 : Int) (v5 : List Int) (v6 : List (Int × (List Int))) (v7 : Int) (v8 : List Int) (v9 : List (Int × (List Int))) (v10 v11 v12 v13 : List Int) : Qf_l4 v0 v1 v2 v3 v4 v5 v6 v7 v8 v9 v10 v11 v12 v13 =
 bif decide (v3 < v2) then
 (at? v13 v3).bind fun y1 =>
 v13[v3.toNat]?.bind fun y2 =>
 bif decide (IntKind.i64.wrap ((8 : Int) - v0) < 0) then
 none
 else
 bif decide ((v12.length + ([IntKind.i64.wrap (((BitVec.ofInt 64 (y2.fdiv (2 ^ (min (IntKind.i64.wrap ((8 : Int) - v0)).toNat 64)))) &&& (BitVec.ofInt 64 1)).toNat : Int)] : List Int).length) * 8 ≤ 140737488355328) then
 bif IntKind.i64.wrap (((BitVec.ofInt 64 (y2.fdiv (2 ^ (min (IntKind.i64.wrap ((8 : Int) - v0)).toNat 64)))) &&& (BitVec.ofInt 64 1)).toNat : Int) == 0 then
 bif decide ((v10.length + ([y2] : List Int).length) * 8 ≤ 140737488355328) then
 Qf_l4 v0 v1 v2 (IntKind.i64.wrap (v3 + 1)) v4 v5 v6 v7 v8 v9 (v10 ++ ([y2] : List Int)) v11 (v12 ++ ([IntKind.i64.wrap (((BitVec.ofInt 64 (y2.fdiv (2 ^ (min (IntKind.i64.wrap ((8 : Int) - v0)).toNat 64)))) &&& (BitVec.ofInt 64 1)).toNat : Int)] : List Int)) v13
 else
 none
 else
 bif decide ((v11.length + ([y2] : List Int).length) * 8 ≤ 140737488355328) then
 Qf_l4 v0 v1 v2 (IntKind.i64.wrap (v3 + 1)) v4 v5 v6 v7 v8 v9 v10 (v11 ++ ([y2] : List Int)) (v12 ++ ([IntKind.i64.wrap (((BitVec.ofInt 64 (y2.fdiv (2 ^ (min (IntKind.i64.wrap ((8 : Int) - v0)).toNat 64)))) &&& (BitVec.ofInt 64 1)).toNat : Int)] : List Int)) v13
 else
 none
 else
 none
 else
 bif decide ((v8.length + ([(v10.length : Int)] : List Int).length) * 8 ≤ 140737488355328) then
 (QL v12).bind fun y3 =>
 bif decide ((v9.length + ([(y3.1, y3.2)] : List (Int × (List Int))).length) * 32 ≤ 140737488355328) then
 (QX ([v10, v11] : List (List Int))).bind fun y4 =>
 Qf_l3 (IntKind.i64.wrap (v1 + 1)) y4 v4 v5 v6 v7 (v8 ++ ([(v10.length : Int)] : List Int)) (v9 ++ ([(y3.1, y3.2)] : List (Int × (List Int))))
 else
 none
 else
 none := (Q7 Q0 (Q1 (Qf.gok _)) _ _).trans (by kernel_rfl)
abbrev Q0w.s : Sg := ⟨[.lend], [vl 3], ⟨[vo 3], [none]⟩, Tryz.f157⟩
def Q0w.gs (δ : Type) : List (Nat × KC δ) := []
theorem Q0w.gok (δ : Type) : Q4 Tryz.prog tab (Q0w.gs δ) := .nil
def Q0w.c := cx Q0w.s [] [] [(3, [3, 9, 10, 11])] false (Q0w.gs _)
def Q0w (x0 : List Int) : Option (List Int) := fnW Q0w.s Q0w.c x0
theorem Q0w.fok : FkS Q0w.s 157 := ⟨Tryz.func157, by kernel_rfl, by kernel_rfl⟩
def Q0w.fn (x : Args tab Q0w.s.ar) : Option (ResT tab Q0w.s.rs) := Q0w x
abbrev Q0w.k {δ : Type} : KC δ := kS Q0w.s Q0w.fn
theorem Q0w.con {δ : Type} : Con Tryz.prog (KT tab) 157 (Q0w.k (δ := δ)) := Q5 (c := Q0w.c) mixed Q0 (Q1 (Q0w.gok _)) Q0w.fok rfl rfl fun _ => rfl
def Q0w_l0 (v0 : List Int) (v1 v2 : Int) (v3 : List Int) : Option (List Int) := lpW Q0w.s Q0w.c 0 (ud 10 [.undef, .undef, .undef, .sl 0 0, .undef, .undef, .undef, .undef, .undef, .vs false 3 v0, .int .i64 v1, .int .i64 v2]) [.row 0 true 3 v3] 1
theorem Q0w.eq (x0 : List Int) : Q0w x0 =
 bif decide ((0 : Int) ≤ (x0.length : Int)) && decide (((x0.length : Int).toNat) * 8 ≤ 140737488355328) then
 Q0w_l0 x0 (x0.length : Int) (0 : Int) (List.replicate ((x0.length : Int).toNat) (0 : Int))
 else
 none := by kernel_rfl
theorem Q0w_l0.eq (v0 : List Int) (v1 v2 : Int) (v3 : List Int) : Q0w_l0 v0 v1 v2 v3 =
 bif decide (v2 < v1) then
 (at? v0 v2).bind fun y1 =>
 (at? v3 y1).bind fun y2 =>
 v3[y1.toNat]?.bind fun y3 =>
 Q0w_l0 v0 v1 (IntKind.i64.wrap (v2 + 1)) (v3.set y1.toNat v2)
 else
 some v3 := (Q7 Q0 (Q1 (Q0w.gok _)) _ _).trans (by kernel_rfl)
abbrev Q0a.s : Sg := ⟨[.lend], [.one (.b (.b (.b (.b (.int .u64)))))], ⟨[vi], [none]⟩, Tryz.f206⟩
def Q0a.gs (δ : Type) : List (Nat × KC δ) := []
theorem Q0a.gok (δ : Type) : Q4 Tryz.prog tab (Q0a.gs δ) := .nil
def Q0a.c := cx Q0a.s [] [4, 7] [(4, [0, 2]), (7, [0, 2])] false (Q0a.gs _)
def Q0a (x0 : Int) : Option (Int) := fnW Q0a.s Q0a.c x0
theorem Q0a.fok : FkS Q0a.s 206 := ⟨Tryz.func206, by kernel_rfl, by kernel_rfl⟩
def Q0a.fn (x : Args tab Q0a.s.ar) : Option (ResT tab Q0a.s.rs) := Q0a x
abbrev Q0a.k {δ : Type} : KC δ := kS Q0a.s Q0a.fn
theorem Q0a.con {δ : Type} : Con Tryz.prog (KT tab) 206 (Q0a.k (δ := δ)) := Q5 (c := Q0a.c) mixed Q0 (Q1 (Q0a.gok _)) Q0a.fok rfl rfl fun _ => rfl
def Q0a_l0 (v0 v1 : Int) : Option (Int) := lpW Q0a.s Q0a.c 0 (ud 22 [.int .u64 v0, .undef, .int .i64 v1]) [] 0
def Q0a_l1 (v0 v1 : Int) : Option (Int) := lpW Q0a.s Q0a.c 1 (ud 22 [.int .u64 v0, .undef, .int .i64 v1]) [] 0
theorem Q0a.eq (x0 : Int) : Q0a x0 =
 bif decide (x0 ≥ 4294967296) then
 Q0a_l0 (x0.fdiv (2 ^ 32)) 32
 else
 Q0a_l0 x0 0 := by kernel_rfl
theorem Q0a_l0.eq (v0 v1 : Int) : Q0a_l0 v0 v1 =
 bif decide (v0 ≥ 65536) then
 Q0a_l1 (v0.fdiv (2 ^ 16)) (IntKind.i64.wrap (v1 + 16))
 else
 Q0a_l1 v0 v1 := (Q7 Q0 (Q1 (Q0a.gok _)) _ _).trans (by kernel_rfl)
theorem Q0a_l1.eq (v0 v1 : Int) : Q0a_l1 v0 v1 =
 bif decide (v0 ≥ 256) then
 (at? ((⟨(List.toArray ([0, 1, 2, 2, 3, 3, 3, 3, 4, 4, 4, 4, 4, 4, 4, 4, 5, 5, 5, 5, 5, 5, 5, 5, 5, 5, 5, 5, 5, 5, 5, 5, 6, 6, 6, 6, 6, 6, 6, 6, 6, 6, 6, 6, 6, 6, 6, 6, 6, 6, 6, 6, 6, 6, 6, 6, 6, 6, 6, 6, 6, 6, 6, 6, 7, 7, 7, 7, 7, 7, 7, 7, 7, 7, 7, 7, 7, 7, 7, 7, 7, 7, 7, 7, 7, 7, 7, 7, 7, 7, 7, 7, 7, 7, 7, 7, 7, 7, 7, 7, 7, 7, 7, 7, 7, 7, 7, 7, 7, 7, 7, 7, 7, 7, 7, 7, 7, 7, 7, 7, 7, 7, 7, 7, 7, 7, 7, 7] ++ [8, 8, 8, 8, 8, 8, 8, 8, 8, 8, 8, 8, 8, 8, 8, 8, 8, 8, 8, 8, 8, 8, 8, 8, 8, 8, 8, 8, 8, 8, 8, 8, 8, 8, 8, 8, 8, 8, 8, 8, 8, 8, 8, 8, 8, 8, 8, 8, 8, 8, 8, 8, 8, 8, 8, 8, 8, 8, 8, 8, 8, 8, 8, 8, 8, 8, 8, 8, 8, 8, 8, 8, 8, 8, 8, 8, 8, 8, 8, 8, 8, 8, 8, 8, 8, 8, 8, 8, 8, 8, 8, 8, 8, 8, 8, 8, 8, 8, 8, 8, 8, 8, 8, 8, 8, 8, 8, 8, 8, 8, 8, 8, 8, 8, 8, 8, 8, 8, 8, 8, 8, 8, 8, 8, 8, 8, 8, 8]))⟩ : ByteArray).data.toList) (IntKind.u8.wrap (v0.fdiv (2 ^ 8)))).bind fun y1 =>
 some (IntKind.i64.wrap ((IntKind.i64.wrap (v1 + 8)) + (IntKind.i64.wrap (y1.toNat : Int))))
 else
 (at? ((⟨(List.toArray ([0, 1, 2, 2, 3, 3, 3, 3, 4, 4, 4, 4, 4, 4, 4, 4, 5, 5, 5, 5, 5, 5, 5, 5, 5, 5, 5, 5, 5, 5, 5, 5, 6, 6, 6, 6, 6, 6, 6, 6, 6, 6, 6, 6, 6, 6, 6, 6, 6, 6, 6, 6, 6, 6, 6, 6, 6, 6, 6, 6, 6, 6, 6, 6, 7, 7, 7, 7, 7, 7, 7, 7, 7, 7, 7, 7, 7, 7, 7, 7, 7, 7, 7, 7, 7, 7, 7, 7, 7, 7, 7, 7, 7, 7, 7, 7, 7, 7, 7, 7, 7, 7, 7, 7, 7, 7, 7, 7, 7, 7, 7, 7, 7, 7, 7, 7, 7, 7, 7, 7, 7, 7, 7, 7, 7, 7, 7, 7] ++ [8, 8, 8, 8, 8, 8, 8, 8, 8, 8, 8, 8, 8, 8, 8, 8, 8, 8, 8, 8, 8, 8, 8, 8, 8, 8, 8, 8, 8, 8, 8, 8, 8, 8, 8, 8, 8, 8, 8, 8, 8, 8, 8, 8, 8, 8, 8, 8, 8, 8, 8, 8, 8, 8, 8, 8, 8, 8, 8, 8, 8, 8, 8, 8, 8, 8, 8, 8, 8, 8, 8, 8, 8, 8, 8, 8, 8, 8, 8, 8, 8, 8, 8, 8, 8, 8, 8, 8, 8, 8, 8, 8, 8, 8, 8, 8, 8, 8, 8, 8, 8, 8, 8, 8, 8, 8, 8, 8, 8, 8, 8, 8, 8, 8, 8, 8, 8, 8, 8, 8, 8, 8, 8, 8, 8, 8, 8, 8]))⟩ : ByteArray).data.toList) (IntKind.u8.wrap v0)).bind fun y2 =>
 some (IntKind.i64.wrap (v1 + (IntKind.i64.wrap (y2.toNat : Int)))) := (Q7 Q0 (Q1 (Q0a.gok _)) _ _).trans (by kernel_rfl)
abbrev Q1U.s : Sg := ⟨[.lend], [.one (.b (.b (.b (.b (.int .u64)))))], ⟨[vi], [none]⟩, Tryz.f189⟩
def Q1U.gs (δ : Type) : List (Nat × KC δ) := [(206, Q0a.k)]
theorem Q1U.gok (δ : Type) : Q4 Tryz.prog tab (Q1U.gs δ) := .cons Q0a.con .nil
def Q1U.c := cx Q1U.s [] [] [] false (Q1U.gs _)
def Q1U (x0 : Int) : Option (Int) := fnW Q1U.s Q1U.c x0
theorem Q1U.fok : FkS Q1U.s 189 := ⟨Tryz.func189, by kernel_rfl, by kernel_rfl⟩
def Q1U.fn (x : Args tab Q1U.s.ar) : Option (ResT tab Q1U.s.rs) := Q1U x
abbrev Q1U.k {δ : Type} : KC δ := kS Q1U.s Q1U.fn
theorem Q1U.con {δ : Type} : Con Tryz.prog (KT tab) 189 (Q1U.k (δ := δ)) := Q5 (c := Q1U.c) mixed Q0 (Q1 (Q1U.gok _)) Q1U.fok rfl rfl fun _ => rfl
theorem Q1U.eq (x0 : Int) : Q1U x0 =
 (Q0a x0).bind fun y1 =>
 some y1 := by kernel_rfl
abbrev Q1j.s : Sg := ⟨[.lend], [vi], ⟨[vi], [none]⟩, Tryz.f159⟩
def Q1j.gs (δ : Type) : List (Nat × KC δ) := [(189, Q1U.k)]
theorem Q1j.gok (δ : Type) : Q4 Tryz.prog tab (Q1j.gs δ) := .cons Q1U.con .nil
def Q1j.c := cx Q1j.s [] [] [] false (Q1j.gs _)
def Q1j (x0 : Int) : Option (Int) := fnW Q1j.s Q1j.c x0
theorem Q1j.fok : FkS Q1j.s 159 := ⟨Tryz.func159, by kernel_rfl, by kernel_rfl⟩
def Q1j.fn (x : Args tab Q1j.s.ar) : Option (ResT tab Q1j.s.rs) := Q1j x
abbrev Q1j.k {δ : Type} : KC δ := kS Q1j.s Q1j.fn
theorem Q1j.con {δ : Type} : Con Tryz.prog (KT tab) 159 (Q1j.k (δ := δ)) := Q5 (c := Q1j.c) mixed Q0 (Q1 (Q1j.gok _)) Q1j.fok rfl rfl fun _ => rfl
theorem Q1j.eq (x0 : Int) : Q1j x0 =
 bif decide (x0 < 0) then
 some (-1 : Int)
 else
 (Q1U (IntKind.u64.wrap x0)).bind fun y1 =>
 some y1 := by kernel_rfl
abbrev Q1V.s : Sg := ⟨[.lend, .lend], [vi, .one (.ptr false 0 [.b (.b (.b (.int .i64)))])], ⟨[vb], [none, none]⟩, Tryz.f187⟩
def Q1V.gs (δ : Type) : List (Nat × KC δ) := [(58, QB.k)]
theorem Q1V.gok (δ : Type) : Q4 Tryz.prog tab (Q1V.gs δ) := .cons QB.con .nil
def Q1V.c := cx Q1V.s [] [] [] false (Q1V.gs _)
def Q1V (x0 x1 : Int) : Option (Bool) := fnW Q1V.s Q1V.c (x0, x1)
theorem Q1V.fok : FkS Q1V.s 187 := ⟨Tryz.func187, by kernel_rfl, by kernel_rfl⟩
def Q1V.fn (x : Args tab Q1V.s.ar) : Option (ResT tab Q1V.s.rs) := Q1V x.1 x.2
abbrev Q1V.k {δ : Type} : KC δ := kS Q1V.s Q1V.fn
theorem Q1V.con {δ : Type} : Con Tryz.prog (KT tab) 187 (Q1V.k (δ := δ)) := Q5 (c := Q1V.c) mixed Q0 (Q1 (Q1V.gok _)) Q1V.fok rfl rfl fun _ => rfl
theorem Q1V.eq (x0 x1 : Int) : Q1V x0 x1 =
 bif decide (x1 < 0) then
 none
 else
 (QB x0 0 (IntKind.i64.wrap ((IntKind.i64.wrap ((1 : Int) * 2 ^ (min x1.toNat 64))) - 1))).bind fun y1 =>
 some y1 := by kernel_rfl
abbrev Q1k.s : Sg := ⟨[.lend, .lend], [vi, .one (.ptr false 0 [.fn 187 [.ptr false 0 [.b (.int .i64)]]])], ⟨[vb], [none, none]⟩, Tryz.f198⟩
def Q1k.gs (δ : Type) : List (Nat × KC δ) := [(187, Q1V.k)]
theorem Q1k.gok (δ : Type) : Q4 Tryz.prog tab (Q1k.gs δ) := .cons Q1V.con .nil
def Q1k.c := cx Q1k.s [] [] [] false (Q1k.gs _)
def Q1k (x0 x1 : Int) : Option (Bool) := fnW Q1k.s Q1k.c (x0, x1)
theorem Q1k.fok : FkS Q1k.s 198 := ⟨Tryz.func198, by kernel_rfl, by kernel_rfl⟩
def Q1k.fn (x : Args tab Q1k.s.ar) : Option (ResT tab Q1k.s.rs) := Q1k x.1 x.2
abbrev Q1k.k {δ : Type} : KC δ := kS Q1k.s Q1k.fn
theorem Q1k.con {δ : Type} : Con Tryz.prog (KT tab) 198 (Q1k.k (δ := δ)) := Q5 (c := Q1k.c) mixed Q0 (Q1 (Q1k.gok _)) Q1k.fok rfl rfl fun _ => rfl
theorem Q1k.eq (x0 x1 : Int) : Q1k x0 x1 =
 (Q1V x0 x1).bind fun y1 =>
 some (!y1) := by kernel_rfl
abbrev Q0N.s : Sg := ⟨[.lend, .lend], [vl 3, .one (.fn 198 [.ptr false 0 [.fn 187 [.ptr false 0 [.int .i64]]]])], ⟨[vi], [none, none]⟩, Tryz.f211⟩
def Q0N.gs (δ : Type) : List (Nat × KC δ) := [(198, Q1k.k)]
theorem Q0N.gok (δ : Type) : Q4 Tryz.prog tab (Q0N.gs δ) := .cons Q1k.con .nil
def Q0N.c := cx Q0N.s [] [] [(2, [0, 1, 7, 8])] false (Q0N.gs _)
def Q0N (x0 : List Int) (x1 : Int) : Option (Int) := fnW Q0N.s Q0N.c (x0, x1)
theorem Q0N.fok : FkS Q0N.s 211 := ⟨Tryz.func211, by kernel_rfl, by kernel_rfl⟩
def Q0N.fn (x : Args tab Q0N.s.ar) : Option (ResT tab Q0N.s.rs) := Q0N x.1 x.2
abbrev Q0N.k {δ : Type} : KC δ := kS Q0N.s Q0N.fn
theorem Q0N.con {δ : Type} : Con Tryz.prog (KT tab) 211 (Q0N.k (δ := δ)) := Q5 (c := Q0N.c) mixed Q0 (Q1 (Q0N.gok _)) Q0N.fok rfl rfl fun _ => rfl
def Q0N_l0 (v0 : List Int) (v1 v2 v3 : Int) : Option (Int) := lpW Q0N.s Q0N.c 0 (ud 10 [.vs false 3 v0, .fn 198 [.vp [.fn 187 [.ptr false 0 [.int .i64 v1]]]], .undef, .undef, .undef, .undef, .undef, .int .i64 v2, .int .i64 v3]) [] 0
theorem Q0N.eq (x0 : List Int) (x1 : Int) : Q0N x0 x1 =
 Q0N_l0 x0 x1 (x0.length : Int) 0 := by kernel_rfl
theorem Q0N_l0.eq (v0 : List Int) (v1 v2 v3 : Int) : Q0N_l0 v0 v1 v2 v3 =
 bif decide (v3 < v2) then
 (at? v0 v3).bind fun y1 =>
 (Q1k y1 v1).bind fun y2 =>
 bif y2 then
 some v3
 else
 Q0N_l0 v0 v1 v2 (IntKind.i64.wrap (v3 + 1))
 else
 some (-1 : Int) := (Q7 Q0 (Q1 (Q0N.gok _)) _ _).trans (by kernel_rfl)
abbrev Q1W.s : Sg := ⟨[.lend, .lend], [vl 3, .one (.fn 198 [.ptr false 78 [.fn 187 [.ptr false 0 [.int .i64]]]])], ⟨[vb], [none, none]⟩, Tryz.f197⟩
def Q1W.gs (δ : Type) : List (Nat × KC δ) := [(211, Q0N.k)]
theorem Q1W.gok (δ : Type) : Q4 Tryz.prog tab (Q1W.gs δ) := .cons Q0N.con .nil
def Q1W.c := cx Q1W.s [] [] [] false (Q1W.gs _)
def Q1W (x0 : List Int) (x1 : Int) : Option (Bool) := fnW Q1W.s Q1W.c (x0, x1)
theorem Q1W.fok : FkS Q1W.s 197 := ⟨Tryz.func197, by kernel_rfl, by kernel_rfl⟩
def Q1W.fn (x : Args tab Q1W.s.ar) : Option (ResT tab Q1W.s.rs) := Q1W x.1 x.2
abbrev Q1W.k {δ : Type} : KC δ := kS Q1W.s Q1W.fn
theorem Q1W.con {δ : Type} : Con Tryz.prog (KT tab) 197 (Q1W.k (δ := δ)) := Q5 (c := Q1W.c) mixed Q0 (Q1 (Q1W.gok _)) Q1W.fok rfl rfl fun _ => rfl
theorem Q1W.eq (x0 : List Int) (x1 : Int) : Q1W x0 x1 =
 (Q0N x0 x1).bind fun y1 =>
 some (decide (y1 ≥ 0)) := by kernel_rfl
abbrev Q1B.s : Sg := ⟨[.lend, .lend], [vl 3, .one (.fn 187 [.ptr false 3 [.b (.b (.int .i64))]])], ⟨[vb], [none, none]⟩, Tryz.f168⟩
def Q1B.gs (δ : Type) : List (Nat × KC δ) := [(197, Q1W.k)]
theorem Q1B.gok (δ : Type) : Q4 Tryz.prog tab (Q1B.gs δ) := .cons Q1W.con .nil
def Q1B.c := cx Q1B.s [] [] [] false (Q1B.gs _)
def Q1B (x0 : List Int) (x1 : Int) : Option (Bool) := fnW Q1B.s Q1B.c (x0, x1)
theorem Q1B.fok : FkS Q1B.s 168 := ⟨Tryz.func168, by kernel_rfl, by kernel_rfl⟩
def Q1B.fn (x : Args tab Q1B.s.ar) : Option (ResT tab Q1B.s.rs) := Q1B x.1 x.2
abbrev Q1B.k {δ : Type} : KC δ := kS Q1B.s Q1B.fn
theorem Q1B.con {δ : Type} : Con Tryz.prog (KT tab) 168 (Q1B.k (δ := δ)) := Q5 (c := Q1B.c) mixed Q0 (Q1 (Q1B.gok _)) Q1B.fok rfl rfl fun _ => rfl
theorem Q1B.eq (x0 : List Int) (x1 : Int) : Q1B x0 x1 =
 (Q1W x0 x1).bind fun y1 =>
 some (!y1) := by kernel_rfl
abbrev Q0x.s : Sg := ⟨[.lend, .lend], [vi, vi], ⟨[vo 3], [none, none]⟩, Tryz.f188⟩
def Q0x.gs (δ : Type) : List (Nat × KC δ) := []
theorem Q0x.gok (δ : Type) : Q4 Tryz.prog tab (Q0x.gs δ) := .nil
def Q0x.c := cx Q0x.s [] [] [(3, [0, 5, 6, 7])] false (Q0x.gs _)
def Q0x (x0 x1 : Int) : Option (List Int) := fnW Q0x.s Q0x.c (x0, x1)
theorem Q0x.fok : FkS Q0x.s 188 := ⟨Tryz.func188, by kernel_rfl, by kernel_rfl⟩
def Q0x.fn (x : Args tab Q0x.s.ar) : Option (ResT tab Q0x.s.rs) := Q0x x.1 x.2
abbrev Q0x.k {δ : Type} : KC δ := kS Q0x.s Q0x.fn
theorem Q0x.con {δ : Type} : Con Tryz.prog (KT tab) 188 (Q0x.k (δ := δ)) := Q5 (c := Q0x.c) mixed Q0 (Q1 (Q0x.gok _)) Q0x.fok rfl rfl fun _ => rfl
def Q0x_l0 (v0 v1 v2 : Int) (v3 : List Int) : Option (List Int) := lpW Q0x.s Q0x.c 0 (ud 10 [.int .i64 v0, .undef, .undef, .undef, .undef, .sl 0 0, .int .i64 v1, .int .i64 v2]) [.row 0 true 3 v3] 1
theorem Q0x.eq (x0 x1 : Int) : Q0x x0 x1 =
 Q0x_l0 x0 x1 0 ([] : List Int) := by kernel_rfl
theorem Q0x_l0.eq (v0 v1 v2 : Int) (v3 : List Int) : Q0x_l0 v0 v1 v2 v3 =
 bif decide (v2 < v1) then
 bif decide ((v3.length + ([IntKind.i64.wrap (((BitVec.ofInt 64 v0) &&& (BitVec.ofInt 64 1)).toNat : Int)] : List Int).length) * 8 ≤ 140737488355328) then
 Q0x_l0 (v0.fdiv (2 ^ 1)) v1 (IntKind.i64.wrap (v2 + 1)) (v3 ++ ([IntKind.i64.wrap (((BitVec.ofInt 64 v0) &&& (BitVec.ofInt 64 1)).toNat : Int)] : List Int))
 else
 none
 else
 some v3 := (Q7 Q0 (Q1 (Q0x.gok _)) _ _).trans (by kernel_rfl)
abbrev Q07.s : Sg := ⟨[.lend, .lend], [vl 3, vi], ⟨[ag2, vb], [none, none]⟩, Tryz.f158⟩
def Q07.gs (δ : Type) : List (Nat × KC δ) := [(58, QB.k), (113, QL.k), (168, Q1B.k), (188, Q0x.k)]
theorem Q07.gok (δ : Type) : Q4 Tryz.prog tab (Q07.gs δ) := .cons QB.con (.cons QL.con (.cons Q1B.con (.cons Q0x.con .nil)))
def Q07.c := cx Q07.s [] [3] [(3, [0, 3, 4]), (5, [0, 3, 4, 6, 31, 32, 33])] false (Q07.gs _)
def Q07 (x0 : List Int) (x1 : Int) : Option ((Int × Int × Int × (List Int)) × Bool) := fnW Q07.s Q07.c (x0, x1)
theorem Q07.fok : FkS Q07.s 158 := ⟨Tryz.func158, by kernel_rfl, by kernel_rfl⟩
def Q07.fn (x : Args tab Q07.s.ar) : Option (ResT tab Q07.s.rs) := Q07 x.1 x.2
abbrev Q07.k {δ : Type} : KC δ := kS Q07.s Q07.fn
theorem Q07.con {δ : Type} : Con Tryz.prog (KT tab) 158 (Q07.k (δ := δ)) := Q5 (c := Q07.c) mixed Q0 (Q1 (Q07.gok _)) Q07.fok rfl rfl fun _ => rfl
def Q07_l0 (v0 : List Int) (v1 v2 v3 v4 : Int) (v5 : List Int) : Option ((Int × Int × Int × (List Int)) × Bool) := lpW Q07.s Q07.c 0 (ud 44 [.vs false 3 v0, .undef, .undef, .ptr 0 0, .ptr 1 0]) [.box 3 [.int .i64 v1], .box 32 [.int .i64 v2, .int .i64 v3, .int .i64 v4, .sl 2 0], .row 0 true 90 v5] 3
def Q07_l1 (v0 v1 : List Int) (v2 v3 v4 v5 v6 v7 : Int) (v8 v9 : List Int) : Option ((Int × Int × Int × (List Int)) × Bool) := lpW Q07.s Q07.c 1 (ud 15 [.vs false 3 v0, .undef, .undef, .ptr 0 0, .ptr 1 0, .undef, .sl 3 0, .undef, .undef, .undef, .undef, .undef, .undef, .undef, .undef, .undef, .undef, .undef, .undef, .undef, .undef, .undef, .undef, .undef, .undef, .undef, .undef, .undef, .undef, .undef, .undef, .vs false 3 v1, .int .i64 v2, .int .i64 v3]) [.box 3 [.int .i64 v4], .box 32 [.int .i64 v5, .int .i64 v6, .int .i64 v7, .sl 2 0], .row 0 true 90 v8, .row 0 true 3 v9] 4
theorem Q07.eq (x0 : List Int) (x1 : Int) : Q07 x0 x1 =
 (QB x1 0 32).bind fun y1 =>
 bif !y1 then
 some ((0, 0, 0, ([] : List Int)), false)
 else
 bif decide ((x0.length : Int) > 5000) then
 some ((0, 0, 0, ([] : List Int)), false)
 else
 bif decide (IntKind.i64.wrap ((x0.length : Int) * x1) > 5000) then
 some ((0, 0, 0, ([] : List Int)), false)
 else
 (Q1B x0 x1).bind fun y2 =>
 bif !y2 then
 some ((0, 0, 0, ([] : List Int)), false)
 else
 Q07_l0 x0 x1 0 0 0 ([] : List Int) := by kernel_rfl
theorem Q07_l0.eq (v0 : List Int) (v1 v2 v3 v4 : Int) (v5 : List Int) : Q07_l0 v0 v1 v2 v3 v4 v5 =
 Q07_l1 v0 v0 (v0.length : Int) 0 v1 v2 v3 v4 v5 ([] : List Int) := (Q7 Q0 (Q1 (Q07.gok _)) _ _).trans (by kernel_rfl)
theorem Q07_l1.eq (v0 v1 : List Int) (v2 v3 v4 v5 v6 v7 : Int) (v8 v9 : List Int) : Q07_l1 v0 v1 v2 v3 v4 v5 v6 v7 v8 v9 =
 bif decide (v3 < v2) then
 (at? v1 v3).bind fun y1 =>
 (Q0x y1 v4).bind fun y2 =>
 bif decide ((v9.length + y2.length) * 8 ≤ 140737488355328) then
 Q07_l1 v0 v1 v2 (IntKind.i64.wrap (v3 + 1)) v4 v5 v6 v7 v8 (v9 ++ y2)
 else
 none
 else
 (QL v9).bind fun y3 =>
 some ((v4, (v0.length : Int), y3.1, y3.2), true) := (Q7 Q0 (Q1 (Q07.gok _)) _ _).trans (by kernel_rfl)
abbrev Qv.s : Sg := ⟨[.lend, .lend], [vl 5, vi], ⟨[ag3], [none, none]⟩, Tryz.f111⟩
def Qv.gs (δ : Type) : List (Nat × KC δ) := [(59, Qu.k), (113, QL.k), (116, Qf.k), (122, Q0e.k), (156, QK.k), (157, Q0w.k), (158, Q07.k), (159, Q1j.k)]
theorem Qv.gok (δ : Type) : Q4 Tryz.prog tab (Qv.gs δ) := .cons Qu.con (.cons QL.con (.cons Qf.con (.cons Q0e.con (.cons QK.con (.cons Q0w.con (.cons Q07.con (.cons Q1j.con .nil)))))))
def Qv.c := cx Qv.s [] [] [(7, [0, 1, 4, 5, 7, 8, 9, 10, 31, 32, 33]), (15, [0, 1, 4, 7, 8, 9, 10, 13, 14])] false (Qv.gs _)
def Qv (x0 : List Int) (x1 : Int) : Option (FmA) := fnW Qv.s Qv.c (x0, x1)
theorem Qv.fok : FkS Qv.s 111 := ⟨Tryz.func111, by kernel_rfl, by kernel_rfl⟩
def Qv.fn (x : Args tab Qv.s.ar) : Option (ResT tab Qv.s.rs) := Qv x.1 x.2
abbrev Qv.k {δ : Type} : KC δ := kS Qv.s Qv.fn
theorem Qv.con {δ : Type} : Con Tryz.prog (KT tab) 111 (Qv.k (δ := δ)) := Q5 (c := Qv.c) mixed Q0 (Q1 (Qv.gok _)) Qv.fok rfl rfl fun _ => rfl
def Qv_l0 (v0 : List Int) (v1 v2 v3 v4 v5 v6 v7 v8 v9 v10 v11 v12 v13 : Int) (v14 : List Int) (v15 : List (Int × (List Int))) (v16 v17 v18 v19 v20 : List Int) (v21 v22 v23 v24 v25 v26 v27 v28 v29 v30 : Int) (v31 : List Int) (v32 : List (Int × (List Int))) (v33 v34 v35 v36 v37 v38 v39 : List Int) : Option (FmA) := lpW Qv.s Qv.c 0 (ud 58 [.vs false 5 v0, .int .i64 v1, .undef, .undef, .ptr 0 0, .sl 7 0, .undef, .ptr 8 0, .sl 15 0, .sl 16 0, .sl 17 0, .undef, .undef, .undef, .undef, .undef, .undef, .undef, .undef, .undef, .undef, .undef, .undef, .undef, .undef, .undef, .undef, .undef, .undef, .undef, .undef, .sl 7 0, .int .i64 v2, .int .i64 v3]) [.box 34 [.int .i64 v4, .int .i64 v5, .int .i64 v6, .sl 1 0, .sl 2 0, .sl 3 0, .int .i64 v7, .sl 4 0, .int .i64 v8, .int .i64 v9, .int .i64 v10, .sl 5 0, .int .i64 v11, .int .i64 v12, .int .i64 v13, .sl 6 0], .row 0 true 3 v14, .row 0 true 30 v15, .row 0 true 3 v16, .row 0 true 90 v17, .row 0 true 90 v18, .row 0 true 90 v19, .row 0 true 3 v20, .box 34 [.int .i64 v21, .int .i64 v22, .int .i64 v23, .sl 9 0, .sl 10 0, .sl 11 0, .int .i64 v24, .sl 12 0, .int .i64 v25, .int .i64 v26, .int .i64 v27, .sl 13 0, .int .i64 v28, .int .i64 v29, .int .i64 v30, .sl 14 0], .row 0 true 3 v31, .row 0 true 30 v32, .row 0 true 3 v33, .row 0 true 90 v34, .row 0 true 90 v35, .row 0 true 90 v36, .row 0 true 3 v37, .row 0 true 3 v38, .row 0 true 3 v39] 18
def Qv_l1 (v0 : List Int) (v1 v2 v3 v4 v5 v6 v7 v8 v9 v10 v11 v12 : Int) (v13 : List Int) (v14 : List (Int × (List Int))) (v15 v16 v17 v18 : List Int) (v19 v20 v21 v22 v23 v24 v25 v26 v27 v28 : Int) (v29 : List Int) (v30 : List (Int × (List Int))) (v31 v32 v33 v34 v35 v36 v37 v38 : List Int) : Option (FmA) := lpW Qv.s Qv.c 1 (ud 77 [.vs false 5 v0, .int .i64 v1, .undef, .undef, .ptr 0 0, .undef, .undef, .ptr 7 0, .sl 14 0, .sl 15 0, .sl 16 0, .undef, .undef, .sl 17 0, .int .i64 v2]) [.box 34 [.int .i64 v3, .int .i64 v4, .int .i64 v5, .sl 1 0, .sl 2 0, .sl 3 0, .int .i64 v6, .sl 4 0, .int .i64 v7, .int .i64 v8, .int .i64 v9, .sl 5 0, .int .i64 v10, .int .i64 v11, .int .i64 v12, .sl 6 0], .row 0 true 3 v13, .row 0 true 30 v14, .row 0 true 3 v15, .row 0 true 90 v16, .row 0 true 90 v17, .row 0 true 90 v18, .box 34 [.int .i64 v19, .int .i64 v20, .int .i64 v21, .sl 8 0, .sl 9 0, .sl 10 0, .int .i64 v22, .sl 11 0, .int .i64 v23, .int .i64 v24, .int .i64 v25, .sl 12 0, .int .i64 v26, .int .i64 v27, .int .i64 v28, .sl 13 0], .row 0 true 3 v29, .row 0 true 30 v30, .row 0 true 3 v31, .row 0 true 90 v32, .row 0 true 90 v33, .row 0 true 90 v34, .row 0 true 3 v35, .row 0 true 3 v36, .row 0 true 3 v37, .row 0 true 3 v38] 18
theorem Qv.eq (x0 : List Int) (x1 : Int) : Qv x0 x1 =
 (Q0e x0).bind fun y1 =>
 (Qu x0).bind fun y2 =>
 (QK y2).bind fun y3 =>
 (Qf y2).bind fun y4 =>
 Qv_l0 x0 x1 (y1.length : Int) 0 0 0 0 0 0 0 0 0 0 0 ([] : List Int) ([] : List (Int × (List Int))) ([] : List Int) ([] : List Int) ([] : List Int) ([] : List Int) y1 (x0.length : Int) x1 y4.1.1 0 0 0 0 0 0 0 y4.1.2.1 y4.1.2.2 y3 ([] : List Int) ([] : List Int) ([] : List Int) ([] : List Int) ([] : List Int) ([] : List Int) := by kernel_rfl
theorem Qv_l0.eq (v0 : List Int) (v1 v2 v3 v4 v5 v6 v7 v8 v9 v10 v11 v12 v13 : Int) (v14 : List Int) (v15 : List (Int × (List Int))) (v16 v17 v18 v19 v20 : List Int) (v21 v22 v23 v24 v25 v26 v27 v28 v29 v30 : Int) (v31 : List Int) (v32 : List (Int × (List Int))) (v33 v34 v35 v36 v37 v38 v39 : List Int) : Qv_l0 v0 v1 v2 v3 v4 v5 v6 v7 v8 v9 v10 v11 v12 v13 v14 v15 v16 v17 v18 v19 v20 v21 v22 v23 v24 v25 v26 v27 v28 v29 v30 v31 v32 v33 v34 v35 v36 v37 v38 v39 =
 bif decide (v3 < v2) then
 (at? v20 v3).bind fun y1 =>
 v20[v3.toNat]?.bind fun y2 =>
 bif decide (v1 = 0) then
 none
 else
 bif y2.tmod v1 == 0 then
 bif decide ((v37.length + ([1] : List Int).length) * 8 ≤ 140737488355328) then
 bif decide (v1 = 0) then
 none
 else
 bif decide ((v38.length + ([IntKind.i64.wrap (y2.tdiv v1)] : List Int).length) * 8 ≤ 140737488355328) then
 Qv_l0 v0 v1 v2 (IntKind.i64.wrap (v3 + 1)) v4 v5 v6 v7 v8 v9 v10 v11 v12 v13 v14 v15 v16 v17 v18 v19 v20 v21 v22 v23 v24 v25 v26 v27 v28 v29 v30 v31 v32 v33 v34 v35 v36 (v37 ++ ([1] : List Int)) (v38 ++ ([IntKind.i64.wrap (y2.tdiv v1)] : List Int)) v39
 else
 none
 else
 none
 else
 bif decide ((v37.length + ([0] : List Int).length) * 8 ≤ 140737488355328) then
 Qv_l0 v0 v1 v2 (IntKind.i64.wrap (v3 + 1)) v4 v5 v6 v7 v8 v9 v10 v11 v12 v13 v14 v15 v16 v17 v18 v19 v20 v21 v22 v23 v24 v25 v26 v27 v28 v29 v30 v31 v32 v33 v34 v35 v36 (v37 ++ ([0] : List Int)) v38 v39
 else
 none
 else
 (Q0w v20).bind fun y3 =>
 Qv_l1 v0 v1 0 v4 v5 v6 v7 v8 v9 v10 v11 v12 v13 v14 v15 v16 v17 v18 v19 v21 v22 v23 v24 v25 v26 v27 v28 v29 v30 v31 v32 v33 v34 v35 v36 v37 v38 v39 y3 := (Q7 Q0 (Q1 (Qv.gok _)) _ _).trans (by kernel_rfl)
theorem Qv_l1.eq (v0 : List Int) (v1 v2 v3 v4 v5 v6 v7 v8 v9 v10 v11 v12 : Int) (v13 : List Int) (v14 : List (Int × (List Int))) (v15 v16 v17 v18 : List Int) (v19 v20 v21 v22 v23 v24 v25 v26 v27 v28 : Int) (v29 : List Int) (v30 : List (Int × (List Int))) (v31 v32 v33 v34 v35 v36 v37 v38 : List Int) : Qv_l1 v0 v1 v2 v3 v4 v5 v6 v7 v8 v9 v10 v11 v12 v13 v14 v15 v16 v17 v18 v19 v20 v21 v22 v23 v24 v25 v26 v27 v28 v29 v30 v31 v32 v33 v34 v35 v36 v37 v38 =
 bif decide (v2 ≤ (v0.length : Int)) then
 (at? v38 v2).bind fun y1 =>
 v38[v2.toNat]?.bind fun y2 =>
 bif decide ((v37.length + ([y2] : List Int).length) * 8 ≤ 140737488355328) then
 Qv_l1 v0 v1 (IntKind.i64.wrap (v2 + v1)) v3 v4 v5 v6 v7 v8 v9 v10 v11 v12 v13 v14 v15 v16 v17 v18 v19 v20 v21 v22 v23 v24 v25 v26 v27 v28 v29 v30 v31 v32 v33 v34 v35 v36 (v37 ++ ([y2] : List Int)) v38
 else
 none
 else
 (QL v35).bind fun y3 =>
 (Q1j (v0.length : Int)).bind fun y4 =>
 (Q07 v36 y4).bind fun y5 =>
 (Q1j (v0.length : Int)).bind fun y6 =>
 (Q07 v37 y6).bind fun y7 =>
 some (v19, v20, v21, v29, v30, v31, y3.1, y3.2, y5.1.1, y5.1.2.1, y5.1.2.2.1, y5.1.2.2.2, y7.1.1, y7.1.2.1, y7.1.2.2.1, y7.1.2.2.2) := (Q7 Q0 (Q1 (Qv.gok _)) _ _).trans (by kernel_rfl)
abbrev Q0G.s : Sg := ⟨[.lend, .lend], [vl 90, vl 90], ⟨[vb], [none, none]⟩, Tryz.f186⟩
def Q0G.gs (δ : Type) : List (Nat × KC δ) := []
theorem Q0G.gok (δ : Type) : Q4 Tryz.prog tab (Q0G.gs δ) := .nil
def Q0G.c := cx Q0G.s [] [] [(4, [0, 1, 12, 13])] false (Q0G.gs _)
def Q0G (x0 x1 : List Int) : Option (Bool) := fnW Q0G.s Q0G.c (x0, x1)
theorem Q0G.fok : FkS Q0G.s 186 := ⟨Tryz.func186, by kernel_rfl, by kernel_rfl⟩
def Q0G.fn (x : Args tab Q0G.s.ar) : Option (ResT tab Q0G.s.rs) := Q0G x.1 x.2
abbrev Q0G.k {δ : Type} : KC δ := kS Q0G.s Q0G.fn
theorem Q0G.con {δ : Type} : Con Tryz.prog (KT tab) 186 (Q0G.k (δ := δ)) := Q5 (c := Q0G.c) mixed Q0 (Q1 (Q0G.gok _)) Q0G.fok rfl rfl fun _ => rfl
def Q0G_l0 (v0 v1 : List Int) (v2 v3 : Int) : Option (Bool) := lpW Q0G.s Q0G.c 0 (ud 12 [.vs false 90 v0, .vs false 90 v1, .undef, .undef, .undef, .undef, .undef, .undef, .undef, .undef, .undef, .undef, .int .i64 v2, .int .i64 v3]) [] 0
theorem Q0G.eq (x0 x1 : List Int) : Q0G x0 x1 =
 bif (x0.length : Int) != (x1.length : Int) then
 some false
 else
 Q0G_l0 x0 x1 (x0.length : Int) 0 := by kernel_rfl
theorem Q0G_l0.eq (v0 v1 : List Int) (v2 v3 : Int) : Q0G_l0 v0 v1 v2 v3 =
 bif decide (v3 < v2) then
 (at? v0 v3).bind fun y1 =>
 (at? v1 v3).bind fun y2 =>
 bif y1 != y2 then
 some false
 else
 Q0G_l0 v0 v1 v2 (IntKind.i64.wrap (v3 + 1))
 else
 some true := (Q7 Q0 (Q1 (Q0G.gok _)) _ _).trans (by kernel_rfl)
abbrev Q0r.s : Sg := ⟨[.lend, .lend], [ag4, ag4], ⟨[vb], [none, none]⟩, Tryz.f154⟩
def Q0r.gs (δ : Type) : List (Nat × KC δ) := [(186, Q0G.k)]
theorem Q0r.gok (δ : Type) : Q4 Tryz.prog tab (Q0r.gs δ) := .cons Q0G.con .nil
def Q0r.c := cx Q0r.s [] [] [] false (Q0r.gs _)
def Q0r (x0 x1 : Int × (List Int)) : Option (Bool) := fnW Q0r.s Q0r.c (x0, x1)
theorem Q0r.fok : FkS Q0r.s 154 := ⟨Tryz.func154, by kernel_rfl, by kernel_rfl⟩
def Q0r.fn (x : Args tab Q0r.s.ar) : Option (ResT tab Q0r.s.rs) := Q0r x.1 x.2
abbrev Q0r.k {δ : Type} : KC δ := kS Q0r.s Q0r.fn
theorem Q0r.con {δ : Type} : Con Tryz.prog (KT tab) 154 (Q0r.k (δ := δ)) := Q5 (c := Q0r.c) mixed Q0 (Q1 (Q0r.gok _)) Q0r.fok rfl rfl fun _ => rfl
theorem Q0r.eq (x0 x1 : Int × (List Int)) : Q0r x0 x1 =
 bif x0.1 == x1.1 then
 (Q0G x0.2 x1.2).bind fun y1 =>
 some y1
 else
 some false := by kernel_rfl
abbrev Q0H.s : Sg := ⟨[.lend, .lend, .lend], [vl 30, vl 30, .one (.fn 154 [])], ⟨[vb], [none, none, none]⟩, Tryz.f185⟩
def Q0H.gs (δ : Type) : List (Nat × KC δ) := [(154, Q0r.k)]
theorem Q0H.gok (δ : Type) : Q4 Tryz.prog tab (Q0H.gs δ) := .cons Q0r.con .nil
def Q0H.c := cx Q0H.s [] [] [(4, [1, 2, 15, 16, 17])] false (Q0H.gs _)
def Q0H (x0 x1 : List (Int × (List Int))) (x2 : Unit) : Option (Bool) := fnW Q0H.s Q0H.c (x0, x1, x2)
theorem Q0H.fok : FkS Q0H.s 185 := ⟨Tryz.func185, by kernel_rfl, by kernel_rfl⟩
def Q0H.fn (x : Args tab Q0H.s.ar) : Option (ResT tab Q0H.s.rs) := Q0H x.1 x.2.1 x.2.2
abbrev Q0H.k {δ : Type} : KC δ := kS Q0H.s Q0H.fn
theorem Q0H.con {δ : Type} : Con Tryz.prog (KT tab) 185 (Q0H.k (δ := δ)) := Q5 (c := Q0H.c) mixed Q0 (Q1 (Q0H.gok _)) Q0H.fok rfl rfl fun _ => rfl
def Q0H_l0 (v0 v1 : List (Int × (List Int))) (v2 v3 : Int) : Option (Bool) := lpW Q0H.s Q0H.c 0 (ud 14 [.undef, .vs false 30 v0, .fn 154 [], .undef, .undef, .undef, .undef, .undef, .undef, .undef, .undef, .undef, .undef, .undef, .undef, .vs false 30 v1, .int .i64 v2, .int .i64 v3]) [] 0
theorem Q0H.eq (x0 x1 : List (Int × (List Int))) (x2 : Unit) : Q0H x0 x1 x2 =
 bif (x0.length : Int) != (x1.length : Int) then
 some false
 else
 Q0H_l0 x1 x0 (x0.length : Int) 0 := by kernel_rfl
theorem Q0H_l0.eq (v0 v1 : List (Int × (List Int))) (v2 v3 : Int) : Q0H_l0 v0 v1 v2 v3 =
 bif decide (v3 < v2) then
 (at? v1 v3).bind fun y1 =>
 (at? v0 v3).bind fun y2 =>
 (Q0r y1 y2).bind fun y3 =>
 bif !y3 then
 some false
 else
 Q0H_l0 v0 v1 v2 (IntKind.i64.wrap (v3 + 1))
 else
 some true := (Q7 Q0 (Q1 (Q0H.gok _)) _ _).trans (by kernel_rfl)
abbrev Q14.s : Sg := ⟨[.lend, .lend], [ag5, ag5], ⟨[vb], [none, none]⟩, Tryz.f153⟩
def Q14.gs (δ : Type) : List (Nat × KC δ) := [(152, Q06.k), (185, Q0H.k)]
theorem Q14.gok (δ : Type) : Q4 Tryz.prog tab (Q14.gs δ) := .cons Q06.con (.cons Q0H.con .nil)
def Q14.c := cx Q14.s [] [] [] false (Q14.gs _)
def Q14 (x0 x1 : Int × (List Int) × (List (Int × (List Int)))) : Option (Bool) := fnW Q14.s Q14.c (x0, x1)
theorem Q14.fok : FkS Q14.s 153 := ⟨Tryz.func153, by kernel_rfl, by kernel_rfl⟩
def Q14.fn (x : Args tab Q14.s.ar) : Option (ResT tab Q14.s.rs) := Q14 x.1 x.2
abbrev Q14.k {δ : Type} : KC δ := kS Q14.s Q14.fn
theorem Q14.con {δ : Type} : Con Tryz.prog (KT tab) 153 (Q14.k (δ := δ)) := Q5 (c := Q14.c) mixed Q0 (Q1 (Q14.gok _)) Q14.fok rfl rfl fun _ => rfl
theorem Q14.eq (x0 x1 : Int × (List Int) × (List (Int × (List Int)))) : Q14 x0 x1 =
 bif x0.1 == x1.1 then
 (Q06 x0.2.1 x1.2.1).bind fun y1 =>
 bif y1 then
 (Q0H x0.2.2 x1.2.2 ()).bind fun y2 =>
 some y2
 else
 some false
 else
 some false := by kernel_rfl
abbrev Q0V.s : Sg := ⟨[.lend, .lend], [ag6, ag6], ⟨[vb], [none, none]⟩, Tryz.f155⟩
def Q0V.gs (δ : Type) : List (Nat × KC δ) := [(154, Q0r.k)]
theorem Q0V.gok (δ : Type) : Q4 Tryz.prog tab (Q0V.gs δ) := .cons Q0r.con .nil
def Q0V.c := cx Q0V.s [] [] [] false (Q0V.gs _)
def Q0V (x0 x1 : Int × Int × Int × (List Int)) : Option (Bool) := fnW Q0V.s Q0V.c (x0, x1)
theorem Q0V.fok : FkS Q0V.s 155 := ⟨Tryz.func155, by kernel_rfl, by kernel_rfl⟩
def Q0V.fn (x : Args tab Q0V.s.ar) : Option (ResT tab Q0V.s.rs) := Q0V x.1 x.2
abbrev Q0V.k {δ : Type} : KC δ := kS Q0V.s Q0V.fn
theorem Q0V.con {δ : Type} : Con Tryz.prog (KT tab) 155 (Q0V.k (δ := δ)) := Q5 (c := Q0V.c) mixed Q0 (Q1 (Q0V.gok _)) Q0V.fok rfl rfl fun _ => rfl
theorem Q0V.eq (x0 x1 : Int × Int × Int × (List Int)) : Q0V x0 x1 =
 bif x0.1 == x1.1 then
 bif x0.2.1 == x1.2.1 then
 (Q0r x0.2.2 x1.2.2).bind fun y1 =>
 some y1
 else
 some false
 else
 some false := by kernel_rfl
abbrev Q1l.s : Sg := ⟨[.lend, .lend], [ag7, ag7], ⟨[vb], [none, none]⟩, Tryz.f110⟩
def Q1l.gs (δ : Type) : List (Nat × KC δ) := [(152, Q06.k), (153, Q14.k), (154, Q0r.k), (155, Q0V.k)]
theorem Q1l.gok (δ : Type) : Q4 Tryz.prog tab (Q1l.gs δ) := .cons Q06.con (.cons Q14.con (.cons Q0r.con (.cons Q0V.con .nil)))
def Q1l.c := cx Q1l.s [] [] [] false (Q1l.gs _)
def Q1l (x0 x1 : FmA) : Option (Bool) := fnW Q1l.s Q1l.c (x0, x1)
theorem Q1l.fok : FkS Q1l.s 110 := ⟨Tryz.func110, by kernel_rfl, by kernel_rfl⟩
def Q1l.fn (x : Args tab Q1l.s.ar) : Option (ResT tab Q1l.s.rs) := Q1l x.1 x.2
abbrev Q1l.k {δ : Type} : KC δ := kS Q1l.s Q1l.fn
theorem Q1l.con {δ : Type} : Con Tryz.prog (KT tab) 110 (Q1l.k (δ := δ)) := Q5 (c := Q1l.c) mixed Q0 (Q1 (Q1l.gok _)) Q1l.fok rfl rfl fun _ => rfl
theorem Q1l.eq (x0 x1 : FmA) : Q1l x0 x1 =
 bif x0.1 == x1.1 then
 bif x0.2.1 == x1.2.1 then
 (Q14 (x0.2.2.1, x0.2.2.2.1, x0.2.2.2.2.1) (x1.2.2.1, x1.2.2.2.1, x1.2.2.2.2.1)).bind fun y1 =>
 bif y1 then
 (Q06 x0.2.2.2.2.2.1 x1.2.2.2.2.2.1).bind fun y2 =>
 bif y2 then
 (Q0r (x0.2.2.2.2.2.2.1, x0.2.2.2.2.2.2.2.1) (x1.2.2.2.2.2.2.1, x1.2.2.2.2.2.2.2.1)).bind fun y3 =>
 bif y3 then
 (Q0V (x0.2.2.2.2.2.2.2.2.1, x0.2.2.2.2.2.2.2.2.2.1, x0.2.2.2.2.2.2.2.2.2.2.1, x0.2.2.2.2.2.2.2.2.2.2.2.1) (x1.2.2.2.2.2.2.2.2.1, x1.2.2.2.2.2.2.2.2.2.1, x1.2.2.2.2.2.2.2.2.2.2.1, x1.2.2.2.2.2.2.2.2.2.2.2.1)).bind fun y4 =>
 bif y4 then
 (Q0V x0.2.2.2.2.2.2.2.2.2.2.2.2 x1.2.2.2.2.2.2.2.2.2.2.2.2).bind fun y5 =>
 some y5
 else
 some false
 else
 some false
 else
 some false
 else
 some false
 else
 some false
 else
 some false := by kernel_rfl
abbrev QP.s : Sg := ⟨[.lend], [ag7], ⟨[vo 5, vb], [none]⟩, Tryz.f46⟩
def QP.gs (δ : Type) : List (Nat × KC δ) := [(48, Q0T.k), (108, Qd.k), (109, QO.k), (110, Q1l.k), (111, Qv.k)]
theorem QP.gok (δ : Type) : Q4 Tryz.prog tab (QP.gs δ) := .cons Q0T.con (.cons Qd.con (.cons QO.con (.cons Q1l.con (.cons Qv.con .nil))))
def QP.c := cx QP.s [] [] [] false (QP.gs _)
def QP (x0 : FmA) : Option ((List Int) × Bool) := fnW QP.s QP.c x0
theorem QP.fok : FkS QP.s 46 := ⟨Tryz.func46, by kernel_rfl, by kernel_rfl⟩
def QP.fn (x : Args tab QP.s.ar) : Option (ResT tab QP.s.rs) := QP x
abbrev QP.k {δ : Type} : KC δ := kS QP.s QP.fn
theorem QP.con {δ : Type} : Con Tryz.prog (KT tab) 46 (QP.k (δ := δ)) := Q5 (c := QP.c) mixed Q0 (Q1 (QP.gok _)) QP.fok rfl rfl fun _ => rfl
theorem QP.eq (x0 : FmA) : QP x0 =
 (Qd (x0.2.2.1, x0.2.2.2.1, x0.2.2.2.2.1)).bind fun y1 =>
 bif !y1.2 then
 some (([] : List Int), false)
 else
 (Q0T x0.2.1).bind fun y2 =>
 bif !y2 then
 some (([] : List Int), false)
 else
 (QO y1.1).bind fun y3 =>
 bif y3.2 then
 (Qv y3.1 x0.2.1).bind fun y4 =>
 (Q1l y4 x0).bind fun y5 =>
 some (y3.1, y5)
 else
 some (y3.1, false) := by kernel_rfl
abbrev Q0W.s : Sg := ⟨[.lend], [vl 5], ⟨[vb], [none]⟩, Tryz.f112⟩
def Q0W.gs (δ : Type) : List (Nat × KC δ) := []
theorem Q0W.gok (δ : Type) : Q4 Tryz.prog tab (Q0W.gs δ) := .nil
def Q0W.c := cx Q0W.s [] [] [] false (Q0W.gs _)
def Q0W (x0 : List Int) : Option (Bool) := fnW Q0W.s Q0W.c x0
theorem Q0W.fok : FkS Q0W.s 112 := ⟨Tryz.func112, by kernel_rfl, by kernel_rfl⟩
def Q0W.fn (x : Args tab Q0W.s.ar) : Option (ResT tab Q0W.s.rs) := Q0W x
abbrev Q0W.k {δ : Type} : KC δ := kS Q0W.s Q0W.fn
theorem Q0W.con {δ : Type} : Con Tryz.prog (KT tab) 112 (Q0W.k (δ := δ)) := Q5 (c := Q0W.c) mixed Q0 (Q1 (Q0W.gok _)) Q0W.fok rfl rfl fun _ => rfl
theorem Q0W.eq (x0 : List Int) : Q0W x0 =
 some (decide ((x0.length : Int) ≤ 300)) := by kernel_rfl
abbrev Q1C.s : Sg := ⟨[.lend, .lend, .lend], [vl 5, vl 5, vi], ⟨[vb], [none, none, none]⟩, Tryz.f47⟩
def Q1C.gs (δ : Type) : List (Nat × KC δ) := [(58, QB.k), (112, Q0W.k)]
theorem Q1C.gok (δ : Type) : Q4 Tryz.prog tab (Q1C.gs δ) := .cons QB.con (.cons Q0W.con .nil)
def Q1C.c := cx Q1C.s [] [] [] false (Q1C.gs _)
def Q1C (x0 x1 : List Int) (x2 : Int) : Option (Bool) := fnW Q1C.s Q1C.c (x0, x1, x2)
theorem Q1C.fok : FkS Q1C.s 47 := ⟨Tryz.func47, by kernel_rfl, by kernel_rfl⟩
def Q1C.fn (x : Args tab Q1C.s.ar) : Option (ResT tab Q1C.s.rs) := Q1C x.1 x.2.1 x.2.2
abbrev Q1C.k {δ : Type} : KC δ := kS Q1C.s Q1C.fn
theorem Q1C.con {δ : Type} : Con Tryz.prog (KT tab) 47 (Q1C.k (δ := δ)) := Q5 (c := Q1C.c) mixed Q0 (Q1 (Q1C.gok _)) Q1C.fok rfl rfl fun _ => rfl
theorem Q1C.eq (x0 x1 : List Int) (x2 : Int) : Q1C x0 x1 x2 =
 (Q0W x0).bind fun y1 =>
 bif y1 then
 (Q0W x1).bind fun y2 =>
 bif y2 then
 (QB x2 0 8).bind fun y3 =>
 some y3
 else
 some false
 else
 some false := by kernel_rfl
abbrev Q0s.s : Sg := ⟨[.lend, .lend], [vl 5, vi], ⟨[vl 9], [none, none]⟩, Tryz.f160⟩
def Q0s.gs (δ : Type) : List (Nat × KC δ) := [(122, Q0e.k)]
theorem Q0s.gok (δ : Type) : Q4 Tryz.prog tab (Q0s.gs δ) := .cons Q0e.con .nil
def Q0s.c := cx Q0s.s [] [] [(3, [0, 1, 5, 9, 10, 11])] false (Q0s.gs _)
def Q0s (x0 : List Int) (x1 : Int) : Option (List ByteArray) := fnW Q0s.s Q0s.c (x0, x1)
theorem Q0s.fok : FkS Q0s.s 160 := ⟨Tryz.func160, by kernel_rfl, by kernel_rfl⟩
def Q0s.fn (x : Args tab Q0s.s.ar) : Option (ResT tab Q0s.s.rs) := Q0s x.1 x.2
abbrev Q0s.k {δ : Type} : KC δ := kS Q0s.s Q0s.fn
theorem Q0s.con {δ : Type} : Con Tryz.prog (KT tab) 160 (Q0s.k (δ := δ)) := Q5 (c := Q0s.c) mixed Q0 (Q1 (Q0s.gok _)) Q0s.fok rfl rfl fun _ => rfl
def Q0s_l0 (v0 : List Int) (v1 v2 v3 : Int) (v4 : List ByteArray) (v5 : List Int) : Option (List ByteArray) := lpW Q0s.s Q0s.c 0 (ud 18 [.vs false 5 v0, .int .i64 v1, .undef, .undef, .undef, .sl 0 0, .undef, .undef, .undef, .sl 1 0, .int .i64 v2, .int .i64 v3]) [.row 0 true 9 v4, .row 0 true 3 v5] 2
theorem Q0s.eq (x0 : List Int) (x1 : Int) : Q0s x0 x1 =
 (Q0e x0).bind fun y1 =>
 Q0s_l0 x0 x1 (y1.length : Int) 0 ([] : List ByteArray) y1 := by kernel_rfl
theorem Q0s_l0.eq (v0 : List Int) (v1 v2 v3 : Int) (v4 : List ByteArray) (v5 : List Int) : Q0s_l0 v0 v1 v2 v3 v4 v5 =
 bif decide (v3 < v2) then
 (at? v5 v3).bind fun y1 =>
 v5[v3.toNat]?.bind fun y2 =>
 bif decide (0 ≤ (if (v0.length : Int) < IntKind.i64.wrap (y2 + v1) then (v0.length : Int) else IntKind.i64.wrap (y2 + v1)) ∧ (if (v0.length : Int) < IntKind.i64.wrap (y2 + v1) then (v0.length : Int) else IntKind.i64.wrap (y2 + v1)) ≤ ((v0.length : Nat) : Int)) then
 bif decide (0 ≤ y2 ∧ y2 ≤ (((if (v0.length : Int) < IntKind.i64.wrap (y2 + v1) then (v0.length : Int) else IntKind.i64.wrap (y2 + v1)).toNat : Nat) : Int)) then
 bif decide ((v4.length + ([Q2k (((v0.take ((if (v0.length : Int) < IntKind.i64.wrap (y2 + v1) then (v0.length : Int) else IntKind.i64.wrap (y2 + v1)).toNat)).drop y2.toNat).map fun x => x)] : List ByteArray).length) * 16 ≤ 140737488355328) then
 Q0s_l0 v0 v1 v2 (IntKind.i64.wrap (v3 + 1)) (v4 ++ ([Q2k (((v0.take ((if (v0.length : Int) < IntKind.i64.wrap (y2 + v1) then (v0.length : Int) else IntKind.i64.wrap (y2 + v1)).toNat)).drop y2.toNat).map fun x => x)] : List ByteArray)) v5
 else
 none
 else
 none
 else
 none
 else
 some v4 := (Q7 Q0 (Q1 (Q0s.gok _)) _ _).trans (by kernel_rfl)
def Q2n.ms : List Mode := [.give, .lend]
def Q2n.as : List VSh := [.one (.b (.b (.b (.b (.sl true true 9))))), .one (.b (.b (.b (.b (.int .i64)))))]
def Q2n.rs : RSh := ⟨[.one (.b (.b (.b (.b (.sl true true 9)))))], [none, none]⟩
def Q2n (x0 : List ByteArray) (x1 : Int) : Option (List ByteArray) := growF 16 (x0, x1)
def Q2n.fn : Args tab Q2n.as → Option (ResT tab Q2n.rs) := fun x => Q2n x.1 x.2
abbrev Q2n.k {δ : Type} : KC δ := Q26 tab Q2n.ms Q2n.as Q2n.rs Q2n.fn
theorem Q2n.con {δ : Type} : Con Tryz.prog (KT tab) 193 (Q2n.k (δ := δ)) := con_grow2 Tryz.laysGrow193 rfl rfl (ty := tyOf tys) Q0 (e := 9) rfl (by decide) rfl rfl
end
end Go.Ev.W
