/- What functions of the program come to. -/
import Derived.Test.YtmdkpcneakoagaaGreatPhT
import Derived.Test.YtmdkpcneakoagaaGreatEvCmp
import Derived.Test.YtmdkpcneakoagaaGreatEvGrow
import Derived.Test.YtmdkpcneakoagaaGreatEvSort
import Derived.Test.YtmdkpcneakoagaaGreatEvTable
import Derived.Test.YtmdkpcneakoagaaGreatPhI183
import Derived.Test.YtmdkpcneakoagaaGreatPhL
namespace Go.Ev.W
open Go.Ev Go.Proofs
noncomputable section
set_option maxRecDepth 100000
set_option linter.unusedVariables false
abbrev Q0F.s : Sg := ⟨[.lend], [vl 5], ⟨[vb], [none]⟩, Tryz.f85⟩
def Q0F.gs (δ : Type) : List (Nat × KC δ) := []
theorem Q0F.gok (δ : Type) : Q4 Tryz.prog tab (Q0F.gs δ) := .nil
def Q0F.c := cx Q0F.s [] [] [] false (Q0F.gs _)
def Q0F (x0 : List Int) : Option (Bool) := fnW Q0F.s Q0F.c x0
theorem Q0F.fok : FkS Q0F.s 85 := ⟨Tryz.func85, by kernel_rfl, by kernel_rfl⟩
def Q0F.fn (x : Args tab Q0F.s.ar) : Option (ResT tab Q0F.s.rs) := Q0F x
abbrev Q0F.k {δ : Type} : KC δ := kS Q0F.s Q0F.fn
theorem Q0F.con {δ : Type} : Con Tryz.prog (KT tab) 85 (Q0F.k (δ := δ)) := Q5 (c := Q0F.c) mixed Q0 (Q1 (Q0F.gok _)) Q0F.fok rfl rfl fun _ => rfl
theorem Q0F.eq (x0 : List Int) : Q0F x0 =
 some (decide ((x0.length : Int) ≤ 300)) := by kernel_rfl
abbrev Q0J.s : Sg := ⟨[.lend], [vi], ⟨[vb], [none]⟩, Tryz.f43⟩
def Q0J.gs (δ : Type) : List (Nat × KC δ) := []
theorem Q0J.gok (δ : Type) : Q4 Tryz.prog tab (Q0J.gs δ) := .nil
def Q0J.c := cx Q0J.s [] [] [] false (Q0J.gs _)
def Q0J (x0 : Int) : Option (Bool) := fnW Q0J.s Q0J.c x0
theorem Q0J.fok : FkS Q0J.s 43 := ⟨Tryz.func43, by kernel_rfl, by kernel_rfl⟩
def Q0J.fn (x : Args tab Q0J.s.ar) : Option (ResT tab Q0J.s.rs) := Q0J x
abbrev Q0J.k {δ : Type} : KC δ := kS Q0J.s Q0J.fn
theorem Q0J.con {δ : Type} : Con Tryz.prog (KT tab) 43 (Q0J.k (δ := δ)) := Q5 (c := Q0J.c) mixed Q0 (Q1 (Q0J.gok _)) Q0J.fok rfl rfl fun _ => rfl
theorem Q0J.eq (x0 : Int) : Q0J x0 =
 bif decide (x0 ≥ 1) then
 some (decide (x0 ≤ 64))
 else
 some false := by kernel_rfl
abbrev Qz.s : Sg := ⟨[.lend, .lend], [vl 5, vl 5], ⟨[vi], [none, none]⟩, Tryz.f136⟩
def Qz.gs (δ : Type) : List (Nat × KC δ) := []
theorem Qz.gok (δ : Type) : Q4 Tryz.prog tab (Qz.gs δ) := .nil
def Qz.c := cx Qz.s [] [4] [(2, [0, 1, 5]), (4, [0, 1, 5])] false (Qz.gs _)
def Qz (x0 x1 : List Int) : Option (Int) := fnW Qz.s Qz.c (x0, x1)
theorem Qz.fok : FkS Qz.s 136 := ⟨Tryz.func136, by kernel_rfl, by kernel_rfl⟩
def Qz.fn (x : Args tab Qz.s.ar) : Option (ResT tab Qz.s.rs) := Qz x.1 x.2
abbrev Qz.k {δ : Type} : KC δ := kS Qz.s Qz.fn
theorem Qz.con {δ : Type} : Con Tryz.prog (KT tab) 136 (Qz.k (δ := δ)) := Q5 (c := Qz.c) mixed Q0 (Q1 (Qz.gok _)) Qz.fok rfl rfl fun _ => rfl
def Qz_l0 (v0 v1 : List Int) (v2 : Int) : Option (Int) := lpW Qz.s Qz.c 0 (ud 40 [.vs false 5 v0, .vs false 5 v1, .undef, .undef, .undef, .int .i64 v2]) [] 0
def Qz_l1 (v0 v1 : List Int) (v2 : Int) : Option (Int) := lpW Qz.s Qz.c 1 (ud 40 [.vs false 5 v0, .vs false 5 v1, .undef, .undef, .undef, .int .i64 v2]) [] 0
theorem Qz.eq (x0 x1 : List Int) : Qz x0 x1 =
 Qz_l0 x0 x1 0 := by kernel_rfl
theorem Qz_l0.eq (v0 v1 : List Int) (v2 : Int) : Qz_l0 v0 v1 v2 =
 bif decide (v2 < (v0.length : Int)) then
 bif decide (v2 < (v1.length : Int)) then
 Qz_l1 v0 v1 v2
 else
 bif decide ((v0.length : Int) < (v1.length : Int)) then
 some (-1 : Int)
 else
 bif decide ((v0.length : Int) > (v1.length : Int)) then
 some 1
 else
 some 0
 else
 bif decide ((v0.length : Int) < (v1.length : Int)) then
 some (-1 : Int)
 else
 bif decide ((v0.length : Int) > (v1.length : Int)) then
 some 1
 else
 some 0 := (Q7 Q0 (Q1 (Qz.gok _)) _ _).trans (by kernel_rfl)
theorem Qz_l1.eq (v0 v1 : List Int) (v2 : Int) : Qz_l1 v0 v1 v2 =
 (at? v0 v2).bind fun y1 =>
 (at? v1 v2).bind fun y2 =>
 bif decide (y1 < y2) then
 some (-1 : Int)
 else
 (at? v0 v2).bind fun y3 =>
 (at? v1 v2).bind fun y4 =>
 bif decide (y3 > y4) then
 some 1
 else
 Qz_l0 v0 v1 (IntKind.i64.wrap (v2 + 1)) := (Q7 Q0 (Q1 (Qz.gok _)) _ _).trans (by kernel_rfl)
abbrev Qu.s : Sg := ⟨[.lend], [vl 5], ⟨[vo 3], [none]⟩, Tryz.f86⟩
def Qu.gs (δ : Type) : List (Nat × KC δ) := [(85, Q0F.k), (136, Qz.k)]
theorem Qu.gok (δ : Type) : Q4 Tryz.prog tab (Qu.gs δ) := .cons Q0F.con (.cons Qz.con .nil)
def Qu.c := cx Qu.s [] [] [(5, [0, 3, 4]), (9, [0, 3, 4, 5, 6])] false (Qu.gs _)
def Qu (x0 : List Int) : Option (List Int) := fnW Qu.s Qu.c x0
theorem Qu.fok : FkS Qu.s 86 := ⟨Tryz.func86, by kernel_rfl, by kernel_rfl⟩
def Qu.fn (x : Args tab Qu.s.ar) : Option (ResT tab Qu.s.rs) := Qu x
abbrev Qu.k {δ : Type} : KC δ := kS Qu.s Qu.fn
theorem Qu.con {δ : Type} : Con Tryz.prog (KT tab) 86 (Qu.k (δ := δ)) := Q5 (c := Qu.c) mixed Q0 (Q1 (Qu.gok _)) Qu.fok rfl rfl fun _ => rfl
def Qu_l0 (v0 : List Int) (v1 : Int) (v2 : List Int) : Option (List Int) := lpW Qu.s Qu.c 0 (ud 51 [.vs false 5 v0, .undef, .undef, .sl 0 0, .int .i64 v1]) [.row 0 true 3 v2] 1
def Qu_l1 (v0 : List Int) (v1 v2 v3 : Int) (v4 : List Int) : Option (List Int) := lpW Qu.s Qu.c 1 (ud 49 [.vs false 5 v0, .undef, .undef, .sl 0 0, .int .i64 v1, .int .i64 v2, .int .i64 v3]) [.row 0 true 3 v4] 1
theorem Qu.eq (x0 : List Int) : Qu x0 =
 (Q0F x0).bind fun y1 =>
 bif !y1 then
 some ([] : List Int)
 else
 Qu_l0 x0 (x0.length : Int) ([] : List Int) := by kernel_rfl
theorem Qu_l0.eq (v0 : List Int) (v1 : Int) (v2 : List Int) : Qu_l0 v0 v1 v2 =
 bif decide (v1 ≥ 0) then
 Qu_l1 v0 v1 0 (v2.length : Int) v2
 else
 some v2 := (Q7 Q0 (Q1 (Qu.gok _)) _ _).trans (by kernel_rfl)
theorem Qu_l1.eq (v0 : List Int) (v1 v2 v3 : Int) (v4 : List Int) : Qu_l1 v0 v1 v2 v3 v4 =
 bif decide (v2 < v3) then
 (at? v4 (IntKind.i64.wrap ((IntKind.i64.wrap (v2 + v3)).tdiv 2))).bind fun y1 =>
 v4[(IntKind.i64.wrap ((IntKind.i64.wrap (v2 + v3)).tdiv 2)).toNat]?.bind fun y2 =>
 bif decide (0 ≤ y2 ∧ y2 ≤ ((v0.length : Nat) : Int)) then
 bif decide (0 ≤ v1 ∧ v1 ≤ ((v0.length : Nat) : Int)) then
 (Qz ((v0.take v0.length).drop y2.toNat) ((v0.take v0.length).drop v1.toNat)).bind fun y3 =>
 bif decide (y3 < 0) then
 Qu_l1 v0 v1 (IntKind.i64.wrap ((IntKind.i64.wrap ((IntKind.i64.wrap (v2 + v3)).tdiv 2)) + 1)) v3 v4
 else
 Qu_l1 v0 v1 v2 (IntKind.i64.wrap ((IntKind.i64.wrap (v2 + v3)).tdiv 2)) v4
 else
 none
 else
 none
 else
 bif decide (0 ≤ v2 ∧ v2 ≤ ((v4.length : Nat) : Int)) then
 bif decide ((([v1] : List Int).length + ((v4.drop v2.toNat).take (v4.length - v2.toNat)).length) * 8 ≤ 140737488355328) then
 bif decide (0 ≤ v2 ∧ v2 ≤ ((v4.length : Nat) : Int)) then
 bif decide ((([] : List Int).length + ((v4.drop 0).take (v2.toNat - 0)).length) * 8 ≤ 140737488355328) then
 bif decide (((([] : List Int) ++ ((v4.drop 0).take (v2.toNat - 0))).length + (([v1] : List Int) ++ ((v4.drop v2.toNat).take (v4.length - v2.toNat))).length) * 8 ≤ 140737488355328) then
 Qu_l0 v0 (IntKind.i64.wrap (v1 - 1)) ((([] : List Int) ++ ((v4.drop 0).take (v2.toNat - 0))) ++ (([v1] : List Int) ++ ((v4.drop v2.toNat).take (v4.length - v2.toNat))))
 else
 none
 else
 none
 else
 none
 else
 none
 else
 none := (Q7 Q0 (Q1 (Qu.gok _)) _ _).trans (by kernel_rfl)
abbrev QE.s : Sg := ⟨[.lend], [vl 3], ⟨[vo 3, vb], [none]⟩, Tryz.f87⟩
def QE.gs (δ : Type) : List (Nat × KC δ) := []
theorem QE.gok (δ : Type) : Q4 Tryz.prog tab (QE.gs δ) := .nil
def QE.c := cx QE.s [] [] [(5, [0, 4, 5]), (9, [0, 4, 5, 6, 7])] false (QE.gs _)
def QE (x0 : List Int) : Option ((List Int) × Bool) := fnW QE.s QE.c x0
theorem QE.fok : FkS QE.s 87 := ⟨Tryz.func87, by kernel_rfl, by kernel_rfl⟩
def QE.fn (x : Args tab QE.s.ar) : Option (ResT tab QE.s.rs) := QE x
abbrev QE.k {δ : Type} : KC δ := kS QE.s QE.fn
theorem QE.con {δ : Type} : Con Tryz.prog (KT tab) 87 (QE.k (δ := δ)) := Q5 (c := QE.c) mixed Q0 (Q1 (QE.gok _)) QE.fok rfl rfl fun _ => rfl
def QE_l0 (v0 : List Int) (v1 : Int) (v2 : List Int) : Option ((List Int) × Bool) := lpW QE.s QE.c 0 (ud 32 [.vs false 3 v0, .undef, .undef, .undef, .sl 0 0, .int .i64 v1]) [.row 0 true 3 v2] 1
def QE_l1 (v0 : List Int) (v1 v2 v3 : Int) (v4 : List Int) : Option ((List Int) × Bool) := lpW QE.s QE.c 1 (ud 30 [.vs false 3 v0, .undef, .undef, .undef, .sl 0 0, .int .i64 v1, .int .i64 v2, .int .i64 v3]) [.row 0 true 3 v4] 1
theorem QE.eq (x0 : List Int) : QE x0 =
 bif decide ((x0.length : Int) > 301) then
 some (([] : List Int), false)
 else
 QE_l0 x0 0 ([] : List Int) := by kernel_rfl
theorem QE_l0.eq (v0 : List Int) (v1 : Int) (v2 : List Int) : QE_l0 v0 v1 v2 =
 bif decide (v1 < (v0.length : Int)) then
 QE_l1 v0 v1 (-1 : Int) 0 v2
 else
 some (v2, true) := (Q7 Q0 (Q1 (QE.gok _)) _ _).trans (by kernel_rfl)
theorem QE_l1.eq (v0 : List Int) (v1 v2 v3 : Int) (v4 : List Int) : QE_l1 v0 v1 v2 v3 v4 =
 bif decide (v3 < (v0.length : Int)) then
 (at? v0 v3).bind fun y1 =>
 bif y1 == v1 then
 QE_l1 v0 v1 v3 (IntKind.i64.wrap (v3 + 1)) v4
 else
 QE_l1 v0 v1 v2 (IntKind.i64.wrap (v3 + 1)) v4
 else
 bif decide (v2 < 0) then
 some (([] : List Int), false)
 else
 bif decide ((v4.length + ([v2] : List Int).length) * 8 ≤ 140737488355328) then
 QE_l0 v0 (IntKind.i64.wrap (v1 + 1)) (v4 ++ ([v2] : List Int))
 else
 none := (Q7 Q0 (Q1 (QE.gok _)) _ _).trans (by kernel_rfl)
abbrev Qx.s : Sg := ⟨[.lend], [vl 5], ⟨[vo 3], [none]⟩, Tryz.f88⟩
def Qx.gs (δ : Type) : List (Nat × KC δ) := [(86, Qu.k)]
theorem Qx.gok (δ : Type) : Q4 Tryz.prog tab (Qx.gs δ) := .cons Qu.con .nil
def Qx.c := cx Qx.s [] [] [(4, [0, 3, 4, 5])] false (Qx.gs _)
def Qx (x0 : List Int) : Option (List Int) := fnW Qx.s Qx.c x0
theorem Qx.fok : FkS Qx.s 88 := ⟨Tryz.func88, by kernel_rfl, by kernel_rfl⟩
def Qx.fn (x : Args tab Qx.s.ar) : Option (ResT tab Qx.s.rs) := Qx x
abbrev Qx.k {δ : Type} : KC δ := kS Qx.s Qx.fn
theorem Qx.con {δ : Type} : Con Tryz.prog (KT tab) 88 (Qx.k (δ := δ)) := Q5 (c := Qx.c) mixed Q0 (Q1 (Qx.gok _)) Qx.fok rfl rfl fun _ => rfl
def Qx_l0 (v0 : List Int) (v1 : Int) (v2 v3 : List Int) : Option (List Int) := lpW Qx.s Qx.c 0 (ud 31 [.vs false 5 v0, .undef, .undef, .sl 0 0, .sl 1 0, .int .i64 v1]) [.row 0 true 3 v2, .row 0 true 3 v3] 2
theorem Qx.eq (x0 : List Int) : Qx x0 =
 (Qu x0).bind fun y1 =>
 Qx_l0 x0 0 y1 ([] : List Int) := by kernel_rfl
theorem Qx_l0.eq (v0 : List Int) (v1 : Int) (v2 v3 : List Int) : Qx_l0 v0 v1 v2 v3 =
 bif decide (v1 < (v2.length : Int)) then
 (at? v2 v1).bind fun y1 =>
 v2[v1.toNat]?.bind fun y2 =>
 bif y2 == 0 then
 bif decide ((v3.length + ([0] : List Int).length) * 8 ≤ 140737488355328) then
 Qx_l0 v0 (IntKind.i64.wrap (v1 + 1)) v2 (v3 ++ ([0] : List Int))
 else
 none
 else
 (at? v2 v1).bind fun y3 =>
 v2[v1.toNat]?.bind fun y4 =>
 (at? v0 (IntKind.i64.wrap (y4 - 1))).bind fun y5 =>
 bif decide ((v3.length + ([IntKind.i64.wrap ((IntKind.i64.wrap y5) + 1)] : List Int).length) * 8 ≤ 140737488355328) then
 Qx_l0 v0 (IntKind.i64.wrap (v1 + 1)) v2 (v3 ++ ([IntKind.i64.wrap ((IntKind.i64.wrap y5) + 1)] : List Int))
 else
 none
 else
 some v3 := (Q7 Q0 (Q1 (Qx.gok _)) _ _).trans (by kernel_rfl)
abbrev Q04.s : Sg := ⟨[.lend], [vl 3], ⟨[vb], [none]⟩, Tryz.f137⟩
def Q04.gs (δ : Type) : List (Nat × KC δ) := []
theorem Q04.gok (δ : Type) : Q4 Tryz.prog tab (Q04.gs δ) := .nil
def Q04.c := cx Q04.s [] [] [(4, [0, 3])] false (Q04.gs _)
def Q04 (x0 : List Int) : Option (Bool) := fnW Q04.s Q04.c x0
theorem Q04.fok : FkS Q04.s 137 := ⟨Tryz.func137, by kernel_rfl, by kernel_rfl⟩
def Q04.fn (x : Args tab Q04.s.ar) : Option (ResT tab Q04.s.rs) := Q04 x
abbrev Q04.k {δ : Type} : KC δ := kS Q04.s Q04.fn
theorem Q04.con {δ : Type} : Con Tryz.prog (KT tab) 137 (Q04.k (δ := δ)) := Q5 (c := Q04.c) mixed Q0 (Q1 (Q04.gok _)) Q04.fok rfl rfl fun _ => rfl
def Q04_l0 (v0 : List Int) (v1 : Int) : Option (Bool) := lpW Q04.s Q04.c 0 (ud 21 [.vs false 3 v0, .undef, .undef, .int .i64 v1]) [] 0
theorem Q04.eq (x0 : List Int) : Q04 x0 =
 bif decide ((x0.length : Int) > 301) then
 some false
 else
 Q04_l0 x0 0 := by kernel_rfl
theorem Q04_l0.eq (v0 : List Int) (v1 : Int) : Q04_l0 v0 v1 =
 bif decide (v1 < (v0.length : Int)) then
 (at? v0 v1).bind fun y1 =>
 bif decide (y1 < 0) then
 some false
 else
 (at? v0 v1).bind fun y2 =>
 bif decide (y2 > 256) then
 some false
 else
 Q04_l0 v0 (IntKind.i64.wrap (v1 + 1))
 else
 some true := (Q7 Q0 (Q1 (Q04.gok _)) _ _).trans (by kernel_rfl)
abbrev QF.s : Sg := ⟨[.lend], [vl 3], ⟨[vo 3], [none]⟩, Tryz.f89⟩
def QF.gs (δ : Type) : List (Nat × KC δ) := [(137, Q04.k)]
theorem QF.gok (δ : Type) : Q4 Tryz.prog tab (QF.gs δ) := .cons Q04.con .nil
def QF.c := cx QF.s [] [] [(5, [0, 3, 4]), (9, [0, 3, 4, 5, 6])] false (QF.gs _)
def QF (x0 : List Int) : Option (List Int) := fnW QF.s QF.c x0
theorem QF.fok : FkS QF.s 89 := ⟨Tryz.func89, by kernel_rfl, by kernel_rfl⟩
def QF.fn (x : Args tab QF.s.ar) : Option (ResT tab QF.s.rs) := QF x
abbrev QF.k {δ : Type} : KC δ := kS QF.s QF.fn
theorem QF.con {δ : Type} : Con Tryz.prog (KT tab) 89 (QF.k (δ := δ)) := Q5 (c := QF.c) mixed Q0 (Q1 (QF.gok _)) QF.fok rfl rfl fun _ => rfl
def QF_l0 (v0 : List Int) (v1 : Int) (v2 : List Int) : Option (List Int) := lpW QF.s QF.c 0 (ud 29 [.vs false 3 v0, .undef, .undef, .sl 0 0, .int .i64 v1]) [.row 0 true 3 v2] 1
def QF_l1 (v0 : List Int) (v1 v2 v3 : Int) (v4 : List Int) : Option (List Int) := lpW QF.s QF.c 1 (ud 27 [.vs false 3 v0, .undef, .undef, .sl 0 0, .int .i64 v1, .int .i64 v2, .int .i64 v3]) [.row 0 true 3 v4] 1
theorem QF.eq (x0 : List Int) : QF x0 =
 (Q04 x0).bind fun y1 =>
 bif !y1 then
 some ([] : List Int)
 else
 QF_l0 x0 0 ([] : List Int) := by kernel_rfl
theorem QF_l0.eq (v0 : List Int) (v1 : Int) (v2 : List Int) : QF_l0 v0 v1 v2 =
 bif decide (v1 ≤ 257) then
 QF_l1 v0 v1 0 0 v2
 else
 some v2 := (Q7 Q0 (Q1 (QF.gok _)) _ _).trans (by kernel_rfl)
theorem QF_l1.eq (v0 : List Int) (v1 v2 v3 : Int) (v4 : List Int) : QF_l1 v0 v1 v2 v3 v4 =
 bif decide (v3 < (v0.length : Int)) then
 (at? v0 v3).bind fun y1 =>
 bif decide (y1 < v1) then
 QF_l1 v0 v1 (IntKind.i64.wrap (v2 + 1)) (IntKind.i64.wrap (v3 + 1)) v4
 else
 QF_l1 v0 v1 v2 (IntKind.i64.wrap (v3 + 1)) v4
 else
 bif decide ((v4.length + ([v2] : List Int).length) * 8 ≤ 140737488355328) then
 QF_l0 v0 (IntKind.i64.wrap (v1 + 1)) (v4 ++ ([v2] : List Int))
 else
 none := (Q7 Q0 (Q1 (QF.gok _)) _ _).trans (by kernel_rfl)
abbrev Q05.s : Sg := ⟨[.lend], [vi], ⟨[vi], [none]⟩, Tryz.f138⟩
def Q05.gs (δ : Type) : List (Nat × KC δ) := []
theorem Q05.gok (δ : Type) : Q4 Tryz.prog tab (Q05.gs δ) := .nil
def Q05.c := cx Q05.s [] [] [(2, [0, 3])] false (Q05.gs _)
def Q05 (x0 : Int) : Option (Int) := fnW Q05.s Q05.c x0
theorem Q05.fok : FkS Q05.s 138 := ⟨Tryz.func138, by kernel_rfl, by kernel_rfl⟩
def Q05.fn (x : Args tab Q05.s.ar) : Option (ResT tab Q05.s.rs) := Q05 x
abbrev Q05.k {δ : Type} : KC δ := kS Q05.s Q05.fn
theorem Q05.con {δ : Type} : Con Tryz.prog (KT tab) 138 (Q05.k (δ := δ)) := Q5 (c := Q05.c) mixed Q0 (Q1 (Q05.gok _)) Q05.fok rfl rfl fun _ => rfl
def Q05_l0 (v0 v1 : Int) : Option (Int) := lpW Q05.s Q05.c 0 (ud 7 [.int .i64 v0, .undef, .undef, .int .i64 v1]) [] 0
theorem Q05.eq (x0 : Int) : Q05 x0 =
 Q05_l0 x0 1 := by kernel_rfl
theorem Q05_l0.eq (v0 v1 : Int) : Q05_l0 v0 v1 =
 bif decide (v0 > 0) then
 Q05_l0 (IntKind.i64.wrap (v0 - 1)) (IntKind.i64.wrap ((2 : Int) * v1))
 else
 some v1 := (Q7 Q0 (Q1 (Q05.gok _)) _ _).trans (by kernel_rfl)
abbrev Q0g.s : Sg := ⟨[.lend], [vi], ⟨[.one (.b (.b (.b (.b (.int .u64)))))], [none]⟩, Tryz.f139⟩
def Q0g.gs (δ : Type) : List (Nat × KC δ) := []
theorem Q0g.gok (δ : Type) : Q4 Tryz.prog tab (Q0g.gs δ) := .nil
def Q0g.c := cx Q0g.s [] [] [(2, [0, 3])] false (Q0g.gs _)
def Q0g (x0 : Int) : Option (Int) := fnW Q0g.s Q0g.c x0
theorem Q0g.fok : FkS Q0g.s 139 := ⟨Tryz.func139, by kernel_rfl, by kernel_rfl⟩
def Q0g.fn (x : Args tab Q0g.s.ar) : Option (ResT tab Q0g.s.rs) := Q0g x
abbrev Q0g.k {δ : Type} : KC δ := kS Q0g.s Q0g.fn
theorem Q0g.con {δ : Type} : Con Tryz.prog (KT tab) 139 (Q0g.k (δ := δ)) := Q5 (c := Q0g.c) mixed Q0 (Q1 (Q0g.gok _)) Q0g.fok rfl rfl fun _ => rfl
def Q0g_l0 (v0 v1 : Int) : Option (Int) := lpW Q0g.s Q0g.c 0 (ud 7 [.int .i64 v0, .undef, .undef, .int .u64 v1]) [] 0
theorem Q0g.eq (x0 : Int) : Q0g x0 =
 Q0g_l0 x0 1 := by kernel_rfl
theorem Q0g_l0.eq (v0 v1 : Int) : Q0g_l0 v0 v1 =
 bif decide (v0 > 0) then
 Q0g_l0 (IntKind.i64.wrap (v0 - 1)) (IntKind.u64.wrap ((2 : Int) * v1))
 else
 some v1 := (Q7 Q0 (Q1 (Q0g.gok _)) _ _).trans (by kernel_rfl)
abbrev Qm.s : Sg := ⟨[.lend], [vl 3], ⟨[ag0, vb], [none]⟩, Tryz.f92⟩
def Qm.gs (δ : Type) : List (Nat × KC δ) := [(139, Q0g.k)]
theorem Qm.gok (δ : Type) : Q4 Tryz.prog tab (Qm.gs δ) := .cons Q0g.con .nil
def Qm.c := cx Qm.s [] [9] [(5, [0, 2, 4, 5]), (9, [0, 2, 4, 5])] false (Qm.gs _)
def Qm (x0 : List Int) : Option ((Int × (List Int)) × Bool) := fnW Qm.s Qm.c x0
theorem Qm.fok : FkS Qm.s 92 := ⟨Tryz.func92, by kernel_rfl, by kernel_rfl⟩
def Qm.fn (x : Args tab Qm.s.ar) : Option (ResT tab Qm.s.rs) := Qm x
abbrev Qm.k {δ : Type} : KC δ := kS Qm.s Qm.fn
theorem Qm.con {δ : Type} : Con Tryz.prog (KT tab) 92 (Qm.k (δ := δ)) := Q5 (c := Qm.c) mixed Q0 (Q1 (Qm.gok _)) Qm.fok rfl rfl fun _ => rfl
def Qm_l0 (v0 : List Int) (v1 v2 : Int) (v3 : List Int) (v4 : Int) (v5 : List Int) : Option ((Int × (List Int)) × Bool) := lpW Qm.s Qm.c 0 (ud 55 [.vs false 3 v0, .undef, .ptr 0 0, .undef, .ptr 2 0, .int .i64 v1]) [.box 30 [.int .i64 v2, .sl 1 0], .row 0 true 90 v3, .box 30 [.int .i64 v4, .sl 3 0], .row 0 true 90 v5] 4
def Qm_l1 (v0 : List Int) (v1 v2 : Int) (v3 : List Int) (v4 : Int) (v5 : List Int) : Option ((Int × (List Int)) × Bool) := lpW Qm.s Qm.c 1 (ud 55 [.vs false 3 v0, .undef, .ptr 0 0, .undef, .ptr 2 0, .int .i64 v1]) [.box 30 [.int .i64 v2, .sl 1 0], .row 0 true 90 v3, .box 30 [.int .i64 v4, .sl 3 0], .row 0 true 90 v5] 4
theorem Qm.eq (x0 : List Int) : Qm x0 =
 bif decide ((x0.length : Int) > 5000) then
 some ((0, ([] : List Int)), false)
 else
 Qm_l0 x0 0 0 ([] : List Int) (x0.length : Int) ([] : List Int) := by kernel_rfl
theorem Qm_l0.eq (v0 : List Int) (v1 v2 : Int) (v3 : List Int) (v4 : Int) (v5 : List Int) : Qm_l0 v0 v1 v2 v3 v4 v5 =
 bif decide (v1 < (v0.length : Int)) then
 (at? v0 v1).bind fun y1 =>
 bif y1 != 0 then
 (at? v0 v1).bind fun y2 =>
 bif y2 != 1 then
 some ((0, ([] : List Int)), false)
 else
 Qm_l1 v0 v1 v2 v3 v4 v5
 else
 Qm_l1 v0 v1 v2 v3 v4 v5
 else
 some ((v4, v5), true) := (Q7 Q0 (Q1 (Qm.gok _)) _ _).trans (by kernel_rfl)
theorem Qm_l1.eq (v0 : List Int) (v1 v2 : Int) (v3 : List Int) (v4 : Int) (v5 : List Int) : Qm_l1 v0 v1 v2 v3 v4 v5 =
 bif v1.tmod (64 : Int) == 0 then
 bif decide ((v5.length + ([0] : List Int).length) * 8 ≤ 140737488355328) then
 (at? v0 v1).bind fun y1 =>
 bif y1 == 1 then
 (at? (v5 ++ ([0] : List Int)) (IntKind.i64.wrap (v1.tdiv 64))).bind fun y2 =>
 (v5 ++ ([0] : List Int))[(IntKind.i64.wrap (v1.tdiv 64)).toNat]?.bind fun y3 =>
 (Q0g (v1.tmod 64)).bind fun y4 =>
 (at? (v5 ++ ([0] : List Int)) (IntKind.i64.wrap (v1.tdiv 64))).bind fun y5 =>
 (v5 ++ ([0] : List Int))[(IntKind.i64.wrap (v1.tdiv 64)).toNat]?.bind fun y6 =>
 Qm_l0 v0 (IntKind.i64.wrap (v1 + 1)) v2 v3 v4 ((v5 ++ ([0] : List Int)).set ((IntKind.i64.wrap (v1.tdiv 64)).toNat) (IntKind.u64.wrap (y3 + y4)))
 else
 Qm_l0 v0 (IntKind.i64.wrap (v1 + 1)) v2 v3 v4 (v5 ++ ([0] : List Int))
 else
 none
 else
 (at? v0 v1).bind fun y7 =>
 bif y7 == 1 then
 (at? v5 (IntKind.i64.wrap (v1.tdiv 64))).bind fun y8 =>
 v5[(IntKind.i64.wrap (v1.tdiv 64)).toNat]?.bind fun y9 =>
 (Q0g (v1.tmod 64)).bind fun y10 =>
 (at? v5 (IntKind.i64.wrap (v1.tdiv 64))).bind fun y11 =>
 v5[(IntKind.i64.wrap (v1.tdiv 64)).toNat]?.bind fun y12 =>
 Qm_l0 v0 (IntKind.i64.wrap (v1 + 1)) v2 v3 v4 (v5.set ((IntKind.i64.wrap (v1.tdiv 64)).toNat) (IntKind.u64.wrap (y9 + y10)))
 else
 Qm_l0 v0 (IntKind.i64.wrap (v1 + 1)) v2 v3 v4 v5 := (Q7 Q0 (Q1 (Qm.gok _)) _ _).trans (by kernel_rfl)
abbrev Qk.s : Sg := ⟨[.lend], [vl 3], ⟨[ag1, vb], [none]⟩, Tryz.f90⟩
def Qk.gs (δ : Type) : List (Nat × KC δ) := [(92, Qm.k), (138, Q05.k)]
theorem Qk.gok (δ : Type) : Q4 Tryz.prog tab (Qk.gs δ) := .cons Qm.con (.cons Q05.con .nil)
def Qk.c := cx Qk.s [] [] [(4, [0, 2, 4]), (11, [2, 5, 6, 7]), (17, [2, 5, 6, 7, 8, 9, 10, 11])] false (Qk.gs _)
def Qk (x0 : List Int) : Option ((Int × (List Int) × (List (Int × (List Int)))) × Bool) := fnW Qk.s Qk.c x0
theorem Qk.fok : FkS Qk.s 90 := ⟨Tryz.func90, by kernel_rfl, by kernel_rfl⟩
def Qk.fn (x : Args tab Qk.s.ar) : Option (ResT tab Qk.s.rs) := Qk x
abbrev Qk.k {δ : Type} : KC δ := kS Qk.s Qk.fn
theorem Qk.con {δ : Type} : Con Tryz.prog (KT tab) 90 (Qk.k (δ := δ)) := Q5 (c := Qk.c) mixed Q0 (Q1 (Qk.gok _)) Qk.fok rfl rfl fun _ => rfl
def Qk_l0 (v0 : List Int) (v1 v2 : Int) (v3 : List Int) (v4 : List (Int × (List Int))) : Option ((Int × (List Int) × (List (Int × (List Int)))) × Bool) := lpW Qk.s Qk.c 0 (ud 103 [.vs false 3 v0, .undef, .ptr 0 0, .undef, .int .i64 v1]) [.box 27 [.int .i64 v2, .sl 1 0, .sl 2 0], .row 0 true 3 v3, .row 0 true 30 v4] 3
def Qk_l1 (v0 v1 : Int) (v2 : List Int) (v3 : List (Int × (List Int))) (v4 : Int) (v5 : List Int) (v6 : List (Int × (List Int))) (v7 : List Int) : Option ((Int × (List Int) × (List (Int × (List Int)))) × Bool) := lpW Qk.s Qk.c 1 (ud 100 [.undef, .undef, .ptr 0 0, .undef, .undef, .ptr 3 0, .sl 6 0, .int .i64 v0]) [.box 27 [.int .i64 v1, .sl 1 0, .sl 2 0], .row 0 true 3 v2, .row 0 true 30 v3, .box 27 [.int .i64 v4, .sl 4 0, .sl 5 0], .row 0 true 3 v5, .row 0 true 30 v6, .row 0 true 3 v7] 7
def Qk_l2 (v0 v1 v2 : Int) (v3 : List Int) (v4 : List (Int × (List Int))) (v5 : Int) (v6 : List Int) (v7 : List (Int × (List Int))) (v8 v9 v10 v11 : List Int) : Option ((Int × (List Int) × (List (Int × (List Int)))) × Bool) := lpW Qk.s Qk.c 2 (ud 96 [.undef, .undef, .ptr 0 0, .undef, .undef, .ptr 3 0, .sl 6 0, .int .i64 v0, .sl 7 0, .sl 8 0, .sl 9 0, .int .i64 v1]) [.box 27 [.int .i64 v2, .sl 1 0, .sl 2 0], .row 0 true 3 v3, .row 0 true 30 v4, .box 27 [.int .i64 v5, .sl 4 0, .sl 5 0], .row 0 true 3 v6, .row 0 true 30 v7, .row 0 true 3 v8, .row 0 true 3 v9, .row 0 true 3 v10, .row 0 true 3 v11] 10
theorem Qk.eq (x0 : List Int) : Qk x0 =
 bif decide ((x0.length : Int) > 1000) then
 some ((0, ([] : List Int), ([] : List (Int × (List Int)))), false)
 else
 Qk_l0 x0 0 0 ([] : List Int) ([] : List (Int × (List Int))) := by kernel_rfl
theorem Qk_l0.eq (v0 : List Int) (v1 v2 : Int) (v3 : List Int) (v4 : List (Int × (List Int))) : Qk_l0 v0 v1 v2 v3 v4 =
 bif decide (v1 < (v0.length : Int)) then
 (at? v0 v1).bind fun y1 =>
 bif decide (y1 < 0) then
 some ((0, ([] : List Int), ([] : List (Int × (List Int)))), false)
 else
 (at? v0 v1).bind fun y2 =>
 bif decide (y2 > 511) then
 some ((0, ([] : List Int), ([] : List (Int × (List Int)))), false)
 else
 Qk_l0 v0 (IntKind.i64.wrap (v1 + 1)) v2 v3 v4
 else
 bif decide ((([] : List Int).length + v0.length) * 8 ≤ 140737488355328) then
 Qk_l1 0 v2 v3 v4 (v0.length : Int) ([] : List Int) ([] : List (Int × (List Int))) (([] : List Int) ++ v0)
 else
 none := (Q7 Q0 (Q1 (Qk.gok _)) _ _).trans (by kernel_rfl)
theorem Qk_l1.eq (v0 v1 : Int) (v2 : List Int) (v3 : List (Int × (List Int))) (v4 : Int) (v5 : List Int) (v6 : List (Int × (List Int))) (v7 : List Int) : Qk_l1 v0 v1 v2 v3 v4 v5 v6 v7 =
 bif decide (v0 < 9) then
 Qk_l2 v0 0 v1 v2 v3 v4 v5 v6 v7 ([] : List Int) ([] : List Int) ([] : List Int)
 else
 some ((v4, v5, v6), true) := (Q7 Q0 (Q1 (Qk.gok _)) _ _).trans (by kernel_rfl)
theorem Qk_l2.eq (v0 v1 v2 : Int) (v3 : List Int) (v4 : List (Int × (List Int))) (v5 : Int) (v6 : List Int) (v7 : List (Int × (List Int))) (v8 v9 v10 v11 : List Int) : Qk_l2 v0 v1 v2 v3 v4 v5 v6 v7 v8 v9 v10 v11 =
 bif decide (v1 < (v8.length : Int)) then
 (at? v8 v1).bind fun y1 =>
 v8[v1.toNat]?.bind fun y2 =>
 (Q05 (IntKind.i64.wrap ((8 : Int) - v0))).bind fun y3 =>
 bif decide (y3 = 0) then
 none
 else
 bif decide ((v9.length + ([(IntKind.i64.wrap (y2.tdiv y3)).tmod 2] : List Int).length) * 8 ≤ 140737488355328) then
 bif (IntKind.i64.wrap (y2.tdiv y3)).tmod (2 : Int) == 0 then
 (at? v8 v1).bind fun y4 =>
 v8[v1.toNat]?.bind fun y5 =>
 bif decide ((v10.length + ([y5] : List Int).length) * 8 ≤ 140737488355328) then
 Qk_l2 v0 (IntKind.i64.wrap (v1 + 1)) v2 v3 v4 v5 v6 v7 v8 (v9 ++ ([(IntKind.i64.wrap (y2.tdiv y3)).tmod 2] : List Int)) (v10 ++ ([y5] : List Int)) v11
 else
 none
 else
 (at? v8 v1).bind fun y6 =>
 v8[v1.toNat]?.bind fun y7 =>
 bif decide ((v11.length + ([y7] : List Int).length) * 8 ≤ 140737488355328) then
 Qk_l2 v0 (IntKind.i64.wrap (v1 + 1)) v2 v3 v4 v5 v6 v7 v8 (v9 ++ ([(IntKind.i64.wrap (y2.tdiv y3)).tmod 2] : List Int)) v10 (v11 ++ ([y7] : List Int))
 else
 none
 else
 none
 else
 (Qm v9).bind fun y8 =>
 bif decide ((v7.length + ([(y8.1.1, y8.1.2)] : List (Int × (List Int))).length) * 32 ≤ 140737488355328) then
 bif decide ((v6.length + ([(v10.length : Int)] : List Int).length) * 8 ≤ 140737488355328) then
 bif decide ((v10.length + v11.length) * 8 ≤ 140737488355328) then
 Qk_l1 (IntKind.i64.wrap (v0 + 1)) v2 v3 v4 v5 (v6 ++ ([(v10.length : Int)] : List Int)) (v7 ++ ([(y8.1.1, y8.1.2)] : List (Int × (List Int)))) (v10 ++ v11)
 else
 none
 else
 none
 else
 none := (Q7 Q0 (Q1 (Qk.gok _)) _ _).trans (by kernel_rfl)
abbrev Q0N.s : Sg := ⟨[.lend], [vb], ⟨[vi], [none]⟩, Tryz.f91⟩
def Q0N.gs (δ : Type) : List (Nat × KC δ) := []
theorem Q0N.gok (δ : Type) : Q4 Tryz.prog tab (Q0N.gs δ) := .nil
def Q0N.c := cx Q0N.s [] [] [] false (Q0N.gs _)
def Q0N (x0 : Bool) : Option (Int) := fnW Q0N.s Q0N.c x0
theorem Q0N.fok : FkS Q0N.s 91 := ⟨Tryz.func91, by kernel_rfl, by kernel_rfl⟩
def Q0N.fn (x : Args tab Q0N.s.ar) : Option (ResT tab Q0N.s.rs) := Q0N x
abbrev Q0N.k {δ : Type} : KC δ := kS Q0N.s Q0N.fn
theorem Q0N.con {δ : Type} : Con Tryz.prog (KT tab) 91 (Q0N.k (δ := δ)) := Q5 (c := Q0N.c) mixed Q0 (Q1 (Q0N.gok _)) Q0N.fok rfl rfl fun _ => rfl
theorem Q0N.eq (x0 : Bool) : Q0N x0 =
 bif x0 then
 some 1
 else
 some 0 := by kernel_rfl
abbrev Q0h.s : Sg := ⟨[.lend], [vi], ⟨[vi], [none]⟩, Tryz.f94⟩
def Q0h.gs (δ : Type) : List (Nat × KC δ) := []
theorem Q0h.gok (δ : Type) : Q4 Tryz.prog tab (Q0h.gs δ) := .nil
def Q0h.c := cx Q0h.s [] [] [(4, [0, 3])] false (Q0h.gs _)
def Q0h (x0 : Int) : Option (Int) := fnW Q0h.s Q0h.c x0
theorem Q0h.fok : FkS Q0h.s 94 := ⟨Tryz.func94, by kernel_rfl, by kernel_rfl⟩
def Q0h.fn (x : Args tab Q0h.s.ar) : Option (ResT tab Q0h.s.rs) := Q0h x
abbrev Q0h.k {δ : Type} : KC δ := kS Q0h.s Q0h.fn
theorem Q0h.con {δ : Type} : Con Tryz.prog (KT tab) 94 (Q0h.k (δ := δ)) := Q5 (c := Q0h.c) mixed Q0 (Q1 (Q0h.gok _)) Q0h.fok rfl rfl fun _ => rfl
def Q0h_l0 (v0 v1 : Int) : Option (Int) := lpW Q0h.s Q0h.c 0 (ud 9 [.int .i64 v0, .undef, .undef, .int .i64 v1]) [] 0
theorem Q0h.eq (x0 : Int) : Q0h x0 =
 bif decide (x0 < 0) then
 some (-1 : Int)
 else
 Q0h_l0 x0 0 := by kernel_rfl
theorem Q0h_l0.eq (v0 v1 : Int) : Q0h_l0 v0 v1 =
 bif decide (v0 > 0) then
 Q0h_l0 (IntKind.i64.wrap (v0.tdiv 2)) (IntKind.i64.wrap (v1 + 1))
 else
 some v1 := (Q7 Q0 (Q1 (Q0h.gok _)) _ _).trans (by kernel_rfl)
abbrev Ql.s : Sg := ⟨[.lend, .lend], [vl 3, vi], ⟨[ag2, vb], [none, none]⟩, Tryz.f93⟩
def Ql.gs (δ : Type) : List (Nat × KC δ) := [(92, Qm.k), (138, Q05.k)]
theorem Ql.gok (δ : Type) : Q4 Tryz.prog tab (Ql.gs δ) := .cons Qm.con (.cons Q05.con .nil)
def Ql.c := cx Ql.s [] [3, 10] [(3, [0, 1, 4]), (5, [0, 1, 4, 6, 7]), (10, [0, 1, 4, 6, 7, 8]), (11, [0, 1, 4, 6, 7, 8, 9])] false (Ql.gs _)
def Ql (x0 : List Int) (x1 : Int) : Option ((Int × Int × Int × (List Int)) × Bool) := fnW Ql.s Ql.c (x0, x1)
theorem Ql.fok : FkS Ql.s 93 := ⟨Tryz.func93, by kernel_rfl, by kernel_rfl⟩
def Ql.fn (x : Args tab Ql.s.ar) : Option (ResT tab Ql.s.rs) := Ql x.1 x.2
abbrev Ql.k {δ : Type} : KC δ := kS Ql.s Ql.fn
theorem Ql.con {δ : Type} : Con Tryz.prog (KT tab) 93 (Ql.k (δ := δ)) := Q5 (c := Ql.c) mixed Q0 (Q1 (Ql.gok _)) Ql.fok rfl rfl fun _ => rfl
def Ql_l0 (v0 : List Int) (v1 v2 v3 v4 : Int) (v5 : List Int) : Option ((Int × Int × Int × (List Int)) × Bool) := lpW Ql.s Ql.c 0 (ud 68 [.vs false 3 v0, .int .i64 v1, .undef, .undef, .ptr 0 0]) [.box 32 [.int .i64 v2, .int .i64 v3, .int .i64 v4, .sl 1 0], .row 0 true 90 v5] 2
def Ql_l1 (v0 : List Int) (v1 v2 v3 v4 v5 : Int) (v6 v7 : List Int) : Option ((Int × Int × Int × (List Int)) × Bool) := lpW Ql.s Ql.c 1 (ud 65 [.vs false 3 v0, .int .i64 v1, .undef, .undef, .ptr 0 0, .undef, .sl 2 0, .int .i64 v2]) [.box 32 [.int .i64 v3, .int .i64 v4, .int .i64 v5, .sl 1 0], .row 0 true 90 v6, .row 0 true 3 v7] 3
def Ql_l2 (v0 : List Int) (v1 v2 v3 v4 v5 v6 : Int) (v7 v8 : List Int) : Option ((Int × Int × Int × (List Int)) × Bool) := lpW Ql.s Ql.c 2 (ud 64 [.vs false 3 v0, .int .i64 v1, .undef, .undef, .ptr 0 0, .undef, .sl 2 0, .int .i64 v2, .int .i64 v3]) [.box 32 [.int .i64 v4, .int .i64 v5, .int .i64 v6, .sl 1 0], .row 0 true 90 v7, .row 0 true 3 v8] 3
def Ql_l3 (v0 : List Int) (v1 v2 v3 v4 v5 v6 v7 : Int) (v8 v9 : List Int) : Option ((Int × Int × Int × (List Int)) × Bool) := lpW Ql.s Ql.c 3 (ud 63 [.vs false 3 v0, .int .i64 v1, .undef, .undef, .ptr 0 0, .undef, .sl 2 0, .int .i64 v2, .int .i64 v3, .int .i64 v4]) [.box 32 [.int .i64 v5, .int .i64 v6, .int .i64 v7, .sl 1 0], .row 0 true 90 v8, .row 0 true 3 v9] 3
theorem Ql.eq (x0 : List Int) (x1 : Int) : Ql x0 x1 =
 bif decide (x1 < 0) then
 some ((0, 0, 0, ([] : List Int)), false)
 else
 bif decide (x1 > 32) then
 some ((0, 0, 0, ([] : List Int)), false)
 else
 bif decide ((x0.length : Int) > 5000) then
 some ((0, 0, 0, ([] : List Int)), false)
 else
 bif decide (IntKind.i64.wrap ((x0.length : Int) * x1) > 5000) then
 some ((0, 0, 0, ([] : List Int)), false)
 else
 Ql_l0 x0 x1 0 0 0 ([] : List Int) := by kernel_rfl
theorem Ql_l0.eq (v0 : List Int) (v1 v2 v3 v4 : Int) (v5 : List Int) : Ql_l0 v0 v1 v2 v3 v4 v5 =
 Ql_l1 v0 v1 0 v2 v3 v4 v5 ([] : List Int) := (Q7 Q0 (Q1 (Ql.gok _)) _ _).trans (by kernel_rfl)
theorem Ql_l1.eq (v0 : List Int) (v1 v2 v3 v4 v5 : Int) (v6 v7 : List Int) : Ql_l1 v0 v1 v2 v3 v4 v5 v6 v7 =
 bif decide (v2 < (v0.length : Int)) then
 (at? v0 v2).bind fun y1 =>
 bif decide (y1 < 0) then
 some ((0, 0, 0, ([] : List Int)), false)
 else
 (Q05 v1).bind fun y2 =>
 bif decide (y1 ≥ y2) then
 some ((0, 0, 0, ([] : List Int)), false)
 else
 Ql_l2 v0 v1 v2 y1 v3 v4 v5 v6 v7
 else
 (Qm v7).bind fun y3 =>
 some ((v1, (v0.length : Int), y3.1.1, y3.1.2), true) := (Q7 Q0 (Q1 (Ql.gok _)) _ _).trans (by kernel_rfl)
theorem Ql_l2.eq (v0 : List Int) (v1 v2 v3 v4 v5 v6 : Int) (v7 v8 : List Int) : Ql_l2 v0 v1 v2 v3 v4 v5 v6 v7 v8 =
 Ql_l3 v0 v1 v2 v3 0 v4 v5 v6 v7 v8 := (Q7 Q0 (Q1 (Ql.gok _)) _ _).trans (by kernel_rfl)
theorem Ql_l3.eq (v0 : List Int) (v1 v2 v3 v4 v5 v6 v7 : Int) (v8 v9 : List Int) : Ql_l3 v0 v1 v2 v3 v4 v5 v6 v7 v8 v9 =
 bif decide (v4 < v1) then
 bif decide ((v9.length + ([v3.tmod 2] : List Int).length) * 8 ≤ 140737488355328) then
 Ql_l3 v0 v1 v2 (IntKind.i64.wrap (v3.tdiv 2)) (IntKind.i64.wrap (v4 + 1)) v5 v6 v7 v8 (v9 ++ ([v3.tmod 2] : List Int))
 else
 none
 else
 Ql_l1 v0 v1 (IntKind.i64.wrap (v2 + 1)) v5 v6 v7 v8 v9 := (Q7 Q0 (Q1 (Ql.gok _)) _ _).trans (by kernel_rfl)
abbrev Qn.s : Sg := ⟨[.lend, .lend], [vl 5, vi], ⟨[.agg [.int .i64, .int .i64, .int .i64, .sl true true 3, .sl true true 30, .sl true true 3, .int .i64, .sl true true 90, .int .i64, .int .i64, .int .i64, .sl true true 90, .int .i64, .int .i64, .int .i64, .sl true true 90], vb], [none, none]⟩, Tryz.f34⟩
def Qn.gs (δ : Type) : List (Nat × KC δ) := [(43, Q0J.k), (85, Q0F.k), (86, Qu.k), (87, QE.k), (88, Qx.k), (89, QF.k), (90, Qk.k), (91, Q0N.k), (92, Qm.k), (93, Ql.k), (94, Q0h.k)]
theorem Qn.gok (δ : Type) : Q4 Tryz.prog tab (Qn.gs δ) := .cons Q0J.con (.cons Q0F.con (.cons Qu.con (.cons QE.con (.cons Qx.con (.cons QF.con (.cons Qk.con (.cons Q0N.con (.cons Qm.con (.cons Ql.con (.cons Q0h.con .nil))))))))))
def Qn.c := cx Qn.s [] [3] [(3, [0, 1, 4]), (11, [0, 1, 4, 6, 7, 10, 11, 12, 13]), (18, [0, 1, 4, 7, 10, 11, 12, 14, 15])] false (Qn.gs _)
def Qn (x0 : List Int) (x1 : Int) : Option ((FmA) × Bool) := fnW Qn.s Qn.c (x0, x1)
theorem Qn.fok : FkS Qn.s 34 := ⟨Tryz.func34, by kernel_rfl, by kernel_rfl⟩
def Qn.fn (x : Args tab Qn.s.ar) : Option (ResT tab Qn.s.rs) := Qn x.1 x.2
abbrev Qn.k {δ : Type} : KC δ := kS Qn.s Qn.fn
theorem Qn.con {δ : Type} : Con Tryz.prog (KT tab) 34 (Qn.k (δ := δ)) := Q5 (c := Qn.c) mixed Q0 (Q1 (Qn.gok _)) Qn.fok rfl rfl fun _ => rfl
def Qn_l0 (v0 : List Int) (v1 v2 v3 v4 v5 v6 v7 v8 v9 v10 v11 : Int) (v12 : List Int) (v13 : List (Int × (List Int))) (v14 v15 v16 v17 : List Int) : Option ((FmA) × Bool) := lpW Qn.s Qn.c 0 (ud 116 [.vs false 5 v0, .int .i64 v1, .undef, .undef, .ptr 0 0]) [.box 34 [.int .i64 v2, .int .i64 v3, .int .i64 v4, .sl 1 0, .sl 2 0, .sl 3 0, .int .i64 v5, .sl 4 0, .int .i64 v6, .int .i64 v7, .int .i64 v8, .sl 5 0, .int .i64 v9, .int .i64 v10, .int .i64 v11, .sl 6 0], .row 0 true 3 v12, .row 0 true 30 v13, .row 0 true 3 v14, .row 0 true 90 v15, .row 0 true 90 v16, .row 0 true 90 v17] 7
def Qn_l1 (v0 : List Int) (v1 v2 v3 v4 v5 v6 v7 v8 v9 v10 v11 v12 : Int) (v13 : List Int) (v14 : List (Int × (List Int))) (v15 v16 v17 v18 v19 v20 : List Int) (v21 v22 v23 v24 v25 v26 v27 v28 v29 v30 : Int) (v31 : List Int) (v32 : List (Int × (List Int))) (v33 v34 v35 v36 v37 v38 : List Int) : Option ((FmA) × Bool) := lpW Qn.s Qn.c 1 (ud 107 [.vs false 5 v0, .int .i64 v1, .undef, .undef, .ptr 0 0, .undef, .sl 7 0, .sl 8 0, .undef, .undef, .ptr 9 0, .sl 16 0, .sl 17 0, .int .i64 v2]) [.box 34 [.int .i64 v3, .int .i64 v4, .int .i64 v5, .sl 1 0, .sl 2 0, .sl 3 0, .int .i64 v6, .sl 4 0, .int .i64 v7, .int .i64 v8, .int .i64 v9, .sl 5 0, .int .i64 v10, .int .i64 v11, .int .i64 v12, .sl 6 0], .row 0 true 3 v13, .row 0 true 30 v14, .row 0 true 3 v15, .row 0 true 90 v16, .row 0 true 90 v17, .row 0 true 90 v18, .row 0 true 3 v19, .row 0 true 3 v20, .box 34 [.int .i64 v21, .int .i64 v22, .int .i64 v23, .sl 10 0, .sl 11 0, .sl 12 0, .int .i64 v24, .sl 13 0, .int .i64 v25, .int .i64 v26, .int .i64 v27, .sl 14 0, .int .i64 v28, .int .i64 v29, .int .i64 v30, .sl 15 0], .row 0 true 3 v31, .row 0 true 30 v32, .row 0 true 3 v33, .row 0 true 90 v34, .row 0 true 90 v35, .row 0 true 90 v36, .row 0 true 3 v37, .row 0 true 3 v38] 18
def Qn_l2 (v0 : List Int) (v1 v2 v3 v4 v5 v6 v7 v8 v9 v10 v11 v12 : Int) (v13 : List Int) (v14 : List (Int × (List Int))) (v15 v16 v17 v18 v19 : List Int) (v20 v21 v22 v23 v24 v25 v26 v27 v28 v29 : Int) (v30 : List Int) (v31 : List (Int × (List Int))) (v32 v33 v34 v35 v36 v37 v38 : List Int) : Option ((FmA) × Bool) := lpW Qn.s Qn.c 2 (ud 105 [.vs false 5 v0, .int .i64 v1, .undef, .undef, .ptr 0 0, .undef, .undef, .sl 7 0, .undef, .undef, .ptr 8 0, .sl 15 0, .sl 16 0, .undef, .sl 17 0, .int .i64 v2]) [.box 34 [.int .i64 v3, .int .i64 v4, .int .i64 v5, .sl 1 0, .sl 2 0, .sl 3 0, .int .i64 v6, .sl 4 0, .int .i64 v7, .int .i64 v8, .int .i64 v9, .sl 5 0, .int .i64 v10, .int .i64 v11, .int .i64 v12, .sl 6 0], .row 0 true 3 v13, .row 0 true 30 v14, .row 0 true 3 v15, .row 0 true 90 v16, .row 0 true 90 v17, .row 0 true 90 v18, .row 0 true 3 v19, .box 34 [.int .i64 v20, .int .i64 v21, .int .i64 v22, .sl 9 0, .sl 10 0, .sl 11 0, .int .i64 v23, .sl 12 0, .int .i64 v24, .int .i64 v25, .int .i64 v26, .sl 13 0, .int .i64 v27, .int .i64 v28, .int .i64 v29, .sl 14 0], .row 0 true 3 v30, .row 0 true 30 v31, .row 0 true 3 v32, .row 0 true 90 v33, .row 0 true 90 v34, .row 0 true 90 v35, .row 0 true 3 v36, .row 0 true 3 v37, .row 0 true 3 v38] 18
theorem Qn.eq (x0 : List Int) (x1 : Int) : Qn x0 x1 =
 (Q0F x0).bind fun y1 =>
 bif !y1 then
 some ((0, 0, 0, ([] : List Int), ([] : List (Int × (List Int))), ([] : List Int), 0, ([] : List Int), 0, 0, 0, ([] : List Int), 0, 0, 0, ([] : List Int)), false)
 else
 (Q0J x1).bind fun y2 =>
 bif !y2 then
 some ((0, 0, 0, ([] : List Int), ([] : List (Int × (List Int))), ([] : List Int), 0, ([] : List Int), 0, 0, 0, ([] : List Int), 0, 0, 0, ([] : List Int)), false)
 else
 Qn_l0 x0 x1 0 0 0 0 0 0 0 0 0 0 ([] : List Int) ([] : List (Int × (List Int))) ([] : List Int) ([] : List Int) ([] : List Int) ([] : List Int) := by kernel_rfl
theorem Qn_l0.eq (v0 : List Int) (v1 v2 v3 v4 v5 v6 v7 v8 v9 v10 v11 : Int) (v12 : List Int) (v13 : List (Int × (List Int))) (v14 v15 v16 v17 : List Int) : Qn_l0 v0 v1 v2 v3 v4 v5 v6 v7 v8 v9 v10 v11 v12 v13 v14 v15 v16 v17 =
 (Qu v0).bind fun y1 =>
 (QE y1).bind fun y2 =>
 (Qx v0).bind fun y3 =>
 (QF y3).bind fun y4 =>
 (Qk y3).bind fun y5 =>
 Qn_l1 v0 v1 0 v2 v3 v4 v5 v6 v7 v8 v9 v10 v11 v12 v13 v14 v15 v16 v17 y1 y2.1 (v0.length : Int) v1 y5.1.1 0 0 0 0 0 0 0 y5.1.2.1 y5.1.2.2 y4 ([] : List Int) ([] : List Int) ([] : List Int) ([] : List Int) ([] : List Int) := (Q7 Q0 (Q1 (Qn.gok _)) _ _).trans (by kernel_rfl)
theorem Qn_l1.eq (v0 : List Int) (v1 v2 v3 v4 v5 v6 v7 v8 v9 v10 v11 v12 : Int) (v13 : List Int) (v14 : List (Int × (List Int))) (v15 v16 v17 v18 v19 v20 : List Int) (v21 v22 v23 v24 v25 v26 v27 v28 v29 v30 : Int) (v31 : List Int) (v32 : List (Int × (List Int))) (v33 v34 v35 v36 v37 v38 : List Int) : Qn_l1 v0 v1 v2 v3 v4 v5 v6 v7 v8 v9 v10 v11 v12 v13 v14 v15 v16 v17 v18 v19 v20 v21 v22 v23 v24 v25 v26 v27 v28 v29 v30 v31 v32 v33 v34 v35 v36 v37 v38 =
 bif decide (v2 < (v19.length : Int)) then
 (at? v19 v2).bind fun y1 =>
 v19[v2.toNat]?.bind fun y2 =>
 bif decide (v1 = 0) then
 none
 else
 (Q0N (y2.tmod v1 == 0)).bind fun y3 =>
 bif decide ((v37.length + ([y3] : List Int).length) * 8 ≤ 140737488355328) then
 (at? v19 v2).bind fun y4 =>
 v19[v2.toNat]?.bind fun y5 =>
 bif decide (v1 = 0) then
 none
 else
 bif y5.tmod v1 == 0 then
 (at? v19 v2).bind fun y6 =>
 v19[v2.toNat]?.bind fun y7 =>
 bif decide (v1 = 0) then
 none
 else
 bif decide ((v38.length + ([IntKind.i64.wrap (y7.tdiv v1)] : List Int).length) * 8 ≤ 140737488355328) then
 Qn_l1 v0 v1 (IntKind.i64.wrap (v2 + 1)) v3 v4 v5 v6 v7 v8 v9 v10 v11 v12 v13 v14 v15 v16 v17 v18 v19 v20 v21 v22 v23 v24 v25 v26 v27 v28 v29 v30 v31 v32 v33 v34 v35 v36 (v37 ++ ([y3] : List Int)) (v38 ++ ([IntKind.i64.wrap (y7.tdiv v1)] : List Int))
 else
 none
 else
 Qn_l1 v0 v1 (IntKind.i64.wrap (v2 + 1)) v3 v4 v5 v6 v7 v8 v9 v10 v11 v12 v13 v14 v15 v16 v17 v18 v19 v20 v21 v22 v23 v24 v25 v26 v27 v28 v29 v30 v31 v32 v33 v34 v35 v36 (v37 ++ ([y3] : List Int)) v38
 else
 none
 else
 Qn_l2 v0 v1 0 v3 v4 v5 v6 v7 v8 v9 v10 v11 v12 v13 v14 v15 v16 v17 v18 v20 v21 v22 v23 v24 v25 v26 v27 v28 v29 v30 v31 v32 v33 v34 v35 v36 v37 v38 ([] : List Int) := (Q7 Q0 (Q1 (Qn.gok _)) _ _).trans (by kernel_rfl)
theorem Qn_l2.eq (v0 : List Int) (v1 v2 v3 v4 v5 v6 v7 v8 v9 v10 v11 v12 : Int) (v13 : List Int) (v14 : List (Int × (List Int))) (v15 v16 v17 v18 v19 : List Int) (v20 v21 v22 v23 v24 v25 v26 v27 v28 v29 : Int) (v30 : List Int) (v31 : List (Int × (List Int))) (v32 v33 v34 v35 v36 v37 v38 : List Int) : Qn_l2 v0 v1 v2 v3 v4 v5 v6 v7 v8 v9 v10 v11 v12 v13 v14 v15 v16 v17 v18 v19 v20 v21 v22 v23 v24 v25 v26 v27 v28 v29 v30 v31 v32 v33 v34 v35 v36 v37 v38 =
 bif decide (v2 ≤ (v0.length : Int)) then
 (at? v19 v2).bind fun y1 =>
 v19[v2.toNat]?.bind fun y2 =>
 bif decide ((v38.length + ([y2] : List Int).length) * 8 ≤ 140737488355328) then
 Qn_l2 v0 v1 (IntKind.i64.wrap (v2 + v1)) v3 v4 v5 v6 v7 v8 v9 v10 v11 v12 v13 v14 v15 v16 v17 v18 v19 v20 v21 v22 v23 v24 v25 v26 v27 v28 v29 v30 v31 v32 v33 v34 v35 v36 v37 (v38 ++ ([y2] : List Int))
 else
 none
 else
 (Qm v36).bind fun y3 =>
 (Q0h (v0.length : Int)).bind fun y4 =>
 (Ql v37 y4).bind fun y5 =>
 (Q0h (v0.length : Int)).bind fun y6 =>
 (Ql v38 y6).bind fun y7 =>
 some ((v20, v21, v22, v30, v31, v32, y3.1.1, y3.1.2, y5.1.1, y5.1.2.1, y5.1.2.2.1, y5.1.2.2.2, y7.1.1, y7.1.2.1, y7.1.2.2.1, y7.1.2.2.2), true) := (Q7 Q0 (Q1 (Qn.gok _)) _ _).trans (by kernel_rfl)
abbrev Qr.s : Sg := ⟨[.lend], [ag3], ⟨[vo 3], [none]⟩, Tryz.f105⟩
def Qr.gs (δ : Type) : List (Nat × KC δ) := []
theorem Qr.gok (δ : Type) : Q4 Tryz.prog tab (Qr.gs δ) := .nil
def Qr.c := cx Qr.s [] [] [(3, [1, 3, 4]), (7, [1, 3, 4, 5, 6])] false (Qr.gs _)
def Qr (x0 : Int × (List Int)) : Option (List Int) := fnW Qr.s Qr.c x0
theorem Qr.fok : FkS Qr.s 105 := ⟨Tryz.func105, by kernel_rfl, by kernel_rfl⟩
def Qr.fn (x : Args tab Qr.s.ar) : Option (ResT tab Qr.s.rs) := Qr x
abbrev Qr.k {δ : Type} : KC δ := kS Qr.s Qr.fn
theorem Qr.con {δ : Type} : Con Tryz.prog (KT tab) 105 (Qr.k (δ := δ)) := Q5 (c := Qr.c) mixed Q0 (Q1 (Qr.gok _)) Qr.fok rfl rfl fun _ => rfl
def Qr_l0 (v0 v1 : Int) (v2 v3 : List Int) : Option (List Int) := lpW Qr.s Qr.c 0 (ud 30 [.undef, .ptr 0 0, .undef, .sl 1 0, .int .i64 v0]) [.box 30 [.int .i64 v1, .vs false 90 v2], .row 0 true 3 v3] 2
def Qr_l1 (v0 v1 v2 v3 : Int) (v4 v5 : List Int) : Option (List Int) := lpW Qr.s Qr.c 1 (ud 28 [.undef, .ptr 0 0, .undef, .sl 1 0, .int .i64 v0, .int .u64 v1, .int .i64 v2]) [.box 30 [.int .i64 v3, .vs false 90 v4], .row 0 true 3 v5] 2
theorem Qr.eq (x0 : Int × (List Int)) : Qr x0 =
 Qr_l0 0 x0.1 x0.2 ([] : List Int) := by kernel_rfl
theorem Qr_l0.eq (v0 v1 : Int) (v2 v3 : List Int) : Qr_l0 v0 v1 v2 v3 =
 bif decide (v0 < v1) then
 (at? v2 (IntKind.i64.wrap (v0.tdiv 64))).bind fun y1 =>
 Qr_l1 v0 y1 (v0.tmod 64) v1 v2 v3
 else
 some v3 := (Q7 Q0 (Q1 (Qr.gok _)) _ _).trans (by kernel_rfl)
theorem Qr_l1.eq (v0 v1 v2 v3 : Int) (v4 v5 : List Int) : Qr_l1 v0 v1 v2 v3 v4 v5 =
 bif decide (v2 > 0) then
 Qr_l1 v0 (IntKind.u64.wrap (v1.tdiv 2)) (IntKind.i64.wrap (v2 - 1)) v3 v4 v5
 else
 bif decide ((v5.length + ([IntKind.i64.wrap (v1.tmod 2)] : List Int).length) * 8 ≤ 140737488355328) then
 Qr_l0 (IntKind.i64.wrap (v0 + 1)) v3 v4 (v5 ++ ([IntKind.i64.wrap (v1.tmod 2)] : List Int))
 else
 none := (Q7 Q0 (Q1 (Qr.gok _)) _ _).trans (by kernel_rfl)
abbrev QJ.s : Sg := ⟨[.lend], [ag3], ⟨[vb], [none]⟩, Tryz.f171⟩
def QJ.gs (δ : Type) : List (Nat × KC δ) := [(92, Qm.k), (105, Qr.k)]
theorem QJ.gok (δ : Type) : Q4 Tryz.prog tab (QJ.gs δ) := .cons Qm.con (.cons Qr.con .nil)
def QJ.c := cx QJ.s [] [3] [(3, [1]), (5, [1, 3, 5])] false (QJ.gs _)
def QJ (x0 : Int × (List Int)) : Option (Bool) := fnW QJ.s QJ.c x0
theorem QJ.fok : FkS QJ.s 171 := ⟨Tryz.func171, by kernel_rfl, by kernel_rfl⟩
def QJ.fn (x : Args tab QJ.s.ar) : Option (ResT tab QJ.s.rs) := QJ x
abbrev QJ.k {δ : Type} : KC δ := kS QJ.s QJ.fn
theorem QJ.con {δ : Type} : Con Tryz.prog (KT tab) 171 (QJ.k (δ := δ)) := Q5 (c := QJ.c) mixed Q0 (Q1 (QJ.gok _)) QJ.fok rfl rfl fun _ => rfl
def QJ_l0 (v0 : Int) (v1 : List Int) : Option (Bool) := lpW QJ.s QJ.c 0 (ud 46 [.undef, .ptr 0 0]) [.box 30 [.int .i64 v0, .vs false 90 v1]] 1
def QJ_l1 (v0 v1 : Int) (v2 : List Int) (v3 : Int) (v4 : List Int) : Option (Bool) := lpW QJ.s QJ.c 1 (ud 42 [.undef, .ptr 0 0, .undef, .ptr 1 0, .undef, .int .i64 v0]) [.box 30 [.int .i64 v1, .vs false 90 v2], .box 30 [.int .i64 v3, .sl 2 0], .row 0 true 90 v4] 3
theorem QJ.eq (x0 : Int × (List Int)) : QJ x0 =
 bif decide (x0.1 < 0) then
 some false
 else
 bif decide (x0.1 > 5000) then
 some false
 else
 bif (x0.2.length : Int) != IntKind.i64.wrap ((IntKind.i64.wrap (x0.1 + 63)).tdiv 64) then
 some false
 else
 QJ_l0 x0.1 x0.2 := by kernel_rfl
theorem QJ_l0.eq (v0 : Int) (v1 : List Int) : QJ_l0 v0 v1 =
 (Qr (v0, v1)).bind fun y1 =>
 (Qm y1).bind fun y2 =>
 QJ_l1 0 v0 v1 y2.1.1 y2.1.2 := (Q7 Q0 (Q1 (QJ.gok _)) _ _).trans (by kernel_rfl)
theorem QJ_l1.eq (v0 v1 : Int) (v2 : List Int) (v3 : Int) (v4 : List Int) : QJ_l1 v0 v1 v2 v3 v4 =
 bif decide (v0 < (v2.length : Int)) then
 (at? v2 v0).bind fun y1 =>
 (at? v4 v0).bind fun y2 =>
 v4[v0.toNat]?.bind fun y3 =>
 bif y1 != y3 then
 some false
 else
 QJ_l1 (IntKind.i64.wrap (v0 + 1)) v1 v2 v3 v4
 else
 some true := (Q7 Q0 (Q1 (QJ.gok _)) _ _).trans (by kernel_rfl)
abbrev Q1z.s : Sg := ⟨[.lend], [vi], ⟨[vb], [none]⟩, Tryz.f204⟩
def Q1z.gs (δ : Type) : List (Nat × KC δ) := []
theorem Q1z.gok (δ : Type) : Q4 Tryz.prog tab (Q1z.gs δ) := .nil
def Q1z.c := cx Q1z.s [] [] [] false (Q1z.gs _)
def Q1z (x0 : Int) : Option (Bool) := fnW Q1z.s Q1z.c x0
theorem Q1z.fok : FkS Q1z.s 204 := ⟨Tryz.func204, by kernel_rfl, by kernel_rfl⟩
def Q1z.fn (x : Args tab Q1z.s.ar) : Option (ResT tab Q1z.s.rs) := Q1z x
abbrev Q1z.k {δ : Type} : KC δ := kS Q1z.s Q1z.fn
theorem Q1z.con {δ : Type} : Con Tryz.prog (KT tab) 204 (Q1z.k (δ := δ)) := Q5 (c := Q1z.c) mixed Q0 (Q1 (Q1z.gok _)) Q1z.fok rfl rfl fun _ => rfl
theorem Q1z.eq (x0 : Int) : Q1z x0 =
 bif x0 == 0 then
 some true
 else
 some (x0 == 1) := by kernel_rfl
abbrev QX.s : Sg := ⟨[.lend, .lend, .lend], [ag3, vi, vi], ⟨[vi], [none, none, none]⟩, Tryz.f180⟩
def QX.gs (δ : Type) : List (Nat × KC δ) := [(105, Qr.k), (171, QJ.k), (204, Q1z.k)]
theorem QX.gok (δ : Type) : Q4 Tryz.prog tab (QX.gs δ) := .cons Qr.con (.cons QJ.con (.cons Q1z.con .nil))
def QX.c := cx QX.s [] [3] [(3, [1, 2, 3]), (6, [1, 2, 7, 8, 9])] false (QX.gs _)
def QX (x0 : Int × (List Int)) (x1 x2 : Int) : Option (Int) := fnW QX.s QX.c (x0, x1, x2)
theorem QX.fok : FkS QX.s 180 := ⟨Tryz.func180, by kernel_rfl, by kernel_rfl⟩
def QX.fn (x : Args tab QX.s.ar) : Option (ResT tab QX.s.rs) := QX x.1 x.2.1 x.2.2
abbrev QX.k {δ : Type} : KC δ := kS QX.s QX.fn
theorem QX.con {δ : Type} : Con Tryz.prog (KT tab) 180 (QX.k (δ := δ)) := Q5 (c := QX.c) mixed Q0 (Q1 (QX.gok _)) QX.fok rfl rfl fun _ => rfl
def QX_l0 (v0 v1 v2 : Int) (v3 : List Int) : Option (Int) := lpW QX.s QX.c 0 (ud 40 [.undef, .int .i64 v0, .int .i64 v1, .ptr 0 0]) [.box 30 [.int .i64 v2, .vs false 90 v3]] 1
def QX_l1 (v0 v1 v2 v3 : Int) (v4 : List Int) : Option (Int) := lpW QX.s QX.c 1 (ud 34 [.undef, .int .i64 v0, .int .i64 v1, .undef, .undef, .undef, .undef, .sl 0 0, .int .i64 v2, .int .i64 v3]) [.row 0 true 3 v4] 1
theorem QX.eq (x0 : Int × (List Int)) (x1 x2 : Int) : QX x0 x1 x2 =
 (QJ x0).bind fun y1 =>
 bif !y1 then
 some (-1 : Int)
 else
 (Q1z x1).bind fun y2 =>
 bif !y2 then
 some (-1 : Int)
 else
 bif decide (x2 < 0) then
 some (-1 : Int)
 else
 bif decide (x2 > x0.1) then
 some (-1 : Int)
 else
 QX_l0 x1 x2 x0.1 x0.2 := by kernel_rfl
theorem QX_l0.eq (v0 v1 v2 : Int) (v3 : List Int) : QX_l0 v0 v1 v2 v3 =
 (Qr (v2, v3)).bind fun y1 =>
 QX_l1 v0 v1 0 0 y1 := (Q7 Q0 (Q1 (QX.gok _)) _ _).trans (by kernel_rfl)
theorem QX_l1.eq (v0 v1 v2 v3 : Int) (v4 : List Int) : QX_l1 v0 v1 v2 v3 v4 =
 bif decide (v3 < v1) then
 (at? v4 v3).bind fun y1 =>
 v4[v3.toNat]?.bind fun y2 =>
 bif y2 == v0 then
 QX_l1 v0 v1 (IntKind.i64.wrap (v2 + 1)) (IntKind.i64.wrap (v3 + 1)) v4
 else
 QX_l1 v0 v1 v2 (IntKind.i64.wrap (v3 + 1)) v4
 else
 some v2 := (Q7 Q0 (Q1 (QX.gok _)) _ _).trans (by kernel_rfl)
abbrev Q00.s : Sg := ⟨[.lend], [ag4], ⟨[vb], [none]⟩, Tryz.f143⟩
def Q00.gs (δ : Type) : List (Nat × KC δ) := [(171, QJ.k), (180, QX.k)]
theorem Q00.gok (δ : Type) : Q4 Tryz.prog tab (Q00.gs δ) := .cons QJ.con (.cons QX.con .nil)
def Q00.c := cx Q00.s [] [3] [(3, [1]), (4, [1, 3])] false (Q00.gs _)
def Q00 (x0 : Int × (List Int) × (List (Int × (List Int)))) : Option (Bool) := fnW Q00.s Q00.c x0
theorem Q00.fok : FkS Q00.s 143 := ⟨Tryz.func143, by kernel_rfl, by kernel_rfl⟩
def Q00.fn (x : Args tab Q00.s.ar) : Option (ResT tab Q00.s.rs) := Q00 x
abbrev Q00.k {δ : Type} : KC δ := kS Q00.s Q00.fn
theorem Q00.con {δ : Type} : Con Tryz.prog (KT tab) 143 (Q00.k (δ := δ)) := Q5 (c := Q00.c) mixed Q0 (Q1 (Q00.gok _)) Q00.fok rfl rfl fun _ => rfl
def Q00_l0 (v0 : Int) (v1 : List Int) (v2 : List (Int × (List Int))) : Option (Bool) := lpW Q00.s Q00.c 0 (ud 60 [.undef, .ptr 0 0]) [.box 27 [.int .i64 v0, .vs false 3 v1, .vs false 30 v2]] 1
def Q00_l1 (v0 v1 : Int) (v2 : List Int) (v3 : List (Int × (List Int))) : Option (Bool) := lpW Q00.s Q00.c 1 (ud 58 [.undef, .ptr 0 0, .undef, .int .i64 v0]) [.box 27 [.int .i64 v1, .vs false 3 v2, .vs false 30 v3]] 1
theorem Q00.eq (x0 : Int × (List Int) × (List (Int × (List Int)))) : Q00 x0 =
 bif decide (x0.1 < 0) then
 some false
 else
 bif decide (x0.1 > 1000) then
 some false
 else
 bif (x0.2.2.length : Int) != 9 then
 some false
 else
 bif (x0.2.1.length : Int) != 9 then
 some false
 else
 Q00_l0 x0.1 x0.2.1 x0.2.2 := by kernel_rfl
theorem Q00_l0.eq (v0 : Int) (v1 : List Int) (v2 : List (Int × (List Int))) : Q00_l0 v0 v1 v2 =
 Q00_l1 0 v0 v1 v2 := (Q7 Q0 (Q1 (Q00.gok _)) _ _).trans (by kernel_rfl)
theorem Q00_l1.eq (v0 v1 : Int) (v2 : List Int) (v3 : List (Int × (List Int))) : Q00_l1 v0 v1 v2 v3 =
 bif decide (v0 < 9) then
 (at? v3 v0).bind fun y1 =>
 bif y1.1 != v1 then
 some false
 else
 (at? v3 v0).bind fun y2 =>
 (QJ y2).bind fun y3 =>
 bif !y3 then
 some false
 else
 (at? v3 v0).bind fun y4 =>
 (QX y4 0 v1).bind fun y5 =>
 (at? v2 v0).bind fun y6 =>
 bif y5 != y6 then
 some false
 else
 Q00_l1 (IntKind.i64.wrap (v0 + 1)) v1 v2 v3
 else
 some true := (Q7 Q0 (Q1 (Q00.gok _)) _ _).trans (by kernel_rfl)
abbrev Qf.s : Sg := ⟨[.lend], [ag4], ⟨[vo 3], [none]⟩, Tryz.f144⟩
def Qf.gs (δ : Type) : List (Nat × KC δ) := [(105, Qr.k)]
theorem Qf.gok (δ : Type) : Q4 Tryz.prog tab (Qf.gs δ) := .cons Qr.con .nil
def Qf.c := cx Qf.s [] [] [(4, [1, 3, 4, 5]), (8, [1, 3, 4, 6]), (13, [1, 3, 4, 6, 7, 8, 9]), (19, [1, 3, 4, 6, 7, 8, 9, 10, 11, 12, 13])] false (Qf.gs _)
def Qf (x0 : Int × (List Int) × (List (Int × (List Int)))) : Option (List Int) := fnW Qf.s Qf.c x0
theorem Qf.fok : FkS Qf.s 144 := ⟨Tryz.func144, by kernel_rfl, by kernel_rfl⟩
def Qf.fn (x : Args tab Qf.s.ar) : Option (ResT tab Qf.s.rs) := Qf x
abbrev Qf.k {δ : Type} : KC δ := kS Qf.s Qf.fn
theorem Qf.con {δ : Type} : Con Tryz.prog (KT tab) 144 (Qf.k (δ := δ)) := Q5 (c := Qf.c) mixed Q0 (Q1 (Qf.gok _)) Qf.fok rfl rfl fun _ => rfl
def Qf_l0 (v0 v1 : Int) (v2 : List Int) (v3 : List (Int × (List Int))) (v4 : List Int) (v5 : List (List Int)) : Option (List Int) := lpW Qf.s Qf.c 0 (ud 88 [.undef, .ptr 0 0, .undef, .sl 1 0, .sl 2 0, .int .i64 v0]) [.box 27 [.int .i64 v1, .vs false 3 v2, .vs false 30 v3], .row 0 true 3 v4, .row 0 true 24 v5] 3
def Qf_l1 (v0 v1 : Int) (v2 : List Int) (v3 : List (Int × (List Int))) (v4 : List Int) (v5 : List (List Int)) : Option (List Int) := lpW Qf.s Qf.c 1 (ud 87 [.undef, .ptr 0 0, .undef, .sl 1 0, .sl 2 0, .undef, .int .i64 v0]) [.box 27 [.int .i64 v1, .vs false 3 v2, .vs false 30 v3], .row 0 true 3 v4, .row 0 true 24 v5] 3
def Qf_l2 (v0 v1 v2 v3 v4 : Int) (v5 : List Int) (v6 : List (Int × (List Int))) (v7 : List Int) (v8 : List (List Int)) : Option (List Int) := lpW Qf.s Qf.c 2 (ud 84 [.undef, .ptr 0 0, .undef, .sl 1 0, .sl 2 0, .undef, .int .i64 v0, .int .i64 v1, .int .i64 v2, .int .i64 v3]) [.box 27 [.int .i64 v4, .vs false 3 v5, .vs false 30 v6], .row 0 true 3 v7, .row 0 true 24 v8] 3
def Qf_l3 (v0 v1 v2 v3 v4 v5 v6 v7 v8 : Int) (v9 : List Int) (v10 : List (Int × (List Int))) (v11 : List Int) (v12 : List (List Int)) : Option (List Int) := lpW Qf.s Qf.c 3 (ud 80 [.undef, .ptr 0 0, .undef, .sl 1 0, .sl 2 0, .undef, .int .i64 v0, .int .i64 v1, .int .i64 v2, .int .i64 v3, .int .i64 v4, .int .i64 v5, .int .i64 v6, .int .i64 v7]) [.box 27 [.int .i64 v8, .vs false 3 v9, .vs false 30 v10], .row 0 true 3 v11, .row 0 true 24 v12] 3
theorem Qf.eq (x0 : Int × (List Int) × (List (Int × (List Int)))) : Qf x0 =
 Qf_l0 0 x0.1 x0.2.1 x0.2.2 ([] : List Int) ([] : List (List Int)) := by kernel_rfl
theorem Qf_l0.eq (v0 v1 : Int) (v2 : List Int) (v3 : List (Int × (List Int))) (v4 : List Int) (v5 : List (List Int)) : Qf_l0 v0 v1 v2 v3 v4 v5 =
 bif decide (v0 < 9) then
 (at? v3 v0).bind fun y1 =>
 (Qr y1).bind fun y2 =>
 bif decide ((v5.length + ([y2] : List (List Int)).length) * 24 ≤ 140737488355328) then
 Qf_l0 (IntKind.i64.wrap (v0 + 1)) v1 v2 v3 v4 (v5 ++ ([y2] : List (List Int)))
 else
 none
 else
 Qf_l1 0 v1 v2 v3 v4 v5 := (Q7 Q0 (Q1 (Qf.gok _)) _ _).trans (by kernel_rfl)
theorem Qf_l1.eq (v0 v1 : Int) (v2 : List Int) (v3 : List (Int × (List Int))) (v4 : List Int) (v5 : List (List Int)) : Qf_l1 v0 v1 v2 v3 v4 v5 =
 bif decide (v0 < v1) then
 Qf_l2 v0 v0 0 0 v1 v2 v3 v4 v5
 else
 some v4 := (Q7 Q0 (Q1 (Qf.gok _)) _ _).trans (by kernel_rfl)
theorem Qf_l2.eq (v0 v1 v2 v3 v4 : Int) (v5 : List Int) (v6 : List (Int × (List Int))) (v7 : List Int) (v8 : List (List Int)) : Qf_l2 v0 v1 v2 v3 v4 v5 v6 v7 v8 =
 bif decide (v3 < 9) then
 (at? v8 v3).bind fun y1 =>
 v8[v3.toNat]?.bind fun y2 =>
 (at? y2 v1).bind fun y3 =>
 y2[v1.toNat]?.bind fun y4 =>
 Qf_l3 v0 v1 v2 v3 y4 0 0 0 v4 v5 v6 v7 (v8.set v3.toNat y2)
 else
 bif decide ((v7.length + ([v2] : List Int).length) * 8 ≤ 140737488355328) then
 Qf_l1 (IntKind.i64.wrap (v0 + 1)) v4 v5 v6 (v7 ++ ([v2] : List Int)) v8
 else
 none := (Q7 Q0 (Q1 (Qf.gok _)) _ _).trans (by kernel_rfl)
theorem Qf_l3.eq (v0 v1 v2 v3 v4 v5 v6 v7 v8 : Int) (v9 : List Int) (v10 : List (Int × (List Int))) (v11 : List Int) (v12 : List (List Int)) : Qf_l3 v0 v1 v2 v3 v4 v5 v6 v7 v8 v9 v10 v11 v12 =
 bif decide (v7 < v8) then
 (at? v12 v3).bind fun y1 =>
 v12[v3.toNat]?.bind fun y2 =>
 (at? y2 v7).bind fun y3 =>
 y2[v7.toNat]?.bind fun y4 =>
 bif y4 == 0 then
 bif decide (v7 < v1) then
 (at? (v12.set v3.toNat y2) v3).bind fun y5 =>
 (v12.set v3.toNat y2)[v3.toNat]?.bind fun y6 =>
 (at? y6 v7).bind fun y7 =>
 y6[v7.toNat]?.bind fun y8 =>
 bif y8 == v4 then
 Qf_l3 v0 v1 v2 v3 v4 (IntKind.i64.wrap (v5 + 1)) (IntKind.i64.wrap (v6 + 1)) (IntKind.i64.wrap (v7 + 1)) v8 v9 v10 v11 ((v12.set v3.toNat y2).set v3.toNat y6)
 else
 Qf_l3 v0 v1 v2 v3 v4 v5 (IntKind.i64.wrap (v6 + 1)) (IntKind.i64.wrap (v7 + 1)) v8 v9 v10 v11 ((v12.set v3.toNat y2).set v3.toNat y6)
 else
 Qf_l3 v0 v1 v2 v3 v4 v5 (IntKind.i64.wrap (v6 + 1)) (IntKind.i64.wrap (v7 + 1)) v8 v9 v10 v11 (v12.set v3.toNat y2)
 else
 bif decide (v7 < v1) then
 (at? (v12.set v3.toNat y2) v3).bind fun y9 =>
 (v12.set v3.toNat y2)[v3.toNat]?.bind fun y10 =>
 (at? y10 v7).bind fun y11 =>
 y10[v7.toNat]?.bind fun y12 =>
 bif y12 == v4 then
 Qf_l3 v0 v1 v2 v3 v4 (IntKind.i64.wrap (v5 + 1)) v6 (IntKind.i64.wrap (v7 + 1)) v8 v9 v10 v11 ((v12.set v3.toNat y2).set v3.toNat y10)
 else
 Qf_l3 v0 v1 v2 v3 v4 v5 v6 (IntKind.i64.wrap (v7 + 1)) v8 v9 v10 v11 ((v12.set v3.toNat y2).set v3.toNat y10)
 else
 Qf_l3 v0 v1 v2 v3 v4 v5 v6 (IntKind.i64.wrap (v7 + 1)) v8 v9 v10 v11 (v12.set v3.toNat y2)
 else
 bif v4 == 1 then
 Qf_l2 v0 (IntKind.i64.wrap (v6 + v5)) (IntKind.i64.wrap ((IntKind.i64.wrap ((2 : Int) * v2)) + v4)) (IntKind.i64.wrap (v3 + 1)) v8 v9 v10 v11 v12
 else
 Qf_l2 v0 v5 (IntKind.i64.wrap ((IntKind.i64.wrap ((2 : Int) * v2)) + v4)) (IntKind.i64.wrap (v3 + 1)) v8 v9 v10 v11 v12 := (Q7 Q0 (Q1 (Qf.gok _)) _ _).trans (by kernel_rfl)
abbrev Q1e.s : Sg := ⟨[.lend], [ag4], ⟨[vo 3], [none]⟩, Tryz.f99⟩
def Q1e.gs (δ : Type) : List (Nat × KC δ) := [(143, Q00.k), (144, Qf.k)]
theorem Q1e.gok (δ : Type) : Q4 Tryz.prog tab (Q1e.gs δ) := .cons Q00.con (.cons Qf.con .nil)
def Q1e.c := cx Q1e.s [] [] [] false (Q1e.gs _)
def Q1e (x0 : Int × (List Int) × (List (Int × (List Int)))) : Option (List Int) := fnW Q1e.s Q1e.c x0
theorem Q1e.fok : FkS Q1e.s 99 := ⟨Tryz.func99, by kernel_rfl, by kernel_rfl⟩
def Q1e.fn (x : Args tab Q1e.s.ar) : Option (ResT tab Q1e.s.rs) := Q1e x
abbrev Q1e.k {δ : Type} : KC δ := kS Q1e.s Q1e.fn
theorem Q1e.con {δ : Type} : Con Tryz.prog (KT tab) 99 (Q1e.k (δ := δ)) := Q5 (c := Q1e.c) mixed Q0 (Q1 (Q1e.gok _)) Q1e.fok rfl rfl fun _ => rfl
theorem Q1e.eq (x0 : Int × (List Int) × (List (Int × (List Int)))) : Q1e x0 =
 (Q00 x0).bind fun y1 =>
 bif !y1 then
 some ([] : List Int)
 else
 (Qf x0).bind fun y2 =>
 some y2 := by kernel_rfl
abbrev QA.s : Sg := ⟨[.lend], [vl 3], ⟨[vo 3], [none]⟩, Tryz.f142⟩
def QA.gs (δ : Type) : List (Nat × KC δ) := [(137, Q04.k)]
theorem QA.gok (δ : Type) : Q4 Tryz.prog tab (QA.gs δ) := .cons Q04.con .nil
def QA.c := cx QA.s [] [] [(5, [0, 3, 4]), (9, [0, 3, 4, 5, 6])] false (QA.gs _)
def QA (x0 : List Int) : Option (List Int) := fnW QA.s QA.c x0
theorem QA.fok : FkS QA.s 142 := ⟨Tryz.func142, by kernel_rfl, by kernel_rfl⟩
def QA.fn (x : Args tab QA.s.ar) : Option (ResT tab QA.s.rs) := QA x
abbrev QA.k {δ : Type} : KC δ := kS QA.s QA.fn
theorem QA.con {δ : Type} : Con Tryz.prog (KT tab) 142 (QA.k (δ := δ)) := Q5 (c := QA.c) mixed Q0 (Q1 (QA.gok _)) QA.fok rfl rfl fun _ => rfl
def QA_l0 (v0 : List Int) (v1 : Int) (v2 : List Int) : Option (List Int) := lpW QA.s QA.c 0 (ud 50 [.vs false 3 v0, .undef, .undef, .sl 0 0, .int .i64 v1]) [.row 0 true 3 v2] 1
def QA_l1 (v0 : List Int) (v1 v2 v3 : Int) (v4 : List Int) : Option (List Int) := lpW QA.s QA.c 1 (ud 48 [.vs false 3 v0, .undef, .undef, .sl 0 0, .int .i64 v1, .int .i64 v2, .int .i64 v3]) [.row 0 true 3 v4] 1
theorem QA.eq (x0 : List Int) : QA x0 =
 (Q04 x0).bind fun y1 =>
 bif !y1 then
 some ([] : List Int)
 else
 QA_l0 x0 0 ([] : List Int) := by kernel_rfl
theorem QA_l0.eq (v0 : List Int) (v1 : Int) (v2 : List Int) : QA_l0 v0 v1 v2 =
 bif decide (v1 < (v0.length : Int)) then
 QA_l1 v0 v1 0 0 v2
 else
 some v2 := (Q7 Q0 (Q1 (QA.gok _)) _ _).trans (by kernel_rfl)
theorem QA_l1.eq (v0 : List Int) (v1 v2 v3 : Int) (v4 : List Int) : QA_l1 v0 v1 v2 v3 v4 =
 bif decide (v3 < (v0.length : Int)) then
 (at? v0 v3).bind fun y1 =>
 (at? v0 v1).bind fun y2 =>
 bif decide (y1 < y2) then
 QA_l1 v0 v1 (IntKind.i64.wrap (v2 + 1)) (IntKind.i64.wrap (v3 + 1)) v4
 else
 bif decide (v3 < v1) then
 (at? v0 v3).bind fun y3 =>
 (at? v0 v1).bind fun y4 =>
 bif y3 == y4 then
 QA_l1 v0 v1 (IntKind.i64.wrap (v2 + 1)) (IntKind.i64.wrap (v3 + 1)) v4
 else
 QA_l1 v0 v1 v2 (IntKind.i64.wrap (v3 + 1)) v4
 else
 QA_l1 v0 v1 v2 (IntKind.i64.wrap (v3 + 1)) v4
 else
 bif decide ((v4.length + ([v2] : List Int).length) * 8 ≤ 140737488355328) then
 QA_l0 v0 (IntKind.i64.wrap (v1 + 1)) (v4 ++ ([v2] : List Int))
 else
 none := (Q7 Q0 (Q1 (QA.gok _)) _ _).trans (by kernel_rfl)
abbrev Q0b.s : Sg := ⟨[.lend, .lend], [vl 3, vl 3], ⟨[vb], [none, none]⟩, Tryz.f100⟩
def Q0b.gs (δ : Type) : List (Nat × KC δ) := []
theorem Q0b.gok (δ : Type) : Q4 Tryz.prog tab (Q0b.gs δ) := .nil
def Q0b.c := cx Q0b.s [] [] [(4, [0, 1, 5])] false (Q0b.gs _)
def Q0b (x0 x1 : List Int) : Option (Bool) := fnW Q0b.s Q0b.c (x0, x1)
theorem Q0b.fok : FkS Q0b.s 100 := ⟨Tryz.func100, by kernel_rfl, by kernel_rfl⟩
def Q0b.fn (x : Args tab Q0b.s.ar) : Option (ResT tab Q0b.s.rs) := Q0b x.1 x.2
abbrev Q0b.k {δ : Type} : KC δ := kS Q0b.s Q0b.fn
theorem Q0b.con {δ : Type} : Con Tryz.prog (KT tab) 100 (Q0b.k (δ := δ)) := Q5 (c := Q0b.c) mixed Q0 (Q1 (Q0b.gok _)) Q0b.fok rfl rfl fun _ => rfl
def Q0b_l0 (v0 v1 : List Int) (v2 : Int) : Option (Bool) := lpW Q0b.s Q0b.c 0 (ud 20 [.vs false 3 v0, .vs false 3 v1, .undef, .undef, .undef, .int .i64 v2]) [] 0
theorem Q0b.eq (x0 x1 : List Int) : Q0b x0 x1 =
 bif (x0.length : Int) != (x1.length : Int) then
 some false
 else
 Q0b_l0 x0 x1 0 := by kernel_rfl
theorem Q0b_l0.eq (v0 v1 : List Int) (v2 : Int) : Q0b_l0 v0 v1 v2 =
 bif decide (v2 < (v0.length : Int)) then
 (at? v0 v2).bind fun y1 =>
 (at? v1 v2).bind fun y2 =>
 bif y1 != y2 then
 some false
 else
 Q0b_l0 v0 v1 (IntKind.i64.wrap (v2 + 1))
 else
 some true := (Q7 Q0 (Q1 (Q0b.gok _)) _ _).trans (by kernel_rfl)
abbrev Qv.s : Sg := ⟨[.lend], [vl 3], ⟨[vo 5, vb], [none]⟩, Tryz.f98⟩
def Qv.gs (δ : Type) : List (Nat × KC δ) := [(88, Qx.k), (100, Q0b.k), (137, Q04.k), (142, QA.k)]
theorem Qv.gok (δ : Type) : Q4 Tryz.prog tab (Qv.gs δ) := .cons Qx.con (.cons Q0b.con (.cons Q04.con (.cons QA.con .nil)))
def Qv.c := cx Qv.s [] [3, 9] [(3, [0]), (7, [0, 4, 5, 6, 7]), (9, [0, 4, 5, 6, 7])] false (Qv.gs _)
def Qv (x0 : List Int) : Option ((List Int) × Bool) := fnW Qv.s Qv.c x0
theorem Qv.fok : FkS Qv.s 98 := ⟨Tryz.func98, by kernel_rfl, by kernel_rfl⟩
def Qv.fn (x : Args tab Qv.s.ar) : Option (ResT tab Qv.s.rs) := Qv x
abbrev Qv.k {δ : Type} : KC δ := kS Qv.s Qv.fn
theorem Qv.con {δ : Type} : Con Tryz.prog (KT tab) 98 (Qv.k (δ := δ)) := Q5 (c := Qv.c) mixed Q0 (Q1 (Qv.gok _)) Qv.fok rfl rfl fun _ => rfl
def Qv_l0 (v0 : List Int) : Option ((List Int) × Bool) := lpW Qv.s Qv.c 0 (ud 51 [.vs false 3 v0]) [] 0
def Qv_l1 (v0 : List Int) (v1 v2 : Int) (v3 v4 : List Int) : Option ((List Int) × Bool) := lpW Qv.s Qv.c 1 (ud 44 [.vs false 3 v0, .undef, .undef, .undef, .sl 0 0, .sl 1 0, .int .i64 v1, .int .i64 v2]) [.row 0 true 3 v3, .row 0 true 5 v4] 2
def Qv_l2 (v0 : List Int) (v1 v2 : Int) (v3 v4 : List Int) : Option ((List Int) × Bool) := lpW Qv.s Qv.c 2 (ud 44 [.vs false 3 v0, .undef, .undef, .undef, .sl 0 0, .sl 1 0, .int .i64 v1, .int .i64 v2]) [.row 0 true 3 v3, .row 0 true 5 v4] 2
theorem Qv.eq (x0 : List Int) : Qv x0 =
 (Q04 x0).bind fun y1 =>
 bif !y1 then
 some (([] : List Int), false)
 else
 bif (x0.length : Int) == 0 then
 some (([] : List Int), false)
 else
 Qv_l0 x0 := by kernel_rfl
theorem Qv_l0.eq (v0 : List Int) : Qv_l0 v0 =
 (QA v0).bind fun y1 =>
 Qv_l1 v0 0 0 y1 ([] : List Int) := (Q7 Q0 (Q1 (Qv.gok _)) _ _).trans (by kernel_rfl)
theorem Qv_l1.eq (v0 : List Int) (v1 v2 : Int) (v3 v4 : List Int) : Qv_l1 v0 v1 v2 v3 v4 =
 bif decide (v2 < IntKind.i64.wrap ((v0.length : Int) - 1)) then
 (at? v0 v1).bind fun y1 =>
 bif decide (y1 > 0) then
 Qv_l2 v0 v1 v2 v3 v4
 else
 (Qx v4).bind fun y2 =>
 (Q0b y2 v0).bind fun y3 =>
 bif !y3 then
 some (([] : List Int), false)
 else
 some (v4, true)
 else
 (Qx v4).bind fun y4 =>
 (Q0b y4 v0).bind fun y5 =>
 bif !y5 then
 some (([] : List Int), false)
 else
 some (v4, true) := (Q7 Q0 (Q1 (Qv.gok _)) _ _).trans (by kernel_rfl)
theorem Qv_l2.eq (v0 : List Int) (v1 v2 : Int) (v3 v4 : List Int) : Qv_l2 v0 v1 v2 v3 v4 =
 (at? v0 v1).bind fun y1 =>
 bif decide ((([IntKind.u8.wrap (IntKind.i64.wrap (y1 - 1))] : List Int).length + v4.length) * 1 ≤ 140737488355328) then
 (at? v3 v1).bind fun y2 =>
 v3[v1.toNat]?.bind fun y3 =>
 Qv_l1 v0 y3 (IntKind.i64.wrap (v2 + 1)) v3 (([IntKind.u8.wrap (IntKind.i64.wrap (y1 - 1))] : List Int) ++ v4)
 else
 none := (Q7 Q0 (Q1 (Qv.gok _)) _ _).trans (by kernel_rfl)
abbrev QS.s : Sg := ⟨[.lend, .lend], [ag3, ag3], ⟨[vb], [none, none]⟩, Tryz.f101⟩
def QS.gs (δ : Type) : List (Nat × KC δ) := []
theorem QS.gok (δ : Type) : Q4 Tryz.prog tab (QS.gs δ) := .nil
def QS.c := cx QS.s [] [3] [(3, [2, 3]), (4, [2, 3, 5])] false (QS.gs _)
def QS (x0 x1 : Int × (List Int)) : Option (Bool) := fnW QS.s QS.c (x0, x1)
theorem QS.fok : FkS QS.s 101 := ⟨Tryz.func101, by kernel_rfl, by kernel_rfl⟩
def QS.fn (x : Args tab QS.s.ar) : Option (ResT tab QS.s.rs) := QS x.1 x.2
abbrev QS.k {δ : Type} : KC δ := kS QS.s QS.fn
theorem QS.con {δ : Type} : Con Tryz.prog (KT tab) 101 (QS.k (δ := δ)) := Q5 (c := QS.c) mixed Q0 (Q1 (QS.gok _)) QS.fok rfl rfl fun _ => rfl
def QS_l0 (v0 : Int) (v1 : List Int) (v2 : Int) (v3 : List Int) : Option (Bool) := lpW QS.s QS.c 0 (ud 34 [.undef, .undef, .ptr 0 0, .ptr 1 0]) [.box 30 [.int .i64 v0, .vs false 90 v1], .box 30 [.int .i64 v2, .vs false 90 v3]] 2
def QS_l1 (v0 v1 : Int) (v2 : List Int) (v3 : Int) (v4 : List Int) : Option (Bool) := lpW QS.s QS.c 1 (ud 32 [.undef, .undef, .ptr 0 0, .ptr 1 0, .undef, .int .i64 v0]) [.box 30 [.int .i64 v1, .vs false 90 v2], .box 30 [.int .i64 v3, .vs false 90 v4]] 2
theorem QS.eq (x0 x1 : Int × (List Int)) : QS x0 x1 =
 bif x0.1 != x1.1 then
 some false
 else
 bif (x0.2.length : Int) != (x1.2.length : Int) then
 some false
 else
 QS_l0 x0.1 x0.2 x1.1 x1.2 := by kernel_rfl
theorem QS_l0.eq (v0 : Int) (v1 : List Int) (v2 : Int) (v3 : List Int) : QS_l0 v0 v1 v2 v3 =
 QS_l1 0 v0 v1 v2 v3 := (Q7 Q0 (Q1 (QS.gok _)) _ _).trans (by kernel_rfl)
theorem QS_l1.eq (v0 v1 : Int) (v2 : List Int) (v3 : Int) (v4 : List Int) : QS_l1 v0 v1 v2 v3 v4 =
 bif decide (v0 < (v2.length : Int)) then
 (at? v2 v0).bind fun y1 =>
 (at? v4 v0).bind fun y2 =>
 bif y1 != y2 then
 some false
 else
 QS_l1 (IntKind.i64.wrap (v0 + 1)) v1 v2 v3 v4
 else
 some true := (Q7 Q0 (Q1 (QS.gok _)) _ _).trans (by kernel_rfl)
abbrev Q11.s : Sg := ⟨[.lend, .lend], [ag5, ag5], ⟨[vb], [none, none]⟩, Tryz.f102⟩
def Q11.gs (δ : Type) : List (Nat × KC δ) := [(101, QS.k)]
theorem Q11.gok (δ : Type) : Q4 Tryz.prog tab (Q11.gs δ) := .cons QS.con .nil
def Q11.c := cx Q11.s [] [] [] false (Q11.gs _)
def Q11 (x0 x1 : Int × Int × Int × (List Int)) : Option (Bool) := fnW Q11.s Q11.c (x0, x1)
theorem Q11.fok : FkS Q11.s 102 := ⟨Tryz.func102, by kernel_rfl, by kernel_rfl⟩
def Q11.fn (x : Args tab Q11.s.ar) : Option (ResT tab Q11.s.rs) := Q11 x.1 x.2
abbrev Q11.k {δ : Type} : KC δ := kS Q11.s Q11.fn
theorem Q11.con {δ : Type} : Con Tryz.prog (KT tab) 102 (Q11.k (δ := δ)) := Q5 (c := Q11.c) mixed Q0 (Q1 (Q11.gok _)) Q11.fok rfl rfl fun _ => rfl
theorem Q11.eq (x0 x1 : Int × Int × Int × (List Int)) : Q11 x0 x1 =
 bif x0.1 == x1.1 then
 bif x0.2.1 == x1.2.1 then
 (QS x0.2.2 x1.2.2).bind fun y1 =>
 some y1
 else
 some false
 else
 some false := by kernel_rfl
abbrev Q08.s : Sg := ⟨[.lend], [ag6], ⟨[vo 5, vb], [none]⟩, Tryz.f41⟩
def Q08.gs (δ : Type) : List (Nat × KC δ) := [(34, Qn.k), (43, Q0J.k), (98, Qv.k), (99, Q1e.k), (100, Q0b.k), (101, QS.k), (102, Q11.k)]
theorem Q08.gok (δ : Type) : Q4 Tryz.prog tab (Q08.gs δ) := .cons Qn.con (.cons Q0J.con (.cons Qv.con (.cons Q1e.con (.cons Q0b.con (.cons QS.con (.cons Q11.con .nil))))))
def Q08.c := cx Q08.s [] [3] [(3, [1])] false (Q08.gs _)
def Q08 (x0 : FmA) : Option ((List Int) × Bool) := fnW Q08.s Q08.c x0
theorem Q08.fok : FkS Q08.s 41 := ⟨Tryz.func41, by kernel_rfl, by kernel_rfl⟩
def Q08.fn (x : Args tab Q08.s.ar) : Option (ResT tab Q08.s.rs) := Q08 x
abbrev Q08.k {δ : Type} : KC δ := kS Q08.s Q08.fn
theorem Q08.con {δ : Type} : Con Tryz.prog (KT tab) 41 (Q08.k (δ := δ)) := Q5 (c := Q08.c) mixed Q0 (Q1 (Q08.gok _)) Q08.fok rfl rfl fun _ => rfl
def Q08_l0 (v0 v1 v2 : Int) (v3 : List Int) (v4 : List (Int × (List Int))) (v5 : List Int) (v6 : Int) (v7 : List Int) (v8 v9 v10 : Int) (v11 : List Int) (v12 v13 v14 : Int) (v15 : List Int) : Option ((List Int) × Bool) := lpW Q08.s Q08.c 0 (ud 70 [.undef, .ptr 0 0]) [.box 34 [.int .i64 v0, .int .i64 v1, .int .i64 v2, .vs false 3 v3, .vs false 30 v4, .vs false 3 v5, .int .i64 v6, .vs false 90 v7, .int .i64 v8, .int .i64 v9, .int .i64 v10, .vs false 90 v11, .int .i64 v12, .int .i64 v13, .int .i64 v14, .vs false 90 v15]] 1
theorem Q08.eq (x0 : FmA) : Q08 x0 =
 (Q0J x0.2.1).bind fun y1 =>
 bif !y1 then
 some (([] : List Int), false)
 else
 bif decide (x0.2.2.1 > 301) then
 some (([] : List Int), false)
 else
 Q08_l0 x0.1 x0.2.1 x0.2.2.1 x0.2.2.2.1 x0.2.2.2.2.1 x0.2.2.2.2.2.1 x0.2.2.2.2.2.2.1 x0.2.2.2.2.2.2.2.1 x0.2.2.2.2.2.2.2.2.1 x0.2.2.2.2.2.2.2.2.2.1 x0.2.2.2.2.2.2.2.2.2.2.1 x0.2.2.2.2.2.2.2.2.2.2.2.1 x0.2.2.2.2.2.2.2.2.2.2.2.2.1 x0.2.2.2.2.2.2.2.2.2.2.2.2.2.1 x0.2.2.2.2.2.2.2.2.2.2.2.2.2.2.1 x0.2.2.2.2.2.2.2.2.2.2.2.2.2.2.2 := by kernel_rfl
theorem Q08_l0.eq (v0 v1 v2 : Int) (v3 : List Int) (v4 : List (Int × (List Int))) (v5 : List Int) (v6 : Int) (v7 : List Int) (v8 v9 v10 : Int) (v11 : List Int) (v12 v13 v14 : Int) (v15 : List Int) : Q08_l0 v0 v1 v2 v3 v4 v5 v6 v7 v8 v9 v10 v11 v12 v13 v14 v15 =
 (Q1e (v2, v3, v4)).bind fun y1 =>
 (Qv y1).bind fun y2 =>
 bif !y2.2 then
 some (([] : List Int), false)
 else
 (Qn y2.1 v1).bind fun y3 =>
 bif v0 != y3.1.1 then
 some (([] : List Int), false)
 else
 (Q0b v5 y3.1.2.2.2.2.2.1).bind fun y4 =>
 bif !y4 then
 some (([] : List Int), false)
 else
 (QS (v6, v7) (y3.1.2.2.2.2.2.2.1, y3.1.2.2.2.2.2.2.2.1)).bind fun y5 =>
 bif !y5 then
 some (([] : List Int), false)
 else
 (Q11 (v8, v9, v10, v11) (y3.1.2.2.2.2.2.2.2.2.1, y3.1.2.2.2.2.2.2.2.2.2.1, y3.1.2.2.2.2.2.2.2.2.2.2.1, y3.1.2.2.2.2.2.2.2.2.2.2.2.1)).bind fun y6 =>
 bif !y6 then
 some (([] : List Int), false)
 else
 (Q11 (v12, v13, v14, v15) y3.1.2.2.2.2.2.2.2.2.2.2.2.2).bind fun y7 =>
 bif !y7 then
 some (([] : List Int), false)
 else
 some (y2.1, true) := (Q7 Q0 (Q1 (Q08.gok _)) _ _).trans (by kernel_rfl)
abbrev Q0W.s : Sg := ⟨[.lend, .lend, .lend], [vl 5, vl 5, vi], ⟨[vb], [none, none, none]⟩, Tryz.f42⟩
def Q0W.gs (δ : Type) : List (Nat × KC δ) := [(85, Q0F.k)]
theorem Q0W.gok (δ : Type) : Q4 Tryz.prog tab (Q0W.gs δ) := .cons Q0F.con .nil
def Q0W.c := cx Q0W.s [] [] [] false (Q0W.gs _)
def Q0W (x0 x1 : List Int) (x2 : Int) : Option (Bool) := fnW Q0W.s Q0W.c (x0, x1, x2)
theorem Q0W.fok : FkS Q0W.s 42 := ⟨Tryz.func42, by kernel_rfl, by kernel_rfl⟩
def Q0W.fn (x : Args tab Q0W.s.ar) : Option (ResT tab Q0W.s.rs) := Q0W x.1 x.2.1 x.2.2
abbrev Q0W.k {δ : Type} : KC δ := kS Q0W.s Q0W.fn
theorem Q0W.con {δ : Type} : Con Tryz.prog (KT tab) 42 (Q0W.k (δ := δ)) := Q5 (c := Q0W.c) mixed Q0 (Q1 (Q0W.gok _)) Q0W.fok rfl rfl fun _ => rfl
theorem Q0W.eq (x0 x1 : List Int) (x2 : Int) : Q0W x0 x1 x2 =
 (Q0F x0).bind fun y1 =>
 bif y1 then
 (Q0F x1).bind fun y2 =>
 bif y2 then
 bif decide (x2 ≥ 0) then
 some (decide (x2 ≤ 8))
 else
 some false
 else
 some false
 else
 some false := by kernel_rfl
abbrev Q1f.s : Sg := ⟨[.lend, .lend, .lend], [vl 5, vi, vi], ⟨[vl 5], [none, none, none]⟩, Tryz.f181⟩
def Q1f.gs (δ : Type) : List (Nat × KC δ) := []
theorem Q1f.gok (δ : Type) : Q4 Tryz.prog tab (Q1f.gs δ) := .nil
def Q1f.c := cx Q1f.s [] [] [] false (Q1f.gs _)
def Q1f (x0 : List Int) (x1 x2 : Int) : Option (List Int) := fnW Q1f.s Q1f.c (x0, x1, x2)
theorem Q1f.fok : FkS Q1f.s 181 := ⟨Tryz.func181, by kernel_rfl, by kernel_rfl⟩
def Q1f.fn (x : Args tab Q1f.s.ar) : Option (ResT tab Q1f.s.rs) := Q1f x.1 x.2.1 x.2.2
abbrev Q1f.k {δ : Type} : KC δ := kS Q1f.s Q1f.fn
theorem Q1f.con {δ : Type} : Con Tryz.prog (KT tab) 181 (Q1f.k (δ := δ)) := Q5 (c := Q1f.c) mixed Q0 (Q1 (Q1f.gok _)) Q1f.fok rfl rfl fun _ => rfl
theorem Q1f.eq (x0 : List Int) (x1 x2 : Int) : Q1f x0 x1 x2 =
 bif decide (0 ≤ (if IntKind.i64.wrap (x1 + x2) < (x0.length : Int) then IntKind.i64.wrap (x1 + x2) else (x0.length : Int)) ∧ (if IntKind.i64.wrap (x1 + x2) < (x0.length : Int) then IntKind.i64.wrap (x1 + x2) else (x0.length : Int)) ≤ ((x0.length : Nat) : Int)) then
 bif decide (0 ≤ x1 ∧ x1 ≤ (((if IntKind.i64.wrap (x1 + x2) < (x0.length : Int) then IntKind.i64.wrap (x1 + x2) else (x0.length : Int)).toNat : Nat) : Int)) then
 some ((x0.take ((if IntKind.i64.wrap (x1 + x2) < (x0.length : Int) then IntKind.i64.wrap (x1 + x2) else (x0.length : Int)).toNat)).drop x1.toNat)
 else
 none
 else
 none := by kernel_rfl
abbrev Q0i.s : Sg := ⟨[.lend, .lend], [vl 5, vi], ⟨[.one (.b (.b (.b (.b (.sl true false 22)))))], [none, none]⟩, Tryz.f145⟩
def Q0i.gs (δ : Type) : List (Nat × KC δ) := [(86, Qu.k), (181, Q1f.k)]
theorem Q0i.gok (δ : Type) : Q4 Tryz.prog tab (Q0i.gs δ) := .cons Qu.con (.cons Q1f.con .nil)
def Q0i.c := cx Q0i.s [22] [] [(4, [0, 1, 5, 6, 7])] false (Q0i.gs _)
def Q0i (x0 : List Int) (x1 : Int) : Option (List (List Int)) := fnW Q0i.s Q0i.c (x0, x1)
theorem Q0i.fok : FkS Q0i.s 145 := ⟨Tryz.func145, by kernel_rfl, by kernel_rfl⟩
def Q0i.fn (x : Args tab Q0i.s.ar) : Option (ResT tab Q0i.s.rs) := Q0i x.1 x.2
abbrev Q0i.k {δ : Type} : KC δ := kS Q0i.s Q0i.fn
theorem Q0i.con {δ : Type} : Con Tryz.prog (KT tab) 145 (Q0i.k (δ := δ)) := Q5 (c := Q0i.c) mixed Q0 (Q1 (Q0i.gok _)) Q0i.fok rfl rfl fun _ => rfl
def Q0i_l0 (v0 : List Int) (v1 v2 : Int) (v3 : List Int) (v4 : List (List Int)) : Option (List (List Int)) := lpW Q0i.s Q0i.c 0 (ud 20 [.vs false 5 v0, .int .i64 v1, .undef, .undef, .undef, .sl 0 0, .sl 1 0, .int .i64 v2]) [.row 0 true 3 v3, .row 0 false 22 v4] 2
theorem Q0i.eq (x0 : List Int) (x1 : Int) : Q0i x0 x1 =
 (Qu x0).bind fun y1 =>
 Q0i_l0 x0 x1 0 y1 ([] : List (List Int)) := by kernel_rfl
theorem Q0i_l0.eq (v0 : List Int) (v1 v2 : Int) (v3 : List Int) (v4 : List (List Int)) : Q0i_l0 v0 v1 v2 v3 v4 =
 bif decide (v2 < (v3.length : Int)) then
 (at? v3 v2).bind fun y1 =>
 v3[v2.toNat]?.bind fun y2 =>
 (Q1f v0 y2 v1).bind fun y3 =>
 bif decide ((v4.length + ([y3] : List (List Int)).length) * 24 ≤ 140737488355328) then
 Q0i_l0 v0 v1 (IntKind.i64.wrap (v2 + 1)) v3 (v4 ++ ([y3] : List (List Int)))
 else
 none
 else
 some v4 := (Q7 Q0 (Q1 (Q0i.gok _)) _ _).trans (by kernel_rfl)
abbrev Q0c.s : Sg := ⟨[.lend, .lend], [vl 22, vl 5], ⟨[vi, vi], [none, none]⟩, Tryz.f146⟩
def Q0c.gs (δ : Type) : List (Nat × KC δ) := [(136, Qz.k)]
theorem Q0c.gok (δ : Type) : Q4 Tryz.prog tab (Q0c.gs δ) := .cons Qz.con .nil
def Q0c.c := cx Q0c.s [] [] [(4, [0, 1, 6, 7, 8])] false (Q0c.gs _)
def Q0c (x0 : List (List Int)) (x1 : List Int) : Option (Int × Int) := fnW Q0c.s Q0c.c (x0, x1)
theorem Q0c.fok : FkS Q0c.s 146 := ⟨Tryz.func146, by kernel_rfl, by kernel_rfl⟩
def Q0c.fn (x : Args tab Q0c.s.ar) : Option (ResT tab Q0c.s.rs) := Q0c x.1 x.2
abbrev Q0c.k {δ : Type} : KC δ := kS Q0c.s Q0c.fn
theorem Q0c.con {δ : Type} : Con Tryz.prog (KT tab) 146 (Q0c.k (δ := δ)) := Q5 (c := Q0c.c) mixed Q0 (Q1 (Q0c.gok _)) Q0c.fok rfl rfl fun _ => rfl
def Q0c_l0 (v0 : List (List Int)) (v1 : List Int) (v2 v3 v4 : Int) : Option (Int × Int) := lpW Q0c.s Q0c.c 0 (ud 23 [.vs false 22 v0, .vs false 5 v1, .undef, .undef, .undef, .undef, .int .i64 v2, .int .i64 v3, .int .i64 v4]) [] 0
theorem Q0c.eq (x0 : List (List Int)) (x1 : List Int) : Q0c x0 x1 =
 Q0c_l0 x0 x1 0 0 0 := by kernel_rfl
theorem Q0c_l0.eq (v0 : List (List Int)) (v1 : List Int) (v2 v3 v4 : Int) : Q0c_l0 v0 v1 v2 v3 v4 =
 bif decide (v4 < (v0.length : Int)) then
 (at? v0 v4).bind fun y1 =>
 (Qz y1 v1).bind fun y2 =>
 bif decide (y2 < 0) then
 bif decide (y2 ≤ 0) then
 Q0c_l0 v0 v1 (IntKind.i64.wrap (v2 + 1)) (IntKind.i64.wrap (v3 + 1)) (IntKind.i64.wrap (v4 + 1))
 else
 Q0c_l0 v0 v1 (IntKind.i64.wrap (v2 + 1)) v3 (IntKind.i64.wrap (v4 + 1))
 else
 bif decide (y2 ≤ 0) then
 Q0c_l0 v0 v1 v2 (IntKind.i64.wrap (v3 + 1)) (IntKind.i64.wrap (v4 + 1))
 else
 Q0c_l0 v0 v1 v2 v3 (IntKind.i64.wrap (v4 + 1))
 else
 some (v2, v3) := (Q7 Q0 (Q1 (Q0c.gok _)) _ _).trans (by kernel_rfl)
abbrev Qj.s : Sg := ⟨[.lend, .lend, .lend], [vl 5, vl 5, vi], ⟨[vl 137], [none, none, none]⟩, Tryz.f106⟩
def Qj.gs (δ : Type) : List (Nat × KC δ) := [(42, Q0W.k), (136, Qz.k), (145, Q0i.k), (146, Q0c.k)]
theorem Qj.gok (δ : Type) : Q4 Tryz.prog tab (Qj.gs δ) := .cons Q0W.con (.cons Qz.con (.cons Q0i.con (.cons Q0c.con .nil)))
def Qj.c := cx Qj.s [22] [] [(8, [7, 8, 9, 10, 11]), (12, [7, 8, 9, 10, 11, 12, 13]), (20, [7, 8, 10, 15, 16])] false (Qj.gs _)
def Qj (x0 x1 : List Int) (x2 : Int) : Option (List ((List Int) × Int × Int × Int × Int)) := fnW Qj.s Qj.c (x0, x1, x2)
theorem Qj.fok : FkS Qj.s 106 := ⟨Tryz.func106, by kernel_rfl, by kernel_rfl⟩
def Qj.fn (x : Args tab Qj.s.ar) : Option (ResT tab Qj.s.rs) := Qj x.1 x.2.1 x.2.2
abbrev Qj.k {δ : Type} : KC δ := kS Qj.s Qj.fn
theorem Qj.con {δ : Type} : Con Tryz.prog (KT tab) 106 (Qj.k (δ := δ)) := Q5 (c := Qj.c) mixed Q0 (Q1 (Qj.gok _)) Qj.fok rfl rfl fun _ => rfl
def Qj_l0 (v0 : Int) (v1 v2 v3 v4 : List (List Int)) : Option (List ((List Int) × Int × Int × Int × Int)) := lpW Qj.s Qj.c 0 (ud 119 [.undef, .undef, .undef, .undef, .undef, .undef, .undef, .sl 0 0, .sl 1 0, .sl 2 0, .sl 3 0, .int .i64 v0]) [.row 0 false 22 v1, .row 0 false 22 v2, .row 0 false 22 v3, .row 0 false 22 v4] 4
def Qj_l1 (v0 v1 : Int) (v2 : Bool) (v3 v4 v5 v6 : List (List Int)) : Option (List ((List Int) × Int × Int × Int × Int)) := lpW Qj.s Qj.c 1 (ud 117 [.undef, .undef, .undef, .undef, .undef, .undef, .undef, .sl 0 0, .sl 1 0, .sl 2 0, .sl 3 0, .int .i64 v0, .int .i64 v1, .bool v2]) [.row 0 false 22 v3, .row 0 false 22 v4, .row 0 false 22 v5, .row 0 false 22 v6] 4
def Qj_l2 (v0 : Int) (v1 v2 v3 : List (List Int)) (v4 : List ((List Int) × Int × Int × Int × Int)) : Option (List ((List Int) × Int × Int × Int × Int)) := lpW Qj.s Qj.c 2 (ud 114 [.undef, .undef, .undef, .undef, .undef, .undef, .undef, .sl 0 0, .sl 1 0, .undef, .sl 2 0, .undef, .undef, .undef, .undef, .sl 3 0, .int .i64 v0]) [.row 0 false 22 v1, .row 0 false 22 v2, .row 0 false 22 v3, .row 0 true 137 v4] 4
theorem Qj.eq (x0 x1 : List Int) (x2 : Int) : Qj x0 x1 x2 =
 (Q0W x0 x1 x2).bind fun y1 =>
 bif !y1 then
 some ([] : List ((List Int) × Int × Int × Int × Int))
 else
 (Q0i x0 x2).bind fun y2 =>
 (Q0i x1 x2).bind fun y3 =>
 bif decide ((([] : List (List Int)).length + y2.length) * 24 ≤ 140737488355328) then
 bif decide (((([] : List (List Int)) ++ y2).length + y3.length) * 24 ≤ 140737488355328) then
 Qj_l0 0 y2 y3 ((([] : List (List Int)) ++ y2) ++ y3) ([] : List (List Int))
 else
 none
 else
 none := by kernel_rfl
theorem Qj_l0.eq (v0 : Int) (v1 v2 v3 v4 : List (List Int)) : Qj_l0 v0 v1 v2 v3 v4 =
 bif decide (v0 < (v3.length : Int)) then
 Qj_l1 v0 0 false v1 v2 v3 v4
 else
 Qj_l2 0 v1 v2 v4 ([] : List ((List Int) × Int × Int × Int × Int)) := (Q7 Q0 (Q1 (Qj.gok _)) _ _).trans (by kernel_rfl)
theorem Qj_l1.eq (v0 v1 : Int) (v2 : Bool) (v3 v4 v5 v6 : List (List Int)) : Qj_l1 v0 v1 v2 v3 v4 v5 v6 =
 bif decide (v1 < (v6.length : Int)) then
 (at? v6 v1).bind fun y1 =>
 v6[v1.toNat]?.bind fun y2 =>
 (at? v5 v0).bind fun y3 =>
 v5[v0.toNat]?.bind fun y4 =>
 (Qz y2 y4).bind fun y5 =>
 bif decide (y5 ≤ 0) then
 bif v2 then
 Qj_l1 v0 (IntKind.i64.wrap (v1 + 1)) true v3 v4 v5 v6
 else
 (at? v6 v1).bind fun y6 =>
 v6[v1.toNat]?.bind fun y7 =>
 (at? v5 v0).bind fun y8 =>
 v5[v0.toNat]?.bind fun y9 =>
 (Qz y7 y9).bind fun y10 =>
 Qj_l1 v0 (IntKind.i64.wrap (v1 + 1)) (y10 == 0) v3 v4 v5 v6
 else
 bif !v2 then
 (at? v5 v0).bind fun y11 =>
 v5[v0.toNat]?.bind fun y12 =>
 bif decide (0 ≤ v1 ∧ v1 ≤ ((v6.length : Nat) : Int)) then
 bif decide ((([y12] : List (List Int)).length + ((v6.drop v1.toNat).take (v6.length - v1.toNat)).length) * 24 ≤ 140737488355328) then
 bif decide (0 ≤ v1 ∧ v1 ≤ ((v6.length : Nat) : Int)) then
 bif decide ((([] : List (List Int)).length + ((v6.drop 0).take (v1.toNat - 0)).length) * 24 ≤ 140737488355328) then
 bif decide (((([] : List (List Int)) ++ ((v6.drop 0).take (v1.toNat - 0))).length + (([y12] : List (List Int)) ++ ((v6.drop v1.toNat).take (v6.length - v1.toNat))).length) * 24 ≤ 140737488355328) then
 Qj_l0 (IntKind.i64.wrap (v0 + 1)) v3 v4 v5 ((([] : List (List Int)) ++ ((v6.drop 0).take (v1.toNat - 0))) ++ (([y12] : List (List Int)) ++ ((v6.drop v1.toNat).take (v6.length - v1.toNat))))
 else
 none
 else
 none
 else
 none
 else
 none
 else
 none
 else
 Qj_l0 (IntKind.i64.wrap (v0 + 1)) v3 v4 v5 v6
 else
 bif !v2 then
 (at? v5 v0).bind fun y13 =>
 v5[v0.toNat]?.bind fun y14 =>
 bif decide (0 ≤ v1 ∧ v1 ≤ ((v6.length : Nat) : Int)) then
 bif decide ((([y14] : List (List Int)).length + ((v6.drop v1.toNat).take (v6.length - v1.toNat)).length) * 24 ≤ 140737488355328) then
 bif decide (0 ≤ v1 ∧ v1 ≤ ((v6.length : Nat) : Int)) then
 bif decide ((([] : List (List Int)).length + ((v6.drop 0).take (v1.toNat - 0)).length) * 24 ≤ 140737488355328) then
 bif decide (((([] : List (List Int)) ++ ((v6.drop 0).take (v1.toNat - 0))).length + (([y14] : List (List Int)) ++ ((v6.drop v1.toNat).take (v6.length - v1.toNat))).length) * 24 ≤ 140737488355328) then
 Qj_l0 (IntKind.i64.wrap (v0 + 1)) v3 v4 v5 ((([] : List (List Int)) ++ ((v6.drop 0).take (v1.toNat - 0))) ++ (([y14] : List (List Int)) ++ ((v6.drop v1.toNat).take (v6.length - v1.toNat))))
 else
 none
 else
 none
 else
 none
 else
 none
 else
 none
 else
 Qj_l0 (IntKind.i64.wrap (v0 + 1)) v3 v4 v5 v6 := (Q7 Q0 (Q1 (Qj.gok _)) _ _).trans (by kernel_rfl)
theorem Qj_l2.eq (v0 : Int) (v1 v2 v3 : List (List Int)) (v4 : List ((List Int) × Int × Int × Int × Int)) : Qj_l2 v0 v1 v2 v3 v4 =
 bif decide (v0 < (v3.length : Int)) then
 (at? v3 v0).bind fun y1 =>
 v3[v0.toNat]?.bind fun y2 =>
 bif decide ((([] : List Int).length + y2.length) * 1 ≤ 140737488355328) then
 (at? v3 v0).bind fun y3 =>
 v3[v0.toNat]?.bind fun y4 =>
 (Q0c v1 y4).bind fun y5 =>
 (at? v3 v0).bind fun y6 =>
 v3[v0.toNat]?.bind fun y7 =>
 (Q0c v2 y7).bind fun y8 =>
 bif decide ((v4.length + ([(([] : List Int) ++ y2, y5.1, y5.2, y8.1, y8.2)] : List ((List Int) × Int × Int × Int × Int)).length) * 56 ≤ 140737488355328) then
 Qj_l2 (IntKind.i64.wrap (v0 + 1)) v1 v2 v3 (v4 ++ ([(([] : List Int) ++ y2, y5.1, y5.2, y8.1, y8.2)] : List ((List Int) × Int × Int × Int × Int)))
 else
 none
 else
 none
 else
 some v4 := (Q7 Q0 (Q1 (Qj.gok _)) _ _).trans (by kernel_rfl)
abbrev Q0O.s : Sg := ⟨[.lend], [vl 3], ⟨[vb], [none]⟩, Tryz.f182⟩
def Q0O.gs (δ : Type) : List (Nat × KC δ) := []
theorem Q0O.gok (δ : Type) : Q4 Tryz.prog tab (Q0O.gs δ) := .nil
def Q0O.c := cx Q0O.s [] [] [] false (Q0O.gs _)
def Q0O (x0 : List Int) : Option (Bool) := fnW Q0O.s Q0O.c x0
theorem Q0O.fok : FkS Q0O.s 182 := ⟨Tryz.func182, by kernel_rfl, by kernel_rfl⟩
def Q0O.fn (x : Args tab Q0O.s.ar) : Option (ResT tab Q0O.s.rs) := Q0O x
abbrev Q0O.k {δ : Type} : KC δ := kS Q0O.s Q0O.fn
theorem Q0O.con {δ : Type} : Con Tryz.prog (KT tab) 182 (Q0O.k (δ := δ)) := Q5 (c := Q0O.c) mixed Q0 (Q1 (Q0O.gok _)) Q0O.fok rfl rfl fun _ => rfl
theorem Q0O.eq (x0 : List Int) : Q0O x0 =
 some (decide ((x0.length : Int) ≤ 301)) := by kernel_rfl
def Q1X.ms : List Mode := [.lend, .lend]
def Q1X.as : List VSh := [.one (.b (.b (.b (.b (.sl false false 3))))), .one (.b (.b (.b (.b (.sl false false 3)))))]
def Q1X.rs : RSh := ⟨[.one (.b (.b (.b (.b (.sl false false 24)))))], [none, none]⟩
def Q1X (x0 : List Int) (x1 : List Int) : Option (List (List Int)) := (tableC fS (List.map (fun x => x) x0) (List.map (fun x => x) x1)).map (List.map fun x => x)
def Q1X.fn : Args tab Q1X.as → Option (ResT tab Q1X.rs) := fun x => Q1X x.1 x.2
abbrev Q1X.k {δ : Type} : KC δ := Q1Q tab Q1X.ms Q1X.as Q1X.rs Q1X.fn
theorem Q1X.con {δ : Type} : Con Tryz.prog (KT tab) 183 (Q1X.k (δ := δ)) := con_table (l := tab) Tryz.func183 (by kernel_rfl) rfl It.T183.tableOk (e := 24) (e3 := 3) (g := fun x => x) (g' := fun x => x) (h := fun x => x) rfl (fun _ => rfl) (fun ys => Eq.trans rfl (congrArg (fun z => [T.sl false false 3 z]) (List.map_id ys).symm))
abbrev Q1g.s : Sg := ⟨[.lend, .lend], [vl 3, vl 3], ⟨[vi], [none, none]⟩, Tryz.f147⟩
def Q1g.gs (δ : Type) : List (Nat × KC δ) := [(182, Q0O.k), (183, Q1X.k)]
theorem Q1g.gok (δ : Type) : Q4 Tryz.prog tab (Q1g.gs δ) := .cons Q0O.con (.cons Q1X.con .nil)
def Q1g.c := cx Q1g.s [] [] [] false (Q1g.gs _)
def Q1g (x0 x1 : List Int) : Option (Int) := fnW Q1g.s Q1g.c (x0, x1)
theorem Q1g.fok : FkS Q1g.s 147 := ⟨Tryz.func147, by kernel_rfl, by kernel_rfl⟩
def Q1g.fn (x : Args tab Q1g.s.ar) : Option (ResT tab Q1g.s.rs) := Q1g x.1 x.2
abbrev Q1g.k {δ : Type} : KC δ := kS Q1g.s Q1g.fn
theorem Q1g.con {δ : Type} : Con Tryz.prog (KT tab) 147 (Q1g.k (δ := δ)) := Q5 (c := Q1g.c) mixed Q0 (Q1 (Q1g.gok _)) Q1g.fok rfl rfl fun _ => rfl
theorem Q1g.eq (x0 x1 : List Int) : Q1g x0 x1 =
 (Q0O x0).bind fun y1 =>
 bif !y1 then
 some (-1 : Int)
 else
 (Q0O x1).bind fun y2 =>
 bif !y2 then
 some (-1 : Int)
 else
 (Q1X x0 x1).bind fun y3 =>
 (at? y3 0).bind fun y4 =>
 (at? y4 0).bind fun y5 =>
 some y5 := by kernel_rfl
abbrev Qi.s : Sg := ⟨[.lend, .lend], [vl 3, vl 3], ⟨[vo 140], [none, none]⟩, Tryz.f148⟩
def Qi.gs (δ : Type) : List (Nat × KC δ) := [(182, Q0O.k), (183, Q1X.k)]
theorem Qi.gok (δ : Type) : Q4 Tryz.prog tab (Qi.gs δ) := .cons Q0O.con (.cons Q1X.con .nil)
def Qi.c := cx Qi.s [] [3] [(3, [0, 1]), (7, [0, 1, 5, 6, 7, 8]), (10, [0, 1, 5, 6, 7, 8, 9, 10]), (12, [0, 1, 5, 6, 7, 8, 9, 10, 11])] false (Qi.gs _)
def Qi (x0 x1 : List Int) : Option (List (Int × Int)) := fnW Qi.s Qi.c (x0, x1)
theorem Qi.fok : FkS Qi.s 148 := ⟨Tryz.func148, by kernel_rfl, by kernel_rfl⟩
def Qi.fn (x : Args tab Qi.s.ar) : Option (ResT tab Qi.s.rs) := Qi x.1 x.2
abbrev Qi.k {δ : Type} : KC δ := kS Qi.s Qi.fn
theorem Qi.con {δ : Type} : Con Tryz.prog (KT tab) 148 (Qi.k (δ := δ)) := Q5 (c := Qi.c) mixed Q0 (Q1 (Qi.gok _)) Qi.fok rfl rfl fun _ => rfl
def Qi_l0 (v0 v1 : List Int) : Option (List (Int × Int)) := lpW Qi.s Qi.c 0 (ud 84 [.vs false 3 v0, .vs false 3 v1]) [] 0
def Qi_l1 (v0 v1 : List Int) (v2 : List (List Int)) (v3 v4 : Int) (v5 : List (Int × Int)) : Option (List (Int × Int)) := lpW Qi.s Qi.c 1 (ud 77 [.vs false 3 v0, .vs false 3 v1, .undef, .undef, .undef, .vs false 24 v2, .sl 0 0, .int .i64 v3, .int .i64 v4]) [.row 0 true 140 v5] 1
def Qi_l2 (v0 v1 : List Int) (v2 : List (List Int)) (v3 v4 v5 v6 : Int) (v7 : List (Int × Int)) : Option (List (Int × Int)) := lpW Qi.s Qi.c 2 (ud 75 [.vs false 3 v0, .vs false 3 v1, .undef, .undef, .undef, .vs false 24 v2, .sl 0 0, .int .i64 v3, .int .i64 v4, .int .i64 v5, .int .i64 v6]) [.row 0 true 140 v7] 1
def Qi_l3 (v0 v1 : List Int) (v2 : List (List Int)) (v3 v4 v5 v6 v7 : Int) (v8 : List (Int × Int)) : Option (List (Int × Int)) := lpW Qi.s Qi.c 3 (ud 74 [.vs false 3 v0, .vs false 3 v1, .undef, .undef, .undef, .vs false 24 v2, .sl 0 0, .int .i64 v3, .int .i64 v4, .int .i64 v5, .int .i64 v6, .int .i64 v7]) [.row 0 true 140 v8] 1
theorem Qi.eq (x0 x1 : List Int) : Qi x0 x1 =
 (Q0O x0).bind fun y1 =>
 bif !y1 then
 some ([] : List (Int × Int))
 else
 (Q0O x1).bind fun y2 =>
 bif !y2 then
 some ([] : List (Int × Int))
 else
 Qi_l0 x0 x1 := by kernel_rfl
theorem Qi_l0.eq (v0 v1 : List Int) : Qi_l0 v0 v1 =
 (Q1X v0 v1).bind fun y1 =>
 Qi_l1 v0 v1 y1 0 0 ([] : List (Int × Int)) := (Q7 Q0 (Q1 (Qi.gok _)) _ _).trans (by kernel_rfl)
theorem Qi_l1.eq (v0 v1 : List Int) (v2 : List (List Int)) (v3 v4 : Int) (v5 : List (Int × Int)) : Qi_l1 v0 v1 v2 v3 v4 v5 =
 (at? v2 v3).bind fun y1 =>
 (at? y1 v4).bind fun y2 =>
 bif decide (y2 > 0) then
 Qi_l2 v0 v1 v2 v3 v4 v3 (-1 : Int) v5
 else
 some v5 := (Q7 Q0 (Q1 (Qi.gok _)) _ _).trans (by kernel_rfl)
theorem Qi_l2.eq (v0 v1 : List Int) (v2 : List (List Int)) (v3 v4 v5 v6 : Int) (v7 : List (Int × Int)) : Qi_l2 v0 v1 v2 v3 v4 v5 v6 v7 =
 bif decide (v6 < 0) then
 Qi_l3 v0 v1 v2 v3 v4 v5 v6 (IntKind.i64.wrap ((v1.length : Int) - 1)) v7
 else
 bif decide ((v7.length + ([(IntKind.i64.wrap (v5 - 1), v6)] : List (Int × Int)).length) * 16 ≤ 140737488355328) then
 Qi_l1 v0 v1 v2 v5 (IntKind.i64.wrap (v6 + 1)) (v7 ++ ([(IntKind.i64.wrap (v5 - 1), v6)] : List (Int × Int)))
 else
 none := (Q7 Q0 (Q1 (Qi.gok _)) _ _).trans (by kernel_rfl)
theorem Qi_l3.eq (v0 v1 : List Int) (v2 : List (List Int)) (v3 v4 v5 v6 v7 : Int) (v8 : List (Int × Int)) : Qi_l3 v0 v1 v2 v3 v4 v5 v6 v7 v8 =
 bif decide (v7 ≥ v4) then
 (at? v0 v5).bind fun y1 =>
 (at? v1 v7).bind fun y2 =>
 bif y1 == y2 then
 (at? v2 (IntKind.i64.wrap (v5 + 1))).bind fun y3 =>
 (at? y3 (IntKind.i64.wrap (v7 + 1))).bind fun y4 =>
 (at? v2 v3).bind fun y5 =>
 (at? y5 v4).bind fun y6 =>
 bif IntKind.i64.wrap ((1 : Int) + y4) == y6 then
 Qi_l3 v0 v1 v2 v3 v4 v5 v7 (IntKind.i64.wrap (v7 - 1)) v8
 else
 Qi_l3 v0 v1 v2 v3 v4 v5 v6 (IntKind.i64.wrap (v7 - 1)) v8
 else
 Qi_l3 v0 v1 v2 v3 v4 v5 v6 (IntKind.i64.wrap (v7 - 1)) v8
 else
 Qi_l2 v0 v1 v2 v3 v4 (IntKind.i64.wrap (v5 + 1)) v6 v8 := (Q7 Q0 (Q1 (Qi.gok _)) _ _).trans (by kernel_rfl)
abbrev Q12.s : Sg := ⟨[.lend, .lend, .lend], [vl 3, vl 3, vi], ⟨[vo 140], [none, none, none]⟩, Tryz.f107⟩
def Q12.gs (δ : Type) : List (Nat × KC δ) := [(147, Q1g.k), (148, Qi.k)]
theorem Q12.gok (δ : Type) : Q4 Tryz.prog tab (Q12.gs δ) := .cons Q1g.con (.cons Qi.con .nil)
def Q12.c := cx Q12.s [] [] [] false (Q12.gs _)
def Q12 (x0 x1 : List Int) (x2 : Int) : Option (List (Int × Int)) := fnW Q12.s Q12.c (x0, x1, x2)
theorem Q12.fok : FkS Q12.s 107 := ⟨Tryz.func107, by kernel_rfl, by kernel_rfl⟩
def Q12.fn (x : Args tab Q12.s.ar) : Option (ResT tab Q12.s.rs) := Q12 x.1 x.2.1 x.2.2
abbrev Q12.k {δ : Type} : KC δ := kS Q12.s Q12.fn
theorem Q12.con {δ : Type} : Con Tryz.prog (KT tab) 107 (Q12.k (δ := δ)) := Q5 (c := Q12.c) mixed Q0 (Q1 (Q12.gok _)) Q12.fok rfl rfl fun _ => rfl
theorem Q12.eq (x0 x1 : List Int) (x2 : Int) : Q12 x0 x1 x2 =
 (Q1g x0 x1).bind fun y1 =>
 bif decide (y1 < 0) then
 some ([] : List (Int × Int))
 else
 bif decide (IntKind.i64.wrap ((IntKind.i64.wrap ((x0.length : Int) + (x1.length : Int))) - (IntKind.i64.wrap ((2 : Int) * y1))) > x2) then
 some ([] : List (Int × Int))
 else
 (Qi x0 x1).bind fun y2 =>
 some y2 := by kernel_rfl
abbrev QK.s : Sg := ⟨[.lend, .lend, .lend, .lend], [vl 5, vl 5, vi, vi], ⟨[vo 140], [none, none, none, none]⟩, Tryz.f45⟩
def QK.gs (δ : Type) : List (Nat × KC δ) := [(88, Qx.k), (106, Qj.k), (107, Q12.k)]
theorem QK.gok (δ : Type) : Q4 Tryz.prog tab (QK.gs δ) := .cons Qx.con (.cons Qj.con (.cons Q12.con .nil))
def QK.c := cx QK.s [] [] [(6, [3, 9, 10, 11, 12, 13]), (11, [3, 9, 10, 11, 12, 13, 14, 15, 16])] false (QK.gs _)
def QK (x0 x1 : List Int) (x2 x3 : Int) : Option (List (Int × Int)) := fnW QK.s QK.c (x0, x1, x2, x3)
theorem QK.fok : FkS QK.s 45 := ⟨Tryz.func45, by kernel_rfl, by kernel_rfl⟩
def QK.fn (x : Args tab QK.s.ar) : Option (ResT tab QK.s.rs) := QK x.1 x.2.1 x.2.2.1 x.2.2.2
abbrev QK.k {δ : Type} : KC δ := kS QK.s QK.fn
theorem QK.con {δ : Type} : Con Tryz.prog (KT tab) 45 (QK.k (δ := δ)) := Q5 (c := QK.c) mixed Q0 (Q1 (QK.gok _)) QK.fok rfl rfl fun _ => rfl
def QK_l0 (v0 : Int) (v1 : List ((List Int) × Int × Int × Int × Int)) (v2 : Int) (v3 : List (Int × Int)) (v4 v5 : List Int) : Option (List (Int × Int)) := lpW QK.s QK.c 0 (ud 63 [.undef, .undef, .undef, .int .i64 v0, .undef, .undef, .undef, .undef, .undef, .sl 0 0, .vs false 137 v1, .sl 1 0, .sl 2 0, .int .i64 v2]) [.row 0 true 140 v3, .row 0 true 3 v4, .row 0 true 3 v5] 3
def QK_l1 (v0 : Int) (v1 : List ((List Int) × Int × Int × Int × Int)) (v2 v3 : Int) (v4 : List (Int × Int)) (v5 v6 v7 : List Int) (v8 v9 v10 v11 : Int) (v12 : List (Int × Int)) : Option (List (Int × Int)) := lpW QK.s QK.c 1 (ud 60 [.undef, .undef, .undef, .int .i64 v0, .undef, .undef, .undef, .undef, .undef, .sl 0 0, .vs false 137 v1, .sl 1 0, .sl 2 0, .int .i64 v2, .ptr 3 0, .sl 4 0, .int .i64 v3]) [.row 0 true 140 v4, .row 0 true 3 v5, .row 0 true 3 v6, .box 137 [.vs false 5 v7, .int .i64 v8, .int .i64 v9, .int .i64 v10, .int .i64 v11], .row 0 true 140 v12] 5
theorem QK.eq (x0 x1 : List Int) (x2 x3 : Int) : QK x0 x1 x2 x3 =
 (Qj x0 x1 x2).bind fun y1 =>
 (Qx x0).bind fun y2 =>
 (Qx x1).bind fun y3 =>
 QK_l0 x3 y1 0 ([] : List (Int × Int)) y2 y3 := by kernel_rfl
theorem QK_l0.eq (v0 : Int) (v1 : List ((List Int) × Int × Int × Int × Int)) (v2 : Int) (v3 : List (Int × Int)) (v4 v5 : List Int) : QK_l0 v0 v1 v2 v3 v4 v5 =
 bif decide (v2 < (v1.length : Int)) then
 (at? v1 v2).bind fun y1 =>
 bif decide (0 ≤ y1.2.2.1 ∧ y1.2.2.1 ≤ ((v4.length : Nat) : Int)) then
 bif decide (0 ≤ y1.2.1 ∧ y1.2.1 ≤ ((y1.2.2.1.toNat : Nat) : Int)) then
 bif decide (0 ≤ y1.2.2.2.2 ∧ y1.2.2.2.2 ≤ ((v5.length : Nat) : Int)) then
 bif decide (0 ≤ y1.2.2.2.1 ∧ y1.2.2.2.1 ≤ ((y1.2.2.2.2.toNat : Nat) : Int)) then
 (Q12 ((v4.drop y1.2.1.toNat).take (y1.2.2.1.toNat - y1.2.1.toNat)) ((v5.drop y1.2.2.2.1.toNat).take (y1.2.2.2.2.toNat - y1.2.2.2.1.toNat)) v0).bind fun y2 =>
 QK_l1 v0 v1 v2 0 v3 v4 v5 y1.1 y1.2.1 y1.2.2.1 y1.2.2.2.1 y1.2.2.2.2 y2
 else
 none
 else
 none
 else
 none
 else
 none
 else
 some v3 := (Q7 Q0 (Q1 (QK.gok _)) _ _).trans (by kernel_rfl)
theorem QK_l1.eq (v0 : Int) (v1 : List ((List Int) × Int × Int × Int × Int)) (v2 v3 : Int) (v4 : List (Int × Int)) (v5 v6 v7 : List Int) (v8 v9 v10 v11 : Int) (v12 : List (Int × Int)) : QK_l1 v0 v1 v2 v3 v4 v5 v6 v7 v8 v9 v10 v11 v12 =
 bif decide (v3 < (v12.length : Int)) then
 (at? v12 v3).bind fun y1 =>
 v12[v3.toNat]?.bind fun y2 =>
 (at? v12 v3).bind fun y3 =>
 v12[v3.toNat]?.bind fun y4 =>
 bif decide ((v4.length + ([(IntKind.i64.wrap (y2.1 + v8), IntKind.i64.wrap (y4.2 + v10))] : List (Int × Int)).length) * 16 ≤ 140737488355328) then
 QK_l1 v0 v1 v2 (IntKind.i64.wrap (v3 + 1)) (v4 ++ ([(IntKind.i64.wrap (y2.1 + v8), IntKind.i64.wrap (y4.2 + v10))] : List (Int × Int))) v5 v6 v7 v8 v9 v10 v11 v12
 else
 none
 else
 QK_l0 v0 v1 (IntKind.i64.wrap (v2 + 1)) v4 v5 v6 := (Q7 Q0 (Q1 (QK.gok _)) _ _).trans (by kernel_rfl)
abbrev QL.s : Sg := ⟨[.lend, .lend, .lend], [vi, vl 3, vl 140], ⟨[.agg [.int .i64, .sl true true 90, .int .i64, .sl true true 90, .sl true true 3]], [none, none, none]⟩, Tryz.f103⟩
def QL.gs (δ : Type) : List (Nat × KC δ) := [(92, Qm.k)]
theorem QL.gok (δ : Type) : Q4 Tryz.prog tab (QL.gs δ) := .cons Qm.con .nil
def QL.c := cx QL.s [] [] [(4, [1, 2, 6, 7, 8, 9]), (12, [1, 6, 8, 10, 11])] false (QL.gs _)
def QL (x0 : Int) (x1 : List Int) (x2 : List (Int × Int)) : Option (Int × (List Int) × Int × (List Int) × (List Int)) := fnW QL.s QL.c (x0, x1, x2)
theorem QL.fok : FkS QL.s 103 := ⟨Tryz.func103, by kernel_rfl, by kernel_rfl⟩
def QL.fn (x : Args tab QL.s.ar) : Option (ResT tab QL.s.rs) := QL x.1 x.2.1 x.2.2
abbrev QL.k {δ : Type} : KC δ := kS QL.s QL.fn
theorem QL.con {δ : Type} : Con Tryz.prog (KT tab) 103 (QL.k (δ := δ)) := Q5 (c := QL.c) mixed Q0 (Q1 (QL.gok _)) QL.fok rfl rfl fun _ => rfl
def QL_l0 (v0 : List Int) (v1 : List (Int × Int)) (v2 v3 v4 : Int) (v5 v6 v7 v8 v9 : List Int) : Option (Int × (List Int) × Int × (List Int) × (List Int)) := lpW QL.s QL.c 0 (ud 61 [.undef, .vs false 3 v0, .vs false 140 v1, .undef, .undef, .undef, .ptr 0 0, .sl 4 0, .sl 5 0, .int .i64 v2]) [.box 130 [.int .i64 v3, .sl 1 0, .int .i64 v4, .sl 2 0, .sl 3 0], .row 0 true 90 v5, .row 0 true 90 v6, .row 0 true 3 v7, .row 0 true 3 v8, .row 0 true 3 v9] 6
def QL_l1 (v0 : List Int) (v1 v2 v3 : Int) (v4 v5 v6 v7 : List Int) (v8 v9 : Int) (v10 v11 v12 : List Int) : Option (Int × (List Int) × Int × (List Int) × (List Int)) := lpW QL.s QL.c 1 (ud 59 [.undef, .vs false 3 v0, .undef, .undef, .undef, .undef, .ptr 0 0, .undef, .sl 4 0, .undef, .ptr 5 0, .int .i64 v1]) [.box 130 [.int .i64 v2, .sl 1 0, .int .i64 v3, .sl 2 0, .sl 3 0], .row 0 true 90 v4, .row 0 true 90 v5, .row 0 true 3 v6, .row 0 true 3 v7, .box 130 [.int .i64 v8, .sl 6 0, .int .i64 v9, .sl 7 0, .sl 8 0], .row 0 true 90 v10, .row 0 true 90 v11, .row 0 true 3 v12] 9
theorem QL.eq (x0 : Int) (x1 : List Int) (x2 : List (Int × Int)) : QL x0 x1 x2 =
 bif decide ((0 : Int) ≤ x0) && decide (x0.toNat * 8 ≤ 140737488355328) then
 bif decide ((0 : Int) ≤ (x1.length : Int)) && decide (((x1.length : Int).toNat) * 8 ≤ 140737488355328) then
 QL_l0 x1 x2 (0 : Int) (0 : Int) (0 : Int) ([] : List Int) ([] : List Int) ([] : List Int) (List.replicate x0.toNat (0 : Int)) (List.replicate ((x1.length : Int).toNat) (0 : Int))
 else
 none
 else
 none := by kernel_rfl
theorem QL_l0.eq (v0 : List Int) (v1 : List (Int × Int)) (v2 v3 v4 : Int) (v5 v6 v7 v8 v9 : List Int) : QL_l0 v0 v1 v2 v3 v4 v5 v6 v7 v8 v9 =
 bif decide (v2 < (v1.length : Int)) then
 (at? v1 v2).bind fun y1 =>
 (at? v8 y1.1).bind fun y2 =>
 v8[y1.1.toNat]?.bind fun y3 =>
 (at? v1 v2).bind fun y4 =>
 (at? v9 y4.2).bind fun y5 =>
 v9[y4.2.toNat]?.bind fun y6 =>
 QL_l0 v0 v1 (IntKind.i64.wrap (v2 + 1)) v3 v4 v5 v6 v7 (v8.set y1.1.toNat 1) (v9.set y4.2.toNat 1)
 else
 (Qm v8).bind fun y7 =>
 (Qm v9).bind fun y8 =>
 QL_l1 v0 0 v3 v4 v5 v6 v7 v9 y7.1.1 y8.1.1 y7.1.2 y8.1.2 ([] : List Int) := (Q7 Q0 (Q1 (QL.gok _)) _ _).trans (by kernel_rfl)
theorem QL_l1.eq (v0 : List Int) (v1 v2 v3 : Int) (v4 v5 v6 v7 : List Int) (v8 v9 : Int) (v10 v11 v12 : List Int) : QL_l1 v0 v1 v2 v3 v4 v5 v6 v7 v8 v9 v10 v11 v12 =
 bif decide (v1 < (v0.length : Int)) then
 (at? v7 v1).bind fun y1 =>
 v7[v1.toNat]?.bind fun y2 =>
 bif y2 == 0 then
 (at? v0 v1).bind fun y3 =>
 bif decide ((v12.length + ([y3] : List Int).length) * 8 ≤ 140737488355328) then
 QL_l1 v0 (IntKind.i64.wrap (v1 + 1)) v2 v3 v4 v5 v6 v7 v8 v9 v10 v11 (v12 ++ ([y3] : List Int))
 else
 none
 else
 QL_l1 v0 (IntKind.i64.wrap (v1 + 1)) v2 v3 v4 v5 v6 v7 v8 v9 v10 v11 v12
 else
 some (v8, v10, v9, v11, v12) := (Q7 Q0 (Q1 (QL.gok _)) _ _).trans (by kernel_rfl)
abbrev Q0j.s : Sg := ⟨[.lend, .lend], [vl 3, vl 3], ⟨[vo 3], [none, none]⟩, Tryz.f104⟩
def Q0j.gs (δ : Type) : List (Nat × KC δ) := []
theorem Q0j.gok (δ : Type) : Q4 Tryz.prog tab (Q0j.gs δ) := .nil
def Q0j.c := cx Q0j.s [] [] [(3, [0, 1, 5, 6])] false (Q0j.gs _)
def Q0j (x0 x1 : List Int) : Option (List Int) := fnW Q0j.s Q0j.c (x0, x1)
theorem Q0j.fok : FkS Q0j.s 104 := ⟨Tryz.func104, by kernel_rfl, by kernel_rfl⟩
def Q0j.fn (x : Args tab Q0j.s.ar) : Option (ResT tab Q0j.s.rs) := Q0j x.1 x.2
abbrev Q0j.k {δ : Type} : KC δ := kS Q0j.s Q0j.fn
theorem Q0j.con {δ : Type} : Con Tryz.prog (KT tab) 104 (Q0j.k (δ := δ)) := Q5 (c := Q0j.c) mixed Q0 (Q1 (Q0j.gok _)) Q0j.fok rfl rfl fun _ => rfl
def Q0j_l0 (v0 v1 : List Int) (v2 : Int) (v3 : List Int) : Option (List Int) := lpW Q0j.s Q0j.c 0 (ud 20 [.vs false 3 v0, .vs false 3 v1, .undef, .undef, .undef, .sl 0 0, .int .i64 v2]) [.row 0 true 3 v3] 1
theorem Q0j.eq (x0 x1 : List Int) : Q0j x0 x1 =
 Q0j_l0 x0 x1 0 ([] : List Int) := by kernel_rfl
theorem Q0j_l0.eq (v0 v1 : List Int) (v2 : Int) (v3 : List Int) : Q0j_l0 v0 v1 v2 v3 =
 bif decide (v2 < (v0.length : Int)) then
 (at? v1 v2).bind fun y1 =>
 bif y1 == 0 then
 (at? v0 v2).bind fun y2 =>
 bif decide ((v3.length + ([y2] : List Int).length) * 8 ≤ 140737488355328) then
 Q0j_l0 v0 v1 (IntKind.i64.wrap (v2 + 1)) (v3 ++ ([y2] : List Int))
 else
 none
 else
 Q0j_l0 v0 v1 (IntKind.i64.wrap (v2 + 1)) v3
 else
 some v3 := (Q7 Q0 (Q1 (Q0j.gok _)) _ _).trans (by kernel_rfl)
abbrev Q1h.s : Sg := ⟨[.lend, .lend, .lend, .lend], [vl 5, vl 5, vl 140, vi], ⟨[ag7], [none, none, none, none]⟩, Tryz.f44⟩
def Q1h.gs (δ : Type) : List (Nat × KC δ) := [(34, Qn.k), (88, Qx.k), (90, Qk.k), (103, QL.k), (104, Q0j.k), (105, Qr.k)]
theorem Q1h.gok (δ : Type) : Q4 Tryz.prog tab (Q1h.gs δ) := .cons Qn.con (.cons Qx.con (.cons Qk.con (.cons QL.con (.cons Q0j.con (.cons Qr.con .nil)))))
def Q1h.c := cx Q1h.s [] [] [] false (Q1h.gs _)
def Q1h (x0 x1 : List Int) (x2 : List (Int × Int)) (x3 : Int) : Option (RelA) := fnW Q1h.s Q1h.c (x0, x1, x2, x3)
theorem Q1h.fok : FkS Q1h.s 44 := ⟨Tryz.func44, by kernel_rfl, by kernel_rfl⟩
def Q1h.fn (x : Args tab Q1h.s.ar) : Option (ResT tab Q1h.s.rs) := Q1h x.1 x.2.1 x.2.2.1 x.2.2.2
abbrev Q1h.k {δ : Type} : KC δ := kS Q1h.s Q1h.fn
theorem Q1h.con {δ : Type} : Con Tryz.prog (KT tab) 44 (Q1h.k (δ := δ)) := Q5 (c := Q1h.c) mixed Q0 (Q1 (Q1h.gok _)) Q1h.fok rfl rfl fun _ => rfl
theorem Q1h.eq (x0 x1 : List Int) (x2 : List (Int × Int)) (x3 : Int) : Q1h x0 x1 x2 x3 =
 (Qn x1 x3).bind fun y1 =>
 (Qx x1).bind fun y2 =>
 (QL (IntKind.i64.wrap ((x0.length : Int) + 1)) y2 x2).bind fun y3 =>
 (Qx x0).bind fun y4 =>
 (Qr (y3.1, y3.2.1)).bind fun y5 =>
 (Q0j y4 y5).bind fun y6 =>
 (Qk y6).bind fun y7 =>
 (Qk y3.2.2.2.2).bind fun y8 =>
 some (y1.1.1, x3, y3.1, y3.2.1, y3.2.2.1, y3.2.2.2.1, y7.1.1, y7.1.2.1, y7.1.2.2, y8.1.1, y8.1.2.1, y8.1.2.2, y1.1.2.2.2.2.2.1, y1.1.2.2.2.2.2.2.1, y1.1.2.2.2.2.2.2.2.1, y1.1.2.2.2.2.2.2.2.2.1, y1.1.2.2.2.2.2.2.2.2.2.1, y1.1.2.2.2.2.2.2.2.2.2.2.1, y1.1.2.2.2.2.2.2.2.2.2.2.2.1, y1.1.2.2.2.2.2.2.2.2.2.2.2.2.1, y1.1.2.2.2.2.2.2.2.2.2.2.2.2.2.1, y1.1.2.2.2.2.2.2.2.2.2.2.2.2.2.2.1, y1.1.2.2.2.2.2.2.2.2.2.2.2.2.2.2.2) := by kernel_rfl
abbrev Q0S.s : Sg := ⟨[.lend, .lend, .lend, .lend, .lend], [ag6, vl 5, vi, vi, vi], ⟨[ag7, vb], [none, none, none, none, none]⟩, Tryz.f8⟩
def Q0S.gs (δ : Type) : List (Nat × KC δ) := [(41, Q08.k), (42, Q0W.k), (43, Q0J.k), (44, Q1h.k), (45, QK.k)]
theorem Q0S.gok (δ : Type) : Q4 Tryz.prog tab (Q0S.gs δ) := .cons Q08.con (.cons Q0W.con (.cons Q0J.con (.cons Q1h.con (.cons QK.con .nil))))
def Q0S.c := cx Q0S.s [] [] [] false (Q0S.gs _)
def Q0S (x0 : FmA) (x1 : List Int) (x2 x3 x4 : Int) : Option ((RelA) × Bool) := fnW Q0S.s Q0S.c (x0, x1, x2, x3, x4)
theorem Q0S.fok : FkS Q0S.s 8 := ⟨Tryz.func8, by kernel_rfl, by kernel_rfl⟩
def Q0S.fn (x : Args tab Q0S.s.ar) : Option (ResT tab Q0S.s.rs) := Q0S x.1 x.2.1 x.2.2.1 x.2.2.2.1 x.2.2.2.2
abbrev Q0S.k {δ : Type} : KC δ := kS Q0S.s Q0S.fn
theorem Q0S.con {δ : Type} : Con Tryz.prog (KT tab) 8 (Q0S.k (δ := δ)) := Q5 (c := Q0S.c) mixed Q0 (Q1 (Q0S.gok _)) Q0S.fok rfl rfl fun _ => rfl
theorem Q0S.eq (x0 : FmA) (x1 : List Int) (x2 x3 x4 : Int) : Q0S x0 x1 x2 x3 x4 =
 (Q08 x0).bind fun y1 =>
 bif !y1.2 then
 some ((0, 0, 0, ([] : List Int), 0, ([] : List Int), 0, ([] : List Int), ([] : List (Int × (List Int))), 0, ([] : List Int), ([] : List (Int × (List Int))), ([] : List Int), 0, ([] : List Int), 0, 0, 0, ([] : List Int), 0, 0, 0, ([] : List Int)), false)
 else
 (Q0W y1.1 x1 x2).bind fun y2 =>
 bif !y2 then
 some ((0, 0, 0, ([] : List Int), 0, ([] : List Int), 0, ([] : List Int), ([] : List (Int × (List Int))), 0, ([] : List Int), ([] : List (Int × (List Int))), ([] : List Int), 0, ([] : List Int), 0, 0, 0, ([] : List Int), 0, 0, 0, ([] : List Int)), false)
 else
 (Q0J x4).bind fun y3 =>
 bif !y3 then
 some ((0, 0, 0, ([] : List Int), 0, ([] : List Int), 0, ([] : List Int), ([] : List (Int × (List Int))), 0, ([] : List Int), ([] : List (Int × (List Int))), ([] : List Int), 0, ([] : List Int), 0, 0, 0, ([] : List Int), 0, 0, 0, ([] : List Int)), false)
 else
 (QK y1.1 x1 x2 x3).bind fun y4 =>
 (Q1h y1.1 x1 y4 x4).bind fun y5 =>
 some (y5, true) := by kernel_rfl
abbrev QM.s : Sg := ⟨[.lend, .lend, .lend], [vi, vi, vi], ⟨[vb], [none, none, none]⟩, Tryz.f58⟩
def QM.gs (δ : Type) : List (Nat × KC δ) := []
theorem QM.gok (δ : Type) : Q4 Tryz.prog tab (QM.gs δ) := .nil
def QM.c := cx QM.s [] [] [] false (QM.gs _)
def QM (x0 x1 x2 : Int) : Option (Bool) := fnW QM.s QM.c (x0, x1, x2)
theorem QM.fok : FkS QM.s 58 := ⟨Tryz.func58, by kernel_rfl, by kernel_rfl⟩
def QM.fn (x : Args tab QM.s.ar) : Option (ResT tab QM.s.rs) := QM x.1 x.2.1 x.2.2
abbrev QM.k {δ : Type} : KC δ := kS QM.s QM.fn
theorem QM.con {δ : Type} : Con Tryz.prog (KT tab) 58 (QM.k (δ := δ)) := Q5 (c := QM.c) mixed Q0 (Q1 (QM.gok _)) QM.fok rfl rfl fun _ => rfl
theorem QM.eq (x0 x1 x2 : Int) : QM x0 x1 x2 =
 bif decide (x1 ≤ x0) then
 some (decide (x0 ≤ x2))
 else
 some false := by kernel_rfl
abbrev Q0y.s : Sg := ⟨[.lend], [ag3], ⟨[vb], [none]⟩, Tryz.f150⟩
def Q0y.gs (δ : Type) : List (Nat × KC δ) := [(58, QM.k)]
theorem Q0y.gok (δ : Type) : Q4 Tryz.prog tab (Q0y.gs δ) := .cons QM.con .nil
def Q0y.c := cx Q0y.s [] [] [] false (Q0y.gs _)
def Q0y (x0 : Int × (List Int)) : Option (Bool) := fnW Q0y.s Q0y.c x0
theorem Q0y.fok : FkS Q0y.s 150 := ⟨Tryz.func150, by kernel_rfl, by kernel_rfl⟩
def Q0y.fn (x : Args tab Q0y.s.ar) : Option (ResT tab Q0y.s.rs) := Q0y x
abbrev Q0y.k {δ : Type} : KC δ := kS Q0y.s Q0y.fn
theorem Q0y.con {δ : Type} : Con Tryz.prog (KT tab) 150 (Q0y.k (δ := δ)) := Q5 (c := Q0y.c) mixed Q0 (Q1 (Q0y.gok _)) Q0y.fok rfl rfl fun _ => rfl
theorem Q0y.eq (x0 : Int × (List Int)) : Q0y x0 =
 (QM x0.1 0 5000).bind fun y1 =>
 bif !y1 then
 some false
 else
 bif (x0.2.length : Int) != IntKind.i64.wrap ((IntKind.i64.wrap ((IntKind.i64.wrap (x0.1 + 64)) - 1)).tdiv 64) then
 some false
 else
 bif x0.1.tmod (64 : Int) == 0 then
 some true
 else
 (at? x0.2 (IntKind.i64.wrap ((x0.2.length : Int) - 1))).bind fun y2 =>
 bif decide (x0.1.tmod (64 : Int) < 0) then
 none
 else
 some (y2.fdiv (2 ^ (min (x0.1.tmod 64).toNat 64)) == 0) := by kernel_rfl
abbrev Q0X.s : Sg := ⟨[.lend, .lend], [ag3, vi], ⟨[vi], [none, none]⟩, Tryz.f118⟩
def Q0X.gs (δ : Type) : List (Nat × KC δ) := []
theorem Q0X.gok (δ : Type) : Q4 Tryz.prog tab (Q0X.gs δ) := .nil
def Q0X.c := cx Q0X.s [] [] [] false (Q0X.gs _)
def Q0X (x0 : Int × (List Int)) (x1 : Int) : Option (Int) := fnW Q0X.s Q0X.c (x0, x1)
theorem Q0X.fok : FkS Q0X.s 118 := ⟨Tryz.func118, by kernel_rfl, by kernel_rfl⟩
def Q0X.fn (x : Args tab Q0X.s.ar) : Option (ResT tab Q0X.s.rs) := Q0X x.1 x.2
abbrev Q0X.k {δ : Type} : KC δ := kS Q0X.s Q0X.fn
theorem Q0X.con {δ : Type} : Con Tryz.prog (KT tab) 118 (Q0X.k (δ := δ)) := Q5 (c := Q0X.c) mixed Q0 (Q1 (Q0X.gok _)) Q0X.fok rfl rfl fun _ => rfl
theorem Q0X.eq (x0 : Int × (List Int)) (x1 : Int) : Q0X x0 x1 =
 (at? x0.2 (IntKind.i64.wrap (x1.tdiv 64))).bind fun y1 =>
 bif decide (x1.tmod (64 : Int) < 0) then
 none
 else
 some (IntKind.i64.wrap (IntKind.u64.wrap (((BitVec.ofInt 64 (y1.fdiv (2 ^ (min (x1.tmod 64).toNat 64)))) &&& (BitVec.ofInt 64 1)).toNat : Int))) := by kernel_rfl
abbrev QN.s : Sg := ⟨[.lend], [ag3], ⟨[vo 3], [none]⟩, Tryz.f53⟩
def QN.gs (δ : Type) : List (Nat × KC δ) := [(118, Q0X.k)]
theorem QN.gok (δ : Type) : Q4 Tryz.prog tab (QN.gs δ) := .cons Q0X.con .nil
def QN.c := cx QN.s [] [] [(3, [1, 3, 6, 7])] false (QN.gs _)
def QN (x0 : Int × (List Int)) : Option (List Int) := fnW QN.s QN.c x0
theorem QN.fok : FkS QN.s 53 := ⟨Tryz.func53, by kernel_rfl, by kernel_rfl⟩
def QN.fn (x : Args tab QN.s.ar) : Option (ResT tab QN.s.rs) := QN x
abbrev QN.k {δ : Type} : KC δ := kS QN.s QN.fn
theorem QN.con {δ : Type} : Con Tryz.prog (KT tab) 53 (QN.k (δ := δ)) := Q5 (c := QN.c) mixed Q0 (Q1 (QN.gok _)) QN.fok rfl rfl fun _ => rfl
def QN_l0 (v0 v1 v2 : Int) (v3 v4 : List Int) : Option (List Int) := lpW QN.s QN.c 0 (ud 10 [.undef, .ptr 0 0, .undef, .sl 1 0, .undef, .undef, .int .i64 v0, .int .i64 v1]) [.box 30 [.int .i64 v2, .vs false 90 v3], .row 0 true 3 v4] 2
theorem QN.eq (x0 : Int × (List Int)) : QN x0 =
 QN_l0 x0.1 0 x0.1 x0.2 ([] : List Int) := by kernel_rfl
theorem QN_l0.eq (v0 v1 v2 : Int) (v3 v4 : List Int) : QN_l0 v0 v1 v2 v3 v4 =
 bif decide (v1 < v0) then
 (Q0X (v2, v3) v1).bind fun y1 =>
 bif decide ((v4.length + ([y1] : List Int).length) * 8 ≤ 140737488355328) then
 QN_l0 v0 (IntKind.i64.wrap (v1 + 1)) v2 v3 (v4 ++ ([y1] : List Int))
 else
 none
 else
 some v4 := (Q7 Q0 (Q1 (QN.gok _)) _ _).trans (by kernel_rfl)
abbrev Q1i.s : Sg := ⟨[.lend], [ag3], ⟨[vo 3], [none]⟩, Tryz.f149⟩
def Q1i.gs (δ : Type) : List (Nat × KC δ) := [(53, QN.k), (150, Q0y.k)]
theorem Q1i.gok (δ : Type) : Q4 Tryz.prog tab (Q1i.gs δ) := .cons QN.con (.cons Q0y.con .nil)
def Q1i.c := cx Q1i.s [] [] [] false (Q1i.gs _)
def Q1i (x0 : Int × (List Int)) : Option (List Int) := fnW Q1i.s Q1i.c x0
theorem Q1i.fok : FkS Q1i.s 149 := ⟨Tryz.func149, by kernel_rfl, by kernel_rfl⟩
def Q1i.fn (x : Args tab Q1i.s.ar) : Option (ResT tab Q1i.s.rs) := Q1i x
abbrev Q1i.k {δ : Type} : KC δ := kS Q1i.s Q1i.fn
theorem Q1i.con {δ : Type} : Con Tryz.prog (KT tab) 149 (Q1i.k (δ := δ)) := Q5 (c := Q1i.c) mixed Q0 (Q1 (Q1i.gok _)) Q1i.fok rfl rfl fun _ => rfl
theorem Q1i.eq (x0 : Int × (List Int)) : Q1i x0 =
 (Q0y x0).bind fun y1 =>
 bif !y1 then
 some ([] : List Int)
 else
 (QN x0).bind fun y2 =>
 some y2 := by kernel_rfl
abbrev Qs.s : Sg := ⟨[.lend, .lend], [vl 3, vi], ⟨[vi], [none, none]⟩, Tryz.f52⟩
def Qs.gs (δ : Type) : List (Nat × KC δ) := []
theorem Qs.gok (δ : Type) : Q4 Tryz.prog tab (Qs.gs δ) := .nil
def Qs.c := cx Qs.s [] [] [(3, [1, 5, 8, 9, 10])] false (Qs.gs _)
def Qs (x0 : List Int) (x1 : Int) : Option (Int) := fnW Qs.s Qs.c (x0, x1)
theorem Qs.fok : FkS Qs.s 52 := ⟨Tryz.func52, by kernel_rfl, by kernel_rfl⟩
def Qs.fn (x : Args tab Qs.s.ar) : Option (ResT tab Qs.s.rs) := Qs x.1 x.2
abbrev Qs.k {δ : Type} : KC δ := kS Qs.s Qs.fn
theorem Qs.con {δ : Type} : Con Tryz.prog (KT tab) 52 (Qs.k (δ := δ)) := Q5 (c := Qs.c) mixed Q0 (Q1 (Qs.gok _)) Qs.fok rfl rfl fun _ => rfl
def Qs_l0 (v0 v1 : Int) (v2 : List Int) (v3 v4 : Int) : Option (Int) := lpW Qs.s Qs.c 0 (ud 10 [.undef, .int .i64 v0, .undef, .undef, .undef, .int .i64 v1, .undef, .undef, .vs false 3 v2, .int .i64 v3, .int .i64 v4]) [] 0
theorem Qs.eq (x0 : List Int) (x1 : Int) : Qs x0 x1 =
 Qs_l0 x1 0 x0 (x0.length : Int) 0 := by kernel_rfl
theorem Qs_l0.eq (v0 v1 : Int) (v2 : List Int) (v3 v4 : Int) : Qs_l0 v0 v1 v2 v3 v4 =
 bif decide (v4 < v3) then
 (at? v2 v4).bind fun y1 =>
 bif y1 == v0 then
 Qs_l0 v0 (IntKind.i64.wrap (v1 + 1)) v2 v3 (IntKind.i64.wrap (v4 + 1))
 else
 Qs_l0 v0 v1 v2 v3 (IntKind.i64.wrap (v4 + 1))
 else
 some v1 := (Q7 Q0 (Q1 (Qs.gok _)) _ _).trans (by kernel_rfl)
abbrev Qc.s : Sg := ⟨[.lend], [ag4], ⟨[vo 3, vb], [none]⟩, Tryz.f108⟩
def Qc.gs (δ : Type) : List (Nat × KC δ) := [(52, Qs.k), (58, QM.k), (149, Q1i.k), (150, Q0y.k)]
theorem Qc.gok (δ : Type) : Q4 Tryz.prog tab (Qc.gs δ) := .cons Qs.con (.cons QM.con (.cons Q1i.con (.cons Q0y.con .nil)))
def Qc.c := cx Qc.s [] [3, 15] [(3, [1]), (5, [1, 4, 5, 40, 41]), (10, [1, 4, 5, 50, 51, 52]), (15, [1, 4, 5, 7, 9, 50, 51, 52]), (17, [1, 4, 5, 9, 10, 11, 12, 50, 51, 52, 87, 88, 89]), (24, [1, 4, 5, 9, 10, 50, 51, 52, 109, 110, 111])] false (Qc.gs _)
def Qc (x0 : Int × (List Int) × (List (Int × (List Int)))) : Option ((List Int) × Bool) := fnW Qc.s Qc.c x0
theorem Qc.fok : FkS Qc.s 108 := ⟨Tryz.func108, by kernel_rfl, by kernel_rfl⟩
def Qc.fn (x : Args tab Qc.s.ar) : Option (ResT tab Qc.s.rs) := Qc x
abbrev Qc.k {δ : Type} : KC δ := kS Qc.s Qc.fn
theorem Qc.con {δ : Type} : Con Tryz.prog (KT tab) 108 (Qc.k (δ := δ)) := Q5 (c := Qc.c) mixed Q0 (Q1 (Qc.gok _)) Qc.fok rfl rfl fun _ => rfl
def Qc_l0 (v0 : Int) (v1 : List Int) (v2 : List (Int × (List Int))) : Option ((List Int) × Bool) := lpW Qc.s Qc.c 0 (ud 137 [.undef, .ptr 0 0]) [.box 27 [.int .i64 v0, .vs false 3 v1, .vs false 30 v2]] 1
def Qc_l1 (v0 v1 v2 : Int) (v3 : List Int) (v4 : List (Int × (List Int))) (v5 v6 : List Int) : Option ((List Int) × Bool) := lpW Qc.s Qc.c 1 (ud 97 [.undef, .ptr 0 0, .undef, .undef, .sl 1 0, .sl 2 0, .undef, .undef, .undef, .undef, .undef, .undef, .undef, .undef, .undef, .undef, .undef, .undef, .undef, .undef, .undef, .undef, .undef, .undef, .undef, .undef, .undef, .undef, .undef, .undef, .undef, .undef, .undef, .undef, .undef, .undef, .undef, .undef, .undef, .undef, .int .i64 v0, .int .i64 v1]) [.box 27 [.int .i64 v2, .vs false 3 v3, .vs false 30 v4], .row 0 true 3 v5, .row 0 true 3 v6] 3
def Qc_l2 (v0 : List (Int × (List Int))) (v1 v2 v3 : Int) (v4 : List Int) (v5 : List (Int × (List Int))) (v6 v7 : List Int) : Option ((List Int) × Bool) := lpW Qc.s Qc.c 2 (ud 86 [.undef, .ptr 0 0, .undef, .undef, .sl 1 0, .sl 2 0, .undef, .undef, .undef, .undef, .undef, .undef, .undef, .undef, .undef, .undef, .undef, .undef, .undef, .undef, .undef, .undef, .undef, .undef, .undef, .undef, .undef, .undef, .undef, .undef, .undef, .undef, .undef, .undef, .undef, .undef, .undef, .undef, .undef, .undef, .undef, .undef, .undef, .undef, .undef, .undef, .undef, .undef, .undef, .undef, .vs false 30 v0, .int .i64 v1, .int .i64 v2]) [.box 27 [.int .i64 v3, .vs false 3 v4, .vs false 30 v5], .row 0 true 3 v6, .row 0 true 3 v7] 3
def Qc_l3 (v0 : Int) (v1 : List (Int × (List Int))) (v2 v3 v4 : Int) (v5 : List Int) (v6 : List (Int × (List Int))) (v7 v8 v9 : List Int) : Option ((List Int) × Bool) := lpW Qc.s Qc.c 3 (ud 86 [.undef, .ptr 0 0, .undef, .undef, .sl 1 0, .sl 2 0, .undef, .int .i64 v0, .undef, .sl 3 0, .undef, .undef, .undef, .undef, .undef, .undef, .undef, .undef, .undef, .undef, .undef, .undef, .undef, .undef, .undef, .undef, .undef, .undef, .undef, .undef, .undef, .undef, .undef, .undef, .undef, .undef, .undef, .undef, .undef, .undef, .undef, .undef, .undef, .undef, .undef, .undef, .undef, .undef, .undef, .undef, .vs false 30 v1, .int .i64 v2, .int .i64 v3]) [.box 27 [.int .i64 v4, .vs false 3 v5, .vs false 30 v6], .row 0 true 3 v7, .row 0 true 3 v8, .row 0 true 3 v9] 4
def Qc_l4 (v0 v1 : Int) (v2 : List (Int × (List Int))) (v3 v4 v5 v6 v7 : Int) (v8 : List Int) (v9 : List (Int × (List Int))) (v10 v11 v12 v13 : List Int) : Option ((List Int) × Bool) := lpW Qc.s Qc.c 4 (ud 49 [.undef, .ptr 0 0, .undef, .undef, .sl 1 0, .sl 2 0, .undef, .undef, .undef, .sl 3 0, .sl 4 0, .int .i64 v0, .int .i64 v1, .undef, .undef, .undef, .undef, .undef, .undef, .undef, .undef, .undef, .undef, .undef, .undef, .undef, .undef, .undef, .undef, .undef, .undef, .undef, .undef, .undef, .undef, .undef, .undef, .undef, .undef, .undef, .undef, .undef, .undef, .undef, .undef, .undef, .undef, .undef, .undef, .undef, .vs false 30 v2, .int .i64 v3, .int .i64 v4, .undef, .undef, .undef, .undef, .undef, .undef, .undef, .undef, .undef, .undef, .undef, .undef, .undef, .undef, .undef, .undef, .undef, .undef, .undef, .undef, .undef, .undef, .undef, .undef, .undef, .undef, .undef, .undef, .undef, .undef, .undef, .undef, .undef, .undef, .sl 3 0, .int .i64 v5, .int .i64 v6]) [.box 27 [.int .i64 v7, .vs false 3 v8, .vs false 30 v9], .row 0 true 3 v10, .row 0 true 3 v11, .row 0 true 3 v12, .row 0 true 3 v13] 5
def Qc_l5 (v0 : List (Int × (List Int))) (v1 v2 v3 v4 v5 : Int) (v6 : List Int) (v7 : List (Int × (List Int))) (v8 v9 v10 v11 : List Int) : Option ((List Int) × Bool) := lpW Qc.s Qc.c 5 (ud 27 [.undef, .ptr 0 0, .undef, .undef, .sl 1 0, .sl 2 0, .undef, .undef, .undef, .sl 3 0, .sl 4 0, .undef, .undef, .undef, .undef, .undef, .undef, .undef, .undef, .undef, .undef, .undef, .undef, .undef, .undef, .undef, .undef, .undef, .undef, .undef, .undef, .undef, .undef, .undef, .undef, .undef, .undef, .undef, .undef, .undef, .undef, .undef, .undef, .undef, .undef, .undef, .undef, .undef, .undef, .undef, .vs false 30 v0, .int .i64 v1, .int .i64 v2, .undef, .undef, .undef, .undef, .undef, .undef, .undef, .undef, .undef, .undef, .undef, .undef, .undef, .undef, .undef, .undef, .undef, .undef, .undef, .undef, .undef, .undef, .undef, .undef, .undef, .undef, .undef, .undef, .undef, .undef, .undef, .undef, .undef, .undef, .undef, .undef, .undef, .undef, .undef, .undef, .undef, .undef, .undef, .undef, .undef, .undef, .undef, .undef, .undef, .undef, .undef, .undef, .undef, .undef, .undef, .undef, .sl 2 0, .int .i64 v3, .int .i64 v4]) [.box 27 [.int .i64 v5, .vs false 3 v6, .vs false 30 v7], .row 0 true 3 v8, .row 0 true 3 v9, .row 0 true 3 v10, .row 0 true 3 v11] 5
theorem Qc.eq (x0 : Int × (List Int) × (List (Int × (List Int)))) : Qc x0 =
 (QM x0.1 0 1000).bind fun y1 =>
 bif !y1 then
 some (([] : List Int), false)
 else
 bif (x0.2.1.length : Int) != 9 then
 some (([] : List Int), false)
 else
 bif (x0.2.2.length : Int) != 9 then
 some (([] : List Int), false)
 else
 Qc_l0 x0.1 x0.2.1 x0.2.2 := by kernel_rfl
theorem Qc_l0.eq (v0 : Int) (v1 : List Int) (v2 : List (Int × (List Int))) : Qc_l0 v0 v1 v2 =
 bif decide ((0 : Int) ≤ v0) && decide (v0.toNat * 8 ≤ 140737488355328) then
 bif decide ((0 : Int) ≤ v0) && decide (v0.toNat * 8 ≤ 140737488355328) then
 Qc_l1 ((List.replicate v0.toNat (0 : Int)).length : Int) (0 : Int) v0 v1 v2 (List.replicate v0.toNat (0 : Int)) (List.replicate v0.toNat (0 : Int))
 else
 none
 else
 none := (Q7 Q0 (Q1 (Qc.gok _)) _ _).trans (by kernel_rfl)
theorem Qc_l1.eq (v0 v1 v2 : Int) (v3 : List Int) (v4 : List (Int × (List Int))) (v5 v6 : List Int) : Qc_l1 v0 v1 v2 v3 v4 v5 v6 =
 bif decide (v1 < v0) then
 (at? v6 v1).bind fun y1 =>
 v6[v1.toNat]?.bind fun y2 =>
 Qc_l1 v0 (IntKind.i64.wrap (v1 + 1)) v2 v3 v4 v5 (v6.set v1.toNat v1)
 else
 Qc_l2 v4 (v4.length : Int) 0 v2 v3 v4 v5 v6 := (Q7 Q0 (Q1 (Qc.gok _)) _ _).trans (by kernel_rfl)
theorem Qc_l2.eq (v0 : List (Int × (List Int))) (v1 v2 v3 : Int) (v4 : List Int) (v5 : List (Int × (List Int))) (v6 v7 : List Int) : Qc_l2 v0 v1 v2 v3 v4 v5 v6 v7 =
 bif decide (v2 < v1) then
 (at? v0 v2).bind fun y1 =>
 (Q1i y1).bind fun y2 =>
 (Q0y y1).bind fun y3 =>
 bif !y3 then
 some (([] : List Int), false)
 else
 bif y1.1 != v3 then
 some (([] : List Int), false)
 else
 (Qs y2 0).bind fun y4 =>
 (at? v4 v2).bind fun y5 =>
 bif y4 != y5 then
 some (([] : List Int), false)
 else
 Qc_l3 v2 v0 v1 v2 v3 v4 v5 v6 v7 y2
 else
 some (v6, true) := (Q7 Q0 (Q1 (Qc.gok _)) _ _).trans (by kernel_rfl)
theorem Qc_l3.eq (v0 : Int) (v1 : List (Int × (List Int))) (v2 v3 v4 : Int) (v5 : List Int) (v6 : List (Int × (List Int))) (v7 v8 v9 : List Int) : Qc_l3 v0 v1 v2 v3 v4 v5 v6 v7 v8 v9 =
 bif decide ((0 : Int) ≤ v4) && decide (v4.toNat * 8 ≤ 140737488355328) then
 (at? v5 v0).bind fun y1 =>
 Qc_l4 (0 : Int) y1 v1 v2 v3 (v9.length : Int) (0 : Int) v4 v5 v6 v7 v8 v9 (List.replicate v4.toNat (0 : Int))
 else
 none := (Q7 Q0 (Q1 (Qc.gok _)) _ _).trans (by kernel_rfl)
theorem Qc_l4.eq (v0 v1 : Int) (v2 : List (Int × (List Int))) (v3 v4 v5 v6 v7 : Int) (v8 : List Int) (v9 : List (Int × (List Int))) (v10 v11 v12 v13 : List Int) : Qc_l4 v0 v1 v2 v3 v4 v5 v6 v7 v8 v9 v10 v11 v12 v13 =
 bif decide (v6 < v5) then
 (at? v12 v6).bind fun y1 =>
 v12[v6.toNat]?.bind fun y2 =>
 bif y2 == 0 then
 (at? v13 v6).bind fun y3 =>
 v13[v6.toNat]?.bind fun y4 =>
 Qc_l4 (IntKind.i64.wrap (v0 + 1)) v1 v2 v3 v4 v5 (IntKind.i64.wrap (v6 + 1)) v7 v8 v9 v10 v11 v12 (v13.set v6.toNat v0)
 else
 (at? v13 v6).bind fun y5 =>
 v13[v6.toNat]?.bind fun y6 =>
 Qc_l4 v0 (IntKind.i64.wrap (v1 + 1)) v2 v3 v4 v5 (IntKind.i64.wrap (v6 + 1)) v7 v8 v9 v10 v11 v12 (v13.set v6.toNat v1)
 else
 Qc_l5 v2 v3 v4 (v11.length : Int) 0 v7 v8 v9 v10 v11 v12 v13 := (Q7 Q0 (Q1 (Qc.gok _)) _ _).trans (by kernel_rfl)
theorem Qc_l5.eq (v0 : List (Int × (List Int))) (v1 v2 v3 v4 v5 : Int) (v6 : List Int) (v7 : List (Int × (List Int))) (v8 v9 v10 v11 : List Int) : Qc_l5 v0 v1 v2 v3 v4 v5 v6 v7 v8 v9 v10 v11 =
 bif decide (v4 < v3) then
 (at? v9 v4).bind fun y1 =>
 v9[v4.toNat]?.bind fun y2 =>
 (at? v8 v4).bind fun y3 =>
 v8[v4.toNat]?.bind fun y4 =>
 (at? v10 y2).bind fun y5 =>
 v10[y2.toNat]?.bind fun y6 =>
 (at? v8 v4).bind fun y7 =>
 v8[v4.toNat]?.bind fun y8 =>
 (at? v11 y2).bind fun y9 =>
 v11[y2.toNat]?.bind fun y10 =>
 (at? v9 v4).bind fun y11 =>
 v9[v4.toNat]?.bind fun y12 =>
 Qc_l5 v0 v1 v2 v3 (IntKind.i64.wrap (v4 + 1)) v5 v6 v7 (v8.set v4.toNat (IntKind.i64.wrap (((BitVec.ofInt 64 (IntKind.i64.wrap (y4 * 2 ^ 1))) ||| (BitVec.ofInt 64 y6)).toNat : Int))) (v9.set v4.toNat y10) v10 v11
 else
 Qc_l2 v0 v1 (IntKind.i64.wrap (v2 + 1)) v5 v6 v7 v8 v9 := (Q7 Q0 (Q1 (Qc.gok _)) _ _).trans (by kernel_rfl)
abbrev Q0H.s : Sg := ⟨[.lend], [vi], ⟨[vb], [none]⟩, Tryz.f48⟩
def Q0H.gs (δ : Type) : List (Nat × KC δ) := [(58, QM.k)]
theorem Q0H.gok (δ : Type) : Q4 Tryz.prog tab (Q0H.gs δ) := .cons QM.con .nil
def Q0H.c := cx Q0H.s [] [] [] false (Q0H.gs _)
def Q0H (x0 : Int) : Option (Bool) := fnW Q0H.s Q0H.c x0
theorem Q0H.fok : FkS Q0H.s 48 := ⟨Tryz.func48, by kernel_rfl, by kernel_rfl⟩
def Q0H.fn (x : Args tab Q0H.s.ar) : Option (ResT tab Q0H.s.rs) := Q0H x
abbrev Q0H.k {δ : Type} : KC δ := kS Q0H.s Q0H.fn
theorem Q0H.con {δ : Type} : Con Tryz.prog (KT tab) 48 (Q0H.k (δ := δ)) := Q5 (c := Q0H.c) mixed Q0 (Q1 (Q0H.gok _)) Q0H.fok rfl rfl fun _ => rfl
theorem Q0H.eq (x0 : Int) : Q0H x0 =
 (QM x0 1 64).bind fun y1 =>
 some y1 := by kernel_rfl
abbrev Q1A.s : Sg := ⟨[.lend], [vi], ⟨[vb], [none]⟩, Tryz.f184⟩
def Q1A.gs (δ : Type) : List (Nat × KC δ) := [(58, QM.k)]
theorem Q1A.gok (δ : Type) : Q4 Tryz.prog tab (Q1A.gs δ) := .cons QM.con .nil
def Q1A.c := cx Q1A.s [] [] [] false (Q1A.gs _)
def Q1A (x0 : Int) : Option (Bool) := fnW Q1A.s Q1A.c x0
theorem Q1A.fok : FkS Q1A.s 184 := ⟨Tryz.func184, by kernel_rfl, by kernel_rfl⟩
def Q1A.fn (x : Args tab Q1A.s.ar) : Option (ResT tab Q1A.s.rs) := Q1A x
abbrev Q1A.k {δ : Type} : KC δ := kS Q1A.s Q1A.fn
theorem Q1A.con {δ : Type} : Con Tryz.prog (KT tab) 184 (Q1A.k (δ := δ)) := Q5 (c := Q1A.c) mixed Q0 (Q1 (Q1A.gok _)) Q1A.fok rfl rfl fun _ => rfl
theorem Q1A.eq (x0 : Int) : Q1A x0 =
 (QM x0 0 256).bind fun y1 =>
 some y1 := by kernel_rfl
abbrev Q13.s : Sg := ⟨[.lend, .lend], [vi, .one (.ptr false 0 [.fn 184 []])], ⟨[vb], [none, none]⟩, Tryz.f198⟩
def Q13.gs (δ : Type) : List (Nat × KC δ) := [(184, Q1A.k)]
theorem Q13.gok (δ : Type) : Q4 Tryz.prog tab (Q13.gs δ) := .cons Q1A.con .nil
def Q13.c := cx Q13.s [] [] [] false (Q13.gs _)
def Q13 (x0 : Int) (x1 : Unit) : Option (Bool) := fnW Q13.s Q13.c (x0, x1)
theorem Q13.fok : FkS Q13.s 198 := ⟨Tryz.func198, by kernel_rfl, by kernel_rfl⟩
def Q13.fn (x : Args tab Q13.s.ar) : Option (ResT tab Q13.s.rs) := Q13 x.1 x.2
abbrev Q13.k {δ : Type} : KC δ := kS Q13.s Q13.fn
theorem Q13.con {δ : Type} : Con Tryz.prog (KT tab) 198 (Q13.k (δ := δ)) := Q5 (c := Q13.c) mixed Q0 (Q1 (Q13.gok _)) Q13.fok rfl rfl fun _ => rfl
theorem Q13.eq (x0 : Int) (x1 : Unit) : Q13 x0 x1 =
 (Q1A x0).bind fun y1 =>
 some (!y1) := by kernel_rfl
abbrev Q0C.s : Sg := ⟨[.lend, .lend], [vl 3, .one (.fn 198 [.ptr false 0 [.fn 184 []]])], ⟨[vi], [none, none]⟩, Tryz.f211⟩
def Q0C.gs (δ : Type) : List (Nat × KC δ) := [(198, Q13.k)]
theorem Q0C.gok (δ : Type) : Q4 Tryz.prog tab (Q0C.gs δ) := .cons Q13.con .nil
def Q0C.c := cx Q0C.s [] [] [(2, [0, 1, 7, 8])] false (Q0C.gs _)
def Q0C (x0 : List Int) (x1 : Unit) : Option (Int) := fnW Q0C.s Q0C.c (x0, x1)
theorem Q0C.fok : FkS Q0C.s 211 := ⟨Tryz.func211, by kernel_rfl, by kernel_rfl⟩
def Q0C.fn (x : Args tab Q0C.s.ar) : Option (ResT tab Q0C.s.rs) := Q0C x.1 x.2
abbrev Q0C.k {δ : Type} : KC δ := kS Q0C.s Q0C.fn
theorem Q0C.con {δ : Type} : Con Tryz.prog (KT tab) 211 (Q0C.k (δ := δ)) := Q5 (c := Q0C.c) mixed Q0 (Q1 (Q0C.gok _)) Q0C.fok rfl rfl fun _ => rfl
def Q0C_l0 (v0 : List Int) (v1 v2 : Int) : Option (Int) := lpW Q0C.s Q0C.c 0 (ud 10 [.vs false 3 v0, .fn 198 [.vp [.fn 184 []]], .undef, .undef, .undef, .undef, .undef, .int .i64 v1, .int .i64 v2]) [] 0
theorem Q0C.eq (x0 : List Int) (x1 : Unit) : Q0C x0 x1 =
 Q0C_l0 x0 (x0.length : Int) 0 := by kernel_rfl
theorem Q0C_l0.eq (v0 : List Int) (v1 v2 : Int) : Q0C_l0 v0 v1 v2 =
 bif decide (v2 < v1) then
 (at? v0 v2).bind fun y1 =>
 (Q13 y1 ()).bind fun y2 =>
 bif y2 then
 some v2
 else
 Q0C_l0 v0 v1 (IntKind.i64.wrap (v2 + 1))
 else
 some (-1 : Int) := (Q7 Q0 (Q1 (Q0C.gok _)) _ _).trans (by kernel_rfl)
abbrev Q1B.s : Sg := ⟨[.lend, .lend], [vl 3, .one (.fn 198 [.ptr false 78 [.fn 184 []]])], ⟨[vb], [none, none]⟩, Tryz.f197⟩
def Q1B.gs (δ : Type) : List (Nat × KC δ) := [(211, Q0C.k)]
theorem Q1B.gok (δ : Type) : Q4 Tryz.prog tab (Q1B.gs δ) := .cons Q0C.con .nil
def Q1B.c := cx Q1B.s [] [] [] false (Q1B.gs _)
def Q1B (x0 : List Int) (x1 : Unit) : Option (Bool) := fnW Q1B.s Q1B.c (x0, x1)
theorem Q1B.fok : FkS Q1B.s 197 := ⟨Tryz.func197, by kernel_rfl, by kernel_rfl⟩
def Q1B.fn (x : Args tab Q1B.s.ar) : Option (ResT tab Q1B.s.rs) := Q1B x.1 x.2
abbrev Q1B.k {δ : Type} : KC δ := kS Q1B.s Q1B.fn
theorem Q1B.con {δ : Type} : Con Tryz.prog (KT tab) 197 (Q1B.k (δ := δ)) := Q5 (c := Q1B.c) mixed Q0 (Q1 (Q1B.gok _)) Q1B.fok rfl rfl fun _ => rfl
theorem Q1B.eq (x0 : List Int) (x1 : Unit) : Q1B x0 x1 =
 (Q0C x0 ()).bind fun y1 =>
 some (decide (y1 ≥ 0)) := by kernel_rfl
abbrev Q1j.s : Sg := ⟨[.lend, .lend], [vl 3, .one (.fn 184 [])], ⟨[vb], [none, none]⟩, Tryz.f168⟩
def Q1j.gs (δ : Type) : List (Nat × KC δ) := [(197, Q1B.k)]
theorem Q1j.gok (δ : Type) : Q4 Tryz.prog tab (Q1j.gs δ) := .cons Q1B.con .nil
def Q1j.c := cx Q1j.s [] [] [] false (Q1j.gs _)
def Q1j (x0 : List Int) (x1 : Unit) : Option (Bool) := fnW Q1j.s Q1j.c (x0, x1)
theorem Q1j.fok : FkS Q1j.s 168 := ⟨Tryz.func168, by kernel_rfl, by kernel_rfl⟩
def Q1j.fn (x : Args tab Q1j.s.ar) : Option (ResT tab Q1j.s.rs) := Q1j x.1 x.2
abbrev Q1j.k {δ : Type} : KC δ := kS Q1j.s Q1j.fn
theorem Q1j.con {δ : Type} : Con Tryz.prog (KT tab) 168 (Q1j.k (δ := δ)) := Q5 (c := Q1j.c) mixed Q0 (Q1 (Q1j.gok _)) Q1j.fok rfl rfl fun _ => rfl
theorem Q1j.eq (x0 : List Int) (x1 : Unit) : Q1j x0 x1 =
 (Q1B x0 ()).bind fun y1 =>
 some (!y1) := by kernel_rfl
abbrev Q1k.s : Sg := ⟨[.lend], [vl 3], ⟨[vb], [none]⟩, Tryz.f151⟩
def Q1k.gs (δ : Type) : List (Nat × KC δ) := [(168, Q1j.k)]
theorem Q1k.gok (δ : Type) : Q4 Tryz.prog tab (Q1k.gs δ) := .cons Q1j.con .nil
def Q1k.c := cx Q1k.s [] [] [] false (Q1k.gs _)
def Q1k (x0 : List Int) : Option (Bool) := fnW Q1k.s Q1k.c x0
theorem Q1k.fok : FkS Q1k.s 151 := ⟨Tryz.func151, by kernel_rfl, by kernel_rfl⟩
def Q1k.fn (x : Args tab Q1k.s.ar) : Option (ResT tab Q1k.s.rs) := Q1k x
abbrev Q1k.k {δ : Type} : KC δ := kS Q1k.s Q1k.fn
theorem Q1k.con {δ : Type} : Con Tryz.prog (KT tab) 151 (Q1k.k (δ := δ)) := Q5 (c := Q1k.c) mixed Q0 (Q1 (Q1k.gok _)) Q1k.fok rfl rfl fun _ => rfl
theorem Q1k.eq (x0 : List Int) : Q1k x0 =
 bif decide ((x0.length : Int) ≤ 301) then
 (Q1j x0 ()).bind fun y1 =>
 some y1
 else
 some false := by kernel_rfl
abbrev QC.s : Sg := ⟨[.lend], [vl 3], ⟨[vo 3], [none]⟩, Tryz.f156⟩
def QC.gs (δ : Type) : List (Nat × KC δ) := []
theorem QC.gok (δ : Type) : Q4 Tryz.prog tab (QC.gs δ) := .nil
def QC.c := cx QC.s [] [] [(3, [3, 8, 9, 10]), (8, [3, 6])] false (QC.gs _)
def QC (x0 : List Int) : Option (List Int) := fnW QC.s QC.c x0
theorem QC.fok : FkS QC.s 156 := ⟨Tryz.func156, by kernel_rfl, by kernel_rfl⟩
def QC.fn (x : Args tab QC.s.ar) : Option (ResT tab QC.s.rs) := QC x
abbrev QC.k {δ : Type} : KC δ := kS QC.s QC.fn
theorem QC.con {δ : Type} : Con Tryz.prog (KT tab) 156 (QC.k (δ := δ)) := Q5 (c := QC.c) mixed Q0 (Q1 (QC.gok _)) QC.fok rfl rfl fun _ => rfl
def QC_l0 (v0 : List Int) (v1 v2 : Int) (v3 : List Int) : Option (List Int) := lpW QC.s QC.c 0 (ud 27 [.undef, .undef, .undef, .sl 0 0, .undef, .undef, .undef, .undef, .vs false 3 v0, .int .i64 v1, .int .i64 v2]) [.row 0 true 3 v3] 1
def QC_l1 (v0 : Int) (v1 : List Int) : Option (List Int) := lpW QC.s QC.c 1 (ud 31 [.undef, .undef, .undef, .sl 0 0, .undef, .undef, .int .i64 v0]) [.row 0 true 3 v1] 1
theorem QC.eq (x0 : List Int) : QC x0 =
 QC_l0 x0 (x0.length : Int) (0 : Int) (List.replicate 258 (0 : Int)) := by kernel_rfl
theorem QC_l0.eq (v0 : List Int) (v1 v2 : Int) (v3 : List Int) : QC_l0 v0 v1 v2 v3 =
 bif decide (v2 < v1) then
 (at? v0 v2).bind fun y1 =>
 (at? v3 (IntKind.i64.wrap (y1 + 1))).bind fun y2 =>
 v3[(IntKind.i64.wrap (y1 + 1)).toNat]?.bind fun y3 =>
 (at? v3 (IntKind.i64.wrap (y1 + 1))).bind fun y4 =>
 v3[(IntKind.i64.wrap (y1 + 1)).toNat]?.bind fun y5 =>
 QC_l0 v0 v1 (IntKind.i64.wrap (v2 + 1)) (v3.set ((IntKind.i64.wrap (y1 + 1)).toNat) (IntKind.i64.wrap (y3 + 1)))
 else
 QC_l1 1 v3 := (Q7 Q0 (Q1 (QC.gok _)) _ _).trans (by kernel_rfl)
theorem QC_l1.eq (v0 : Int) (v1 : List Int) : QC_l1 v0 v1 =
 bif decide (v0 < 258) then
 (at? v1 v0).bind fun y1 =>
 v1[v0.toNat]?.bind fun y2 =>
 (at? v1 (IntKind.i64.wrap (v0 - 1))).bind fun y3 =>
 v1[(IntKind.i64.wrap (v0 - 1)).toNat]?.bind fun y4 =>
 (at? v1 v0).bind fun y5 =>
 v1[v0.toNat]?.bind fun y6 =>
 QC_l1 (IntKind.i64.wrap (v0 + 1)) (v1.set v0.toNat (IntKind.i64.wrap (y2 + y4)))
 else
 some v1 := (Q7 Q0 (Q1 (QC.gok _)) _ _).trans (by kernel_rfl)
abbrev Q0o.s : Sg := ⟨[.lend], [vl 3], ⟨[vo 3], [none]⟩, Tryz.f123⟩
def Q0o.gs (δ : Type) : List (Nat × KC δ) := [(156, QC.k)]
theorem Q0o.gok (δ : Type) : Q4 Tryz.prog tab (Q0o.gs δ) := .cons QC.con .nil
def Q0o.c := cx Q0o.s [] [] [(4, [3, 4, 9, 10, 11])] false (Q0o.gs _)
def Q0o (x0 : List Int) : Option (List Int) := fnW Q0o.s Q0o.c x0
theorem Q0o.fok : FkS Q0o.s 123 := ⟨Tryz.func123, by kernel_rfl, by kernel_rfl⟩
def Q0o.fn (x : Args tab Q0o.s.ar) : Option (ResT tab Q0o.s.rs) := Q0o x
abbrev Q0o.k {δ : Type} : KC δ := kS Q0o.s Q0o.fn
theorem Q0o.con {δ : Type} : Con Tryz.prog (KT tab) 123 (Q0o.k (δ := δ)) := Q5 (c := Q0o.c) mixed Q0 (Q1 (Q0o.gok _)) Q0o.fok rfl rfl fun _ => rfl
def Q0o_l0 (v0 : List Int) (v1 v2 : Int) (v3 v4 : List Int) : Option (List Int) := lpW Q0o.s Q0o.c 0 (ud 18 [.undef, .undef, .undef, .sl 0 0, .sl 1 0, .undef, .undef, .undef, .undef, .vs false 3 v0, .int .i64 v1, .int .i64 v2]) [.row 0 true 3 v3, .row 0 true 3 v4] 2
theorem Q0o.eq (x0 : List Int) : Q0o x0 =
 (QC x0).bind fun y1 =>
 Q0o_l0 x0 (x0.length : Int) 0 y1 ([] : List Int) := by kernel_rfl
theorem Q0o_l0.eq (v0 : List Int) (v1 v2 : Int) (v3 v4 : List Int) : Q0o_l0 v0 v1 v2 v3 v4 =
 bif decide (v2 < v1) then
 (at? v0 v2).bind fun y1 =>
 (at? v3 y1).bind fun y2 =>
 v3[y1.toNat]?.bind fun y3 =>
 bif decide ((v4.length + ([y3] : List Int).length) * 8 ≤ 140737488355328) then
 (at? v3 y1).bind fun y4 =>
 v3[y1.toNat]?.bind fun y5 =>
 (at? v3 y1).bind fun y6 =>
 v3[y1.toNat]?.bind fun y7 =>
 Q0o_l0 v0 v1 (IntKind.i64.wrap (v2 + 1)) (v3.set y1.toNat (IntKind.i64.wrap (y5 + 1))) (v4 ++ ([y3] : List Int))
 else
 none
 else
 some v4 := (Q7 Q0 (Q1 (Q0o.gok _)) _ _).trans (by kernel_rfl)
def Q21.ms : List Mode := [.lend, .lend]
def Q21.as : List VSh := [.one (.b (.b (.b (.b (.sl false false 5))))), .one (.b (.b (.b (.b (.sl false false 5)))))]
def Q21.rs : RSh := ⟨[.one (.b (.b (.b (.b (.int .i64)))))], [none, none]⟩
def Q21 (x0 : List Int) (x1 : List Int) : Option (Int) := some (cmpB (x0.map fun x => x) (x1.map fun x => x))
def Q21.fn : Args tab Q21.as → Option (ResT tab Q21.rs) := fun x => Q21 x.1 x.2
abbrev Q21.k {δ : Type} : KC δ := Q1Q tab Q21.ms Q21.as Q21.rs Q21.fn
theorem Q21.con {δ : Type} : Con Tryz.prog (KT tab) 202 (Q21.k (δ := δ)) := con_compare Tryz.func202 (by kernel_rfl) (by kernel_rfl) (by kernel_rfl) (by kernel_rfl) (l := tab) (e := 5) (g := fun x => x) rfl
abbrev Q1C.s : Sg := ⟨[.lend, .lend], [vl 5, vl 5], ⟨[vi], [none, none]⟩, Tryz.f177⟩
def Q1C.gs (δ : Type) : List (Nat × KC δ) := [(202, Q21.k)]
theorem Q1C.gok (δ : Type) : Q4 Tryz.prog tab (Q1C.gs δ) := .cons Q21.con .nil
def Q1C.c := cx Q1C.s [] [] [] false (Q1C.gs _)
def Q1C (x0 x1 : List Int) : Option (Int) := fnW Q1C.s Q1C.c (x0, x1)
theorem Q1C.fok : FkS Q1C.s 177 := ⟨Tryz.func177, by kernel_rfl, by kernel_rfl⟩
def Q1C.fn (x : Args tab Q1C.s.ar) : Option (ResT tab Q1C.s.rs) := Q1C x.1 x.2
abbrev Q1C.k {δ : Type} : KC δ := kS Q1C.s Q1C.fn
theorem Q1C.con {δ : Type} : Con Tryz.prog (KT tab) 177 (Q1C.k (δ := δ)) := Q5 (c := Q1C.c) mixed Q0 (Q1 (Q1C.gok _)) Q1C.fok rfl rfl fun _ => rfl
theorem Q1C.eq (x0 x1 : List Int) : Q1C x0 x1 =
 (Q21 x0 x1).bind fun y1 =>
 some y1 := by kernel_rfl
abbrev Q0P.s : Sg := ⟨[.lend, .lend, .lend], [vi, vi, .one (.ptr false 22 [.b (.b (.b (.sl false false 5)))])], ⟨[vi], [none, none, none]⟩, Tryz.f176⟩
def Q0P.gs (δ : Type) : List (Nat × KC δ) := [(177, Q1C.k)]
theorem Q0P.gok (δ : Type) : Q4 Tryz.prog tab (Q0P.gs δ) := .cons Q1C.con .nil
def Q0P.c := cx Q0P.s [] [] [] false (Q0P.gs _)
def Q0P (x0 x1 : Int) (x2 : List Int) : Option (Int) := fnW Q0P.s Q0P.c (x0, x1, x2)
theorem Q0P.fok : FkS Q0P.s 176 := ⟨Tryz.func176, by kernel_rfl, by kernel_rfl⟩
def Q0P.fn (x : Args tab Q0P.s.ar) : Option (ResT tab Q0P.s.rs) := Q0P x.1 x.2.1 x.2.2
abbrev Q0P.k {δ : Type} : KC δ := kS Q0P.s Q0P.fn
theorem Q0P.con {δ : Type} : Con Tryz.prog (KT tab) 176 (Q0P.k (δ := δ)) := Q5 (c := Q0P.c) mixed Q0 (Q1 (Q0P.gok _)) Q0P.fok rfl rfl fun _ => rfl
theorem Q0P.eq (x0 x1 : Int) (x2 : List Int) : Q0P x0 x1 x2 =
 bif decide (0 ≤ x0 ∧ x0 ≤ ((x2.length : Nat) : Int)) then
 bif decide (0 ≤ x1 ∧ x1 ≤ ((x2.length : Nat) : Int)) then
 (Q1C ((x2.take x2.length).drop x0.toNat) ((x2.take x2.length).drop x1.toNat)).bind fun y1 =>
 some y1
 else
 none
 else
 none := by kernel_rfl
def Q1Z.ms : List Mode := [.keep, .lend]
def Q1Z.as : List VSh := [.one (.b (.b (.b (.b (.sl true true 3))))), .one (.fn 176 [.ptr false 22 [.b (.b (.sl false false 5))]])]
def Q1Z.rs : RSh := ⟨[], [some (.one (.b (.b (.b (.b (.sl true true 3)))))), none]⟩
def Q1Z (x0 : List Int) (x1 : List Int) : Option (List Int) := sortC (fun a b => Q0P a b x1) x0
def Q1Z.fn : Args tab Q1Z.as → Option (ResT tab Q1Z.rs) := fun x => Q1Z x.1 x.2
abbrev Q1Z.k {δ : Type} : KC δ := Q1Q tab Q1Z.ms Q1Z.as Q1Z.rs Q1Z.fn
theorem Q1Z.con {δ : Type} : Con Tryz.prog (KT tab) 175 (Q1Z.k (δ := δ)) := con_sort (l := tab) Tryz.laysSort175 rfl (e := 3) (g := fun x => x) rfl (gf := 176) (fun a w => FnOk.enters Q0P.fok a w) (cv := .one (.fn 176 [.ptr false 22 [.b (.b (.sl false false 5))]])) (capsT := fun y => [.ptr false 22 [.sl false false 5 y]]) (fun _ => by kernel_rfl) (fun y => List.all_eq_true.1 (by kernel_rfl)) (cal := Q0P.k) Q0P.con (ks := [none, none, none]) (F := fun a b y => Q0P a b y) (fun a b y => sem_map (by kernel_rfl))
abbrev Q06.s : Sg := ⟨[.lend], [vl 5], ⟨[vo 3], [none]⟩, Tryz.f122⟩
def Q06.gs (δ : Type) : List (Nat × KC δ) := [(175, Q1Z.k)]
theorem Q06.gok (δ : Type) : Q4 Tryz.prog tab (Q06.gs δ) := .cons Q1Z.con .nil
def Q06.c := cx Q06.s [] [] [(3, [1, 3, 7, 8])] false (Q06.gs _)
def Q06 (x0 : List Int) : Option (List Int) := fnW Q06.s Q06.c x0
theorem Q06.fok : FkS Q06.s 122 := ⟨Tryz.func122, by kernel_rfl, by kernel_rfl⟩
def Q06.fn (x : Args tab Q06.s.ar) : Option (ResT tab Q06.s.rs) := Q06 x
abbrev Q06.k {δ : Type} : KC δ := kS Q06.s Q06.fn
theorem Q06.con {δ : Type} : Con Tryz.prog (KT tab) 122 (Q06.k (δ := δ)) := Q5 (c := Q06.c) mixed Q0 (Q1 (Q06.gok _)) Q06.fok rfl rfl fun _ => rfl
def Q06_l0 (v0 v1 : Int) (v2 v3 : List Int) : Option (List Int) := lpW Q06.s Q06.c 0 (ud 11 [.undef, .ptr 0 0, .undef, .sl 1 0, .undef, .undef, .undef, .int .i64 v0, .int .i64 v1]) [.box 22 [.vs false 5 v2], .row 0 true 3 v3] 2
theorem Q06.eq (x0 : List Int) : Q06 x0 =
 Q06_l0 (IntKind.i64.wrap ((x0.length : Int) + 1)) 0 x0 ([] : List Int) := by kernel_rfl
theorem Q06_l0.eq (v0 v1 : Int) (v2 v3 : List Int) : Q06_l0 v0 v1 v2 v3 =
 bif decide (v1 < v0) then
 bif decide ((v3.length + ([v1] : List Int).length) * 8 ≤ 140737488355328) then
 Q06_l0 v0 (IntKind.i64.wrap (v1 + 1)) v2 (v3 ++ ([v1] : List Int))
 else
 none
 else
 (Q1Z v3 v2).bind fun y1 =>
 some y1 := (Q7 Q0 (Q1 (Q06.gok _)) _ _).trans (by kernel_rfl)
abbrev Qt.s : Sg := ⟨[.lend], [vl 5], ⟨[vo 3], [none]⟩, Tryz.f59⟩
def Qt.gs (δ : Type) : List (Nat × KC δ) := [(122, Q06.k)]
theorem Qt.gok (δ : Type) : Q4 Tryz.prog tab (Qt.gs δ) := .cons Q06.con .nil
def Qt.c := cx Qt.s [] [] [(3, [0, 3, 7, 8, 9])] false (Qt.gs _)
def Qt (x0 : List Int) : Option (List Int) := fnW Qt.s Qt.c x0
theorem Qt.fok : FkS Qt.s 59 := ⟨Tryz.func59, by kernel_rfl, by kernel_rfl⟩
def Qt.fn (x : Args tab Qt.s.ar) : Option (ResT tab Qt.s.rs) := Qt x
abbrev Qt.k {δ : Type} : KC δ := kS Qt.s Qt.fn
theorem Qt.con {δ : Type} : Con Tryz.prog (KT tab) 59 (Qt.k (δ := δ)) := Q5 (c := Qt.c) mixed Q0 (Q1 (Qt.gok _)) Qt.fok rfl rfl fun _ => rfl
def Qt_l0 (v0 : List Int) (v1 v2 : Int) (v3 v4 : List Int) : Option (List Int) := lpW Qt.s Qt.c 0 (ud 20 [.vs false 5 v0, .undef, .undef, .sl 0 0, .undef, .undef, .undef, .sl 1 0, .int .i64 v1, .int .i64 v2]) [.row 0 true 3 v3, .row 0 true 3 v4] 2
theorem Qt.eq (x0 : List Int) : Qt x0 =
 (Q06 x0).bind fun y1 =>
 Qt_l0 x0 (y1.length : Int) 0 ([] : List Int) y1 := by kernel_rfl
theorem Qt_l0.eq (v0 : List Int) (v1 v2 : Int) (v3 v4 : List Int) : Qt_l0 v0 v1 v2 v3 v4 =
 bif decide (v2 < v1) then
 (at? v4 v2).bind fun y1 =>
 v4[v2.toNat]?.bind fun y2 =>
 bif y2 == 0 then
 bif decide ((v3.length + ([0] : List Int).length) * 8 ≤ 140737488355328) then
 Qt_l0 v0 v1 (IntKind.i64.wrap (v2 + 1)) (v3 ++ ([0] : List Int)) v4
 else
 none
 else
 (at? v0 (IntKind.i64.wrap (y2 - 1))).bind fun y3 =>
 bif decide ((v3.length + ([IntKind.i64.wrap ((IntKind.i64.wrap y3) + 1)] : List Int).length) * 8 ≤ 140737488355328) then
 Qt_l0 v0 v1 (IntKind.i64.wrap (v2 + 1)) (v3 ++ ([IntKind.i64.wrap ((IntKind.i64.wrap y3) + 1)] : List Int)) v4
 else
 none
 else
 some v3 := (Q7 Q0 (Q1 (Qt.gok _)) _ _).trans (by kernel_rfl)
abbrev QY.s : Sg := ⟨[.lend, .lend], [vl 3, vl 3], ⟨[vb], [none, none]⟩, Tryz.f152⟩
def QY.gs (δ : Type) : List (Nat × KC δ) := []
theorem QY.gok (δ : Type) : Q4 Tryz.prog tab (QY.gs δ) := .nil
def QY.c := cx QY.s [] [] [(4, [0, 1, 12, 13])] false (QY.gs _)
def QY (x0 x1 : List Int) : Option (Bool) := fnW QY.s QY.c (x0, x1)
theorem QY.fok : FkS QY.s 152 := ⟨Tryz.func152, by kernel_rfl, by kernel_rfl⟩
def QY.fn (x : Args tab QY.s.ar) : Option (ResT tab QY.s.rs) := QY x.1 x.2
abbrev QY.k {δ : Type} : KC δ := kS QY.s QY.fn
theorem QY.con {δ : Type} : Con Tryz.prog (KT tab) 152 (QY.k (δ := δ)) := Q5 (c := QY.c) mixed Q0 (Q1 (QY.gok _)) QY.fok rfl rfl fun _ => rfl
def QY_l0 (v0 v1 : List Int) (v2 v3 : Int) : Option (Bool) := lpW QY.s QY.c 0 (ud 12 [.vs false 3 v0, .vs false 3 v1, .undef, .undef, .undef, .undef, .undef, .undef, .undef, .undef, .undef, .undef, .int .i64 v2, .int .i64 v3]) [] 0
theorem QY.eq (x0 x1 : List Int) : QY x0 x1 =
 bif (x0.length : Int) != (x1.length : Int) then
 some false
 else
 QY_l0 x0 x1 (x0.length : Int) 0 := by kernel_rfl
theorem QY_l0.eq (v0 v1 : List Int) (v2 v3 : Int) : QY_l0 v0 v1 v2 v3 =
 bif decide (v3 < v2) then
 (at? v0 v3).bind fun y1 =>
 (at? v1 v3).bind fun y2 =>
 bif y1 != y2 then
 some false
 else
 QY_l0 v0 v1 v2 (IntKind.i64.wrap (v3 + 1))
 else
 some true := (Q7 Q0 (Q1 (QY.gok _)) _ _).trans (by kernel_rfl)
abbrev QG.s : Sg := ⟨[.lend], [vl 3], ⟨[vo 5, vb], [none]⟩, Tryz.f109⟩
def QG.gs (δ : Type) : List (Nat × KC δ) := [(52, Qs.k), (59, Qt.k), (123, Q0o.k), (151, Q1k.k), (152, QY.k)]
theorem QG.gok (δ : Type) : Q4 Tryz.prog tab (QG.gs δ) := .cons Qs.con (.cons Qt.con (.cons Q0o.con (.cons Q1k.con (.cons QY.con .nil))))
def QG.c := cx QG.s [] [3] [(3, [0]), (7, [0, 4, 5, 6, 7])] false (QG.gs _)
def QG (x0 : List Int) : Option ((List Int) × Bool) := fnW QG.s QG.c x0
theorem QG.fok : FkS QG.s 109 := ⟨Tryz.func109, by kernel_rfl, by kernel_rfl⟩
def QG.fn (x : Args tab QG.s.ar) : Option (ResT tab QG.s.rs) := QG x
abbrev QG.k {δ : Type} : KC δ := kS QG.s QG.fn
theorem QG.con {δ : Type} : Con Tryz.prog (KT tab) 109 (QG.k (δ := δ)) := Q5 (c := QG.c) mixed Q0 (Q1 (QG.gok _)) QG.fok rfl rfl fun _ => rfl
def QG_l0 (v0 : List Int) : Option ((List Int) × Bool) := lpW QG.s QG.c 0 (ud 52 [.vs false 3 v0]) [] 0
def QG_l1 (v0 : List Int) (v1 v2 : Int) (v3 v4 : List Int) : Option ((List Int) × Bool) := lpW QG.s QG.c 1 (ud 45 [.vs false 3 v0, .undef, .undef, .undef, .sl 0 0, .sl 1 0, .int .i64 v1, .int .i64 v2]) [.row 0 true 3 v3, .row 0 true 5 v4] 2
theorem QG.eq (x0 : List Int) : QG x0 =
 (Q1k x0).bind fun y1 =>
 bif !y1 then
 some (([] : List Int), false)
 else
 (Qs x0 0).bind fun y2 =>
 bif y2 != 1 then
 some (([] : List Int), false)
 else
 QG_l0 x0 := by kernel_rfl
theorem QG_l0.eq (v0 : List Int) : QG_l0 v0 =
 (Q0o v0).bind fun y1 =>
 bif decide ((0 : Int) ≤ IntKind.i64.wrap ((v0.length : Int) - 1)) && decide (((IntKind.i64.wrap ((v0.length : Int) - 1)).toNat) * 1 ≤ 140737488355328) then
 QG_l1 v0 (0 : Int) (IntKind.i64.wrap (((List.replicate ((IntKind.i64.wrap ((v0.length : Int) - (1 : Int))).toNat) (0 : Int)).length : Int) - (1 : Int))) y1 (List.replicate ((IntKind.i64.wrap ((v0.length : Int) - (1 : Int))).toNat) (0 : Int))
 else
 none := (Q7 Q0 (Q1 (QG.gok _)) _ _).trans (by kernel_rfl)
theorem QG_l1.eq (v0 : List Int) (v1 v2 : Int) (v3 v4 : List Int) : QG_l1 v0 v1 v2 v3 v4 =
 bif decide (v2 ≥ 0) then
 (at? v0 v1).bind fun y1 =>
 bif y1 == 0 then
 some (([] : List Int), false)
 else
 (at? v0 v1).bind fun y2 =>
 (at? v4 v2).bind fun y3 =>
 v4[v2.toNat]?.bind fun y4 =>
 (at? v3 v1).bind fun y5 =>
 v3[v1.toNat]?.bind fun y6 =>
 QG_l1 v0 y6 (IntKind.i64.wrap (v2 - 1)) v3 (v4.set v2.toNat (IntKind.u8.wrap (IntKind.i64.wrap (y2 - 1))))
 else
 (Qt v4).bind fun y7 =>
 (QY y7 v0).bind fun y8 =>
 bif !y8 then
 some (([] : List Int), false)
 else
 some (v4, true) := (Q7 Q0 (Q1 (QG.gok _)) _ _).trans (by kernel_rfl)
abbrev Q1D.s : Sg := ⟨[.lend], [vi], ⟨[vb], [none]⟩, Tryz.f169⟩
def Q1D.gs (δ : Type) : List (Nat × KC δ) := [(58, QM.k)]
theorem Q1D.gok (δ : Type) : Q4 Tryz.prog tab (Q1D.gs δ) := .cons QM.con .nil
def Q1D.c := cx Q1D.s [] [] [] false (Q1D.gs _)
def Q1D (x0 : Int) : Option (Bool) := fnW Q1D.s Q1D.c x0
theorem Q1D.fok : FkS Q1D.s 169 := ⟨Tryz.func169, by kernel_rfl, by kernel_rfl⟩
def Q1D.fn (x : Args tab Q1D.s.ar) : Option (ResT tab Q1D.s.rs) := Q1D x
abbrev Q1D.k {δ : Type} : KC δ := kS Q1D.s Q1D.fn
theorem Q1D.con {δ : Type} : Con Tryz.prog (KT tab) 169 (Q1D.k (δ := δ)) := Q5 (c := Q1D.c) mixed Q0 (Q1 (Q1D.gok _)) Q1D.fok rfl rfl fun _ => rfl
theorem Q1D.eq (x0 : Int) : Q1D x0 =
 (QM x0 0 511).bind fun y1 =>
 some y1 := by kernel_rfl
abbrev Q14.s : Sg := ⟨[.lend, .lend], [vi, .one (.ptr false 0 [.fn 169 []])], ⟨[vb], [none, none]⟩, Tryz.f198⟩
def Q14.gs (δ : Type) : List (Nat × KC δ) := [(169, Q1D.k)]
theorem Q14.gok (δ : Type) : Q4 Tryz.prog tab (Q14.gs δ) := .cons Q1D.con .nil
def Q14.c := cx Q14.s [] [] [] false (Q14.gs _)
def Q14 (x0 : Int) (x1 : Unit) : Option (Bool) := fnW Q14.s Q14.c (x0, x1)
theorem Q14.fok : FkS Q14.s 198 := ⟨Tryz.func198, by kernel_rfl, by kernel_rfl⟩
def Q14.fn (x : Args tab Q14.s.ar) : Option (ResT tab Q14.s.rs) := Q14 x.1 x.2
abbrev Q14.k {δ : Type} : KC δ := kS Q14.s Q14.fn
theorem Q14.con {δ : Type} : Con Tryz.prog (KT tab) 198 (Q14.k (δ := δ)) := Q5 (c := Q14.c) mixed Q0 (Q1 (Q14.gok _)) Q14.fok rfl rfl fun _ => rfl
theorem Q14.eq (x0 : Int) (x1 : Unit) : Q14 x0 x1 =
 (Q1D x0).bind fun y1 =>
 some (!y1) := by kernel_rfl
abbrev Q0D.s : Sg := ⟨[.lend, .lend], [vl 3, .one (.fn 198 [.ptr false 0 [.fn 169 []]])], ⟨[vi], [none, none]⟩, Tryz.f211⟩
def Q0D.gs (δ : Type) : List (Nat × KC δ) := [(198, Q14.k)]
theorem Q0D.gok (δ : Type) : Q4 Tryz.prog tab (Q0D.gs δ) := .cons Q14.con .nil
def Q0D.c := cx Q0D.s [] [] [(2, [0, 1, 7, 8])] false (Q0D.gs _)
def Q0D (x0 : List Int) (x1 : Unit) : Option (Int) := fnW Q0D.s Q0D.c (x0, x1)
theorem Q0D.fok : FkS Q0D.s 211 := ⟨Tryz.func211, by kernel_rfl, by kernel_rfl⟩
def Q0D.fn (x : Args tab Q0D.s.ar) : Option (ResT tab Q0D.s.rs) := Q0D x.1 x.2
abbrev Q0D.k {δ : Type} : KC δ := kS Q0D.s Q0D.fn
theorem Q0D.con {δ : Type} : Con Tryz.prog (KT tab) 211 (Q0D.k (δ := δ)) := Q5 (c := Q0D.c) mixed Q0 (Q1 (Q0D.gok _)) Q0D.fok rfl rfl fun _ => rfl
def Q0D_l0 (v0 : List Int) (v1 v2 : Int) : Option (Int) := lpW Q0D.s Q0D.c 0 (ud 10 [.vs false 3 v0, .fn 198 [.vp [.fn 169 []]], .undef, .undef, .undef, .undef, .undef, .int .i64 v1, .int .i64 v2]) [] 0
theorem Q0D.eq (x0 : List Int) (x1 : Unit) : Q0D x0 x1 =
 Q0D_l0 x0 (x0.length : Int) 0 := by kernel_rfl
theorem Q0D_l0.eq (v0 : List Int) (v1 v2 : Int) : Q0D_l0 v0 v1 v2 =
 bif decide (v2 < v1) then
 (at? v0 v2).bind fun y1 =>
 (Q14 y1 ()).bind fun y2 =>
 bif y2 then
 some v2
 else
 Q0D_l0 v0 v1 (IntKind.i64.wrap (v2 + 1))
 else
 some (-1 : Int) := (Q7 Q0 (Q1 (Q0D.gok _)) _ _).trans (by kernel_rfl)
abbrev Q1E.s : Sg := ⟨[.lend, .lend], [vl 3, .one (.fn 198 [.ptr false 78 [.fn 169 []]])], ⟨[vb], [none, none]⟩, Tryz.f197⟩
def Q1E.gs (δ : Type) : List (Nat × KC δ) := [(211, Q0D.k)]
theorem Q1E.gok (δ : Type) : Q4 Tryz.prog tab (Q1E.gs δ) := .cons Q0D.con .nil
def Q1E.c := cx Q1E.s [] [] [] false (Q1E.gs _)
def Q1E (x0 : List Int) (x1 : Unit) : Option (Bool) := fnW Q1E.s Q1E.c (x0, x1)
theorem Q1E.fok : FkS Q1E.s 197 := ⟨Tryz.func197, by kernel_rfl, by kernel_rfl⟩
def Q1E.fn (x : Args tab Q1E.s.ar) : Option (ResT tab Q1E.s.rs) := Q1E x.1 x.2
abbrev Q1E.k {δ : Type} : KC δ := kS Q1E.s Q1E.fn
theorem Q1E.con {δ : Type} : Con Tryz.prog (KT tab) 197 (Q1E.k (δ := δ)) := Q5 (c := Q1E.c) mixed Q0 (Q1 (Q1E.gok _)) Q1E.fok rfl rfl fun _ => rfl
theorem Q1E.eq (x0 : List Int) (x1 : Unit) : Q1E x0 x1 =
 (Q0D x0 ()).bind fun y1 =>
 some (decide (y1 ≥ 0)) := by kernel_rfl
abbrev Q1l.s : Sg := ⟨[.lend, .lend], [vl 3, .one (.fn 169 [])], ⟨[vb], [none, none]⟩, Tryz.f168⟩
def Q1l.gs (δ : Type) : List (Nat × KC δ) := [(197, Q1E.k)]
theorem Q1l.gok (δ : Type) : Q4 Tryz.prog tab (Q1l.gs δ) := .cons Q1E.con .nil
def Q1l.c := cx Q1l.s [] [] [] false (Q1l.gs _)
def Q1l (x0 : List Int) (x1 : Unit) : Option (Bool) := fnW Q1l.s Q1l.c (x0, x1)
theorem Q1l.fok : FkS Q1l.s 168 := ⟨Tryz.func168, by kernel_rfl, by kernel_rfl⟩
def Q1l.fn (x : Args tab Q1l.s.ar) : Option (ResT tab Q1l.s.rs) := Q1l x.1 x.2
abbrev Q1l.k {δ : Type} : KC δ := kS Q1l.s Q1l.fn
theorem Q1l.con {δ : Type} : Con Tryz.prog (KT tab) 168 (Q1l.k (δ := δ)) := Q5 (c := Q1l.c) mixed Q0 (Q1 (Q1l.gok _)) Q1l.fok rfl rfl fun _ => rfl
theorem Q1l.eq (x0 : List Int) (x1 : Unit) : Q1l x0 x1 =
 (Q1E x0 ()).bind fun y1 =>
 some (!y1) := by kernel_rfl
abbrev QD.s : Sg := ⟨[.lend], [vl 3], ⟨[ag0], [none]⟩, Tryz.f113⟩
def QD.gs (δ : Type) : List (Nat × KC δ) := []
theorem QD.gok (δ : Type) : Q4 Tryz.prog tab (QD.gs δ) := .nil
def QD.c := cx QD.s [] [] [(3, [2, 3, 15, 16, 17])] false (QD.gs _)
def QD (x0 : List Int) : Option (Int × (List Int)) := fnW QD.s QD.c x0
theorem QD.fok : FkS QD.s 113 := ⟨Tryz.func113, by kernel_rfl, by kernel_rfl⟩
def QD.fn (x : Args tab QD.s.ar) : Option (ResT tab QD.s.rs) := QD x
abbrev QD.k {δ : Type} : KC δ := kS QD.s QD.fn
theorem QD.con {δ : Type} : Con Tryz.prog (KT tab) 113 (QD.k (δ := δ)) := Q5 (c := QD.c) mixed Q0 (Q1 (QD.gok _)) QD.fok rfl rfl fun _ => rfl
def QD_l0 (v0 : List Int) (v1 v2 v3 : Int) (v4 : List Int) (v5 : Int) (v6 : List Int) : Option (Int × (List Int)) := lpW QD.s QD.c 0 (ud 19 [.undef, .undef, .ptr 0 0, .ptr 2 0, .undef, .undef, .undef, .undef, .undef, .undef, .undef, .undef, .undef, .undef, .undef, .vs false 3 v0, .int .i64 v1, .int .i64 v2]) [.box 30 [.int .i64 v3, .sl 1 0], .row 0 true 90 v4, .box 30 [.int .i64 v5, .sl 3 0], .row 0 true 90 v6] 4
theorem QD.eq (x0 : List Int) : QD x0 =
 bif decide ((0 : Int) ≤ IntKind.i64.wrap ((IntKind.i64.wrap ((IntKind.i64.wrap ((x0.length : Int) + 64)) - 1)).tdiv 64)) && decide (((IntKind.i64.wrap ((IntKind.i64.wrap ((IntKind.i64.wrap ((x0.length : Int) + 64)) - 1)).tdiv 64)).toNat) * 8 ≤ 140737488355328) then
 QD_l0 x0 (x0.length : Int) (0 : Int) (0 : Int) ([] : List Int) (x0.length : Int) (List.replicate ((IntKind.i64.wrap ((IntKind.i64.wrap ((IntKind.i64.wrap ((x0.length : Int) + (64 : Int))) - (1 : Int))).tdiv (64 : Int))).toNat) (0 : Int))
 else
 none := by kernel_rfl
theorem QD_l0.eq (v0 : List Int) (v1 v2 v3 : Int) (v4 : List Int) (v5 : Int) (v6 : List Int) : QD_l0 v0 v1 v2 v3 v4 v5 v6 =
 bif decide (v2 < v1) then
 (at? v0 v2).bind fun y1 =>
 (at? v6 (IntKind.i64.wrap (v2.tdiv 64))).bind fun y2 =>
 v6[(IntKind.i64.wrap (v2.tdiv 64)).toNat]?.bind fun y3 =>
 bif decide (v2.tmod (64 : Int) < 0) then
 none
 else
 (at? v6 (IntKind.i64.wrap (v2.tdiv 64))).bind fun y4 =>
 v6[(IntKind.i64.wrap (v2.tdiv 64)).toNat]?.bind fun y5 =>
 QD_l0 v0 v1 (IntKind.i64.wrap (v2 + 1)) v3 v4 v5 (v6.set ((IntKind.i64.wrap (v2.tdiv 64)).toNat) (IntKind.u64.wrap (((BitVec.ofInt 64 y3) ||| (BitVec.ofInt 64 (IntKind.u64.wrap ((IntKind.u64.wrap y1) * 2 ^ (min (v2.tmod 64).toNat 64))))).toNat : Int)))
 else
 some (v5, v6) := (Q7 Q0 (Q1 (QD.gok _)) _ _).trans (by kernel_rfl)
def Q22.ms : List Mode := [.give, .lend]
def Q22.as : List VSh := [.one (.b (.b (.b (.b (.sl true true 3))))), .one (.b (.b (.b (.b (.int .i64)))))]
def Q22.rs : RSh := ⟨[.one (.b (.b (.b (.b (.sl true true 3)))))], [none, none]⟩
def Q22 (x0 : List Int) (x1 : Int) : Option (List Int) := growF 8 (x0, x1)
def Q22.fn : Args tab Q22.as → Option (ResT tab Q22.rs) := fun x => Q22 x.1 x.2
abbrev Q22.k {δ : Type} : KC δ := Q1Q tab Q22.ms Q22.as Q22.rs Q22.fn
theorem Q22.con {δ : Type} : Con Tryz.prog (KT tab) 199 (Q22.k (δ := δ)) := con_grow2 Tryz.laysGrow199 rfl rfl (ty := tyOf tys) Q0 (e := 3) rfl (by decide) rfl rfl
abbrev QO.s : Sg := ⟨[.lend], [vl 24], ⟨[vo 3], [none]⟩, Tryz.f170⟩
def QO.gs (δ : Type) : List (Nat × KC δ) := [(199, Q22.k)]
theorem QO.gok (δ : Type) : Q4 Tryz.prog tab (QO.gs δ) := .cons Q22.con .nil
def QO.c := cx QO.s [] [] [(3, [0, 3, 9, 10, 11]), (11, [6, 25, 26, 27])] false (QO.gs _)
def QO (x0 : List (List Int)) : Option (List Int) := fnW QO.s QO.c x0
theorem QO.fok : FkS QO.s 170 := ⟨Tryz.func170, by kernel_rfl, by kernel_rfl⟩
def QO.fn (x : Args tab QO.s.ar) : Option (ResT tab QO.s.rs) := QO x
abbrev QO.k {δ : Type} : KC δ := kS QO.s QO.fn
theorem QO.con {δ : Type} : Con Tryz.prog (KT tab) 170 (QO.k (δ := δ)) := Q5 (c := QO.c) mixed Q0 (Q1 (QO.gok _)) QO.fok rfl rfl fun _ => rfl
def QO_l0 (v0 : List (List Int)) (v1 : Int) (v2 : List (List Int)) (v3 v4 : Int) : Option (List Int) := lpW QO.s QO.c 0 (ud 24 [.vs false 24 v0, .undef, .undef, .int .i64 v1, .undef, .undef, .undef, .undef, .undef, .vs false 24 v2, .int .i64 v3, .int .i64 v4]) [] 0
def QO_l1 (v0 : List (List Int)) (v1 v2 : Int) (v3 : List Int) : Option (List Int) := lpW QO.s QO.c 1 (ud 8 [.undef, .undef, .undef, .undef, .undef, .undef, .sl 0 0, .undef, .undef, .undef, .undef, .undef, .undef, .undef, .undef, .undef, .undef, .undef, .undef, .undef, .undef, .undef, .undef, .undef, .undef, .vs false 24 v0, .int .i64 v1, .int .i64 v2]) [.row 0 true 3 v3] 1
theorem QO.eq (x0 : List (List Int)) : QO x0 =
 QO_l0 x0 0 x0 (x0.length : Int) 0 := by kernel_rfl
theorem QO_l0.eq (v0 : List (List Int)) (v1 : Int) (v2 : List (List Int)) (v3 v4 : Int) : QO_l0 v0 v1 v2 v3 v4 =
 bif decide (v4 < v3) then
 (at? v2 v4).bind fun y1 =>
 bif decide (IntKind.i64.wrap (v1 + (y1.length : Int)) < 0) then
 none
 else
 QO_l0 v0 (IntKind.i64.wrap (v1 + (y1.length : Int))) v2 v3 (IntKind.i64.wrap (v4 + 1))
 else
 (Q22 ([] : List Int) v1).bind fun y2 =>
 QO_l1 v0 (v0.length : Int) 0 y2 := (Q7 Q0 (Q1 (QO.gok _)) _ _).trans (by kernel_rfl)
theorem QO_l1.eq (v0 : List (List Int)) (v1 v2 : Int) (v3 : List Int) : QO_l1 v0 v1 v2 v3 =
 bif decide (v2 < v1) then
 (at? v0 v2).bind fun y1 =>
 bif decide ((v3.length + y1.length) * 8 ≤ 140737488355328) then
 QO_l1 v0 v1 (IntKind.i64.wrap (v2 + 1)) (v3 ++ y1)
 else
 none
 else
 some v3 := (Q7 Q0 (Q1 (QO.gok _)) _ _).trans (by kernel_rfl)
abbrev Qd.s : Sg := ⟨[.lend], [vl 3], ⟨[ag1, vb], [none]⟩, Tryz.f116⟩
def Qd.gs (δ : Type) : List (Nat × KC δ) := [(113, QD.k), (168, Q1l.k), (170, QO.k)]
theorem Qd.gok (δ : Type) : Q4 Tryz.prog tab (Qd.gs δ) := .cons QD.con (.cons Q1l.con (.cons QO.con .nil))
def Qd.c := cx Qd.s [] [3] [(3, [0, 2]), (5, [0, 2, 4, 24]), (9, [2, 4, 5, 6, 7, 8, 24, 27, 28, 29])] false (Qd.gs _)
def Qd (x0 : List Int) : Option ((Int × (List Int) × (List (Int × (List Int)))) × Bool) := fnW Qd.s Qd.c x0
theorem Qd.fok : FkS Qd.s 116 := ⟨Tryz.func116, by kernel_rfl, by kernel_rfl⟩
def Qd.fn (x : Args tab Qd.s.ar) : Option (ResT tab Qd.s.rs) := Qd x
abbrev Qd.k {δ : Type} : KC δ := kS Qd.s Qd.fn
theorem Qd.con {δ : Type} : Con Tryz.prog (KT tab) 116 (Qd.k (δ := δ)) := Q5 (c := Qd.c) mixed Q0 (Q1 (Qd.gok _)) Qd.fok rfl rfl fun _ => rfl
def Qd_l0 (v0 : List Int) (v1 : Int) (v2 : List Int) (v3 : List (Int × (List Int))) : Option ((Int × (List Int) × (List (Int × (List Int)))) × Bool) := lpW Qd.s Qd.c 0 (ud 70 [.vs false 3 v0, .undef, .ptr 0 0]) [.box 27 [.int .i64 v1, .sl 1 0, .sl 2 0], .row 0 true 3 v2, .row 0 true 30 v3] 3
def Qd_l1 (v0 : List Int) (v1 v2 : Int) (v3 : List Int) (v4 : List (Int × (List Int))) (v5 : Int) (v6 : List Int) (v7 : List (Int × (List Int))) : Option ((Int × (List Int) × (List (Int × (List Int)))) × Bool) := lpW Qd.s Qd.c 1 (ud 48 [.vs false 3 v0, .undef, .ptr 0 0, .undef, .ptr 3 0, .undef, .undef, .undef, .undef, .undef, .undef, .undef, .undef, .undef, .undef, .undef, .undef, .undef, .undef, .undef, .undef, .undef, .undef, .undef, .int .i64 v1]) [.box 27 [.int .i64 v2, .sl 1 0, .sl 2 0], .row 0 true 3 v3, .row 0 true 30 v4, .box 27 [.int .i64 v5, .sl 4 0, .sl 5 0], .row 0 true 3 v6, .row 0 true 30 v7] 6
def Qd_l2 (v0 v1 : Int) (v2 : List Int) (v3 v4 v5 : Int) (v6 : List Int) (v7 : List (Int × (List Int))) (v8 : Int) (v9 : List Int) (v10 : List (Int × (List Int))) (v11 v12 v13 : List Int) : Option ((Int × (List Int) × (List (Int × (List Int)))) × Bool) := lpW Qd.s Qd.c 2 (ud 43 [.undef, .undef, .ptr 0 0, .undef, .ptr 3 0, .int .i64 v0, .sl 6 0, .sl 7 0, .sl 8 0, .undef, .undef, .undef, .undef, .undef, .undef, .undef, .undef, .undef, .undef, .undef, .undef, .undef, .undef, .undef, .int .i64 v1, .undef, .undef, .vs false 3 v2, .int .i64 v3, .int .i64 v4]) [.box 27 [.int .i64 v5, .sl 1 0, .sl 2 0], .row 0 true 3 v6, .row 0 true 30 v7, .box 27 [.int .i64 v8, .sl 4 0, .sl 5 0], .row 0 true 3 v9, .row 0 true 30 v10, .row 0 true 3 v11, .row 0 true 3 v12, .row 0 true 3 v13] 9
def Qd_l3 (v0 : Int) (v1 : List Int) (v2 : Int) (v3 : List Int) (v4 : List (Int × (List Int))) (v5 : Int) (v6 : List Int) (v7 : List (Int × (List Int))) : Option ((Int × (List Int) × (List (Int × (List Int)))) × Bool) := lpW Qd.s Qd.c 1 (ud 48 [.sl 0 0, .undef, .ptr 1 0, .undef, .ptr 4 0, .undef, .undef, .undef, .undef, .undef, .undef, .undef, .undef, .undef, .undef, .undef, .undef, .undef, .undef, .undef, .undef, .undef, .undef, .undef, .int .i64 v0]) [.row 0 true 3 v1, .box 27 [.int .i64 v2, .sl 2 0, .sl 3 0], .row 0 true 3 v3, .row 0 true 30 v4, .box 27 [.int .i64 v5, .sl 5 0, .sl 6 0], .row 0 true 3 v6, .row 0 true 30 v7] 7
def Qd_l4 (v0 v1 v2 v3 v4 : Int) (v5 : List Int) (v6 : List (Int × (List Int))) (v7 : Int) (v8 : List Int) (v9 : List (Int × (List Int))) (v10 v11 v12 v13 : List Int) : Option ((Int × (List Int) × (List (Int × (List Int)))) × Bool) := lpW Qd.s Qd.c 2 (ud 43 [.undef, .undef, .ptr 0 0, .undef, .ptr 3 0, .int .i64 v0, .sl 6 0, .sl 7 0, .sl 8 0, .undef, .undef, .undef, .undef, .undef, .undef, .undef, .undef, .undef, .undef, .undef, .undef, .undef, .undef, .undef, .int .i64 v1, .undef, .undef, .sl 9 0, .int .i64 v2, .int .i64 v3]) [.box 27 [.int .i64 v4, .sl 1 0, .sl 2 0], .row 0 true 3 v5, .row 0 true 30 v6, .box 27 [.int .i64 v7, .sl 4 0, .sl 5 0], .row 0 true 3 v8, .row 0 true 30 v9, .row 0 true 3 v10, .row 0 true 3 v11, .row 0 true 3 v12, .row 0 true 3 v13] 10
theorem Qd.eq (x0 : List Int) : Qd x0 =
 bif decide ((x0.length : Int) > 1000) then
 some ((0, ([] : List Int), ([] : List (Int × (List Int)))), false)
 else
 (Q1l x0 ()).bind fun y1 =>
 bif !y1 then
 some ((0, ([] : List Int), ([] : List (Int × (List Int)))), false)
 else
 Qd_l0 x0 0 ([] : List Int) ([] : List (Int × (List Int))) := by kernel_rfl
theorem Qd_l0.eq (v0 : List Int) (v1 : Int) (v2 : List Int) (v3 : List (Int × (List Int))) : Qd_l0 v0 v1 v2 v3 =
 Qd_l1 v0 0 v1 v2 v3 (v0.length : Int) ([] : List Int) ([] : List (Int × (List Int))) := (Q7 Q0 (Q1 (Qd.gok _)) _ _).trans (by kernel_rfl)
theorem Qd_l1.eq (v0 : List Int) (v1 v2 : Int) (v3 : List Int) (v4 : List (Int × (List Int))) (v5 : Int) (v6 : List Int) (v7 : List (Int × (List Int))) : Qd_l1 v0 v1 v2 v3 v4 v5 v6 v7 =
 bif decide (v1 < 9) then
 Qd_l2 v1 v1 v0 (v0.length : Int) 0 v2 v3 v4 v5 v6 v7 ([] : List Int) ([] : List Int) ([] : List Int)
 else
 some ((v5, v6, v7), true) := (Q7 Q0 (Q1 (Qd.gok _)) _ _).trans (by kernel_rfl)
theorem Qd_l2.eq (v0 v1 : Int) (v2 : List Int) (v3 v4 v5 : Int) (v6 : List Int) (v7 : List (Int × (List Int))) (v8 : Int) (v9 : List Int) (v10 : List (Int × (List Int))) (v11 v12 v13 : List Int) : Qd_l2 v0 v1 v2 v3 v4 v5 v6 v7 v8 v9 v10 v11 v12 v13 =
 bif decide (v4 < v3) then
 (at? v2 v4).bind fun y1 =>
 bif decide (IntKind.i64.wrap ((8 : Int) - v0) < 0) then
 none
 else
 bif decide ((v13.length + ([IntKind.i64.wrap (((BitVec.ofInt 64 (y1.fdiv (2 ^ (min (IntKind.i64.wrap ((8 : Int) - v0)).toNat 64)))) &&& (BitVec.ofInt 64 1)).toNat : Int)] : List Int).length) * 8 ≤ 140737488355328) then
 bif IntKind.i64.wrap (((BitVec.ofInt 64 (y1.fdiv (2 ^ (min (IntKind.i64.wrap ((8 : Int) - v0)).toNat 64)))) &&& (BitVec.ofInt 64 1)).toNat : Int) == 0 then
 bif decide ((v11.length + ([y1] : List Int).length) * 8 ≤ 140737488355328) then
 Qd_l2 v0 v1 v2 v3 (IntKind.i64.wrap (v4 + 1)) v5 v6 v7 v8 v9 v10 (v11 ++ ([y1] : List Int)) v12 (v13 ++ ([IntKind.i64.wrap (((BitVec.ofInt 64 (y1.fdiv (2 ^ (min (IntKind.i64.wrap ((8 : Int) - v0)).toNat 64)))) &&& (BitVec.ofInt 64 1)).toNat : Int)] : List Int))
 else
 none
 else
 bif decide ((v12.length + ([y1] : List Int).length) * 8 ≤ 140737488355328) then
 Qd_l2 v0 v1 v2 v3 (IntKind.i64.wrap (v4 + 1)) v5 v6 v7 v8 v9 v10 v11 (v12 ++ ([y1] : List Int)) (v13 ++ ([IntKind.i64.wrap (((BitVec.ofInt 64 (y1.fdiv (2 ^ (min (IntKind.i64.wrap ((8 : Int) - v0)).toNat 64)))) &&& (BitVec.ofInt 64 1)).toNat : Int)] : List Int))
 else
 none
 else
 none
 else
 bif decide ((v9.length + ([(v11.length : Int)] : List Int).length) * 8 ≤ 140737488355328) then
 (QD v13).bind fun y2 =>
 bif decide ((v10.length + ([(y2.1, y2.2)] : List (Int × (List Int))).length) * 32 ≤ 140737488355328) then
 (QO ([v11, v12] : List (List Int))).bind fun y3 =>
 Qd_l3 (IntKind.i64.wrap (v1 + 1)) y3 v5 v6 v7 v8 (v9 ++ ([(v11.length : Int)] : List Int)) (v10 ++ ([(y2.1, y2.2)] : List (Int × (List Int))))
 else
 none
 else
 none := (Q7 Q0 (Q1 (Qd.gok _)) _ _).trans (by kernel_rfl)
theorem Qd_l3.eq (v0 : Int) (v1 : List Int) (v2 : Int) (v3 : List Int) (v4 : List (Int × (List Int))) (v5 : Int) (v6 : List Int) (v7 : List (Int × (List Int))) : Qd_l3 v0 v1 v2 v3 v4 v5 v6 v7 =
 bif decide (v0 < 9) then
 Qd_l4 v0 v0 (v1.length : Int) 0 v2 v3 v4 v5 v6 v7 ([] : List Int) ([] : List Int) ([] : List Int) v1
 else
 some ((v5, v6, v7), true) := (Q7 Q0 (Q1 (Qd.gok _)) _ _).trans (by kernel_rfl)
theorem Qd_l4.eq (v0 v1 v2 v3 v4 : Int) (v5 : List Int) (v6 : List (Int × (List Int))) (v7 : Int) (v8 : List Int) (v9 : List (Int × (List Int))) (v10 v11 v12 v13 : List Int) : Qd_l4 v0 v1 v2 v3 v4 v5 v6 v7 v8 v9 v10 v11 v12 v13 =
 bif decide (v3 < v2) then
 (at? v13 v3).bind fun y1 =>
 v13[v3.toNat]?.bind fun y2 =>
 bif decide (IntKind.i64.wrap ((8 : Int) - v0) < 0) then
 none
 else
 bif decide ((v12.length + ([IntKind.i64.wrap (((BitVec.ofInt 64 (y2.fdiv (2 ^ (min (IntKind.i64.wrap ((8 : Int) - v0)).toNat 64)))) &&& (BitVec.ofInt 64 1)).toNat : Int)] : List Int).length) * 8 ≤ 140737488355328) then
 bif IntKind.i64.wrap (((BitVec.ofInt 64 (y2.fdiv (2 ^ (min (IntKind.i64.wrap ((8 : Int) - v0)).toNat 64)))) &&& (BitVec.ofInt 64 1)).toNat : Int) == 0 then
 bif decide ((v10.length + ([y2] : List Int).length) * 8 ≤ 140737488355328) then
 Qd_l4 v0 v1 v2 (IntKind.i64.wrap (v3 + 1)) v4 v5 v6 v7 v8 v9 (v10 ++ ([y2] : List Int)) v11 (v12 ++ ([IntKind.i64.wrap (((BitVec.ofInt 64 (y2.fdiv (2 ^ (min (IntKind.i64.wrap ((8 : Int) - v0)).toNat 64)))) &&& (BitVec.ofInt 64 1)).toNat : Int)] : List Int)) v13
 else
 none
 else
 bif decide ((v11.length + ([y2] : List Int).length) * 8 ≤ 140737488355328) then
 Qd_l4 v0 v1 v2 (IntKind.i64.wrap (v3 + 1)) v4 v5 v6 v7 v8 v9 v10 (v11 ++ ([y2] : List Int)) (v12 ++ ([IntKind.i64.wrap (((BitVec.ofInt 64 (y2.fdiv (2 ^ (min (IntKind.i64.wrap ((8 : Int) - v0)).toNat 64)))) &&& (BitVec.ofInt 64 1)).toNat : Int)] : List Int)) v13
 else
 none
 else
 none
 else
 bif decide ((v8.length + ([(v10.length : Int)] : List Int).length) * 8 ≤ 140737488355328) then
 (QD v12).bind fun y3 =>
 bif decide ((v9.length + ([(y3.1, y3.2)] : List (Int × (List Int))).length) * 32 ≤ 140737488355328) then
 (QO ([v10, v11] : List (List Int))).bind fun y4 =>
 Qd_l3 (IntKind.i64.wrap (v1 + 1)) y4 v4 v5 v6 v7 (v8 ++ ([(v10.length : Int)] : List Int)) (v9 ++ ([(y3.1, y3.2)] : List (Int × (List Int))))
 else
 none
 else
 none := (Q7 Q0 (Q1 (Qd.gok _)) _ _).trans (by kernel_rfl)
abbrev Q0p.s : Sg := ⟨[.lend], [vl 3], ⟨[vo 3], [none]⟩, Tryz.f157⟩
def Q0p.gs (δ : Type) : List (Nat × KC δ) := []
theorem Q0p.gok (δ : Type) : Q4 Tryz.prog tab (Q0p.gs δ) := .nil
def Q0p.c := cx Q0p.s [] [] [(3, [3, 9, 10, 11])] false (Q0p.gs _)
def Q0p (x0 : List Int) : Option (List Int) := fnW Q0p.s Q0p.c x0
theorem Q0p.fok : FkS Q0p.s 157 := ⟨Tryz.func157, by kernel_rfl, by kernel_rfl⟩
def Q0p.fn (x : Args tab Q0p.s.ar) : Option (ResT tab Q0p.s.rs) := Q0p x
abbrev Q0p.k {δ : Type} : KC δ := kS Q0p.s Q0p.fn
theorem Q0p.con {δ : Type} : Con Tryz.prog (KT tab) 157 (Q0p.k (δ := δ)) := Q5 (c := Q0p.c) mixed Q0 (Q1 (Q0p.gok _)) Q0p.fok rfl rfl fun _ => rfl
def Q0p_l0 (v0 : List Int) (v1 v2 : Int) (v3 : List Int) : Option (List Int) := lpW Q0p.s Q0p.c 0 (ud 10 [.undef, .undef, .undef, .sl 0 0, .undef, .undef, .undef, .undef, .undef, .vs false 3 v0, .int .i64 v1, .int .i64 v2]) [.row 0 true 3 v3] 1
theorem Q0p.eq (x0 : List Int) : Q0p x0 =
 bif decide ((0 : Int) ≤ (x0.length : Int)) && decide (((x0.length : Int).toNat) * 8 ≤ 140737488355328) then
 Q0p_l0 x0 (x0.length : Int) (0 : Int) (List.replicate ((x0.length : Int).toNat) (0 : Int))
 else
 none := by kernel_rfl
theorem Q0p_l0.eq (v0 : List Int) (v1 v2 : Int) (v3 : List Int) : Q0p_l0 v0 v1 v2 v3 =
 bif decide (v2 < v1) then
 (at? v0 v2).bind fun y1 =>
 (at? v3 y1).bind fun y2 =>
 v3[y1.toNat]?.bind fun y3 =>
 Q0p_l0 v0 v1 (IntKind.i64.wrap (v2 + 1)) (v3.set y1.toNat v2)
 else
 some v3 := (Q7 Q0 (Q1 (Q0p.gok _)) _ _).trans (by kernel_rfl)
abbrev Q03.s : Sg := ⟨[.lend], [.one (.b (.b (.b (.b (.int .u64)))))], ⟨[vi], [none]⟩, Tryz.f206⟩
def Q03.gs (δ : Type) : List (Nat × KC δ) := []
theorem Q03.gok (δ : Type) : Q4 Tryz.prog tab (Q03.gs δ) := .nil
def Q03.c := cx Q03.s [] [4, 7] [(4, [0, 2]), (7, [0, 2])] false (Q03.gs _)
def Q03 (x0 : Int) : Option (Int) := fnW Q03.s Q03.c x0
theorem Q03.fok : FkS Q03.s 206 := ⟨Tryz.func206, by kernel_rfl, by kernel_rfl⟩
def Q03.fn (x : Args tab Q03.s.ar) : Option (ResT tab Q03.s.rs) := Q03 x
abbrev Q03.k {δ : Type} : KC δ := kS Q03.s Q03.fn
theorem Q03.con {δ : Type} : Con Tryz.prog (KT tab) 206 (Q03.k (δ := δ)) := Q5 (c := Q03.c) mixed Q0 (Q1 (Q03.gok _)) Q03.fok rfl rfl fun _ => rfl
def Q03_l0 (v0 v1 : Int) : Option (Int) := lpW Q03.s Q03.c 0 (ud 22 [.int .u64 v0, .undef, .int .i64 v1]) [] 0
def Q03_l1 (v0 v1 : Int) : Option (Int) := lpW Q03.s Q03.c 1 (ud 22 [.int .u64 v0, .undef, .int .i64 v1]) [] 0
theorem Q03.eq (x0 : Int) : Q03 x0 =
 bif decide (x0 ≥ 4294967296) then
 Q03_l0 (x0.fdiv (2 ^ 32)) 32
 else
 Q03_l0 x0 0 := by kernel_rfl
theorem Q03_l0.eq (v0 v1 : Int) : Q03_l0 v0 v1 =
 bif decide (v0 ≥ 65536) then
 Q03_l1 (v0.fdiv (2 ^ 16)) (IntKind.i64.wrap (v1 + 16))
 else
 Q03_l1 v0 v1 := (Q7 Q0 (Q1 (Q03.gok _)) _ _).trans (by kernel_rfl)
theorem Q03_l1.eq (v0 v1 : Int) : Q03_l1 v0 v1 =
 bif decide (v0 ≥ 256) then
 (at? ((⟨(List.toArray ([0, 1, 2, 2, 3, 3, 3, 3, 4, 4, 4, 4, 4, 4, 4, 4, 5, 5, 5, 5, 5, 5, 5, 5, 5, 5, 5, 5, 5, 5, 5, 5, 6, 6, 6, 6, 6, 6, 6, 6, 6, 6, 6, 6, 6, 6, 6, 6, 6, 6, 6, 6, 6, 6, 6, 6, 6, 6, 6, 6, 6, 6, 6, 6, 7, 7, 7, 7, 7, 7, 7, 7, 7, 7, 7, 7, 7, 7, 7, 7, 7, 7, 7, 7, 7, 7, 7, 7, 7, 7, 7, 7, 7, 7, 7, 7, 7, 7, 7, 7, 7, 7, 7, 7, 7, 7, 7, 7, 7, 7, 7, 7, 7, 7, 7, 7, 7, 7, 7, 7, 7, 7, 7, 7, 7, 7, 7, 7] ++ [8, 8, 8, 8, 8, 8, 8, 8, 8, 8, 8, 8, 8, 8, 8, 8, 8, 8, 8, 8, 8, 8, 8, 8, 8, 8, 8, 8, 8, 8, 8, 8, 8, 8, 8, 8, 8, 8, 8, 8, 8, 8, 8, 8, 8, 8, 8, 8, 8, 8, 8, 8, 8, 8, 8, 8, 8, 8, 8, 8, 8, 8, 8, 8, 8, 8, 8, 8, 8, 8, 8, 8, 8, 8, 8, 8, 8, 8, 8, 8, 8, 8, 8, 8, 8, 8, 8, 8, 8, 8, 8, 8, 8, 8, 8, 8, 8, 8, 8, 8, 8, 8, 8, 8, 8, 8, 8, 8, 8, 8, 8, 8, 8, 8, 8, 8, 8, 8, 8, 8, 8, 8, 8, 8, 8, 8, 8, 8]))⟩ : ByteArray).data.toList) (IntKind.u8.wrap (v0.fdiv (2 ^ 8)))).bind fun y1 =>
 some (IntKind.i64.wrap ((IntKind.i64.wrap (v1 + 8)) + (IntKind.i64.wrap (y1.toNat : Int))))
 else
 (at? ((⟨(List.toArray ([0, 1, 2, 2, 3, 3, 3, 3, 4, 4, 4, 4, 4, 4, 4, 4, 5, 5, 5, 5, 5, 5, 5, 5, 5, 5, 5, 5, 5, 5, 5, 5, 6, 6, 6, 6, 6, 6, 6, 6, 6, 6, 6, 6, 6, 6, 6, 6, 6, 6, 6, 6, 6, 6, 6, 6, 6, 6, 6, 6, 6, 6, 6, 6, 7, 7, 7, 7, 7, 7, 7, 7, 7, 7, 7, 7, 7, 7, 7, 7, 7, 7, 7, 7, 7, 7, 7, 7, 7, 7, 7, 7, 7, 7, 7, 7, 7, 7, 7, 7, 7, 7, 7, 7, 7, 7, 7, 7, 7, 7, 7, 7, 7, 7, 7, 7, 7, 7, 7, 7, 7, 7, 7, 7, 7, 7, 7, 7] ++ [8, 8, 8, 8, 8, 8, 8, 8, 8, 8, 8, 8, 8, 8, 8, 8, 8, 8, 8, 8, 8, 8, 8, 8, 8, 8, 8, 8, 8, 8, 8, 8, 8, 8, 8, 8, 8, 8, 8, 8, 8, 8, 8, 8, 8, 8, 8, 8, 8, 8, 8, 8, 8, 8, 8, 8, 8, 8, 8, 8, 8, 8, 8, 8, 8, 8, 8, 8, 8, 8, 8, 8, 8, 8, 8, 8, 8, 8, 8, 8, 8, 8, 8, 8, 8, 8, 8, 8, 8, 8, 8, 8, 8, 8, 8, 8, 8, 8, 8, 8, 8, 8, 8, 8, 8, 8, 8, 8, 8, 8, 8, 8, 8, 8, 8, 8, 8, 8, 8, 8, 8, 8, 8, 8, 8, 8, 8, 8]))⟩ : ByteArray).data.toList) (IntKind.u8.wrap v0)).bind fun y2 =>
 some (IntKind.i64.wrap (v1 + (IntKind.i64.wrap (y2.toNat : Int)))) := (Q7 Q0 (Q1 (Q03.gok _)) _ _).trans (by kernel_rfl)
abbrev Q1F.s : Sg := ⟨[.lend], [.one (.b (.b (.b (.b (.int .u64)))))], ⟨[vi], [none]⟩, Tryz.f189⟩
def Q1F.gs (δ : Type) : List (Nat × KC δ) := [(206, Q03.k)]
theorem Q1F.gok (δ : Type) : Q4 Tryz.prog tab (Q1F.gs δ) := .cons Q03.con .nil
def Q1F.c := cx Q1F.s [] [] [] false (Q1F.gs _)
def Q1F (x0 : Int) : Option (Int) := fnW Q1F.s Q1F.c x0
theorem Q1F.fok : FkS Q1F.s 189 := ⟨Tryz.func189, by kernel_rfl, by kernel_rfl⟩
def Q1F.fn (x : Args tab Q1F.s.ar) : Option (ResT tab Q1F.s.rs) := Q1F x
abbrev Q1F.k {δ : Type} : KC δ := kS Q1F.s Q1F.fn
theorem Q1F.con {δ : Type} : Con Tryz.prog (KT tab) 189 (Q1F.k (δ := δ)) := Q5 (c := Q1F.c) mixed Q0 (Q1 (Q1F.gok _)) Q1F.fok rfl rfl fun _ => rfl
theorem Q1F.eq (x0 : Int) : Q1F x0 =
 (Q03 x0).bind fun y1 =>
 some y1 := by kernel_rfl
abbrev Q15.s : Sg := ⟨[.lend], [vi], ⟨[vi], [none]⟩, Tryz.f159⟩
def Q15.gs (δ : Type) : List (Nat × KC δ) := [(189, Q1F.k)]
theorem Q15.gok (δ : Type) : Q4 Tryz.prog tab (Q15.gs δ) := .cons Q1F.con .nil
def Q15.c := cx Q15.s [] [] [] false (Q15.gs _)
def Q15 (x0 : Int) : Option (Int) := fnW Q15.s Q15.c x0
theorem Q15.fok : FkS Q15.s 159 := ⟨Tryz.func159, by kernel_rfl, by kernel_rfl⟩
def Q15.fn (x : Args tab Q15.s.ar) : Option (ResT tab Q15.s.rs) := Q15 x
abbrev Q15.k {δ : Type} : KC δ := kS Q15.s Q15.fn
theorem Q15.con {δ : Type} : Con Tryz.prog (KT tab) 159 (Q15.k (δ := δ)) := Q5 (c := Q15.c) mixed Q0 (Q1 (Q15.gok _)) Q15.fok rfl rfl fun _ => rfl
theorem Q15.eq (x0 : Int) : Q15 x0 =
 bif decide (x0 < 0) then
 some (-1 : Int)
 else
 (Q1F (IntKind.u64.wrap x0)).bind fun y1 =>
 some y1 := by kernel_rfl
abbrev Q1G.s : Sg := ⟨[.lend, .lend], [vi, .one (.ptr false 0 [.b (.b (.b (.int .i64)))])], ⟨[vb], [none, none]⟩, Tryz.f187⟩
def Q1G.gs (δ : Type) : List (Nat × KC δ) := [(58, QM.k)]
theorem Q1G.gok (δ : Type) : Q4 Tryz.prog tab (Q1G.gs δ) := .cons QM.con .nil
def Q1G.c := cx Q1G.s [] [] [] false (Q1G.gs _)
def Q1G (x0 x1 : Int) : Option (Bool) := fnW Q1G.s Q1G.c (x0, x1)
theorem Q1G.fok : FkS Q1G.s 187 := ⟨Tryz.func187, by kernel_rfl, by kernel_rfl⟩
def Q1G.fn (x : Args tab Q1G.s.ar) : Option (ResT tab Q1G.s.rs) := Q1G x.1 x.2
abbrev Q1G.k {δ : Type} : KC δ := kS Q1G.s Q1G.fn
theorem Q1G.con {δ : Type} : Con Tryz.prog (KT tab) 187 (Q1G.k (δ := δ)) := Q5 (c := Q1G.c) mixed Q0 (Q1 (Q1G.gok _)) Q1G.fok rfl rfl fun _ => rfl
theorem Q1G.eq (x0 x1 : Int) : Q1G x0 x1 =
 bif decide (x1 < 0) then
 none
 else
 (QM x0 0 (IntKind.i64.wrap ((IntKind.i64.wrap ((1 : Int) * 2 ^ (min x1.toNat 64))) - 1))).bind fun y1 =>
 some y1 := by kernel_rfl
abbrev Q16.s : Sg := ⟨[.lend, .lend], [vi, .one (.ptr false 0 [.fn 187 [.ptr false 0 [.b (.int .i64)]]])], ⟨[vb], [none, none]⟩, Tryz.f198⟩
def Q16.gs (δ : Type) : List (Nat × KC δ) := [(187, Q1G.k)]
theorem Q16.gok (δ : Type) : Q4 Tryz.prog tab (Q16.gs δ) := .cons Q1G.con .nil
def Q16.c := cx Q16.s [] [] [] false (Q16.gs _)
def Q16 (x0 x1 : Int) : Option (Bool) := fnW Q16.s Q16.c (x0, x1)
theorem Q16.fok : FkS Q16.s 198 := ⟨Tryz.func198, by kernel_rfl, by kernel_rfl⟩
def Q16.fn (x : Args tab Q16.s.ar) : Option (ResT tab Q16.s.rs) := Q16 x.1 x.2
abbrev Q16.k {δ : Type} : KC δ := kS Q16.s Q16.fn
theorem Q16.con {δ : Type} : Con Tryz.prog (KT tab) 198 (Q16.k (δ := δ)) := Q5 (c := Q16.c) mixed Q0 (Q1 (Q16.gok _)) Q16.fok rfl rfl fun _ => rfl
theorem Q16.eq (x0 x1 : Int) : Q16 x0 x1 =
 (Q1G x0 x1).bind fun y1 =>
 some (!y1) := by kernel_rfl
abbrev Q0E.s : Sg := ⟨[.lend, .lend], [vl 3, .one (.fn 198 [.ptr false 0 [.fn 187 [.ptr false 0 [.int .i64]]]])], ⟨[vi], [none, none]⟩, Tryz.f211⟩
def Q0E.gs (δ : Type) : List (Nat × KC δ) := [(198, Q16.k)]
theorem Q0E.gok (δ : Type) : Q4 Tryz.prog tab (Q0E.gs δ) := .cons Q16.con .nil
def Q0E.c := cx Q0E.s [] [] [(2, [0, 1, 7, 8])] false (Q0E.gs _)
def Q0E (x0 : List Int) (x1 : Int) : Option (Int) := fnW Q0E.s Q0E.c (x0, x1)
theorem Q0E.fok : FkS Q0E.s 211 := ⟨Tryz.func211, by kernel_rfl, by kernel_rfl⟩
def Q0E.fn (x : Args tab Q0E.s.ar) : Option (ResT tab Q0E.s.rs) := Q0E x.1 x.2
abbrev Q0E.k {δ : Type} : KC δ := kS Q0E.s Q0E.fn
theorem Q0E.con {δ : Type} : Con Tryz.prog (KT tab) 211 (Q0E.k (δ := δ)) := Q5 (c := Q0E.c) mixed Q0 (Q1 (Q0E.gok _)) Q0E.fok rfl rfl fun _ => rfl
def Q0E_l0 (v0 : List Int) (v1 v2 v3 : Int) : Option (Int) := lpW Q0E.s Q0E.c 0 (ud 10 [.vs false 3 v0, .fn 198 [.vp [.fn 187 [.ptr false 0 [.int .i64 v1]]]], .undef, .undef, .undef, .undef, .undef, .int .i64 v2, .int .i64 v3]) [] 0
theorem Q0E.eq (x0 : List Int) (x1 : Int) : Q0E x0 x1 =
 Q0E_l0 x0 x1 (x0.length : Int) 0 := by kernel_rfl
theorem Q0E_l0.eq (v0 : List Int) (v1 v2 v3 : Int) : Q0E_l0 v0 v1 v2 v3 =
 bif decide (v3 < v2) then
 (at? v0 v3).bind fun y1 =>
 (Q16 y1 v1).bind fun y2 =>
 bif y2 then
 some v3
 else
 Q0E_l0 v0 v1 v2 (IntKind.i64.wrap (v3 + 1))
 else
 some (-1 : Int) := (Q7 Q0 (Q1 (Q0E.gok _)) _ _).trans (by kernel_rfl)
abbrev Q1H.s : Sg := ⟨[.lend, .lend], [vl 3, .one (.fn 198 [.ptr false 78 [.fn 187 [.ptr false 0 [.int .i64]]]])], ⟨[vb], [none, none]⟩, Tryz.f197⟩
def Q1H.gs (δ : Type) : List (Nat × KC δ) := [(211, Q0E.k)]
theorem Q1H.gok (δ : Type) : Q4 Tryz.prog tab (Q1H.gs δ) := .cons Q0E.con .nil
def Q1H.c := cx Q1H.s [] [] [] false (Q1H.gs _)
def Q1H (x0 : List Int) (x1 : Int) : Option (Bool) := fnW Q1H.s Q1H.c (x0, x1)
theorem Q1H.fok : FkS Q1H.s 197 := ⟨Tryz.func197, by kernel_rfl, by kernel_rfl⟩
def Q1H.fn (x : Args tab Q1H.s.ar) : Option (ResT tab Q1H.s.rs) := Q1H x.1 x.2
abbrev Q1H.k {δ : Type} : KC δ := kS Q1H.s Q1H.fn
theorem Q1H.con {δ : Type} : Con Tryz.prog (KT tab) 197 (Q1H.k (δ := δ)) := Q5 (c := Q1H.c) mixed Q0 (Q1 (Q1H.gok _)) Q1H.fok rfl rfl fun _ => rfl
theorem Q1H.eq (x0 : List Int) (x1 : Int) : Q1H x0 x1 =
 (Q0E x0 x1).bind fun y1 =>
 some (decide (y1 ≥ 0)) := by kernel_rfl
abbrev Q1m.s : Sg := ⟨[.lend, .lend], [vl 3, .one (.fn 187 [.ptr false 3 [.b (.b (.int .i64))]])], ⟨[vb], [none, none]⟩, Tryz.f168⟩
def Q1m.gs (δ : Type) : List (Nat × KC δ) := [(197, Q1H.k)]
theorem Q1m.gok (δ : Type) : Q4 Tryz.prog tab (Q1m.gs δ) := .cons Q1H.con .nil
def Q1m.c := cx Q1m.s [] [] [] false (Q1m.gs _)
def Q1m (x0 : List Int) (x1 : Int) : Option (Bool) := fnW Q1m.s Q1m.c (x0, x1)
theorem Q1m.fok : FkS Q1m.s 168 := ⟨Tryz.func168, by kernel_rfl, by kernel_rfl⟩
def Q1m.fn (x : Args tab Q1m.s.ar) : Option (ResT tab Q1m.s.rs) := Q1m x.1 x.2
abbrev Q1m.k {δ : Type} : KC δ := kS Q1m.s Q1m.fn
theorem Q1m.con {δ : Type} : Con Tryz.prog (KT tab) 168 (Q1m.k (δ := δ)) := Q5 (c := Q1m.c) mixed Q0 (Q1 (Q1m.gok _)) Q1m.fok rfl rfl fun _ => rfl
theorem Q1m.eq (x0 : List Int) (x1 : Int) : Q1m x0 x1 =
 (Q1H x0 x1).bind fun y1 =>
 some (!y1) := by kernel_rfl
abbrev Q0q.s : Sg := ⟨[.lend, .lend], [vi, vi], ⟨[vo 3], [none, none]⟩, Tryz.f188⟩
def Q0q.gs (δ : Type) : List (Nat × KC δ) := []
theorem Q0q.gok (δ : Type) : Q4 Tryz.prog tab (Q0q.gs δ) := .nil
def Q0q.c := cx Q0q.s [] [] [(3, [0, 5, 6, 7])] false (Q0q.gs _)
def Q0q (x0 x1 : Int) : Option (List Int) := fnW Q0q.s Q0q.c (x0, x1)
theorem Q0q.fok : FkS Q0q.s 188 := ⟨Tryz.func188, by kernel_rfl, by kernel_rfl⟩
def Q0q.fn (x : Args tab Q0q.s.ar) : Option (ResT tab Q0q.s.rs) := Q0q x.1 x.2
abbrev Q0q.k {δ : Type} : KC δ := kS Q0q.s Q0q.fn
theorem Q0q.con {δ : Type} : Con Tryz.prog (KT tab) 188 (Q0q.k (δ := δ)) := Q5 (c := Q0q.c) mixed Q0 (Q1 (Q0q.gok _)) Q0q.fok rfl rfl fun _ => rfl
def Q0q_l0 (v0 v1 v2 : Int) (v3 : List Int) : Option (List Int) := lpW Q0q.s Q0q.c 0 (ud 10 [.int .i64 v0, .undef, .undef, .undef, .undef, .sl 0 0, .int .i64 v1, .int .i64 v2]) [.row 0 true 3 v3] 1
theorem Q0q.eq (x0 x1 : Int) : Q0q x0 x1 =
 Q0q_l0 x0 x1 0 ([] : List Int) := by kernel_rfl
theorem Q0q_l0.eq (v0 v1 v2 : Int) (v3 : List Int) : Q0q_l0 v0 v1 v2 v3 =
 bif decide (v2 < v1) then
 bif decide ((v3.length + ([IntKind.i64.wrap (((BitVec.ofInt 64 v0) &&& (BitVec.ofInt 64 1)).toNat : Int)] : List Int).length) * 8 ≤ 140737488355328) then
 Q0q_l0 (v0.fdiv (2 ^ 1)) v1 (IntKind.i64.wrap (v2 + 1)) (v3 ++ ([IntKind.i64.wrap (((BitVec.ofInt 64 v0) &&& (BitVec.ofInt 64 1)).toNat : Int)] : List Int))
 else
 none
 else
 some v3 := (Q7 Q0 (Q1 (Q0q.gok _)) _ _).trans (by kernel_rfl)
abbrev QZ.s : Sg := ⟨[.lend, .lend], [vl 3, vi], ⟨[ag2, vb], [none, none]⟩, Tryz.f158⟩
def QZ.gs (δ : Type) : List (Nat × KC δ) := [(58, QM.k), (113, QD.k), (168, Q1m.k), (188, Q0q.k)]
theorem QZ.gok (δ : Type) : Q4 Tryz.prog tab (QZ.gs δ) := .cons QM.con (.cons QD.con (.cons Q1m.con (.cons Q0q.con .nil)))
def QZ.c := cx QZ.s [] [3] [(3, [0, 3, 4]), (5, [0, 3, 4, 6, 31, 32, 33])] false (QZ.gs _)
def QZ (x0 : List Int) (x1 : Int) : Option ((Int × Int × Int × (List Int)) × Bool) := fnW QZ.s QZ.c (x0, x1)
theorem QZ.fok : FkS QZ.s 158 := ⟨Tryz.func158, by kernel_rfl, by kernel_rfl⟩
def QZ.fn (x : Args tab QZ.s.ar) : Option (ResT tab QZ.s.rs) := QZ x.1 x.2
abbrev QZ.k {δ : Type} : KC δ := kS QZ.s QZ.fn
theorem QZ.con {δ : Type} : Con Tryz.prog (KT tab) 158 (QZ.k (δ := δ)) := Q5 (c := QZ.c) mixed Q0 (Q1 (QZ.gok _)) QZ.fok rfl rfl fun _ => rfl
def QZ_l0 (v0 : List Int) (v1 v2 v3 v4 : Int) (v5 : List Int) : Option ((Int × Int × Int × (List Int)) × Bool) := lpW QZ.s QZ.c 0 (ud 44 [.vs false 3 v0, .undef, .undef, .ptr 0 0, .ptr 1 0]) [.box 3 [.int .i64 v1], .box 32 [.int .i64 v2, .int .i64 v3, .int .i64 v4, .sl 2 0], .row 0 true 90 v5] 3
def QZ_l1 (v0 v1 : List Int) (v2 v3 v4 v5 v6 v7 : Int) (v8 v9 : List Int) : Option ((Int × Int × Int × (List Int)) × Bool) := lpW QZ.s QZ.c 1 (ud 15 [.vs false 3 v0, .undef, .undef, .ptr 0 0, .ptr 1 0, .undef, .sl 3 0, .undef, .undef, .undef, .undef, .undef, .undef, .undef, .undef, .undef, .undef, .undef, .undef, .undef, .undef, .undef, .undef, .undef, .undef, .undef, .undef, .undef, .undef, .undef, .undef, .vs false 3 v1, .int .i64 v2, .int .i64 v3]) [.box 3 [.int .i64 v4], .box 32 [.int .i64 v5, .int .i64 v6, .int .i64 v7, .sl 2 0], .row 0 true 90 v8, .row 0 true 3 v9] 4
theorem QZ.eq (x0 : List Int) (x1 : Int) : QZ x0 x1 =
 (QM x1 0 32).bind fun y1 =>
 bif !y1 then
 some ((0, 0, 0, ([] : List Int)), false)
 else
 bif decide ((x0.length : Int) > 5000) then
 some ((0, 0, 0, ([] : List Int)), false)
 else
 bif decide (IntKind.i64.wrap ((x0.length : Int) * x1) > 5000) then
 some ((0, 0, 0, ([] : List Int)), false)
 else
 (Q1m x0 x1).bind fun y2 =>
 bif !y2 then
 some ((0, 0, 0, ([] : List Int)), false)
 else
 QZ_l0 x0 x1 0 0 0 ([] : List Int) := by kernel_rfl
theorem QZ_l0.eq (v0 : List Int) (v1 v2 v3 v4 : Int) (v5 : List Int) : QZ_l0 v0 v1 v2 v3 v4 v5 =
 QZ_l1 v0 v0 (v0.length : Int) 0 v1 v2 v3 v4 v5 ([] : List Int) := (Q7 Q0 (Q1 (QZ.gok _)) _ _).trans (by kernel_rfl)
theorem QZ_l1.eq (v0 v1 : List Int) (v2 v3 v4 v5 v6 v7 : Int) (v8 v9 : List Int) : QZ_l1 v0 v1 v2 v3 v4 v5 v6 v7 v8 v9 =
 bif decide (v3 < v2) then
 (at? v1 v3).bind fun y1 =>
 (Q0q y1 v4).bind fun y2 =>
 bif decide ((v9.length + y2.length) * 8 ≤ 140737488355328) then
 QZ_l1 v0 v1 v2 (IntKind.i64.wrap (v3 + 1)) v4 v5 v6 v7 v8 (v9 ++ y2)
 else
 none
 else
 (QD v9).bind fun y3 =>
 some ((v4, (v0.length : Int), y3.1, y3.2), true) := (Q7 Q0 (Q1 (QZ.gok _)) _ _).trans (by kernel_rfl)
abbrev Qw.s : Sg := ⟨[.lend, .lend], [vl 5, vi], ⟨[.agg [.int .i64, .int .i64, .int .i64, .sl true true 3, .sl true true 30, .sl true true 3, .int .i64, .sl true true 90, .int .i64, .int .i64, .int .i64, .sl true true 90, .int .i64, .int .i64, .int .i64, .sl true true 90]], [none, none]⟩, Tryz.f111⟩
def Qw.gs (δ : Type) : List (Nat × KC δ) := [(59, Qt.k), (113, QD.k), (116, Qd.k), (122, Q06.k), (156, QC.k), (157, Q0p.k), (158, QZ.k), (159, Q15.k)]
theorem Qw.gok (δ : Type) : Q4 Tryz.prog tab (Qw.gs δ) := .cons Qt.con (.cons QD.con (.cons Qd.con (.cons Q06.con (.cons QC.con (.cons Q0p.con (.cons QZ.con (.cons Q15.con .nil)))))))
def Qw.c := cx Qw.s [] [] [(7, [0, 1, 4, 5, 7, 8, 9, 10, 31, 32, 33]), (15, [0, 1, 4, 7, 8, 9, 10, 13, 14])] false (Qw.gs _)
def Qw (x0 : List Int) (x1 : Int) : Option (FmA) := fnW Qw.s Qw.c (x0, x1)
theorem Qw.fok : FkS Qw.s 111 := ⟨Tryz.func111, by kernel_rfl, by kernel_rfl⟩
def Qw.fn (x : Args tab Qw.s.ar) : Option (ResT tab Qw.s.rs) := Qw x.1 x.2
abbrev Qw.k {δ : Type} : KC δ := kS Qw.s Qw.fn
theorem Qw.con {δ : Type} : Con Tryz.prog (KT tab) 111 (Qw.k (δ := δ)) := Q5 (c := Qw.c) mixed Q0 (Q1 (Qw.gok _)) Qw.fok rfl rfl fun _ => rfl
def Qw_l0 (v0 : List Int) (v1 v2 v3 v4 v5 v6 v7 v8 v9 v10 v11 v12 v13 : Int) (v14 : List Int) (v15 : List (Int × (List Int))) (v16 v17 v18 v19 v20 : List Int) (v21 v22 v23 v24 v25 v26 v27 v28 v29 v30 : Int) (v31 : List Int) (v32 : List (Int × (List Int))) (v33 v34 v35 v36 v37 v38 v39 : List Int) : Option (FmA) := lpW Qw.s Qw.c 0 (ud 58 [.vs false 5 v0, .int .i64 v1, .undef, .undef, .ptr 0 0, .sl 7 0, .undef, .ptr 8 0, .sl 15 0, .sl 16 0, .sl 17 0, .undef, .undef, .undef, .undef, .undef, .undef, .undef, .undef, .undef, .undef, .undef, .undef, .undef, .undef, .undef, .undef, .undef, .undef, .undef, .undef, .sl 7 0, .int .i64 v2, .int .i64 v3]) [.box 34 [.int .i64 v4, .int .i64 v5, .int .i64 v6, .sl 1 0, .sl 2 0, .sl 3 0, .int .i64 v7, .sl 4 0, .int .i64 v8, .int .i64 v9, .int .i64 v10, .sl 5 0, .int .i64 v11, .int .i64 v12, .int .i64 v13, .sl 6 0], .row 0 true 3 v14, .row 0 true 30 v15, .row 0 true 3 v16, .row 0 true 90 v17, .row 0 true 90 v18, .row 0 true 90 v19, .row 0 true 3 v20, .box 34 [.int .i64 v21, .int .i64 v22, .int .i64 v23, .sl 9 0, .sl 10 0, .sl 11 0, .int .i64 v24, .sl 12 0, .int .i64 v25, .int .i64 v26, .int .i64 v27, .sl 13 0, .int .i64 v28, .int .i64 v29, .int .i64 v30, .sl 14 0], .row 0 true 3 v31, .row 0 true 30 v32, .row 0 true 3 v33, .row 0 true 90 v34, .row 0 true 90 v35, .row 0 true 90 v36, .row 0 true 3 v37, .row 0 true 3 v38, .row 0 true 3 v39] 18
def Qw_l1 (v0 : List Int) (v1 v2 v3 v4 v5 v6 v7 v8 v9 v10 v11 v12 : Int) (v13 : List Int) (v14 : List (Int × (List Int))) (v15 v16 v17 v18 : List Int) (v19 v20 v21 v22 v23 v24 v25 v26 v27 v28 : Int) (v29 : List Int) (v30 : List (Int × (List Int))) (v31 v32 v33 v34 v35 v36 v37 v38 : List Int) : Option (FmA) := lpW Qw.s Qw.c 1 (ud 77 [.vs false 5 v0, .int .i64 v1, .undef, .undef, .ptr 0 0, .undef, .undef, .ptr 7 0, .sl 14 0, .sl 15 0, .sl 16 0, .undef, .undef, .sl 17 0, .int .i64 v2]) [.box 34 [.int .i64 v3, .int .i64 v4, .int .i64 v5, .sl 1 0, .sl 2 0, .sl 3 0, .int .i64 v6, .sl 4 0, .int .i64 v7, .int .i64 v8, .int .i64 v9, .sl 5 0, .int .i64 v10, .int .i64 v11, .int .i64 v12, .sl 6 0], .row 0 true 3 v13, .row 0 true 30 v14, .row 0 true 3 v15, .row 0 true 90 v16, .row 0 true 90 v17, .row 0 true 90 v18, .box 34 [.int .i64 v19, .int .i64 v20, .int .i64 v21, .sl 8 0, .sl 9 0, .sl 10 0, .int .i64 v22, .sl 11 0, .int .i64 v23, .int .i64 v24, .int .i64 v25, .sl 12 0, .int .i64 v26, .int .i64 v27, .int .i64 v28, .sl 13 0], .row 0 true 3 v29, .row 0 true 30 v30, .row 0 true 3 v31, .row 0 true 90 v32, .row 0 true 90 v33, .row 0 true 90 v34, .row 0 true 3 v35, .row 0 true 3 v36, .row 0 true 3 v37, .row 0 true 3 v38] 18
theorem Qw.eq (x0 : List Int) (x1 : Int) : Qw x0 x1 =
 (Q06 x0).bind fun y1 =>
 (Qt x0).bind fun y2 =>
 (QC y2).bind fun y3 =>
 (Qd y2).bind fun y4 =>
 Qw_l0 x0 x1 (y1.length : Int) 0 0 0 0 0 0 0 0 0 0 0 ([] : List Int) ([] : List (Int × (List Int))) ([] : List Int) ([] : List Int) ([] : List Int) ([] : List Int) y1 (x0.length : Int) x1 y4.1.1 0 0 0 0 0 0 0 y4.1.2.1 y4.1.2.2 y3 ([] : List Int) ([] : List Int) ([] : List Int) ([] : List Int) ([] : List Int) ([] : List Int) := by kernel_rfl
theorem Qw_l0.eq (v0 : List Int) (v1 v2 v3 v4 v5 v6 v7 v8 v9 v10 v11 v12 v13 : Int) (v14 : List Int) (v15 : List (Int × (List Int))) (v16 v17 v18 v19 v20 : List Int) (v21 v22 v23 v24 v25 v26 v27 v28 v29 v30 : Int) (v31 : List Int) (v32 : List (Int × (List Int))) (v33 v34 v35 v36 v37 v38 v39 : List Int) : Qw_l0 v0 v1 v2 v3 v4 v5 v6 v7 v8 v9 v10 v11 v12 v13 v14 v15 v16 v17 v18 v19 v20 v21 v22 v23 v24 v25 v26 v27 v28 v29 v30 v31 v32 v33 v34 v35 v36 v37 v38 v39 =
 bif decide (v3 < v2) then
 (at? v20 v3).bind fun y1 =>
 v20[v3.toNat]?.bind fun y2 =>
 bif decide (v1 = 0) then
 none
 else
 bif y2.tmod v1 == 0 then
 bif decide ((v37.length + ([1] : List Int).length) * 8 ≤ 140737488355328) then
 bif decide (v1 = 0) then
 none
 else
 bif decide ((v38.length + ([IntKind.i64.wrap (y2.tdiv v1)] : List Int).length) * 8 ≤ 140737488355328) then
 Qw_l0 v0 v1 v2 (IntKind.i64.wrap (v3 + 1)) v4 v5 v6 v7 v8 v9 v10 v11 v12 v13 v14 v15 v16 v17 v18 v19 v20 v21 v22 v23 v24 v25 v26 v27 v28 v29 v30 v31 v32 v33 v34 v35 v36 (v37 ++ ([1] : List Int)) (v38 ++ ([IntKind.i64.wrap (y2.tdiv v1)] : List Int)) v39
 else
 none
 else
 none
 else
 bif decide ((v37.length + ([0] : List Int).length) * 8 ≤ 140737488355328) then
 Qw_l0 v0 v1 v2 (IntKind.i64.wrap (v3 + 1)) v4 v5 v6 v7 v8 v9 v10 v11 v12 v13 v14 v15 v16 v17 v18 v19 v20 v21 v22 v23 v24 v25 v26 v27 v28 v29 v30 v31 v32 v33 v34 v35 v36 (v37 ++ ([0] : List Int)) v38 v39
 else
 none
 else
 (Q0p v20).bind fun y3 =>
 Qw_l1 v0 v1 0 v4 v5 v6 v7 v8 v9 v10 v11 v12 v13 v14 v15 v16 v17 v18 v19 v21 v22 v23 v24 v25 v26 v27 v28 v29 v30 v31 v32 v33 v34 v35 v36 v37 v38 v39 y3 := (Q7 Q0 (Q1 (Qw.gok _)) _ _).trans (by kernel_rfl)
theorem Qw_l1.eq (v0 : List Int) (v1 v2 v3 v4 v5 v6 v7 v8 v9 v10 v11 v12 : Int) (v13 : List Int) (v14 : List (Int × (List Int))) (v15 v16 v17 v18 : List Int) (v19 v20 v21 v22 v23 v24 v25 v26 v27 v28 : Int) (v29 : List Int) (v30 : List (Int × (List Int))) (v31 v32 v33 v34 v35 v36 v37 v38 : List Int) : Qw_l1 v0 v1 v2 v3 v4 v5 v6 v7 v8 v9 v10 v11 v12 v13 v14 v15 v16 v17 v18 v19 v20 v21 v22 v23 v24 v25 v26 v27 v28 v29 v30 v31 v32 v33 v34 v35 v36 v37 v38 =
 bif decide (v2 ≤ (v0.length : Int)) then
 (at? v38 v2).bind fun y1 =>
 v38[v2.toNat]?.bind fun y2 =>
 bif decide ((v37.length + ([y2] : List Int).length) * 8 ≤ 140737488355328) then
 Qw_l1 v0 v1 (IntKind.i64.wrap (v2 + v1)) v3 v4 v5 v6 v7 v8 v9 v10 v11 v12 v13 v14 v15 v16 v17 v18 v19 v20 v21 v22 v23 v24 v25 v26 v27 v28 v29 v30 v31 v32 v33 v34 v35 v36 (v37 ++ ([y2] : List Int)) v38
 else
 none
 else
 (QD v35).bind fun y3 =>
 (Q15 (v0.length : Int)).bind fun y4 =>
 (QZ v36 y4).bind fun y5 =>
 (Q15 (v0.length : Int)).bind fun y6 =>
 (QZ v37 y6).bind fun y7 =>
 some (v19, v20, v21, v29, v30, v31, y3.1, y3.2, y5.1.1, y5.1.2.1, y5.1.2.2.1, y5.1.2.2.2, y7.1.1, y7.1.2.1, y7.1.2.2.1, y7.1.2.2.2) := (Q7 Q0 (Q1 (Qw.gok _)) _ _).trans (by kernel_rfl)
abbrev Q0z.s : Sg := ⟨[.lend, .lend], [vl 90, vl 90], ⟨[vb], [none, none]⟩, Tryz.f186⟩
def Q0z.gs (δ : Type) : List (Nat × KC δ) := []
theorem Q0z.gok (δ : Type) : Q4 Tryz.prog tab (Q0z.gs δ) := .nil
def Q0z.c := cx Q0z.s [] [] [(4, [0, 1, 12, 13])] false (Q0z.gs _)
def Q0z (x0 x1 : List Int) : Option (Bool) := fnW Q0z.s Q0z.c (x0, x1)
theorem Q0z.fok : FkS Q0z.s 186 := ⟨Tryz.func186, by kernel_rfl, by kernel_rfl⟩
def Q0z.fn (x : Args tab Q0z.s.ar) : Option (ResT tab Q0z.s.rs) := Q0z x.1 x.2
abbrev Q0z.k {δ : Type} : KC δ := kS Q0z.s Q0z.fn
theorem Q0z.con {δ : Type} : Con Tryz.prog (KT tab) 186 (Q0z.k (δ := δ)) := Q5 (c := Q0z.c) mixed Q0 (Q1 (Q0z.gok _)) Q0z.fok rfl rfl fun _ => rfl
def Q0z_l0 (v0 v1 : List Int) (v2 v3 : Int) : Option (Bool) := lpW Q0z.s Q0z.c 0 (ud 12 [.vs false 90 v0, .vs false 90 v1, .undef, .undef, .undef, .undef, .undef, .undef, .undef, .undef, .undef, .undef, .int .i64 v2, .int .i64 v3]) [] 0
theorem Q0z.eq (x0 x1 : List Int) : Q0z x0 x1 =
 bif (x0.length : Int) != (x1.length : Int) then
 some false
 else
 Q0z_l0 x0 x1 (x0.length : Int) 0 := by kernel_rfl
theorem Q0z_l0.eq (v0 v1 : List Int) (v2 v3 : Int) : Q0z_l0 v0 v1 v2 v3 =
 bif decide (v3 < v2) then
 (at? v0 v3).bind fun y1 =>
 (at? v1 v3).bind fun y2 =>
 bif y1 != y2 then
 some false
 else
 Q0z_l0 v0 v1 v2 (IntKind.i64.wrap (v3 + 1))
 else
 some true := (Q7 Q0 (Q1 (Q0z.gok _)) _ _).trans (by kernel_rfl)
abbrev Q0k.s : Sg := ⟨[.lend, .lend], [ag3, ag3], ⟨[vb], [none, none]⟩, Tryz.f154⟩
def Q0k.gs (δ : Type) : List (Nat × KC δ) := [(186, Q0z.k)]
theorem Q0k.gok (δ : Type) : Q4 Tryz.prog tab (Q0k.gs δ) := .cons Q0z.con .nil
def Q0k.c := cx Q0k.s [] [] [] false (Q0k.gs _)
def Q0k (x0 x1 : Int × (List Int)) : Option (Bool) := fnW Q0k.s Q0k.c (x0, x1)
theorem Q0k.fok : FkS Q0k.s 154 := ⟨Tryz.func154, by kernel_rfl, by kernel_rfl⟩
def Q0k.fn (x : Args tab Q0k.s.ar) : Option (ResT tab Q0k.s.rs) := Q0k x.1 x.2
abbrev Q0k.k {δ : Type} : KC δ := kS Q0k.s Q0k.fn
theorem Q0k.con {δ : Type} : Con Tryz.prog (KT tab) 154 (Q0k.k (δ := δ)) := Q5 (c := Q0k.c) mixed Q0 (Q1 (Q0k.gok _)) Q0k.fok rfl rfl fun _ => rfl
theorem Q0k.eq (x0 x1 : Int × (List Int)) : Q0k x0 x1 =
 bif x0.1 == x1.1 then
 (Q0z x0.2 x1.2).bind fun y1 =>
 some y1
 else
 some false := by kernel_rfl
abbrev Q0A.s : Sg := ⟨[.lend, .lend, .lend], [vl 30, vl 30, .one (.fn 154 [])], ⟨[vb], [none, none, none]⟩, Tryz.f185⟩
def Q0A.gs (δ : Type) : List (Nat × KC δ) := [(154, Q0k.k)]
theorem Q0A.gok (δ : Type) : Q4 Tryz.prog tab (Q0A.gs δ) := .cons Q0k.con .nil
def Q0A.c := cx Q0A.s [] [] [(4, [1, 2, 15, 16, 17])] false (Q0A.gs _)
def Q0A (x0 x1 : List (Int × (List Int))) (x2 : Unit) : Option (Bool) := fnW Q0A.s Q0A.c (x0, x1, x2)
theorem Q0A.fok : FkS Q0A.s 185 := ⟨Tryz.func185, by kernel_rfl, by kernel_rfl⟩
def Q0A.fn (x : Args tab Q0A.s.ar) : Option (ResT tab Q0A.s.rs) := Q0A x.1 x.2.1 x.2.2
abbrev Q0A.k {δ : Type} : KC δ := kS Q0A.s Q0A.fn
theorem Q0A.con {δ : Type} : Con Tryz.prog (KT tab) 185 (Q0A.k (δ := δ)) := Q5 (c := Q0A.c) mixed Q0 (Q1 (Q0A.gok _)) Q0A.fok rfl rfl fun _ => rfl
def Q0A_l0 (v0 v1 : List (Int × (List Int))) (v2 v3 : Int) : Option (Bool) := lpW Q0A.s Q0A.c 0 (ud 14 [.undef, .vs false 30 v0, .fn 154 [], .undef, .undef, .undef, .undef, .undef, .undef, .undef, .undef, .undef, .undef, .undef, .undef, .vs false 30 v1, .int .i64 v2, .int .i64 v3]) [] 0
theorem Q0A.eq (x0 x1 : List (Int × (List Int))) (x2 : Unit) : Q0A x0 x1 x2 =
 bif (x0.length : Int) != (x1.length : Int) then
 some false
 else
 Q0A_l0 x1 x0 (x0.length : Int) 0 := by kernel_rfl
theorem Q0A_l0.eq (v0 v1 : List (Int × (List Int))) (v2 v3 : Int) : Q0A_l0 v0 v1 v2 v3 =
 bif decide (v3 < v2) then
 (at? v1 v3).bind fun y1 =>
 (at? v0 v3).bind fun y2 =>
 (Q0k y1 y2).bind fun y3 =>
 bif !y3 then
 some false
 else
 Q0A_l0 v0 v1 v2 (IntKind.i64.wrap (v3 + 1))
 else
 some true := (Q7 Q0 (Q1 (Q0A.gok _)) _ _).trans (by kernel_rfl)
abbrev Q0T.s : Sg := ⟨[.lend, .lend], [ag4, ag4], ⟨[vb], [none, none]⟩, Tryz.f153⟩
def Q0T.gs (δ : Type) : List (Nat × KC δ) := [(152, QY.k), (185, Q0A.k)]
theorem Q0T.gok (δ : Type) : Q4 Tryz.prog tab (Q0T.gs δ) := .cons QY.con (.cons Q0A.con .nil)
def Q0T.c := cx Q0T.s [] [] [] false (Q0T.gs _)
def Q0T (x0 x1 : Int × (List Int) × (List (Int × (List Int)))) : Option (Bool) := fnW Q0T.s Q0T.c (x0, x1)
theorem Q0T.fok : FkS Q0T.s 153 := ⟨Tryz.func153, by kernel_rfl, by kernel_rfl⟩
def Q0T.fn (x : Args tab Q0T.s.ar) : Option (ResT tab Q0T.s.rs) := Q0T x.1 x.2
abbrev Q0T.k {δ : Type} : KC δ := kS Q0T.s Q0T.fn
theorem Q0T.con {δ : Type} : Con Tryz.prog (KT tab) 153 (Q0T.k (δ := δ)) := Q5 (c := Q0T.c) mixed Q0 (Q1 (Q0T.gok _)) Q0T.fok rfl rfl fun _ => rfl
theorem Q0T.eq (x0 x1 : Int × (List Int) × (List (Int × (List Int)))) : Q0T x0 x1 =
 bif x0.1 == x1.1 then
 (QY x0.2.1 x1.2.1).bind fun y1 =>
 bif y1 then
 (Q0A x0.2.2 x1.2.2 ()).bind fun y2 =>
 some y2
 else
 some false
 else
 some false := by kernel_rfl
abbrev Q0K.s : Sg := ⟨[.lend, .lend], [ag5, ag5], ⟨[vb], [none, none]⟩, Tryz.f155⟩
def Q0K.gs (δ : Type) : List (Nat × KC δ) := [(154, Q0k.k)]
theorem Q0K.gok (δ : Type) : Q4 Tryz.prog tab (Q0K.gs δ) := .cons Q0k.con .nil
def Q0K.c := cx Q0K.s [] [] [] false (Q0K.gs _)
def Q0K (x0 x1 : Int × Int × Int × (List Int)) : Option (Bool) := fnW Q0K.s Q0K.c (x0, x1)
theorem Q0K.fok : FkS Q0K.s 155 := ⟨Tryz.func155, by kernel_rfl, by kernel_rfl⟩
def Q0K.fn (x : Args tab Q0K.s.ar) : Option (ResT tab Q0K.s.rs) := Q0K x.1 x.2
abbrev Q0K.k {δ : Type} : KC δ := kS Q0K.s Q0K.fn
theorem Q0K.con {δ : Type} : Con Tryz.prog (KT tab) 155 (Q0K.k (δ := δ)) := Q5 (c := Q0K.c) mixed Q0 (Q1 (Q0K.gok _)) Q0K.fok rfl rfl fun _ => rfl
theorem Q0K.eq (x0 x1 : Int × Int × Int × (List Int)) : Q0K x0 x1 =
 bif x0.1 == x1.1 then
 bif x0.2.1 == x1.2.1 then
 (Q0k x0.2.2 x1.2.2).bind fun y1 =>
 some y1
 else
 some false
 else
 some false := by kernel_rfl
abbrev Q17.s : Sg := ⟨[.lend, .lend], [ag6, ag6], ⟨[vb], [none, none]⟩, Tryz.f110⟩
def Q17.gs (δ : Type) : List (Nat × KC δ) := [(152, QY.k), (153, Q0T.k), (154, Q0k.k), (155, Q0K.k)]
theorem Q17.gok (δ : Type) : Q4 Tryz.prog tab (Q17.gs δ) := .cons QY.con (.cons Q0T.con (.cons Q0k.con (.cons Q0K.con .nil)))
def Q17.c := cx Q17.s [] [] [] false (Q17.gs _)
def Q17 (x0 x1 : FmA) : Option (Bool) := fnW Q17.s Q17.c (x0, x1)
theorem Q17.fok : FkS Q17.s 110 := ⟨Tryz.func110, by kernel_rfl, by kernel_rfl⟩
def Q17.fn (x : Args tab Q17.s.ar) : Option (ResT tab Q17.s.rs) := Q17 x.1 x.2
abbrev Q17.k {δ : Type} : KC δ := kS Q17.s Q17.fn
theorem Q17.con {δ : Type} : Con Tryz.prog (KT tab) 110 (Q17.k (δ := δ)) := Q5 (c := Q17.c) mixed Q0 (Q1 (Q17.gok _)) Q17.fok rfl rfl fun _ => rfl
theorem Q17.eq (x0 x1 : FmA) : Q17 x0 x1 =
 bif x0.1 == x1.1 then
 bif x0.2.1 == x1.2.1 then
 (Q0T (x0.2.2.1, x0.2.2.2.1, x0.2.2.2.2.1) (x1.2.2.1, x1.2.2.2.1, x1.2.2.2.2.1)).bind fun y1 =>
 bif y1 then
 (QY x0.2.2.2.2.2.1 x1.2.2.2.2.2.1).bind fun y2 =>
 bif y2 then
 (Q0k (x0.2.2.2.2.2.2.1, x0.2.2.2.2.2.2.2.1) (x1.2.2.2.2.2.2.1, x1.2.2.2.2.2.2.2.1)).bind fun y3 =>
 bif y3 then
 (Q0K (x0.2.2.2.2.2.2.2.2.1, x0.2.2.2.2.2.2.2.2.2.1, x0.2.2.2.2.2.2.2.2.2.2.1, x0.2.2.2.2.2.2.2.2.2.2.2.1) (x1.2.2.2.2.2.2.2.2.1, x1.2.2.2.2.2.2.2.2.2.1, x1.2.2.2.2.2.2.2.2.2.2.1, x1.2.2.2.2.2.2.2.2.2.2.2.1)).bind fun y4 =>
 bif y4 then
 (Q0K x0.2.2.2.2.2.2.2.2.2.2.2.2 x1.2.2.2.2.2.2.2.2.2.2.2.2).bind fun y5 =>
 some y5
 else
 some false
 else
 some false
 else
 some false
 else
 some false
 else
 some false
 else
 some false := by kernel_rfl
abbrev Q0r.s : Sg := ⟨[.lend], [ag6], ⟨[vo 5, vb], [none]⟩, Tryz.f46⟩
def Q0r.gs (δ : Type) : List (Nat × KC δ) := [(48, Q0H.k), (108, Qc.k), (109, QG.k), (110, Q17.k), (111, Qw.k)]
theorem Q0r.gok (δ : Type) : Q4 Tryz.prog tab (Q0r.gs δ) := .cons Q0H.con (.cons Qc.con (.cons QG.con (.cons Q17.con (.cons Qw.con .nil))))
def Q0r.c := cx Q0r.s [] [] [] false (Q0r.gs _)
def Q0r (x0 : FmA) : Option ((List Int) × Bool) := fnW Q0r.s Q0r.c x0
theorem Q0r.fok : FkS Q0r.s 46 := ⟨Tryz.func46, by kernel_rfl, by kernel_rfl⟩
def Q0r.fn (x : Args tab Q0r.s.ar) : Option (ResT tab Q0r.s.rs) := Q0r x
abbrev Q0r.k {δ : Type} : KC δ := kS Q0r.s Q0r.fn
theorem Q0r.con {δ : Type} : Con Tryz.prog (KT tab) 46 (Q0r.k (δ := δ)) := Q5 (c := Q0r.c) mixed Q0 (Q1 (Q0r.gok _)) Q0r.fok rfl rfl fun _ => rfl
theorem Q0r.eq (x0 : FmA) : Q0r x0 =
 (Qc (x0.2.2.1, x0.2.2.2.1, x0.2.2.2.2.1)).bind fun y1 =>
 bif !y1.2 then
 some (([] : List Int), false)
 else
 (Q0H x0.2.1).bind fun y2 =>
 bif !y2 then
 some (([] : List Int), false)
 else
 (QG y1.1).bind fun y3 =>
 bif y3.2 then
 (Qw y3.1 x0.2.1).bind fun y4 =>
 (Q17 y4 x0).bind fun y5 =>
 some (y3.1, y5)
 else
 some (y3.1, false) := by kernel_rfl
abbrev Q0Y.s : Sg := ⟨[.lend], [vl 5], ⟨[vb], [none]⟩, Tryz.f112⟩
def Q0Y.gs (δ : Type) : List (Nat × KC δ) := []
theorem Q0Y.gok (δ : Type) : Q4 Tryz.prog tab (Q0Y.gs δ) := .nil
def Q0Y.c := cx Q0Y.s [] [] [] false (Q0Y.gs _)
def Q0Y (x0 : List Int) : Option (Bool) := fnW Q0Y.s Q0Y.c x0
theorem Q0Y.fok : FkS Q0Y.s 112 := ⟨Tryz.func112, by kernel_rfl, by kernel_rfl⟩
def Q0Y.fn (x : Args tab Q0Y.s.ar) : Option (ResT tab Q0Y.s.rs) := Q0Y x
abbrev Q0Y.k {δ : Type} : KC δ := kS Q0Y.s Q0Y.fn
theorem Q0Y.con {δ : Type} : Con Tryz.prog (KT tab) 112 (Q0Y.k (δ := δ)) := Q5 (c := Q0Y.c) mixed Q0 (Q1 (Q0Y.gok _)) Q0Y.fok rfl rfl fun _ => rfl
theorem Q0Y.eq (x0 : List Int) : Q0Y x0 =
 some (decide ((x0.length : Int) ≤ 300)) := by kernel_rfl
abbrev Q0Q.s : Sg := ⟨[.lend, .lend, .lend], [vl 5, vl 5, vi], ⟨[vb], [none, none, none]⟩, Tryz.f47⟩
def Q0Q.gs (δ : Type) : List (Nat × KC δ) := [(58, QM.k), (112, Q0Y.k)]
theorem Q0Q.gok (δ : Type) : Q4 Tryz.prog tab (Q0Q.gs δ) := .cons QM.con (.cons Q0Y.con .nil)
def Q0Q.c := cx Q0Q.s [] [] [] false (Q0Q.gs _)
def Q0Q (x0 x1 : List Int) (x2 : Int) : Option (Bool) := fnW Q0Q.s Q0Q.c (x0, x1, x2)
theorem Q0Q.fok : FkS Q0Q.s 47 := ⟨Tryz.func47, by kernel_rfl, by kernel_rfl⟩
def Q0Q.fn (x : Args tab Q0Q.s.ar) : Option (ResT tab Q0Q.s.rs) := Q0Q x.1 x.2.1 x.2.2
abbrev Q0Q.k {δ : Type} : KC δ := kS Q0Q.s Q0Q.fn
theorem Q0Q.con {δ : Type} : Con Tryz.prog (KT tab) 47 (Q0Q.k (δ := δ)) := Q5 (c := Q0Q.c) mixed Q0 (Q1 (Q0Q.gok _)) Q0Q.fok rfl rfl fun _ => rfl
theorem Q0Q.eq (x0 x1 : List Int) (x2 : Int) : Q0Q x0 x1 x2 =
 (Q0Y x0).bind fun y1 =>
 bif y1 then
 (Q0Y x1).bind fun y2 =>
 bif y2 then
 (QM x2 0 8).bind fun y3 =>
 some y3
 else
 some false
 else
 some false := by kernel_rfl
abbrev Q0l.s : Sg := ⟨[.lend, .lend], [vl 5, vi], ⟨[vl 9], [none, none]⟩, Tryz.f160⟩
def Q0l.gs (δ : Type) : List (Nat × KC δ) := [(122, Q06.k)]
theorem Q0l.gok (δ : Type) : Q4 Tryz.prog tab (Q0l.gs δ) := .cons Q06.con .nil
def Q0l.c := cx Q0l.s [] [] [(3, [0, 1, 5, 9, 10, 11])] false (Q0l.gs _)
def Q0l (x0 : List Int) (x1 : Int) : Option (List ByteArray) := fnW Q0l.s Q0l.c (x0, x1)
theorem Q0l.fok : FkS Q0l.s 160 := ⟨Tryz.func160, by kernel_rfl, by kernel_rfl⟩
def Q0l.fn (x : Args tab Q0l.s.ar) : Option (ResT tab Q0l.s.rs) := Q0l x.1 x.2
abbrev Q0l.k {δ : Type} : KC δ := kS Q0l.s Q0l.fn
theorem Q0l.con {δ : Type} : Con Tryz.prog (KT tab) 160 (Q0l.k (δ := δ)) := Q5 (c := Q0l.c) mixed Q0 (Q1 (Q0l.gok _)) Q0l.fok rfl rfl fun _ => rfl
def Q0l_l0 (v0 : List Int) (v1 v2 v3 : Int) (v4 : List ByteArray) (v5 : List Int) : Option (List ByteArray) := lpW Q0l.s Q0l.c 0 (ud 18 [.vs false 5 v0, .int .i64 v1, .undef, .undef, .undef, .sl 0 0, .undef, .undef, .undef, .sl 1 0, .int .i64 v2, .int .i64 v3]) [.row 0 true 9 v4, .row 0 true 3 v5] 2
theorem Q0l.eq (x0 : List Int) (x1 : Int) : Q0l x0 x1 =
 (Q06 x0).bind fun y1 =>
 Q0l_l0 x0 x1 (y1.length : Int) 0 ([] : List ByteArray) y1 := by kernel_rfl
theorem Q0l_l0.eq (v0 : List Int) (v1 v2 v3 : Int) (v4 : List ByteArray) (v5 : List Int) : Q0l_l0 v0 v1 v2 v3 v4 v5 =
 bif decide (v3 < v2) then
 (at? v5 v3).bind fun y1 =>
 v5[v3.toNat]?.bind fun y2 =>
 bif decide (0 ≤ (if (v0.length : Int) < IntKind.i64.wrap (y2 + v1) then (v0.length : Int) else IntKind.i64.wrap (y2 + v1)) ∧ (if (v0.length : Int) < IntKind.i64.wrap (y2 + v1) then (v0.length : Int) else IntKind.i64.wrap (y2 + v1)) ≤ ((v0.length : Nat) : Int)) then
 bif decide (0 ≤ y2 ∧ y2 ≤ (((if (v0.length : Int) < IntKind.i64.wrap (y2 + v1) then (v0.length : Int) else IntKind.i64.wrap (y2 + v1)).toNat : Nat) : Int)) then
 bif decide ((v4.length + ([Q2a (((v0.take ((if (v0.length : Int) < IntKind.i64.wrap (y2 + v1) then (v0.length : Int) else IntKind.i64.wrap (y2 + v1)).toNat)).drop y2.toNat).map fun x => x)] : List ByteArray).length) * 16 ≤ 140737488355328) then
 Q0l_l0 v0 v1 v2 (IntKind.i64.wrap (v3 + 1)) (v4 ++ ([Q2a (((v0.take ((if (v0.length : Int) < IntKind.i64.wrap (y2 + v1) then (v0.length : Int) else IntKind.i64.wrap (y2 + v1)).toNat)).drop y2.toNat).map fun x => x)] : List ByteArray)) v5
 else
 none
 else
 none
 else
 none
 else
 some v4 := (Q7 Q0 (Q1 (Q0l.gok _)) _ _).trans (by kernel_rfl)
def Q23.ms : List Mode := [.give, .lend]
def Q23.as : List VSh := [.one (.b (.b (.b (.b (.sl true true 9))))), .one (.b (.b (.b (.b (.int .i64)))))]
def Q23.rs : RSh := ⟨[.one (.b (.b (.b (.b (.sl true true 9)))))], [none, none]⟩
def Q23 (x0 : List ByteArray) (x1 : Int) : Option (List ByteArray) := growF 16 (x0, x1)
def Q23.fn : Args tab Q23.as → Option (ResT tab Q23.rs) := fun x => Q23 x.1 x.2
abbrev Q23.k {δ : Type} : KC δ := Q1Q tab Q23.ms Q23.as Q23.rs Q23.fn
theorem Q23.con {δ : Type} : Con Tryz.prog (KT tab) 193 (Q23.k (δ := δ)) := con_grow2 Tryz.laysGrow193 rfl rfl (ty := tyOf tys) Q0 (e := 9) rfl (by decide) rfl rfl
end
end Go.Ev.W
