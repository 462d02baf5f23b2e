/- What functions of the program come to. -/
import Derived.Test.YtmdkpcneakoagaaGreatPhT
import Derived.Test.YtmdkpcneakoagaaGreatEvCmp
import Derived.Test.YtmdkpcneakoagaaGreatEvGrow
import Derived.Test.YtmdkpcneakoagaaGreatEvSort
import Derived.Test.YtmdkpcneakoagaaGreatEvTable
import Derived.Test.YtmdkpcneakoagaaGreatPhI183
import Derived.Test.YtmdkpcneakoagaaGreatPhL
namespace Go.Ev.W
open Go.Ev Go.Proofs
set_option maxRecDepth 100000
set_option linter.unusedVariables false
noncomputable abbrev Q0G.s : Sg := ⟨[.lend], [vl 5], ⟨[vb], [none]⟩, Tryz.f85⟩
noncomputable def Q0G.gs (δ : Type) : List (Nat × Callee (GT tab) δ) := []
theorem Q0G.gok (δ : Type) : Q4 Tryz.prog tab (Q0G.gs δ) := .nil
noncomputable def Q0G.c := cx Q0G.s [] [] [] false (Q0G.gs _)
noncomputable def Q0G (x0 : List Int) : Option (Bool) := fnW Q0G.s Q0G.c x0
theorem Q0G.fok : FkS Q0G.s 85 := ⟨Tryz.func85, by kernel_rfl, by kernel_rfl⟩
noncomputable def Q0G.fn (x : Args tab Q0G.s.ar) : Option (ResT tab Q0G.s.rs) := Q0G x
noncomputable abbrev Q0G.k {δ : Type} : Callee (GT tab) δ := kS Q0G.s Q0G.fn
theorem Q0G.con {δ : Type} : Con Tryz.prog (KT tab) 85 (Q0G.k (δ := δ)) := Q5 (c := Q0G.c) mixed Q0 (Q1 (Q0G.gok _)) Q0G.fok rfl rfl fun _ => rfl
theorem Q0G.eq (x0 : List Int) : Q0G x0 =
 some (decide ((x0.length : Int) ≤ (300 : Int))) := by kernel_rfl
noncomputable abbrev Q0K.s : Sg := ⟨[.lend], [vi], ⟨[vb], [none]⟩, Tryz.f43⟩
noncomputable def Q0K.gs (δ : Type) : List (Nat × Callee (GT tab) δ) := []
theorem Q0K.gok (δ : Type) : Q4 Tryz.prog tab (Q0K.gs δ) := .nil
noncomputable def Q0K.c := cx Q0K.s [] [] [] false (Q0K.gs _)
noncomputable def Q0K (x0 : Int) : Option (Bool) := fnW Q0K.s Q0K.c x0
theorem Q0K.fok : FkS Q0K.s 43 := ⟨Tryz.func43, by kernel_rfl, by kernel_rfl⟩
noncomputable def Q0K.fn (x : Args tab Q0K.s.ar) : Option (ResT tab Q0K.s.rs) := Q0K x
noncomputable abbrev Q0K.k {δ : Type} : Callee (GT tab) δ := kS Q0K.s Q0K.fn
theorem Q0K.con {δ : Type} : Con Tryz.prog (KT tab) 43 (Q0K.k (δ := δ)) := Q5 (c := Q0K.c) mixed Q0 (Q1 (Q0K.gok _)) Q0K.fok rfl rfl fun _ => rfl
theorem Q0K.eq (x0 : Int) : Q0K x0 =
 bif decide (x0 ≥ (1 : Int)) then
 some (decide (x0 ≤ (64 : Int)))
 else
 some false := by kernel_rfl
noncomputable abbrev Qs.s : Sg := ⟨[.lend, .lend], [vl 5, vl 5], ⟨[vi], [none, none]⟩, Tryz.f136⟩
noncomputable def Qs.gs (δ : Type) : List (Nat × Callee (GT tab) δ) := []
theorem Qs.gok (δ : Type) : Q4 Tryz.prog tab (Qs.gs δ) := .nil
noncomputable def Qs.c := cx Qs.s [] [4] [(2, [0, 1, 5]), (4, [0, 1, 5])] false (Qs.gs _)
noncomputable def Qs (x0 x1 : List Int) : Option (Int) := fnW Qs.s Qs.c (x0, x1)
theorem Qs.fok : FkS Qs.s 136 := ⟨Tryz.func136, by kernel_rfl, by kernel_rfl⟩
noncomputable def Qs.fn (x : Args tab Qs.s.ar) : Option (ResT tab Qs.s.rs) := Qs x.1 x.2
noncomputable abbrev Qs.k {δ : Type} : Callee (GT tab) δ := kS Qs.s Qs.fn
theorem Qs.con {δ : Type} : Con Tryz.prog (KT tab) 136 (Qs.k (δ := δ)) := Q5 (c := Qs.c) mixed Q0 (Q1 (Qs.gok _)) Qs.fok rfl rfl fun _ => rfl
noncomputable def Qs_l0 (v0 v1 : List Int) (v2 : Int) : Option (Int) := lpW Qs.s Qs.c 0 (ud 40 [.vs false 5 v0, .vs false 5 v1, .undef, .undef, .undef, .int .i64 v2]) [] 0
noncomputable def Qs_l1 (v0 v1 : List Int) (v2 : Int) : Option (Int) := lpW Qs.s Qs.c 1 (ud 40 [.vs false 5 v0, .vs false 5 v1, .undef, .undef, .undef, .int .i64 v2]) [] 0
theorem Qs.eq (x0 x1 : List Int) : Qs x0 x1 =
 Qs_l0 x0 x1 (0 : Int) := by kernel_rfl
theorem Qs_l0.eq (v0 v1 : List Int) (v2 : Int) : Qs_l0 v0 v1 v2 =
 bif decide (v2 < (v0.length : Int)) then
 bif decide (v2 < (v1.length : Int)) then
 Qs_l1 v0 v1 v2
 else
 bif decide ((v0.length : Int) < (v1.length : Int)) then
 some (-1 : Int)
 else
 bif decide ((v0.length : Int) > (v1.length : Int)) then
 some (1 : Int)
 else
 some (0 : Int)
 else
 bif decide ((v0.length : Int) < (v1.length : Int)) then
 some (-1 : Int)
 else
 bif decide ((v0.length : Int) > (v1.length : Int)) then
 some (1 : Int)
 else
 some (0 : Int) := (Q6 Q0 (Q1 (Qs.gok _)) _ _).trans (by kernel_rfl)
theorem Qs_l1.eq (v0 v1 : List Int) (v2 : Int) : Qs_l1 v0 v1 v2 =
 (at? v0 v2).bind fun y1 =>
 (at? v1 v2).bind fun y2 =>
 bif decide (y1 < y2) then
 some (-1 : Int)
 else
 (at? v0 v2).bind fun y3 =>
 (at? v1 v2).bind fun y4 =>
 bif decide (y3 > y4) then
 some (1 : Int)
 else
 Qs_l0 v0 v1 (IntKind.i64.wrap (v2 + (1 : Int))) := (Q6 Q0 (Q1 (Qs.gok _)) _ _).trans (by kernel_rfl)
noncomputable abbrev Qp.s : Sg := ⟨[.lend], [vl 5], ⟨[vo 3], [none]⟩, Tryz.f86⟩
noncomputable def Qp.gs (δ : Type) : List (Nat × Callee (GT tab) δ) := [(85, Q0G.k), (136, Qs.k)]
theorem Qp.gok (δ : Type) : Q4 Tryz.prog tab (Qp.gs δ) := .cons Q0G.con (.cons Qs.con .nil)
noncomputable def Qp.c := cx Qp.s [] [] [(5, [0, 3, 4]), (9, [0, 3, 4, 5, 6])] false (Qp.gs _)
noncomputable def Qp (x0 : List Int) : Option (List Int) := fnW Qp.s Qp.c x0
theorem Qp.fok : FkS Qp.s 86 := ⟨Tryz.func86, by kernel_rfl, by kernel_rfl⟩
noncomputable def Qp.fn (x : Args tab Qp.s.ar) : Option (ResT tab Qp.s.rs) := Qp x
noncomputable abbrev Qp.k {δ : Type} : Callee (GT tab) δ := kS Qp.s Qp.fn
theorem Qp.con {δ : Type} : Con Tryz.prog (KT tab) 86 (Qp.k (δ := δ)) := Q5 (c := Qp.c) mixed Q0 (Q1 (Qp.gok _)) Qp.fok rfl rfl fun _ => rfl
noncomputable def Qp_l0 (v0 : List Int) (v1 : Int) (v2 : List Int) : Option (List Int) := lpW Qp.s Qp.c 0 (ud 51 [.vs false 5 v0, .undef, .undef, .sl 0 0, .int .i64 v1]) [.row 0 true 3 v2] 1
noncomputable def Qp_l1 (v0 : List Int) (v1 v2 v3 : Int) (v4 : List Int) : Option (List Int) := lpW Qp.s Qp.c 1 (ud 49 [.vs false 5 v0, .undef, .undef, .sl 0 0, .int .i64 v1, .int .i64 v2, .int .i64 v3]) [.row 0 true 3 v4] 1
theorem Qp.eq (x0 : List Int) : Qp x0 =
 (Q0G x0).bind fun y1 =>
 bif !y1 then
 some ([] : List Int)
 else
 Qp_l0 x0 (x0.length : Int) ([] : List Int) := by kernel_rfl
theorem Qp_l0.eq (v0 : List Int) (v1 : Int) (v2 : List Int) : Qp_l0 v0 v1 v2 =
 bif decide (v1 ≥ (0 : Int)) then
 Qp_l1 v0 v1 (0 : Int) (v2.length : Int) v2
 else
 some v2 := (Q6 Q0 (Q1 (Qp.gok _)) _ _).trans (by kernel_rfl)
theorem Qp_l1.eq (v0 : List Int) (v1 v2 v3 : Int) (v4 : List Int) : Qp_l1 v0 v1 v2 v3 v4 =
 bif decide (v2 < v3) then
 (at? v4 (IntKind.i64.wrap ((IntKind.i64.wrap (v2 + v3)).tdiv (2 : Int)))).bind fun y1 =>
 v4[(IntKind.i64.wrap ((IntKind.i64.wrap (v2 + v3)).tdiv (2 : Int))).toNat]?.bind fun y2 =>
 bif decide (0 ≤ y2 ∧ y2 ≤ ((v0.length : Nat) : Int)) then
 bif decide (0 ≤ v1 ∧ v1 ≤ ((v0.length : Nat) : Int)) then
 (Qs ((v0.take v0.length).drop y2.toNat) ((v0.take v0.length).drop v1.toNat)).bind fun y3 =>
 bif decide (y3 < (0 : Int)) then
 Qp_l1 v0 v1 (IntKind.i64.wrap ((IntKind.i64.wrap ((IntKind.i64.wrap (v2 + v3)).tdiv (2 : Int))) + (1 : Int))) v3 v4
 else
 Qp_l1 v0 v1 v2 (IntKind.i64.wrap ((IntKind.i64.wrap (v2 + v3)).tdiv (2 : Int))) v4
 else
 none
 else
 none
 else
 bif decide (0 ≤ v2 ∧ v2 ≤ ((v4.length : Nat) : Int)) then
 bif decide ((([v1] : List Int).length + ((v4.drop v2.toNat).take (v4.length - v2.toNat)).length) * 8 ≤ 140737488355328) then
 bif decide (0 ≤ v2 ∧ v2 ≤ ((v4.length : Nat) : Int)) then
 bif decide ((([] : List Int).length + ((v4.drop 0).take (v2.toNat - 0)).length) * 8 ≤ 140737488355328) then
 bif decide (((([] : List Int) ++ ((v4.drop 0).take (v2.toNat - 0))).length + (([v1] : List Int) ++ ((v4.drop v2.toNat).take (v4.length - v2.toNat))).length) * 8 ≤ 140737488355328) then
 Qp_l0 v0 (IntKind.i64.wrap (v1 - (1 : Int))) ((([] : List Int) ++ ((v4.drop 0).take (v2.toNat - 0))) ++ (([v1] : List Int) ++ ((v4.drop v2.toNat).take (v4.length - v2.toNat))))
 else
 none
 else
 none
 else
 none
 else
 none
 else
 none := (Q6 Q0 (Q1 (Qp.gok _)) _ _).trans (by kernel_rfl)
noncomputable abbrev Qx.s : Sg := ⟨[.lend], [vl 3], ⟨[vo 3, vb], [none]⟩, Tryz.f87⟩
noncomputable def Qx.gs (δ : Type) : List (Nat × Callee (GT tab) δ) := []
theorem Qx.gok (δ : Type) : Q4 Tryz.prog tab (Qx.gs δ) := .nil
noncomputable def Qx.c := cx Qx.s [] [] [(5, [0, 4, 5]), (9, [0, 4, 5, 6, 7])] false (Qx.gs _)
noncomputable def Qx (x0 : List Int) : Option ((List Int) × Bool) := fnW Qx.s Qx.c x0
theorem Qx.fok : FkS Qx.s 87 := ⟨Tryz.func87, by kernel_rfl, by kernel_rfl⟩
noncomputable def Qx.fn (x : Args tab Qx.s.ar) : Option (ResT tab Qx.s.rs) := Qx x
noncomputable abbrev Qx.k {δ : Type} : Callee (GT tab) δ := kS Qx.s Qx.fn
theorem Qx.con {δ : Type} : Con Tryz.prog (KT tab) 87 (Qx.k (δ := δ)) := Q5 (c := Qx.c) mixed Q0 (Q1 (Qx.gok _)) Qx.fok rfl rfl fun _ => rfl
noncomputable def Qx_l0 (v0 : List Int) (v1 : Int) (v2 : List Int) : Option ((List Int) × Bool) := lpW Qx.s Qx.c 0 (ud 32 [.vs false 3 v0, .undef, .undef, .undef, .sl 0 0, .int .i64 v1]) [.row 0 true 3 v2] 1
noncomputable def Qx_l1 (v0 : List Int) (v1 v2 v3 : Int) (v4 : List Int) : Option ((List Int) × Bool) := lpW Qx.s Qx.c 1 (ud 30 [.vs false 3 v0, .undef, .undef, .undef, .sl 0 0, .int .i64 v1, .int .i64 v2, .int .i64 v3]) [.row 0 true 3 v4] 1
theorem Qx.eq (x0 : List Int) : Qx x0 =
 bif decide ((x0.length : Int) > (301 : Int)) then
 some (([] : List Int), false)
 else
 Qx_l0 x0 (0 : Int) ([] : List Int) := by kernel_rfl
theorem Qx_l0.eq (v0 : List Int) (v1 : Int) (v2 : List Int) : Qx_l0 v0 v1 v2 =
 bif decide (v1 < (v0.length : Int)) then
 Qx_l1 v0 v1 (-1 : Int) (0 : Int) v2
 else
 some (v2, true) := (Q6 Q0 (Q1 (Qx.gok _)) _ _).trans (by kernel_rfl)
theorem Qx_l1.eq (v0 : List Int) (v1 v2 v3 : Int) (v4 : List Int) : Qx_l1 v0 v1 v2 v3 v4 =
 bif decide (v3 < (v0.length : Int)) then
 (at? v0 v3).bind fun y1 =>
 bif y1 == v1 then
 Qx_l1 v0 v1 v3 (IntKind.i64.wrap (v3 + (1 : Int))) v4
 else
 Qx_l1 v0 v1 v2 (IntKind.i64.wrap (v3 + (1 : Int))) v4
 else
 bif decide (v2 < (0 : Int)) then
 some (([] : List Int), false)
 else
 bif decide ((v4.length + ([v2] : List Int).length) * 8 ≤ 140737488355328) then
 Qx_l0 v0 (IntKind.i64.wrap (v1 + (1 : Int))) (v4 ++ ([v2] : List Int))
 else
 none := (Q6 Q0 (Q1 (Qx.gok _)) _ _).trans (by kernel_rfl)
noncomputable abbrev Qv.s : Sg := ⟨[.lend], [vl 5], ⟨[vo 3], [none]⟩, Tryz.f88⟩
noncomputable def Qv.gs (δ : Type) : List (Nat × Callee (GT tab) δ) := [(86, Qp.k)]
theorem Qv.gok (δ : Type) : Q4 Tryz.prog tab (Qv.gs δ) := .cons Qp.con .nil
noncomputable def Qv.c := cx Qv.s [] [] [(4, [0, 3, 4, 5])] false (Qv.gs _)
noncomputable def Qv (x0 : List Int) : Option (List Int) := fnW Qv.s Qv.c x0
theorem Qv.fok : FkS Qv.s 88 := ⟨Tryz.func88, by kernel_rfl, by kernel_rfl⟩
noncomputable def Qv.fn (x : Args tab Qv.s.ar) : Option (ResT tab Qv.s.rs) := Qv x
noncomputable abbrev Qv.k {δ : Type} : Callee (GT tab) δ := kS Qv.s Qv.fn
theorem Qv.con {δ : Type} : Con Tryz.prog (KT tab) 88 (Qv.k (δ := δ)) := Q5 (c := Qv.c) mixed Q0 (Q1 (Qv.gok _)) Qv.fok rfl rfl fun _ => rfl
noncomputable def Qv_l0 (v0 : List Int) (v1 : Int) (v2 v3 : List Int) : Option (List Int) := lpW Qv.s Qv.c 0 (ud 31 [.vs false 5 v0, .undef, .undef, .sl 0 0, .sl 1 0, .int .i64 v1]) [.row 0 true 3 v2, .row 0 true 3 v3] 2
theorem Qv.eq (x0 : List Int) : Qv x0 =
 (Qp x0).bind fun y1 =>
 Qv_l0 x0 (0 : Int) y1 ([] : List Int) := by kernel_rfl
theorem Qv_l0.eq (v0 : List Int) (v1 : Int) (v2 v3 : List Int) : Qv_l0 v0 v1 v2 v3 =
 bif decide (v1 < (v2.length : Int)) then
 (at? v2 v1).bind fun y1 =>
 v2[v1.toNat]?.bind fun y2 =>
 bif y2 == (0 : Int) then
 bif decide ((v3.length + ([(0 : Int)] : List Int).length) * 8 ≤ 140737488355328) then
 Qv_l0 v0 (IntKind.i64.wrap (v1 + (1 : Int))) v2 (v3 ++ ([(0 : Int)] : List Int))
 else
 none
 else
 (at? v2 v1).bind fun y3 =>
 v2[v1.toNat]?.bind fun y4 =>
 (at? v0 (IntKind.i64.wrap (y4 - (1 : Int)))).bind fun y5 =>
 bif decide ((v3.length + ([IntKind.i64.wrap ((IntKind.i64.wrap y5) + (1 : Int))] : List Int).length) * 8 ≤ 140737488355328) then
 Qv_l0 v0 (IntKind.i64.wrap (v1 + (1 : Int))) v2 (v3 ++ ([IntKind.i64.wrap ((IntKind.i64.wrap y5) + (1 : Int))] : List Int))
 else
 none
 else
 some v3 := (Q6 Q0 (Q1 (Qv.gok _)) _ _).trans (by kernel_rfl)
noncomputable abbrev QS.s : Sg := ⟨[.lend], [vl 3], ⟨[vb], [none]⟩, Tryz.f137⟩
noncomputable def QS.gs (δ : Type) : List (Nat × Callee (GT tab) δ) := []
theorem QS.gok (δ : Type) : Q4 Tryz.prog tab (QS.gs δ) := .nil
noncomputable def QS.c := cx QS.s [] [] [(4, [0, 3])] false (QS.gs _)
noncomputable def QS (x0 : List Int) : Option (Bool) := fnW QS.s QS.c x0
theorem QS.fok : FkS QS.s 137 := ⟨Tryz.func137, by kernel_rfl, by kernel_rfl⟩
noncomputable def QS.fn (x : Args tab QS.s.ar) : Option (ResT tab QS.s.rs) := QS x
noncomputable abbrev QS.k {δ : Type} : Callee (GT tab) δ := kS QS.s QS.fn
theorem QS.con {δ : Type} : Con Tryz.prog (KT tab) 137 (QS.k (δ := δ)) := Q5 (c := QS.c) mixed Q0 (Q1 (QS.gok _)) QS.fok rfl rfl fun _ => rfl
noncomputable def QS_l0 (v0 : List Int) (v1 : Int) : Option (Bool) := lpW QS.s QS.c 0 (ud 21 [.vs false 3 v0, .undef, .undef, .int .i64 v1]) [] 0
theorem QS.eq (x0 : List Int) : QS x0 =
 bif decide ((x0.length : Int) > (301 : Int)) then
 some false
 else
 QS_l0 x0 (0 : Int) := by kernel_rfl
theorem QS_l0.eq (v0 : List Int) (v1 : Int) : QS_l0 v0 v1 =
 bif decide (v1 < (v0.length : Int)) then
 (at? v0 v1).bind fun y1 =>
 bif decide (y1 < (0 : Int)) then
 some false
 else
 (at? v0 v1).bind fun y2 =>
 bif decide (y2 > (256 : Int)) then
 some false
 else
 QS_l0 v0 (IntKind.i64.wrap (v1 + (1 : Int)))
 else
 some true := (Q6 Q0 (Q1 (QS.gok _)) _ _).trans (by kernel_rfl)
noncomputable abbrev Qy.s : Sg := ⟨[.lend], [vl 3], ⟨[vo 3], [none]⟩, Tryz.f89⟩
noncomputable def Qy.gs (δ : Type) : List (Nat × Callee (GT tab) δ) := [(137, QS.k)]
theorem Qy.gok (δ : Type) : Q4 Tryz.prog tab (Qy.gs δ) := .cons QS.con .nil
noncomputable def Qy.c := cx Qy.s [] [] [(5, [0, 3, 4]), (9, [0, 3, 4, 5, 6])] false (Qy.gs _)
noncomputable def Qy (x0 : List Int) : Option (List Int) := fnW Qy.s Qy.c x0
theorem Qy.fok : FkS Qy.s 89 := ⟨Tryz.func89, by kernel_rfl, by kernel_rfl⟩
noncomputable def Qy.fn (x : Args tab Qy.s.ar) : Option (ResT tab Qy.s.rs) := Qy x
noncomputable abbrev Qy.k {δ : Type} : Callee (GT tab) δ := kS Qy.s Qy.fn
theorem Qy.con {δ : Type} : Con Tryz.prog (KT tab) 89 (Qy.k (δ := δ)) := Q5 (c := Qy.c) mixed Q0 (Q1 (Qy.gok _)) Qy.fok rfl rfl fun _ => rfl
noncomputable def Qy_l0 (v0 : List Int) (v1 : Int) (v2 : List Int) : Option (List Int) := lpW Qy.s Qy.c 0 (ud 29 [.vs false 3 v0, .undef, .undef, .sl 0 0, .int .i64 v1]) [.row 0 true 3 v2] 1
noncomputable def Qy_l1 (v0 : List Int) (v1 v2 v3 : Int) (v4 : List Int) : Option (List Int) := lpW Qy.s Qy.c 1 (ud 27 [.vs false 3 v0, .undef, .undef, .sl 0 0, .int .i64 v1, .int .i64 v2, .int .i64 v3]) [.row 0 true 3 v4] 1
theorem Qy.eq (x0 : List Int) : Qy x0 =
 (QS x0).bind fun y1 =>
 bif !y1 then
 some ([] : List Int)
 else
 Qy_l0 x0 (0 : Int) ([] : List Int) := by kernel_rfl
theorem Qy_l0.eq (v0 : List Int) (v1 : Int) (v2 : List Int) : Qy_l0 v0 v1 v2 =
 bif decide (v1 ≤ (257 : Int)) then
 Qy_l1 v0 v1 (0 : Int) (0 : Int) v2
 else
 some v2 := (Q6 Q0 (Q1 (Qy.gok _)) _ _).trans (by kernel_rfl)
theorem Qy_l1.eq (v0 : List Int) (v1 v2 v3 : Int) (v4 : List Int) : Qy_l1 v0 v1 v2 v3 v4 =
 bif decide (v3 < (v0.length : Int)) then
 (at? v0 v3).bind fun y1 =>
 bif decide (y1 < v1) then
 Qy_l1 v0 v1 (IntKind.i64.wrap (v2 + (1 : Int))) (IntKind.i64.wrap (v3 + (1 : Int))) v4
 else
 Qy_l1 v0 v1 v2 (IntKind.i64.wrap (v3 + (1 : Int))) v4
 else
 bif decide ((v4.length + ([v2] : List Int).length) * 8 ≤ 140737488355328) then
 Qy_l0 v0 (IntKind.i64.wrap (v1 + (1 : Int))) (v4 ++ ([v2] : List Int))
 else
 none := (Q6 Q0 (Q1 (Qy.gok _)) _ _).trans (by kernel_rfl)
noncomputable abbrev Q02.s : Sg := ⟨[.lend], [vi], ⟨[vi], [none]⟩, Tryz.f138⟩
noncomputable def Q02.gs (δ : Type) : List (Nat × Callee (GT tab) δ) := []
theorem Q02.gok (δ : Type) : Q4 Tryz.prog tab (Q02.gs δ) := .nil
noncomputable def Q02.c := cx Q02.s [] [] [(2, [0, 3])] false (Q02.gs _)
noncomputable def Q02 (x0 : Int) : Option (Int) := fnW Q02.s Q02.c x0
theorem Q02.fok : FkS Q02.s 138 := ⟨Tryz.func138, by kernel_rfl, by kernel_rfl⟩
noncomputable def Q02.fn (x : Args tab Q02.s.ar) : Option (ResT tab Q02.s.rs) := Q02 x
noncomputable abbrev Q02.k {δ : Type} : Callee (GT tab) δ := kS Q02.s Q02.fn
theorem Q02.con {δ : Type} : Con Tryz.prog (KT tab) 138 (Q02.k (δ := δ)) := Q5 (c := Q02.c) mixed Q0 (Q1 (Q02.gok _)) Q02.fok rfl rfl fun _ => rfl
noncomputable def Q02_l0 (v0 v1 : Int) : Option (Int) := lpW Q02.s Q02.c 0 (ud 7 [.int .i64 v0, .undef, .undef, .int .i64 v1]) [] 0
theorem Q02.eq (x0 : Int) : Q02 x0 =
 Q02_l0 x0 (1 : Int) := by kernel_rfl
theorem Q02_l0.eq (v0 v1 : Int) : Q02_l0 v0 v1 =
 bif decide (v0 > (0 : Int)) then
 Q02_l0 (IntKind.i64.wrap (v0 - (1 : Int))) (IntKind.i64.wrap ((2 : Int) * v1))
 else
 some v1 := (Q6 Q0 (Q1 (Q02.gok _)) _ _).trans (by kernel_rfl)
noncomputable abbrev Q0a.s : Sg := ⟨[.lend], [vi], ⟨[.one (.b (.b (.b (.b (.int .u64)))))], [none]⟩, Tryz.f139⟩
noncomputable def Q0a.gs (δ : Type) : List (Nat × Callee (GT tab) δ) := []
theorem Q0a.gok (δ : Type) : Q4 Tryz.prog tab (Q0a.gs δ) := .nil
noncomputable def Q0a.c := cx Q0a.s [] [] [(2, [0, 3])] false (Q0a.gs _)
noncomputable def Q0a (x0 : Int) : Option (Int) := fnW Q0a.s Q0a.c x0
theorem Q0a.fok : FkS Q0a.s 139 := ⟨Tryz.func139, by kernel_rfl, by kernel_rfl⟩
noncomputable def Q0a.fn (x : Args tab Q0a.s.ar) : Option (ResT tab Q0a.s.rs) := Q0a x
noncomputable abbrev Q0a.k {δ : Type} : Callee (GT tab) δ := kS Q0a.s Q0a.fn
theorem Q0a.con {δ : Type} : Con Tryz.prog (KT tab) 139 (Q0a.k (δ := δ)) := Q5 (c := Q0a.c) mixed Q0 (Q1 (Q0a.gok _)) Q0a.fok rfl rfl fun _ => rfl
noncomputable def Q0a_l0 (v0 v1 : Int) : Option (Int) := lpW Q0a.s Q0a.c 0 (ud 7 [.int .i64 v0, .undef, .undef, .int .u64 v1]) [] 0
theorem Q0a.eq (x0 : Int) : Q0a x0 =
 Q0a_l0 x0 (1 : Int) := by kernel_rfl
theorem Q0a_l0.eq (v0 v1 : Int) : Q0a_l0 v0 v1 =
 bif decide (v0 > (0 : Int)) then
 Q0a_l0 (IntKind.i64.wrap (v0 - (1 : Int))) (IntKind.u64.wrap ((2 : Int) * v1))
 else
 some v1 := (Q6 Q0 (Q1 (Q0a.gok _)) _ _).trans (by kernel_rfl)
noncomputable abbrev Ql.s : Sg := ⟨[.lend], [vl 3], ⟨[.agg [.int .i64, .sl true true 90], vb], [none]⟩, Tryz.f92⟩
noncomputable def Ql.gs (δ : Type) : List (Nat × Callee (GT tab) δ) := [(139, Q0a.k)]
theorem Ql.gok (δ : Type) : Q4 Tryz.prog tab (Ql.gs δ) := .cons Q0a.con .nil
noncomputable def Ql.c := cx Ql.s [] [9] [(5, [0, 2, 4, 5]), (9, [0, 2, 4, 5])] false (Ql.gs _)
noncomputable def Ql (x0 : List Int) : Option ((Int × (List Int)) × Bool) := fnW Ql.s Ql.c x0
theorem Ql.fok : FkS Ql.s 92 := ⟨Tryz.func92, by kernel_rfl, by kernel_rfl⟩
noncomputable def Ql.fn (x : Args tab Ql.s.ar) : Option (ResT tab Ql.s.rs) := Ql x
noncomputable abbrev Ql.k {δ : Type} : Callee (GT tab) δ := kS Ql.s Ql.fn
theorem Ql.con {δ : Type} : Con Tryz.prog (KT tab) 92 (Ql.k (δ := δ)) := Q5 (c := Ql.c) mixed Q0 (Q1 (Ql.gok _)) Ql.fok rfl rfl fun _ => rfl
noncomputable def Ql_l0 (v0 : List Int) (v1 v2 : Int) (v3 : List Int) (v4 : Int) (v5 : List Int) : Option ((Int × (List Int)) × Bool) := lpW Ql.s Ql.c 0 (ud 55 [.vs false 3 v0, .undef, .ptr 0 0, .undef, .ptr 2 0, .int .i64 v1]) [.box 30 [.int .i64 v2, .sl 1 0], .row 0 true 90 v3, .box 30 [.int .i64 v4, .sl 3 0], .row 0 true 90 v5] 4
noncomputable def Ql_l1 (v0 : List Int) (v1 v2 : Int) (v3 : List Int) (v4 : Int) (v5 : List Int) : Option ((Int × (List Int)) × Bool) := lpW Ql.s Ql.c 1 (ud 55 [.vs false 3 v0, .undef, .ptr 0 0, .undef, .ptr 2 0, .int .i64 v1]) [.box 30 [.int .i64 v2, .sl 1 0], .row 0 true 90 v3, .box 30 [.int .i64 v4, .sl 3 0], .row 0 true 90 v5] 4
theorem Ql.eq (x0 : List Int) : Ql x0 =
 bif decide ((x0.length : Int) > (5000 : Int)) then
 some (((0 : Int), ([] : List Int)), false)
 else
 Ql_l0 x0 (0 : Int) (0 : Int) ([] : List Int) (x0.length : Int) ([] : List Int) := by kernel_rfl
theorem Ql_l0.eq (v0 : List Int) (v1 v2 : Int) (v3 : List Int) (v4 : Int) (v5 : List Int) : Ql_l0 v0 v1 v2 v3 v4 v5 =
 bif decide (v1 < (v0.length : Int)) then
 (at? v0 v1).bind fun y1 =>
 bif y1 != (0 : Int) then
 (at? v0 v1).bind fun y2 =>
 bif y2 != (1 : Int) then
 some (((0 : Int), ([] : List Int)), false)
 else
 Ql_l1 v0 v1 v2 v3 v4 v5
 else
 Ql_l1 v0 v1 v2 v3 v4 v5
 else
 some ((v4, v5), true) := (Q6 Q0 (Q1 (Ql.gok _)) _ _).trans (by kernel_rfl)
theorem Ql_l1.eq (v0 : List Int) (v1 v2 : Int) (v3 : List Int) (v4 : Int) (v5 : List Int) : Ql_l1 v0 v1 v2 v3 v4 v5 =
 bif v1.tmod (64 : Int) == (0 : Int) then
 bif decide ((v5.length + ([(0 : Int)] : List Int).length) * 8 ≤ 140737488355328) then
 (at? v0 v1).bind fun y1 =>
 bif y1 == (1 : Int) then
 (at? (v5 ++ ([(0 : Int)] : List Int)) (IntKind.i64.wrap (v1.tdiv (64 : Int)))).bind fun y2 =>
 (v5 ++ ([(0 : Int)] : List Int))[(IntKind.i64.wrap (v1.tdiv (64 : Int))).toNat]?.bind fun y3 =>
 (Q0a (v1.tmod (64 : Int))).bind fun y4 =>
 (at? (v5 ++ ([(0 : Int)] : List Int)) (IntKind.i64.wrap (v1.tdiv (64 : Int)))).bind fun y5 =>
 (v5 ++ ([(0 : Int)] : List Int))[(IntKind.i64.wrap (v1.tdiv (64 : Int))).toNat]?.bind fun y6 =>
 Ql_l0 v0 (IntKind.i64.wrap (v1 + (1 : Int))) v2 v3 v4 ((v5 ++ ([(0 : Int)] : List Int)).set ((IntKind.i64.wrap (v1.tdiv (64 : Int))).toNat) (IntKind.u64.wrap (y3 + y4)))
 else
 Ql_l0 v0 (IntKind.i64.wrap (v1 + (1 : Int))) v2 v3 v4 (v5 ++ ([(0 : Int)] : List Int))
 else
 none
 else
 (at? v0 v1).bind fun y7 =>
 bif y7 == (1 : Int) then
 (at? v5 (IntKind.i64.wrap (v1.tdiv (64 : Int)))).bind fun y8 =>
 v5[(IntKind.i64.wrap (v1.tdiv (64 : Int))).toNat]?.bind fun y9 =>
 (Q0a (v1.tmod (64 : Int))).bind fun y10 =>
 (at? v5 (IntKind.i64.wrap (v1.tdiv (64 : Int)))).bind fun y11 =>
 v5[(IntKind.i64.wrap (v1.tdiv (64 : Int))).toNat]?.bind fun y12 =>
 Ql_l0 v0 (IntKind.i64.wrap (v1 + (1 : Int))) v2 v3 v4 (v5.set ((IntKind.i64.wrap (v1.tdiv (64 : Int))).toNat) (IntKind.u64.wrap (y9 + y10)))
 else
 Ql_l0 v0 (IntKind.i64.wrap (v1 + (1 : Int))) v2 v3 v4 v5 := (Q6 Q0 (Q1 (Ql.gok _)) _ _).trans (by kernel_rfl)
noncomputable abbrev Qi.s : Sg := ⟨[.lend], [vl 3], ⟨[.agg [.int .i64, .sl true true 3, .sl true true 30], vb], [none]⟩, Tryz.f90⟩
noncomputable def Qi.gs (δ : Type) : List (Nat × Callee (GT tab) δ) := [(92, Ql.k), (138, Q02.k)]
theorem Qi.gok (δ : Type) : Q4 Tryz.prog tab (Qi.gs δ) := .cons Ql.con (.cons Q02.con .nil)
noncomputable def Qi.c := cx Qi.s [] [] [(4, [0, 2, 4]), (11, [2, 5, 6, 7]), (17, [2, 5, 6, 7, 8, 9, 10, 11])] false (Qi.gs _)
noncomputable def Qi (x0 : List Int) : Option ((Int × (List Int) × (List (Int × (List Int)))) × Bool) := fnW Qi.s Qi.c x0
theorem Qi.fok : FkS Qi.s 90 := ⟨Tryz.func90, by kernel_rfl, by kernel_rfl⟩
noncomputable def Qi.fn (x : Args tab Qi.s.ar) : Option (ResT tab Qi.s.rs) := Qi x
noncomputable abbrev Qi.k {δ : Type} : Callee (GT tab) δ := kS Qi.s Qi.fn
theorem Qi.con {δ : Type} : Con Tryz.prog (KT tab) 90 (Qi.k (δ := δ)) := Q5 (c := Qi.c) mixed Q0 (Q1 (Qi.gok _)) Qi.fok rfl rfl fun _ => rfl
noncomputable def Qi_l0 (v0 : List Int) (v1 v2 : Int) (v3 : List Int) (v4 : List (Int × (List Int))) : Option ((Int × (List Int) × (List (Int × (List Int)))) × Bool) := lpW Qi.s Qi.c 0 (ud 103 [.vs false 3 v0, .undef, .ptr 0 0, .undef, .int .i64 v1]) [.box 27 [.int .i64 v2, .sl 1 0, .sl 2 0], .row 0 true 3 v3, .row 0 true 30 v4] 3
noncomputable def Qi_l1 (v0 v1 : Int) (v2 : List Int) (v3 : List (Int × (List Int))) (v4 : Int) (v5 : List Int) (v6 : List (Int × (List Int))) (v7 : List Int) : Option ((Int × (List Int) × (List (Int × (List Int)))) × Bool) := lpW Qi.s Qi.c 1 (ud 100 [.undef, .undef, .ptr 0 0, .undef, .undef, .ptr 3 0, .sl 6 0, .int .i64 v0]) [.box 27 [.int .i64 v1, .sl 1 0, .sl 2 0], .row 0 true 3 v2, .row 0 true 30 v3, .box 27 [.int .i64 v4, .sl 4 0, .sl 5 0], .row 0 true 3 v5, .row 0 true 30 v6, .row 0 true 3 v7] 7
noncomputable def Qi_l2 (v0 v1 v2 : Int) (v3 : List Int) (v4 : List (Int × (List Int))) (v5 : Int) (v6 : List Int) (v7 : List (Int × (List Int))) (v8 v9 v10 v11 : List Int) : Option ((Int × (List Int) × (List (Int × (List Int)))) × Bool) := lpW Qi.s Qi.c 2 (ud 96 [.undef, .undef, .ptr 0 0, .undef, .undef, .ptr 3 0, .sl 6 0, .int .i64 v0, .sl 7 0, .sl 8 0, .sl 9 0, .int .i64 v1]) [.box 27 [.int .i64 v2, .sl 1 0, .sl 2 0], .row 0 true 3 v3, .row 0 true 30 v4, .box 27 [.int .i64 v5, .sl 4 0, .sl 5 0], .row 0 true 3 v6, .row 0 true 30 v7, .row 0 true 3 v8, .row 0 true 3 v9, .row 0 true 3 v10, .row 0 true 3 v11] 10
theorem Qi.eq (x0 : List Int) : Qi x0 =
 bif decide ((x0.length : Int) > (1000 : Int)) then
 some (((0 : Int), ([] : List Int), ([] : List (Int × (List Int)))), false)
 else
 Qi_l0 x0 (0 : Int) (0 : Int) ([] : List Int) ([] : List (Int × (List Int))) := by kernel_rfl
theorem Qi_l0.eq (v0 : List Int) (v1 v2 : Int) (v3 : List Int) (v4 : List (Int × (List Int))) : Qi_l0 v0 v1 v2 v3 v4 =
 bif decide (v1 < (v0.length : Int)) then
 (at? v0 v1).bind fun y1 =>
 bif decide (y1 < (0 : Int)) then
 some (((0 : Int), ([] : List Int), ([] : List (Int × (List Int)))), false)
 else
 (at? v0 v1).bind fun y2 =>
 bif decide (y2 > (511 : Int)) then
 some (((0 : Int), ([] : List Int), ([] : List (Int × (List Int)))), false)
 else
 Qi_l0 v0 (IntKind.i64.wrap (v1 + (1 : Int))) v2 v3 v4
 else
 bif decide ((([] : List Int).length + v0.length) * 8 ≤ 140737488355328) then
 Qi_l1 (0 : Int) v2 v3 v4 (v0.length : Int) ([] : List Int) ([] : List (Int × (List Int))) (([] : List Int) ++ v0)
 else
 none := (Q6 Q0 (Q1 (Qi.gok _)) _ _).trans (by kernel_rfl)
theorem Qi_l1.eq (v0 v1 : Int) (v2 : List Int) (v3 : List (Int × (List Int))) (v4 : Int) (v5 : List Int) (v6 : List (Int × (List Int))) (v7 : List Int) : Qi_l1 v0 v1 v2 v3 v4 v5 v6 v7 =
 bif decide (v0 < (9 : Int)) then
 Qi_l2 v0 (0 : Int) v1 v2 v3 v4 v5 v6 v7 ([] : List Int) ([] : List Int) ([] : List Int)
 else
 some ((v4, v5, v6), true) := (Q6 Q0 (Q1 (Qi.gok _)) _ _).trans (by kernel_rfl)
theorem Qi_l2.eq (v0 v1 v2 : Int) (v3 : List Int) (v4 : List (Int × (List Int))) (v5 : Int) (v6 : List Int) (v7 : List (Int × (List Int))) (v8 v9 v10 v11 : List Int) : Qi_l2 v0 v1 v2 v3 v4 v5 v6 v7 v8 v9 v10 v11 =
 bif decide (v1 < (v8.length : Int)) then
 (at? v8 v1).bind fun y1 =>
 v8[v1.toNat]?.bind fun y2 =>
 (Q02 (IntKind.i64.wrap ((8 : Int) - v0))).bind fun y3 =>
 bif decide (y3 = (0 : Int)) then
 none
 else
 bif decide ((v9.length + ([(IntKind.i64.wrap (y2.tdiv y3)).tmod (2 : Int)] : List Int).length) * 8 ≤ 140737488355328) then
 bif (IntKind.i64.wrap (y2.tdiv y3)).tmod (2 : Int) == (0 : Int) then
 (at? v8 v1).bind fun y4 =>
 v8[v1.toNat]?.bind fun y5 =>
 bif decide ((v10.length + ([y5] : List Int).length) * 8 ≤ 140737488355328) then
 Qi_l2 v0 (IntKind.i64.wrap (v1 + (1 : Int))) v2 v3 v4 v5 v6 v7 v8 (v9 ++ ([(IntKind.i64.wrap (y2.tdiv y3)).tmod (2 : Int)] : List Int)) (v10 ++ ([y5] : List Int)) v11
 else
 none
 else
 (at? v8 v1).bind fun y6 =>
 v8[v1.toNat]?.bind fun y7 =>
 bif decide ((v11.length + ([y7] : List Int).length) * 8 ≤ 140737488355328) then
 Qi_l2 v0 (IntKind.i64.wrap (v1 + (1 : Int))) v2 v3 v4 v5 v6 v7 v8 (v9 ++ ([(IntKind.i64.wrap (y2.tdiv y3)).tmod (2 : Int)] : List Int)) v10 (v11 ++ ([y7] : List Int))
 else
 none
 else
 none
 else
 (Ql v9).bind fun y8 =>
 bif decide ((v7.length + ([(y8.1.1, y8.1.2)] : List (Int × (List Int))).length) * 32 ≤ 140737488355328) then
 bif decide ((v6.length + ([(v10.length : Int)] : List Int).length) * 8 ≤ 140737488355328) then
 bif decide ((v10.length + v11.length) * 8 ≤ 140737488355328) then
 Qi_l1 (IntKind.i64.wrap (v0 + (1 : Int))) v2 v3 v4 v5 (v6 ++ ([(v10.length : Int)] : List Int)) (v7 ++ ([(y8.1.1, y8.1.2)] : List (Int × (List Int)))) (v10 ++ v11)
 else
 none
 else
 none
 else
 none := (Q6 Q0 (Q1 (Qi.gok _)) _ _).trans (by kernel_rfl)
noncomputable abbrev Q1n.s : Sg := ⟨[.lend], [vb], ⟨[vi], [none]⟩, Tryz.f91⟩
noncomputable def Q1n.gs (δ : Type) : List (Nat × Callee (GT tab) δ) := []
theorem Q1n.gok (δ : Type) : Q4 Tryz.prog tab (Q1n.gs δ) := .nil
noncomputable def Q1n.c := cx Q1n.s [] [] [] false (Q1n.gs _)
noncomputable def Q1n (x0 : Bool) : Option (Int) := fnW Q1n.s Q1n.c x0
theorem Q1n.fok : FkS Q1n.s 91 := ⟨Tryz.func91, by kernel_rfl, by kernel_rfl⟩
noncomputable def Q1n.fn (x : Args tab Q1n.s.ar) : Option (ResT tab Q1n.s.rs) := Q1n x
noncomputable abbrev Q1n.k {δ : Type} : Callee (GT tab) δ := kS Q1n.s Q1n.fn
theorem Q1n.con {δ : Type} : Con Tryz.prog (KT tab) 91 (Q1n.k (δ := δ)) := Q5 (c := Q1n.c) mixed Q0 (Q1 (Q1n.gok _)) Q1n.fok rfl rfl fun _ => rfl
theorem Q1n.eq (x0 : Bool) : Q1n x0 =
 bif x0 then
 some (1 : Int)
 else
 some (0 : Int) := by kernel_rfl
noncomputable abbrev Q0b.s : Sg := ⟨[.lend], [vi], ⟨[vi], [none]⟩, Tryz.f94⟩
noncomputable def Q0b.gs (δ : Type) : List (Nat × Callee (GT tab) δ) := []
theorem Q0b.gok (δ : Type) : Q4 Tryz.prog tab (Q0b.gs δ) := .nil
noncomputable def Q0b.c := cx Q0b.s [] [] [(4, [0, 3])] false (Q0b.gs _)
noncomputable def Q0b (x0 : Int) : Option (Int) := fnW Q0b.s Q0b.c x0
theorem Q0b.fok : FkS Q0b.s 94 := ⟨Tryz.func94, by kernel_rfl, by kernel_rfl⟩
noncomputable def Q0b.fn (x : Args tab Q0b.s.ar) : Option (ResT tab Q0b.s.rs) := Q0b x
noncomputable abbrev Q0b.k {δ : Type} : Callee (GT tab) δ := kS Q0b.s Q0b.fn
theorem Q0b.con {δ : Type} : Con Tryz.prog (KT tab) 94 (Q0b.k (δ := δ)) := Q5 (c := Q0b.c) mixed Q0 (Q1 (Q0b.gok _)) Q0b.fok rfl rfl fun _ => rfl
noncomputable def Q0b_l0 (v0 v1 : Int) : Option (Int) := lpW Q0b.s Q0b.c 0 (ud 9 [.int .i64 v0, .undef, .undef, .int .i64 v1]) [] 0
theorem Q0b.eq (x0 : Int) : Q0b x0 =
 bif decide (x0 < (0 : Int)) then
 some (-1 : Int)
 else
 Q0b_l0 x0 (0 : Int) := by kernel_rfl
theorem Q0b_l0.eq (v0 v1 : Int) : Q0b_l0 v0 v1 =
 bif decide (v0 > (0 : Int)) then
 Q0b_l0 (IntKind.i64.wrap (v0.tdiv (2 : Int))) (IntKind.i64.wrap (v1 + (1 : Int)))
 else
 some v1 := (Q6 Q0 (Q1 (Q0b.gok _)) _ _).trans (by kernel_rfl)
noncomputable abbrev Qj.s : Sg := ⟨[.lend, .lend], [vl 3, vi], ⟨[.agg [.int .i64, .int .i64, .int .i64, .sl true true 90], vb], [none, none]⟩, Tryz.f93⟩
noncomputable def Qj.gs (δ : Type) : List (Nat × Callee (GT tab) δ) := [(92, Ql.k), (138, Q02.k)]
theorem Qj.gok (δ : Type) : Q4 Tryz.prog tab (Qj.gs δ) := .cons Ql.con (.cons Q02.con .nil)
noncomputable def Qj.c := cx Qj.s [] [3, 10] [(3, [0, 1, 4]), (5, [0, 1, 4, 6, 7]), (10, [0, 1, 4, 6, 7, 8]), (11, [0, 1, 4, 6, 7, 8, 9])] false (Qj.gs _)
noncomputable def Qj (x0 : List Int) (x1 : Int) : Option ((Int × Int × Int × (List Int)) × Bool) := fnW Qj.s Qj.c (x0, x1)
theorem Qj.fok : FkS Qj.s 93 := ⟨Tryz.func93, by kernel_rfl, by kernel_rfl⟩
noncomputable def Qj.fn (x : Args tab Qj.s.ar) : Option (ResT tab Qj.s.rs) := Qj x.1 x.2
noncomputable abbrev Qj.k {δ : Type} : Callee (GT tab) δ := kS Qj.s Qj.fn
theorem Qj.con {δ : Type} : Con Tryz.prog (KT tab) 93 (Qj.k (δ := δ)) := Q5 (c := Qj.c) mixed Q0 (Q1 (Qj.gok _)) Qj.fok rfl rfl fun _ => rfl
noncomputable def Qj_l0 (v0 : List Int) (v1 v2 v3 v4 : Int) (v5 : List Int) : Option ((Int × Int × Int × (List Int)) × Bool) := lpW Qj.s Qj.c 0 (ud 68 [.vs false 3 v0, .int .i64 v1, .undef, .undef, .ptr 0 0]) [.box 32 [.int .i64 v2, .int .i64 v3, .int .i64 v4, .sl 1 0], .row 0 true 90 v5] 2
noncomputable def Qj_l1 (v0 : List Int) (v1 v2 v3 v4 v5 : Int) (v6 v7 : List Int) : Option ((Int × Int × Int × (List Int)) × Bool) := lpW Qj.s Qj.c 1 (ud 65 [.vs false 3 v0, .int .i64 v1, .undef, .undef, .ptr 0 0, .undef, .sl 2 0, .int .i64 v2]) [.box 32 [.int .i64 v3, .int .i64 v4, .int .i64 v5, .sl 1 0], .row 0 true 90 v6, .row 0 true 3 v7] 3
noncomputable def Qj_l2 (v0 : List Int) (v1 v2 v3 v4 v5 v6 : Int) (v7 v8 : List Int) : Option ((Int × Int × Int × (List Int)) × Bool) := lpW Qj.s Qj.c 2 (ud 64 [.vs false 3 v0, .int .i64 v1, .undef, .undef, .ptr 0 0, .undef, .sl 2 0, .int .i64 v2, .int .i64 v3]) [.box 32 [.int .i64 v4, .int .i64 v5, .int .i64 v6, .sl 1 0], .row 0 true 90 v7, .row 0 true 3 v8] 3
noncomputable def Qj_l3 (v0 : List Int) (v1 v2 v3 v4 v5 v6 v7 : Int) (v8 v9 : List Int) : Option ((Int × Int × Int × (List Int)) × Bool) := lpW Qj.s Qj.c 3 (ud 63 [.vs false 3 v0, .int .i64 v1, .undef, .undef, .ptr 0 0, .undef, .sl 2 0, .int .i64 v2, .int .i64 v3, .int .i64 v4]) [.box 32 [.int .i64 v5, .int .i64 v6, .int .i64 v7, .sl 1 0], .row 0 true 90 v8, .row 0 true 3 v9] 3
theorem Qj.eq (x0 : List Int) (x1 : Int) : Qj x0 x1 =
 bif decide (x1 < (0 : Int)) then
 some (((0 : Int), (0 : Int), (0 : Int), ([] : List Int)), false)
 else
 bif decide (x1 > (32 : Int)) then
 some (((0 : Int), (0 : Int), (0 : Int), ([] : List Int)), false)
 else
 bif decide ((x0.length : Int) > (5000 : Int)) then
 some (((0 : Int), (0 : Int), (0 : Int), ([] : List Int)), false)
 else
 bif decide (IntKind.i64.wrap ((x0.length : Int) * x1) > (5000 : Int)) then
 some (((0 : Int), (0 : Int), (0 : Int), ([] : List Int)), false)
 else
 Qj_l0 x0 x1 (0 : Int) (0 : Int) (0 : Int) ([] : List Int) := by kernel_rfl
theorem Qj_l0.eq (v0 : List Int) (v1 v2 v3 v4 : Int) (v5 : List Int) : Qj_l0 v0 v1 v2 v3 v4 v5 =
 Qj_l1 v0 v1 (0 : Int) v2 v3 v4 v5 ([] : List Int) := (Q6 Q0 (Q1 (Qj.gok _)) _ _).trans (by kernel_rfl)
theorem Qj_l1.eq (v0 : List Int) (v1 v2 v3 v4 v5 : Int) (v6 v7 : List Int) : Qj_l1 v0 v1 v2 v3 v4 v5 v6 v7 =
 bif decide (v2 < (v0.length : Int)) then
 (at? v0 v2).bind fun y1 =>
 bif decide (y1 < (0 : Int)) then
 some (((0 : Int), (0 : Int), (0 : Int), ([] : List Int)), false)
 else
 (Q02 v1).bind fun y2 =>
 bif decide (y1 ≥ y2) then
 some (((0 : Int), (0 : Int), (0 : Int), ([] : List Int)), false)
 else
 Qj_l2 v0 v1 v2 y1 v3 v4 v5 v6 v7
 else
 (Ql v7).bind fun y3 =>
 some ((v1, (v0.length : Int), y3.1.1, y3.1.2), true) := (Q6 Q0 (Q1 (Qj.gok _)) _ _).trans (by kernel_rfl)
theorem Qj_l2.eq (v0 : List Int) (v1 v2 v3 v4 v5 v6 : Int) (v7 v8 : List Int) : Qj_l2 v0 v1 v2 v3 v4 v5 v6 v7 v8 =
 Qj_l3 v0 v1 v2 v3 (0 : Int) v4 v5 v6 v7 v8 := (Q6 Q0 (Q1 (Qj.gok _)) _ _).trans (by kernel_rfl)
theorem Qj_l3.eq (v0 : List Int) (v1 v2 v3 v4 v5 v6 v7 : Int) (v8 v9 : List Int) : Qj_l3 v0 v1 v2 v3 v4 v5 v6 v7 v8 v9 =
 bif decide (v4 < v1) then
 bif decide ((v9.length + ([v3.tmod (2 : Int)] : List Int).length) * 8 ≤ 140737488355328) then
 Qj_l3 v0 v1 v2 (IntKind.i64.wrap (v3.tdiv (2 : Int))) (IntKind.i64.wrap (v4 + (1 : Int))) v5 v6 v7 v8 (v9 ++ ([v3.tmod (2 : Int)] : List Int))
 else
 none
 else
 Qj_l1 v0 v1 (IntKind.i64.wrap (v2 + (1 : Int))) v5 v6 v7 v8 v9 := (Q6 Q0 (Q1 (Qj.gok _)) _ _).trans (by kernel_rfl)
noncomputable abbrev Qm.s : Sg := ⟨[.lend, .lend], [vl 5, vi], ⟨[.agg [.int .i64, .int .i64, .int .i64, .sl true true 3, .sl true true 30, .sl true true 3, .int .i64, .sl true true 90, .int .i64, .int .i64, .int .i64, .sl true true 90, .int .i64, .int .i64, .int .i64, .sl true true 90], vb], [none, none]⟩, Tryz.f34⟩
noncomputable def Qm.gs (δ : Type) : List (Nat × Callee (GT tab) δ) := [(43, Q0K.k), (85, Q0G.k), (86, Qp.k), (87, Qx.k), (88, Qv.k), (89, Qy.k), (90, Qi.k), (91, Q1n.k), (92, Ql.k), (93, Qj.k), (94, Q0b.k)]
theorem Qm.gok (δ : Type) : Q4 Tryz.prog tab (Qm.gs δ) := .cons Q0K.con (.cons Q0G.con (.cons Qp.con (.cons Qx.con (.cons Qv.con (.cons Qy.con (.cons Qi.con (.cons Q1n.con (.cons Ql.con (.cons Qj.con (.cons Q0b.con .nil))))))))))
noncomputable def Qm.c := cx Qm.s [] [3] [(3, [0, 1, 4]), (11, [0, 1, 4, 6, 7, 10, 11, 12, 13]), (18, [0, 1, 4, 7, 10, 11, 12, 14, 15])] false (Qm.gs _)
noncomputable def Qm (x0 : List Int) (x1 : Int) : Option ((Int × Int × Int × (List Int) × (List (Int × (List Int))) × (List Int) × Int × (List Int) × Int × Int × Int × (List Int) × Int × Int × Int × (List Int)) × Bool) := fnW Qm.s Qm.c (x0, x1)
theorem Qm.fok : FkS Qm.s 34 := ⟨Tryz.func34, by kernel_rfl, by kernel_rfl⟩
noncomputable def Qm.fn (x : Args tab Qm.s.ar) : Option (ResT tab Qm.s.rs) := Qm x.1 x.2
noncomputable abbrev Qm.k {δ : Type} : Callee (GT tab) δ := kS Qm.s Qm.fn
theorem Qm.con {δ : Type} : Con Tryz.prog (KT tab) 34 (Qm.k (δ := δ)) := Q5 (c := Qm.c) mixed Q0 (Q1 (Qm.gok _)) Qm.fok rfl rfl fun _ => rfl
noncomputable def Qm_l0 (v0 : List Int) (v1 v2 v3 v4 v5 v6 v7 v8 v9 v10 v11 : Int) (v12 : List Int) (v13 : List (Int × (List Int))) (v14 v15 v16 v17 : List Int) : Option ((Int × Int × Int × (List Int) × (List (Int × (List Int))) × (List Int) × Int × (List Int) × Int × Int × Int × (List Int) × Int × Int × Int × (List Int)) × Bool) := lpW Qm.s Qm.c 0 (ud 116 [.vs false 5 v0, .int .i64 v1, .undef, .undef, .ptr 0 0]) [.box 34 [.int .i64 v2, .int .i64 v3, .int .i64 v4, .sl 1 0, .sl 2 0, .sl 3 0, .int .i64 v5, .sl 4 0, .int .i64 v6, .int .i64 v7, .int .i64 v8, .sl 5 0, .int .i64 v9, .int .i64 v10, .int .i64 v11, .sl 6 0], .row 0 true 3 v12, .row 0 true 30 v13, .row 0 true 3 v14, .row 0 true 90 v15, .row 0 true 90 v16, .row 0 true 90 v17] 7
noncomputable def Qm_l1 (v0 : List Int) (v1 v2 v3 v4 v5 v6 v7 v8 v9 v10 v11 v12 : Int) (v13 : List Int) (v14 : List (Int × (List Int))) (v15 v16 v17 v18 v19 v20 : List Int) (v21 v22 v23 v24 v25 v26 v27 v28 v29 v30 : Int) (v31 : List Int) (v32 : List (Int × (List Int))) (v33 v34 v35 v36 v37 v38 : List Int) : Option ((Int × Int × Int × (List Int) × (List (Int × (List Int))) × (List Int) × Int × (List Int) × Int × Int × Int × (List Int) × Int × Int × Int × (List Int)) × Bool) := lpW Qm.s Qm.c 1 (ud 107 [.vs false 5 v0, .int .i64 v1, .undef, .undef, .ptr 0 0, .undef, .sl 7 0, .sl 8 0, .undef, .undef, .ptr 9 0, .sl 16 0, .sl 17 0, .int .i64 v2]) [.box 34 [.int .i64 v3, .int .i64 v4, .int .i64 v5, .sl 1 0, .sl 2 0, .sl 3 0, .int .i64 v6, .sl 4 0, .int .i64 v7, .int .i64 v8, .int .i64 v9, .sl 5 0, .int .i64 v10, .int .i64 v11, .int .i64 v12, .sl 6 0], .row 0 true 3 v13, .row 0 true 30 v14, .row 0 true 3 v15, .row 0 true 90 v16, .row 0 true 90 v17, .row 0 true 90 v18, .row 0 true 3 v19, .row 0 true 3 v20, .box 34 [.int .i64 v21, .int .i64 v22, .int .i64 v23, .sl 10 0, .sl 11 0, .sl 12 0, .int .i64 v24, .sl 13 0, .int .i64 v25, .int .i64 v26, .int .i64 v27, .sl 14 0, .int .i64 v28, .int .i64 v29, .int .i64 v30, .sl 15 0], .row 0 true 3 v31, .row 0 true 30 v32, .row 0 true 3 v33, .row 0 true 90 v34, .row 0 true 90 v35, .row 0 true 90 v36, .row 0 true 3 v37, .row 0 true 3 v38] 18
noncomputable def Qm_l2 (v0 : List Int) (v1 v2 v3 v4 v5 v6 v7 v8 v9 v10 v11 v12 : Int) (v13 : List Int) (v14 : List (Int × (List Int))) (v15 v16 v17 v18 v19 : List Int) (v20 v21 v22 v23 v24 v25 v26 v27 v28 v29 : Int) (v30 : List Int) (v31 : List (Int × (List Int))) (v32 v33 v34 v35 v36 v37 v38 : List Int) : Option ((Int × Int × Int × (List Int) × (List (Int × (List Int))) × (List Int) × Int × (List Int) × Int × Int × Int × (List Int) × Int × Int × Int × (List Int)) × Bool) := lpW Qm.s Qm.c 2 (ud 105 [.vs false 5 v0, .int .i64 v1, .undef, .undef, .ptr 0 0, .undef, .undef, .sl 7 0, .undef, .undef, .ptr 8 0, .sl 15 0, .sl 16 0, .undef, .sl 17 0, .int .i64 v2]) [.box 34 [.int .i64 v3, .int .i64 v4, .int .i64 v5, .sl 1 0, .sl 2 0, .sl 3 0, .int .i64 v6, .sl 4 0, .int .i64 v7, .int .i64 v8, .int .i64 v9, .sl 5 0, .int .i64 v10, .int .i64 v11, .int .i64 v12, .sl 6 0], .row 0 true 3 v13, .row 0 true 30 v14, .row 0 true 3 v15, .row 0 true 90 v16, .row 0 true 90 v17, .row 0 true 90 v18, .row 0 true 3 v19, .box 34 [.int .i64 v20, .int .i64 v21, .int .i64 v22, .sl 9 0, .sl 10 0, .sl 11 0, .int .i64 v23, .sl 12 0, .int .i64 v24, .int .i64 v25, .int .i64 v26, .sl 13 0, .int .i64 v27, .int .i64 v28, .int .i64 v29, .sl 14 0], .row 0 true 3 v30, .row 0 true 30 v31, .row 0 true 3 v32, .row 0 true 90 v33, .row 0 true 90 v34, .row 0 true 90 v35, .row 0 true 3 v36, .row 0 true 3 v37, .row 0 true 3 v38] 18
theorem Qm.eq (x0 : List Int) (x1 : Int) : Qm x0 x1 =
 (Q0G x0).bind fun y1 =>
 bif !y1 then
 some (((0 : Int), (0 : Int), (0 : Int), ([] : List Int), ([] : List (Int × (List Int))), ([] : List Int), (0 : Int), ([] : List Int), (0 : Int), (0 : Int), (0 : Int), ([] : List Int), (0 : Int), (0 : Int), (0 : Int), ([] : List Int)), false)
 else
 (Q0K x1).bind fun y2 =>
 bif !y2 then
 some (((0 : Int), (0 : Int), (0 : Int), ([] : List Int), ([] : List (Int × (List Int))), ([] : List Int), (0 : Int), ([] : List Int), (0 : Int), (0 : Int), (0 : Int), ([] : List Int), (0 : Int), (0 : Int), (0 : Int), ([] : List Int)), false)
 else
 Qm_l0 x0 x1 (0 : Int) (0 : Int) (0 : Int) (0 : Int) (0 : Int) (0 : Int) (0 : Int) (0 : Int) (0 : Int) (0 : Int) ([] : List Int) ([] : List (Int × (List Int))) ([] : List Int) ([] : List Int) ([] : List Int) ([] : List Int) := by kernel_rfl
theorem Qm_l0.eq (v0 : List Int) (v1 v2 v3 v4 v5 v6 v7 v8 v9 v10 v11 : Int) (v12 : List Int) (v13 : List (Int × (List Int))) (v14 v15 v16 v17 : List Int) : Qm_l0 v0 v1 v2 v3 v4 v5 v6 v7 v8 v9 v10 v11 v12 v13 v14 v15 v16 v17 =
 (Qp v0).bind fun y1 =>
 (Qx y1).bind fun y2 =>
 (Qv v0).bind fun y3 =>
 (Qy y3).bind fun y4 =>
 (Qi y3).bind fun y5 =>
 Qm_l1 v0 v1 (0 : Int) v2 v3 v4 v5 v6 v7 v8 v9 v10 v11 v12 v13 v14 v15 v16 v17 y1 y2.1 (v0.length : Int) v1 y5.1.1 (0 : Int) (0 : Int) (0 : Int) (0 : Int) (0 : Int) (0 : Int) (0 : Int) y5.1.2.1 y5.1.2.2 y4 ([] : List Int) ([] : List Int) ([] : List Int) ([] : List Int) ([] : List Int) := (Q6 Q0 (Q1 (Qm.gok _)) _ _).trans (by kernel_rfl)
theorem Qm_l1.eq (v0 : List Int) (v1 v2 v3 v4 v5 v6 v7 v8 v9 v10 v11 v12 : Int) (v13 : List Int) (v14 : List (Int × (List Int))) (v15 v16 v17 v18 v19 v20 : List Int) (v21 v22 v23 v24 v25 v26 v27 v28 v29 v30 : Int) (v31 : List Int) (v32 : List (Int × (List Int))) (v33 v34 v35 v36 v37 v38 : List Int) : Qm_l1 v0 v1 v2 v3 v4 v5 v6 v7 v8 v9 v10 v11 v12 v13 v14 v15 v16 v17 v18 v19 v20 v21 v22 v23 v24 v25 v26 v27 v28 v29 v30 v31 v32 v33 v34 v35 v36 v37 v38 =
 bif decide (v2 < (v19.length : Int)) then
 (at? v19 v2).bind fun y1 =>
 v19[v2.toNat]?.bind fun y2 =>
 bif decide (v1 = (0 : Int)) then
 none
 else
 (Q1n (y2.tmod v1 == (0 : Int))).bind fun y3 =>
 bif decide ((v37.length + ([y3] : List Int).length) * 8 ≤ 140737488355328) then
 (at? v19 v2).bind fun y4 =>
 v19[v2.toNat]?.bind fun y5 =>
 bif decide (v1 = (0 : Int)) then
 none
 else
 bif y5.tmod v1 == (0 : Int) then
 (at? v19 v2).bind fun y6 =>
 v19[v2.toNat]?.bind fun y7 =>
 bif decide (v1 = (0 : Int)) then
 none
 else
 bif decide ((v38.length + ([IntKind.i64.wrap (y7.tdiv v1)] : List Int).length) * 8 ≤ 140737488355328) then
 Qm_l1 v0 v1 (IntKind.i64.wrap (v2 + (1 : Int))) v3 v4 v5 v6 v7 v8 v9 v10 v11 v12 v13 v14 v15 v16 v17 v18 v19 v20 v21 v22 v23 v24 v25 v26 v27 v28 v29 v30 v31 v32 v33 v34 v35 v36 (v37 ++ ([y3] : List Int)) (v38 ++ ([IntKind.i64.wrap (y7.tdiv v1)] : List Int))
 else
 none
 else
 Qm_l1 v0 v1 (IntKind.i64.wrap (v2 + (1 : Int))) v3 v4 v5 v6 v7 v8 v9 v10 v11 v12 v13 v14 v15 v16 v17 v18 v19 v20 v21 v22 v23 v24 v25 v26 v27 v28 v29 v30 v31 v32 v33 v34 v35 v36 (v37 ++ ([y3] : List Int)) v38
 else
 none
 else
 Qm_l2 v0 v1 (0 : Int) v3 v4 v5 v6 v7 v8 v9 v10 v11 v12 v13 v14 v15 v16 v17 v18 v20 v21 v22 v23 v24 v25 v26 v27 v28 v29 v30 v31 v32 v33 v34 v35 v36 v37 v38 ([] : List Int) := (Q6 Q0 (Q1 (Qm.gok _)) _ _).trans (by kernel_rfl)
theorem Qm_l2.eq (v0 : List Int) (v1 v2 v3 v4 v5 v6 v7 v8 v9 v10 v11 v12 : Int) (v13 : List Int) (v14 : List (Int × (List Int))) (v15 v16 v17 v18 v19 : List Int) (v20 v21 v22 v23 v24 v25 v26 v27 v28 v29 : Int) (v30 : List Int) (v31 : List (Int × (List Int))) (v32 v33 v34 v35 v36 v37 v38 : List Int) : Qm_l2 v0 v1 v2 v3 v4 v5 v6 v7 v8 v9 v10 v11 v12 v13 v14 v15 v16 v17 v18 v19 v20 v21 v22 v23 v24 v25 v26 v27 v28 v29 v30 v31 v32 v33 v34 v35 v36 v37 v38 =
 bif decide (v2 ≤ (v0.length : Int)) then
 (at? v19 v2).bind fun y1 =>
 v19[v2.toNat]?.bind fun y2 =>
 bif decide ((v38.length + ([y2] : List Int).length) * 8 ≤ 140737488355328) then
 Qm_l2 v0 v1 (IntKind.i64.wrap (v2 + v1)) v3 v4 v5 v6 v7 v8 v9 v10 v11 v12 v13 v14 v15 v16 v17 v18 v19 v20 v21 v22 v23 v24 v25 v26 v27 v28 v29 v30 v31 v32 v33 v34 v35 v36 v37 (v38 ++ ([y2] : List Int))
 else
 none
 else
 (Ql v36).bind fun y3 =>
 (Q0b (v0.length : Int)).bind fun y4 =>
 (Qj v37 y4).bind fun y5 =>
 (Q0b (v0.length : Int)).bind fun y6 =>
 (Qj v38 y6).bind fun y7 =>
 some ((v20, v21, v22, v30, v31, v32, y3.1.1, y3.1.2, y5.1.1, y5.1.2.1, y5.1.2.2.1, y5.1.2.2.2, y7.1.1, y7.1.2.1, y7.1.2.2.1, y7.1.2.2.2), true) := (Q6 Q0 (Q1 (Qm.gok _)) _ _).trans (by kernel_rfl)
noncomputable abbrev Qn.s : Sg := ⟨[.lend], [.agg [.int .i64, .sl false false 90]], ⟨[vo 3], [none]⟩, Tryz.f105⟩
noncomputable def Qn.gs (δ : Type) : List (Nat × Callee (GT tab) δ) := []
theorem Qn.gok (δ : Type) : Q4 Tryz.prog tab (Qn.gs δ) := .nil
noncomputable def Qn.c := cx Qn.s [] [] [(3, [1, 3, 4]), (7, [1, 3, 4, 5, 6])] false (Qn.gs _)
noncomputable def Qn (x0 : Int × (List Int)) : Option (List Int) := fnW Qn.s Qn.c x0
theorem Qn.fok : FkS Qn.s 105 := ⟨Tryz.func105, by kernel_rfl, by kernel_rfl⟩
noncomputable def Qn.fn (x : Args tab Qn.s.ar) : Option (ResT tab Qn.s.rs) := Qn x
noncomputable abbrev Qn.k {δ : Type} : Callee (GT tab) δ := kS Qn.s Qn.fn
theorem Qn.con {δ : Type} : Con Tryz.prog (KT tab) 105 (Qn.k (δ := δ)) := Q5 (c := Qn.c) mixed Q0 (Q1 (Qn.gok _)) Qn.fok rfl rfl fun _ => rfl
noncomputable def Qn_l0 (v0 v1 : Int) (v2 v3 : List Int) : Option (List Int) := lpW Qn.s Qn.c 0 (ud 30 [.undef, .ptr 0 0, .undef, .sl 1 0, .int .i64 v0]) [.box 30 [.int .i64 v1, .vs false 90 v2], .row 0 true 3 v3] 2
noncomputable def Qn_l1 (v0 v1 v2 v3 : Int) (v4 v5 : List Int) : Option (List Int) := lpW Qn.s Qn.c 1 (ud 28 [.undef, .ptr 0 0, .undef, .sl 1 0, .int .i64 v0, .int .u64 v1, .int .i64 v2]) [.box 30 [.int .i64 v3, .vs false 90 v4], .row 0 true 3 v5] 2
theorem Qn.eq (x0 : Int × (List Int)) : Qn x0 =
 Qn_l0 (0 : Int) x0.1 x0.2 ([] : List Int) := by kernel_rfl
theorem Qn_l0.eq (v0 v1 : Int) (v2 v3 : List Int) : Qn_l0 v0 v1 v2 v3 =
 bif decide (v0 < v1) then
 (at? v2 (IntKind.i64.wrap (v0.tdiv (64 : Int)))).bind fun y1 =>
 Qn_l1 v0 y1 (v0.tmod (64 : Int)) v1 v2 v3
 else
 some v3 := (Q6 Q0 (Q1 (Qn.gok _)) _ _).trans (by kernel_rfl)
theorem Qn_l1.eq (v0 v1 v2 v3 : Int) (v4 v5 : List Int) : Qn_l1 v0 v1 v2 v3 v4 v5 =
 bif decide (v2 > (0 : Int)) then
 Qn_l1 v0 (IntKind.u64.wrap (v1.tdiv (2 : Int))) (IntKind.i64.wrap (v2 - (1 : Int))) v3 v4 v5
 else
 bif decide ((v5.length + ([IntKind.i64.wrap (v1.tmod (2 : Int))] : List Int).length) * 8 ≤ 140737488355328) then
 Qn_l0 (IntKind.i64.wrap (v0 + (1 : Int))) v3 v4 (v5 ++ ([IntKind.i64.wrap (v1.tmod (2 : Int))] : List Int))
 else
 none := (Q6 Q0 (Q1 (Qn.gok _)) _ _).trans (by kernel_rfl)
noncomputable abbrev QA.s : Sg := ⟨[.lend], [.agg [.int .i64, .sl false false 90]], ⟨[vb], [none]⟩, Tryz.f171⟩
noncomputable def QA.gs (δ : Type) : List (Nat × Callee (GT tab) δ) := [(92, Ql.k), (105, Qn.k)]
theorem QA.gok (δ : Type) : Q4 Tryz.prog tab (QA.gs δ) := .cons Ql.con (.cons Qn.con .nil)
noncomputable def QA.c := cx QA.s [] [3] [(3, [1]), (5, [1, 3, 5])] false (QA.gs _)
noncomputable def QA (x0 : Int × (List Int)) : Option (Bool) := fnW QA.s QA.c x0
theorem QA.fok : FkS QA.s 171 := ⟨Tryz.func171, by kernel_rfl, by kernel_rfl⟩
noncomputable def QA.fn (x : Args tab QA.s.ar) : Option (ResT tab QA.s.rs) := QA x
noncomputable abbrev QA.k {δ : Type} : Callee (GT tab) δ := kS QA.s QA.fn
theorem QA.con {δ : Type} : Con Tryz.prog (KT tab) 171 (QA.k (δ := δ)) := Q5 (c := QA.c) mixed Q0 (Q1 (QA.gok _)) QA.fok rfl rfl fun _ => rfl
noncomputable def QA_l0 (v0 : Int) (v1 : List Int) : Option (Bool) := lpW QA.s QA.c 0 (ud 46 [.undef, .ptr 0 0]) [.box 30 [.int .i64 v0, .vs false 90 v1]] 1
noncomputable def QA_l1 (v0 v1 : Int) (v2 : List Int) (v3 : Int) (v4 : List Int) : Option (Bool) := lpW QA.s QA.c 1 (ud 42 [.undef, .ptr 0 0, .undef, .ptr 1 0, .undef, .int .i64 v0]) [.box 30 [.int .i64 v1, .vs false 90 v2], .box 30 [.int .i64 v3, .sl 2 0], .row 0 true 90 v4] 3
theorem QA.eq (x0 : Int × (List Int)) : QA x0 =
 bif decide (x0.1 < (0 : Int)) then
 some false
 else
 bif decide (x0.1 > (5000 : Int)) then
 some false
 else
 bif (x0.2.length : Int) != IntKind.i64.wrap ((IntKind.i64.wrap (x0.1 + (63 : Int))).tdiv (64 : Int)) then
 some false
 else
 QA_l0 x0.1 x0.2 := by kernel_rfl
theorem QA_l0.eq (v0 : Int) (v1 : List Int) : QA_l0 v0 v1 =
 (Qn (v0, v1)).bind fun y1 =>
 (Ql y1).bind fun y2 =>
 QA_l1 (0 : Int) v0 v1 y2.1.1 y2.1.2 := (Q6 Q0 (Q1 (QA.gok _)) _ _).trans (by kernel_rfl)
theorem QA_l1.eq (v0 v1 : Int) (v2 : List Int) (v3 : Int) (v4 : List Int) : QA_l1 v0 v1 v2 v3 v4 =
 bif decide (v0 < (v2.length : Int)) then
 (at? v2 v0).bind fun y1 =>
 (at? v4 v0).bind fun y2 =>
 v4[v0.toNat]?.bind fun y3 =>
 bif y1 != y3 then
 some false
 else
 QA_l1 (IntKind.i64.wrap (v0 + (1 : Int))) v1 v2 v3 v4
 else
 some true := (Q6 Q0 (Q1 (QA.gok _)) _ _).trans (by kernel_rfl)
noncomputable abbrev Q1G.s : Sg := ⟨[.lend], [vi], ⟨[vb], [none]⟩, Tryz.f204⟩
noncomputable def Q1G.gs (δ : Type) : List (Nat × Callee (GT tab) δ) := []
theorem Q1G.gok (δ : Type) : Q4 Tryz.prog tab (Q1G.gs δ) := .nil
noncomputable def Q1G.c := cx Q1G.s [] [] [] false (Q1G.gs _)
noncomputable def Q1G (x0 : Int) : Option (Bool) := fnW Q1G.s Q1G.c x0
theorem Q1G.fok : FkS Q1G.s 204 := ⟨Tryz.func204, by kernel_rfl, by kernel_rfl⟩
noncomputable def Q1G.fn (x : Args tab Q1G.s.ar) : Option (ResT tab Q1G.s.rs) := Q1G x
noncomputable abbrev Q1G.k {δ : Type} : Callee (GT tab) δ := kS Q1G.s Q1G.fn
theorem Q1G.con {δ : Type} : Con Tryz.prog (KT tab) 204 (Q1G.k (δ := δ)) := Q5 (c := Q1G.c) mixed Q0 (Q1 (Q1G.gok _)) Q1G.fok rfl rfl fun _ => rfl
theorem Q1G.eq (x0 : Int) : Q1G x0 =
 bif x0 == (0 : Int) then
 some true
 else
 some (x0 == (1 : Int)) := by kernel_rfl
noncomputable abbrev QM.s : Sg := ⟨[.lend, .lend, .lend], [.agg [.int .i64, .sl false false 90], vi, vi], ⟨[vi], [none, none, none]⟩, Tryz.f180⟩
noncomputable def QM.gs (δ : Type) : List (Nat × Callee (GT tab) δ) := [(105, Qn.k), (171, QA.k), (204, Q1G.k)]
theorem QM.gok (δ : Type) : Q4 Tryz.prog tab (QM.gs δ) := .cons Qn.con (.cons QA.con (.cons Q1G.con .nil))
noncomputable def QM.c := cx QM.s [] [3] [(3, [1, 2, 3]), (6, [1, 2, 7, 8, 9])] false (QM.gs _)
noncomputable def QM (x0 : Int × (List Int)) (x1 x2 : Int) : Option (Int) := fnW QM.s QM.c (x0, x1, x2)
theorem QM.fok : FkS QM.s 180 := ⟨Tryz.func180, by kernel_rfl, by kernel_rfl⟩
noncomputable def QM.fn (x : Args tab QM.s.ar) : Option (ResT tab QM.s.rs) := QM x.1 x.2.1 x.2.2
noncomputable abbrev QM.k {δ : Type} : Callee (GT tab) δ := kS QM.s QM.fn
theorem QM.con {δ : Type} : Con Tryz.prog (KT tab) 180 (QM.k (δ := δ)) := Q5 (c := QM.c) mixed Q0 (Q1 (QM.gok _)) QM.fok rfl rfl fun _ => rfl
noncomputable def QM_l0 (v0 v1 v2 : Int) (v3 : List Int) : Option (Int) := lpW QM.s QM.c 0 (ud 40 [.undef, .int .i64 v0, .int .i64 v1, .ptr 0 0]) [.box 30 [.int .i64 v2, .vs false 90 v3]] 1
noncomputable def QM_l1 (v0 v1 v2 v3 : Int) (v4 : List Int) : Option (Int) := lpW QM.s QM.c 1 (ud 34 [.undef, .int .i64 v0, .int .i64 v1, .undef, .undef, .undef, .undef, .sl 0 0, .int .i64 v2, .int .i64 v3]) [.row 0 true 3 v4] 1
theorem QM.eq (x0 : Int × (List Int)) (x1 x2 : Int) : QM x0 x1 x2 =
 (QA x0).bind fun y1 =>
 bif !y1 then
 some (-1 : Int)
 else
 (Q1G x1).bind fun y2 =>
 bif !y2 then
 some (-1 : Int)
 else
 bif decide (x2 < (0 : Int)) then
 some (-1 : Int)
 else
 bif decide (x2 > x0.1) then
 some (-1 : Int)
 else
 QM_l0 x1 x2 x0.1 x0.2 := by kernel_rfl
theorem QM_l0.eq (v0 v1 v2 : Int) (v3 : List Int) : QM_l0 v0 v1 v2 v3 =
 (Qn (v2, v3)).bind fun y1 =>
 QM_l1 v0 v1 (0 : Int) (0 : Int) y1 := (Q6 Q0 (Q1 (QM.gok _)) _ _).trans (by kernel_rfl)
theorem QM_l1.eq (v0 v1 v2 v3 : Int) (v4 : List Int) : QM_l1 v0 v1 v2 v3 v4 =
 bif decide (v3 < v1) then
 (at? v4 v3).bind fun y1 =>
 v4[v3.toNat]?.bind fun y2 =>
 bif y2 == v0 then
 QM_l1 v0 v1 (IntKind.i64.wrap (v2 + (1 : Int))) (IntKind.i64.wrap (v3 + (1 : Int))) v4
 else
 QM_l1 v0 v1 v2 (IntKind.i64.wrap (v3 + (1 : Int))) v4
 else
 some v2 := (Q6 Q0 (Q1 (QM.gok _)) _ _).trans (by kernel_rfl)
noncomputable abbrev QP.s : Sg := ⟨[.lend], [.agg [.int .i64, .sl false false 3, .sl false false 30]], ⟨[vb], [none]⟩, Tryz.f143⟩
noncomputable def QP.gs (δ : Type) : List (Nat × Callee (GT tab) δ) := [(171, QA.k), (180, QM.k)]
theorem QP.gok (δ : Type) : Q4 Tryz.prog tab (QP.gs δ) := .cons QA.con (.cons QM.con .nil)
noncomputable def QP.c := cx QP.s [] [3] [(3, [1]), (4, [1, 3])] false (QP.gs _)
noncomputable def QP (x0 : Int × (List Int) × (List (Int × (List Int)))) : Option (Bool) := fnW QP.s QP.c x0
theorem QP.fok : FkS QP.s 143 := ⟨Tryz.func143, by kernel_rfl, by kernel_rfl⟩
noncomputable def QP.fn (x : Args tab QP.s.ar) : Option (ResT tab QP.s.rs) := QP x
noncomputable abbrev QP.k {δ : Type} : Callee (GT tab) δ := kS QP.s QP.fn
theorem QP.con {δ : Type} : Con Tryz.prog (KT tab) 143 (QP.k (δ := δ)) := Q5 (c := QP.c) mixed Q0 (Q1 (QP.gok _)) QP.fok rfl rfl fun _ => rfl
noncomputable def QP_l0 (v0 : Int) (v1 : List Int) (v2 : List (Int × (List Int))) : Option (Bool) := lpW QP.s QP.c 0 (ud 60 [.undef, .ptr 0 0]) [.box 27 [.int .i64 v0, .vs false 3 v1, .vs false 30 v2]] 1
noncomputable def QP_l1 (v0 v1 : Int) (v2 : List Int) (v3 : List (Int × (List Int))) : Option (Bool) := lpW QP.s QP.c 1 (ud 58 [.undef, .ptr 0 0, .undef, .int .i64 v0]) [.box 27 [.int .i64 v1, .vs false 3 v2, .vs false 30 v3]] 1
theorem QP.eq (x0 : Int × (List Int) × (List (Int × (List Int)))) : QP x0 =
 bif decide (x0.1 < (0 : Int)) then
 some false
 else
 bif decide (x0.1 > (1000 : Int)) then
 some false
 else
 bif (x0.2.2.length : Int) != (9 : Int) then
 some false
 else
 bif (x0.2.1.length : Int) != (9 : Int) then
 some false
 else
 QP_l0 x0.1 x0.2.1 x0.2.2 := by kernel_rfl
theorem QP_l0.eq (v0 : Int) (v1 : List Int) (v2 : List (Int × (List Int))) : QP_l0 v0 v1 v2 =
 QP_l1 (0 : Int) v0 v1 v2 := (Q6 Q0 (Q1 (QP.gok _)) _ _).trans (by kernel_rfl)
theorem QP_l1.eq (v0 v1 : Int) (v2 : List Int) (v3 : List (Int × (List Int))) : QP_l1 v0 v1 v2 v3 =
 bif decide (v0 < (9 : Int)) then
 (at? v3 v0).bind fun y1 =>
 bif y1.1 != v1 then
 some false
 else
 (at? v3 v0).bind fun y2 =>
 (QA y2).bind fun y3 =>
 bif !y3 then
 some false
 else
 (at? v3 v0).bind fun y4 =>
 (QM y4 (0 : Int) v1).bind fun y5 =>
 (at? v2 v0).bind fun y6 =>
 bif y5 != y6 then
 some false
 else
 QP_l1 (IntKind.i64.wrap (v0 + (1 : Int))) v1 v2 v3
 else
 some true := (Q6 Q0 (Q1 (QP.gok _)) _ _).trans (by kernel_rfl)
noncomputable abbrev Qb.s : Sg := ⟨[.lend], [.agg [.int .i64, .sl false false 3, .sl false false 30]], ⟨[vo 3], [none]⟩, Tryz.f144⟩
noncomputable def Qb.gs (δ : Type) : List (Nat × Callee (GT tab) δ) := [(105, Qn.k)]
theorem Qb.gok (δ : Type) : Q4 Tryz.prog tab (Qb.gs δ) := .cons Qn.con .nil
noncomputable def Qb.c := cx Qb.s [] [] [(4, [1, 3, 4, 5]), (8, [1, 3, 4, 6]), (13, [1, 3, 4, 6, 7, 8, 9]), (19, [1, 3, 4, 6, 7, 8, 9, 10, 11, 12, 13])] false (Qb.gs _)
noncomputable def Qb (x0 : Int × (List Int) × (List (Int × (List Int)))) : Option (List Int) := fnW Qb.s Qb.c x0
theorem Qb.fok : FkS Qb.s 144 := ⟨Tryz.func144, by kernel_rfl, by kernel_rfl⟩
noncomputable def Qb.fn (x : Args tab Qb.s.ar) : Option (ResT tab Qb.s.rs) := Qb x
noncomputable abbrev Qb.k {δ : Type} : Callee (GT tab) δ := kS Qb.s Qb.fn
theorem Qb.con {δ : Type} : Con Tryz.prog (KT tab) 144 (Qb.k (δ := δ)) := Q5 (c := Qb.c) mixed Q0 (Q1 (Qb.gok _)) Qb.fok rfl rfl fun _ => rfl
noncomputable def Qb_l0 (v0 v1 : Int) (v2 : List Int) (v3 : List (Int × (List Int))) (v4 : List Int) (v5 : List (List Int)) : Option (List Int) := lpW Qb.s Qb.c 0 (ud 88 [.undef, .ptr 0 0, .undef, .sl 1 0, .sl 2 0, .int .i64 v0]) [.box 27 [.int .i64 v1, .vs false 3 v2, .vs false 30 v3], .row 0 true 3 v4, .row 0 true 24 v5] 3
noncomputable def Qb_l1 (v0 v1 : Int) (v2 : List Int) (v3 : List (Int × (List Int))) (v4 : List Int) (v5 : List (List Int)) : Option (List Int) := lpW Qb.s Qb.c 1 (ud 87 [.undef, .ptr 0 0, .undef, .sl 1 0, .sl 2 0, .undef, .int .i64 v0]) [.box 27 [.int .i64 v1, .vs false 3 v2, .vs false 30 v3], .row 0 true 3 v4, .row 0 true 24 v5] 3
noncomputable def Qb_l2 (v0 v1 v2 v3 v4 : Int) (v5 : List Int) (v6 : List (Int × (List Int))) (v7 : List Int) (v8 : List (List Int)) : Option (List Int) := lpW Qb.s Qb.c 2 (ud 84 [.undef, .ptr 0 0, .undef, .sl 1 0, .sl 2 0, .undef, .int .i64 v0, .int .i64 v1, .int .i64 v2, .int .i64 v3]) [.box 27 [.int .i64 v4, .vs false 3 v5, .vs false 30 v6], .row 0 true 3 v7, .row 0 true 24 v8] 3
noncomputable def Qb_l3 (v0 v1 v2 v3 v4 v5 v6 v7 v8 : Int) (v9 : List Int) (v10 : List (Int × (List Int))) (v11 : List Int) (v12 : List (List Int)) : Option (List Int) := lpW Qb.s Qb.c 3 (ud 80 [.undef, .ptr 0 0, .undef, .sl 1 0, .sl 2 0, .undef, .int .i64 v0, .int .i64 v1, .int .i64 v2, .int .i64 v3, .int .i64 v4, .int .i64 v5, .int .i64 v6, .int .i64 v7]) [.box 27 [.int .i64 v8, .vs false 3 v9, .vs false 30 v10], .row 0 true 3 v11, .row 0 true 24 v12] 3
theorem Qb.eq (x0 : Int × (List Int) × (List (Int × (List Int)))) : Qb x0 =
 Qb_l0 (0 : Int) x0.1 x0.2.1 x0.2.2 ([] : List Int) ([] : List (List Int)) := by kernel_rfl
theorem Qb_l0.eq (v0 v1 : Int) (v2 : List Int) (v3 : List (Int × (List Int))) (v4 : List Int) (v5 : List (List Int)) : Qb_l0 v0 v1 v2 v3 v4 v5 =
 bif decide (v0 < (9 : Int)) then
 (at? v3 v0).bind fun y1 =>
 (Qn y1).bind fun y2 =>
 bif decide ((v5.length + ([y2] : List (List Int)).length) * 24 ≤ 140737488355328) then
 Qb_l0 (IntKind.i64.wrap (v0 + (1 : Int))) v1 v2 v3 v4 (v5 ++ ([y2] : List (List Int)))
 else
 none
 else
 Qb_l1 (0 : Int) v1 v2 v3 v4 v5 := (Q6 Q0 (Q1 (Qb.gok _)) _ _).trans (by kernel_rfl)
theorem Qb_l1.eq (v0 v1 : Int) (v2 : List Int) (v3 : List (Int × (List Int))) (v4 : List Int) (v5 : List (List Int)) : Qb_l1 v0 v1 v2 v3 v4 v5 =
 bif decide (v0 < v1) then
 Qb_l2 v0 v0 (0 : Int) (0 : Int) v1 v2 v3 v4 v5
 else
 some v4 := (Q6 Q0 (Q1 (Qb.gok _)) _ _).trans (by kernel_rfl)
theorem Qb_l2.eq (v0 v1 v2 v3 v4 : Int) (v5 : List Int) (v6 : List (Int × (List Int))) (v7 : List Int) (v8 : List (List Int)) : Qb_l2 v0 v1 v2 v3 v4 v5 v6 v7 v8 =
 bif decide (v3 < (9 : Int)) then
 (at? v8 v3).bind fun y1 =>
 v8[v3.toNat]?.bind fun y2 =>
 (at? y2 v1).bind fun y3 =>
 y2[v1.toNat]?.bind fun y4 =>
 Qb_l3 v0 v1 v2 v3 y4 (0 : Int) (0 : Int) (0 : Int) v4 v5 v6 v7 (v8.set v3.toNat y2)
 else
 bif decide ((v7.length + ([v2] : List Int).length) * 8 ≤ 140737488355328) then
 Qb_l1 (IntKind.i64.wrap (v0 + (1 : Int))) v4 v5 v6 (v7 ++ ([v2] : List Int)) v8
 else
 none := (Q6 Q0 (Q1 (Qb.gok _)) _ _).trans (by kernel_rfl)
theorem Qb_l3.eq (v0 v1 v2 v3 v4 v5 v6 v7 v8 : Int) (v9 : List Int) (v10 : List (Int × (List Int))) (v11 : List Int) (v12 : List (List Int)) : Qb_l3 v0 v1 v2 v3 v4 v5 v6 v7 v8 v9 v10 v11 v12 =
 bif decide (v7 < v8) then
 (at? v12 v3).bind fun y1 =>
 v12[v3.toNat]?.bind fun y2 =>
 (at? y2 v7).bind fun y3 =>
 y2[v7.toNat]?.bind fun y4 =>
 bif y4 == (0 : Int) then
 bif decide (v7 < v1) then
 (at? (v12.set v3.toNat y2) v3).bind fun y5 =>
 (v12.set v3.toNat y2)[v3.toNat]?.bind fun y6 =>
 (at? y6 v7).bind fun y7 =>
 y6[v7.toNat]?.bind fun y8 =>
 bif y8 == v4 then
 Qb_l3 v0 v1 v2 v3 v4 (IntKind.i64.wrap (v5 + (1 : Int))) (IntKind.i64.wrap (v6 + (1 : Int))) (IntKind.i64.wrap (v7 + (1 : Int))) v8 v9 v10 v11 ((v12.set v3.toNat y2).set v3.toNat y6)
 else
 Qb_l3 v0 v1 v2 v3 v4 v5 (IntKind.i64.wrap (v6 + (1 : Int))) (IntKind.i64.wrap (v7 + (1 : Int))) v8 v9 v10 v11 ((v12.set v3.toNat y2).set v3.toNat y6)
 else
 Qb_l3 v0 v1 v2 v3 v4 v5 (IntKind.i64.wrap (v6 + (1 : Int))) (IntKind.i64.wrap (v7 + (1 : Int))) v8 v9 v10 v11 (v12.set v3.toNat y2)
 else
 bif decide (v7 < v1) then
 (at? (v12.set v3.toNat y2) v3).bind fun y9 =>
 (v12.set v3.toNat y2)[v3.toNat]?.bind fun y10 =>
 (at? y10 v7).bind fun y11 =>
 y10[v7.toNat]?.bind fun y12 =>
 bif y12 == v4 then
 Qb_l3 v0 v1 v2 v3 v4 (IntKind.i64.wrap (v5 + (1 : Int))) v6 (IntKind.i64.wrap (v7 + (1 : Int))) v8 v9 v10 v11 ((v12.set v3.toNat y2).set v3.toNat y10)
 else
 Qb_l3 v0 v1 v2 v3 v4 v5 v6 (IntKind.i64.wrap (v7 + (1 : Int))) v8 v9 v10 v11 ((v12.set v3.toNat y2).set v3.toNat y10)
 else
 Qb_l3 v0 v1 v2 v3 v4 v5 v6 (IntKind.i64.wrap (v7 + (1 : Int))) v8 v9 v10 v11 (v12.set v3.toNat y2)
 else
 bif v4 == (1 : Int) then
 Qb_l2 v0 (IntKind.i64.wrap (v6 + v5)) (IntKind.i64.wrap ((IntKind.i64.wrap ((2 : Int) * v2)) + v4)) (IntKind.i64.wrap (v3 + (1 : Int))) v8 v9 v10 v11 v12
 else
 Qb_l2 v0 v5 (IntKind.i64.wrap ((IntKind.i64.wrap ((2 : Int) * v2)) + v4)) (IntKind.i64.wrap (v3 + (1 : Int))) v8 v9 v10 v11 v12 := (Q6 Q0 (Q1 (Qb.gok _)) _ _).trans (by kernel_rfl)
noncomputable abbrev Q1o.s : Sg := ⟨[.lend], [.agg [.int .i64, .sl false false 3, .sl false false 30]], ⟨[vo 3], [none]⟩, Tryz.f99⟩
noncomputable def Q1o.gs (δ : Type) : List (Nat × Callee (GT tab) δ) := [(143, QP.k), (144, Qb.k)]
theorem Q1o.gok (δ : Type) : Q4 Tryz.prog tab (Q1o.gs δ) := .cons QP.con (.cons Qb.con .nil)
noncomputable def Q1o.c := cx Q1o.s [] [] [] false (Q1o.gs _)
noncomputable def Q1o (x0 : Int × (List Int) × (List (Int × (List Int)))) : Option (List Int) := fnW Q1o.s Q1o.c x0
theorem Q1o.fok : FkS Q1o.s 99 := ⟨Tryz.func99, by kernel_rfl, by kernel_rfl⟩
noncomputable def Q1o.fn (x : Args tab Q1o.s.ar) : Option (ResT tab Q1o.s.rs) := Q1o x
noncomputable abbrev Q1o.k {δ : Type} : Callee (GT tab) δ := kS Q1o.s Q1o.fn
theorem Q1o.con {δ : Type} : Con Tryz.prog (KT tab) 99 (Q1o.k (δ := δ)) := Q5 (c := Q1o.c) mixed Q0 (Q1 (Q1o.gok _)) Q1o.fok rfl rfl fun _ => rfl
theorem Q1o.eq (x0 : Int × (List Int) × (List (Int × (List Int)))) : Q1o x0 =
 (QP x0).bind fun y1 =>
 bif !y1 then
 some ([] : List Int)
 else
 (Qb x0).bind fun y2 =>
 some y2 := by kernel_rfl
noncomputable abbrev Qt.s : Sg := ⟨[.lend], [vl 3], ⟨[vo 3], [none]⟩, Tryz.f142⟩
noncomputable def Qt.gs (δ : Type) : List (Nat × Callee (GT tab) δ) := [(137, QS.k)]
theorem Qt.gok (δ : Type) : Q4 Tryz.prog tab (Qt.gs δ) := .cons QS.con .nil
noncomputable def Qt.c := cx Qt.s [] [] [(5, [0, 3, 4]), (9, [0, 3, 4, 5, 6])] false (Qt.gs _)
noncomputable def Qt (x0 : List Int) : Option (List Int) := fnW Qt.s Qt.c x0
theorem Qt.fok : FkS Qt.s 142 := ⟨Tryz.func142, by kernel_rfl, by kernel_rfl⟩
noncomputable def Qt.fn (x : Args tab Qt.s.ar) : Option (ResT tab Qt.s.rs) := Qt x
noncomputable abbrev Qt.k {δ : Type} : Callee (GT tab) δ := kS Qt.s Qt.fn
theorem Qt.con {δ : Type} : Con Tryz.prog (KT tab) 142 (Qt.k (δ := δ)) := Q5 (c := Qt.c) mixed Q0 (Q1 (Qt.gok _)) Qt.fok rfl rfl fun _ => rfl
noncomputable def Qt_l0 (v0 : List Int) (v1 : Int) (v2 : List Int) : Option (List Int) := lpW Qt.s Qt.c 0 (ud 50 [.vs false 3 v0, .undef, .undef, .sl 0 0, .int .i64 v1]) [.row 0 true 3 v2] 1
noncomputable def Qt_l1 (v0 : List Int) (v1 v2 v3 : Int) (v4 : List Int) : Option (List Int) := lpW Qt.s Qt.c 1 (ud 48 [.vs false 3 v0, .undef, .undef, .sl 0 0, .int .i64 v1, .int .i64 v2, .int .i64 v3]) [.row 0 true 3 v4] 1
theorem Qt.eq (x0 : List Int) : Qt x0 =
 (QS x0).bind fun y1 =>
 bif !y1 then
 some ([] : List Int)
 else
 Qt_l0 x0 (0 : Int) ([] : List Int) := by kernel_rfl
theorem Qt_l0.eq (v0 : List Int) (v1 : Int) (v2 : List Int) : Qt_l0 v0 v1 v2 =
 bif decide (v1 < (v0.length : Int)) then
 Qt_l1 v0 v1 (0 : Int) (0 : Int) v2
 else
 some v2 := (Q6 Q0 (Q1 (Qt.gok _)) _ _).trans (by kernel_rfl)
theorem Qt_l1.eq (v0 : List Int) (v1 v2 v3 : Int) (v4 : List Int) : Qt_l1 v0 v1 v2 v3 v4 =
 bif decide (v3 < (v0.length : Int)) then
 (at? v0 v3).bind fun y1 =>
 (at? v0 v1).bind fun y2 =>
 bif decide (y1 < y2) then
 Qt_l1 v0 v1 (IntKind.i64.wrap (v2 + (1 : Int))) (IntKind.i64.wrap (v3 + (1 : Int))) v4
 else
 bif decide (v3 < v1) then
 (at? v0 v3).bind fun y3 =>
 (at? v0 v1).bind fun y4 =>
 bif y3 == y4 then
 Qt_l1 v0 v1 (IntKind.i64.wrap (v2 + (1 : Int))) (IntKind.i64.wrap (v3 + (1 : Int))) v4
 else
 Qt_l1 v0 v1 v2 (IntKind.i64.wrap (v3 + (1 : Int))) v4
 else
 Qt_l1 v0 v1 v2 (IntKind.i64.wrap (v3 + (1 : Int))) v4
 else
 bif decide ((v4.length + ([v2] : List Int).length) * 8 ≤ 140737488355328) then
 Qt_l0 v0 (IntKind.i64.wrap (v1 + (1 : Int))) (v4 ++ ([v2] : List Int))
 else
 none := (Q6 Q0 (Q1 (Qt.gok _)) _ _).trans (by kernel_rfl)
noncomputable abbrev QZ.s : Sg := ⟨[.lend, .lend], [vl 3, vl 3], ⟨[vb], [none, none]⟩, Tryz.f100⟩
noncomputable def QZ.gs (δ : Type) : List (Nat × Callee (GT tab) δ) := []
theorem QZ.gok (δ : Type) : Q4 Tryz.prog tab (QZ.gs δ) := .nil
noncomputable def QZ.c := cx QZ.s [] [] [(4, [0, 1, 5])] false (QZ.gs _)
noncomputable def QZ (x0 x1 : List Int) : Option (Bool) := fnW QZ.s QZ.c (x0, x1)
theorem QZ.fok : FkS QZ.s 100 := ⟨Tryz.func100, by kernel_rfl, by kernel_rfl⟩
noncomputable def QZ.fn (x : Args tab QZ.s.ar) : Option (ResT tab QZ.s.rs) := QZ x.1 x.2
noncomputable abbrev QZ.k {δ : Type} : Callee (GT tab) δ := kS QZ.s QZ.fn
theorem QZ.con {δ : Type} : Con Tryz.prog (KT tab) 100 (QZ.k (δ := δ)) := Q5 (c := QZ.c) mixed Q0 (Q1 (QZ.gok _)) QZ.fok rfl rfl fun _ => rfl
noncomputable def QZ_l0 (v0 v1 : List Int) (v2 : Int) : Option (Bool) := lpW QZ.s QZ.c 0 (ud 20 [.vs false 3 v0, .vs false 3 v1, .undef, .undef, .undef, .int .i64 v2]) [] 0
theorem QZ.eq (x0 x1 : List Int) : QZ x0 x1 =
 bif (x0.length : Int) != (x1.length : Int) then
 some false
 else
 QZ_l0 x0 x1 (0 : Int) := by kernel_rfl
theorem QZ_l0.eq (v0 v1 : List Int) (v2 : Int) : QZ_l0 v0 v1 v2 =
 bif decide (v2 < (v0.length : Int)) then
 (at? v0 v2).bind fun y1 =>
 (at? v1 v2).bind fun y2 =>
 bif y1 != y2 then
 some false
 else
 QZ_l0 v0 v1 (IntKind.i64.wrap (v2 + (1 : Int)))
 else
 some true := (Q6 Q0 (Q1 (QZ.gok _)) _ _).trans (by kernel_rfl)
noncomputable abbrev Qq.s : Sg := ⟨[.lend], [vl 3], ⟨[vo 5, vb], [none]⟩, Tryz.f98⟩
noncomputable def Qq.gs (δ : Type) : List (Nat × Callee (GT tab) δ) := [(88, Qv.k), (100, QZ.k), (137, QS.k), (142, Qt.k)]
theorem Qq.gok (δ : Type) : Q4 Tryz.prog tab (Qq.gs δ) := .cons Qv.con (.cons QZ.con (.cons QS.con (.cons Qt.con .nil)))
noncomputable def Qq.c := cx Qq.s [] [3, 9] [(3, [0]), (7, [0, 4, 5, 6, 7]), (9, [0, 4, 5, 6, 7])] false (Qq.gs _)
noncomputable def Qq (x0 : List Int) : Option ((List Int) × Bool) := fnW Qq.s Qq.c x0
theorem Qq.fok : FkS Qq.s 98 := ⟨Tryz.func98, by kernel_rfl, by kernel_rfl⟩
noncomputable def Qq.fn (x : Args tab Qq.s.ar) : Option (ResT tab Qq.s.rs) := Qq x
noncomputable abbrev Qq.k {δ : Type} : Callee (GT tab) δ := kS Qq.s Qq.fn
theorem Qq.con {δ : Type} : Con Tryz.prog (KT tab) 98 (Qq.k (δ := δ)) := Q5 (c := Qq.c) mixed Q0 (Q1 (Qq.gok _)) Qq.fok rfl rfl fun _ => rfl
noncomputable def Qq_l0 (v0 : List Int) : Option ((List Int) × Bool) := lpW Qq.s Qq.c 0 (ud 51 [.vs false 3 v0]) [] 0
noncomputable def Qq_l1 (v0 : List Int) (v1 v2 : Int) (v3 v4 : List Int) : Option ((List Int) × Bool) := lpW Qq.s Qq.c 1 (ud 44 [.vs false 3 v0, .undef, .undef, .undef, .sl 0 0, .sl 1 0, .int .i64 v1, .int .i64 v2]) [.row 0 true 3 v3, .row 0 true 5 v4] 2
noncomputable def Qq_l2 (v0 : List Int) (v1 v2 : Int) (v3 v4 : List Int) : Option ((List Int) × Bool) := lpW Qq.s Qq.c 2 (ud 44 [.vs false 3 v0, .undef, .undef, .undef, .sl 0 0, .sl 1 0, .int .i64 v1, .int .i64 v2]) [.row 0 true 3 v3, .row 0 true 5 v4] 2
theorem Qq.eq (x0 : List Int) : Qq x0 =
 (QS x0).bind fun y1 =>
 bif !y1 then
 some (([] : List Int), false)
 else
 bif (x0.length : Int) == (0 : Int) then
 some (([] : List Int), false)
 else
 Qq_l0 x0 := by kernel_rfl
theorem Qq_l0.eq (v0 : List Int) : Qq_l0 v0 =
 (Qt v0).bind fun y1 =>
 Qq_l1 v0 (0 : Int) (0 : Int) y1 ([] : List Int) := (Q6 Q0 (Q1 (Qq.gok _)) _ _).trans (by kernel_rfl)
theorem Qq_l1.eq (v0 : List Int) (v1 v2 : Int) (v3 v4 : List Int) : Qq_l1 v0 v1 v2 v3 v4 =
 bif decide (v2 < IntKind.i64.wrap ((v0.length : Int) - (1 : Int))) then
 (at? v0 v1).bind fun y1 =>
 bif decide (y1 > (0 : Int)) then
 Qq_l2 v0 v1 v2 v3 v4
 else
 (Qv v4).bind fun y2 =>
 (QZ y2 v0).bind fun y3 =>
 bif !y3 then
 some (([] : List Int), false)
 else
 some (v4, true)
 else
 (Qv v4).bind fun y4 =>
 (QZ y4 v0).bind fun y5 =>
 bif !y5 then
 some (([] : List Int), false)
 else
 some (v4, true) := (Q6 Q0 (Q1 (Qq.gok _)) _ _).trans (by kernel_rfl)
theorem Qq_l2.eq (v0 : List Int) (v1 v2 : Int) (v3 v4 : List Int) : Qq_l2 v0 v1 v2 v3 v4 =
 (at? v0 v1).bind fun y1 =>
 bif decide ((([IntKind.u8.wrap (IntKind.i64.wrap (y1 - (1 : Int)))] : List Int).length + v4.length) * 1 ≤ 140737488355328) then
 (at? v3 v1).bind fun y2 =>
 v3[v1.toNat]?.bind fun y3 =>
 Qq_l1 v0 y3 (IntKind.i64.wrap (v2 + (1 : Int))) v3 (([IntKind.u8.wrap (IntKind.i64.wrap (y1 - (1 : Int)))] : List Int) ++ v4)
 else
 none := (Q6 Q0 (Q1 (Qq.gok _)) _ _).trans (by kernel_rfl)
noncomputable abbrev QH.s : Sg := ⟨[.lend, .lend], [.agg [.int .i64, .sl false false 90], .agg [.int .i64, .sl false false 90]], ⟨[vb], [none, none]⟩, Tryz.f101⟩
noncomputable def QH.gs (δ : Type) : List (Nat × Callee (GT tab) δ) := []
theorem QH.gok (δ : Type) : Q4 Tryz.prog tab (QH.gs δ) := .nil
noncomputable def QH.c := cx QH.s [] [3] [(3, [2, 3]), (4, [2, 3, 5])] false (QH.gs _)
noncomputable def QH (x0 x1 : Int × (List Int)) : Option (Bool) := fnW QH.s QH.c (x0, x1)
theorem QH.fok : FkS QH.s 101 := ⟨Tryz.func101, by kernel_rfl, by kernel_rfl⟩
noncomputable def QH.fn (x : Args tab QH.s.ar) : Option (ResT tab QH.s.rs) := QH x.1 x.2
noncomputable abbrev QH.k {δ : Type} : Callee (GT tab) δ := kS QH.s QH.fn
theorem QH.con {δ : Type} : Con Tryz.prog (KT tab) 101 (QH.k (δ := δ)) := Q5 (c := QH.c) mixed Q0 (Q1 (QH.gok _)) QH.fok rfl rfl fun _ => rfl
noncomputable def QH_l0 (v0 : Int) (v1 : List Int) (v2 : Int) (v3 : List Int) : Option (Bool) := lpW QH.s QH.c 0 (ud 34 [.undef, .undef, .ptr 0 0, .ptr 1 0]) [.box 30 [.int .i64 v0, .vs false 90 v1], .box 30 [.int .i64 v2, .vs false 90 v3]] 2
noncomputable def QH_l1 (v0 v1 : Int) (v2 : List Int) (v3 : Int) (v4 : List Int) : Option (Bool) := lpW QH.s QH.c 1 (ud 32 [.undef, .undef, .ptr 0 0, .ptr 1 0, .undef, .int .i64 v0]) [.box 30 [.int .i64 v1, .vs false 90 v2], .box 30 [.int .i64 v3, .vs false 90 v4]] 2
theorem QH.eq (x0 x1 : Int × (List Int)) : QH x0 x1 =
 bif x0.1 != x1.1 then
 some false
 else
 bif (x0.2.length : Int) != (x1.2.length : Int) then
 some false
 else
 QH_l0 x0.1 x0.2 x1.1 x1.2 := by kernel_rfl
theorem QH_l0.eq (v0 : Int) (v1 : List Int) (v2 : Int) (v3 : List Int) : QH_l0 v0 v1 v2 v3 =
 QH_l1 (0 : Int) v0 v1 v2 v3 := (Q6 Q0 (Q1 (QH.gok _)) _ _).trans (by kernel_rfl)
theorem QH_l1.eq (v0 v1 : Int) (v2 : List Int) (v3 : Int) (v4 : List Int) : QH_l1 v0 v1 v2 v3 v4 =
 bif decide (v0 < (v2.length : Int)) then
 (at? v2 v0).bind fun y1 =>
 (at? v4 v0).bind fun y2 =>
 bif y1 != y2 then
 some false
 else
 QH_l1 (IntKind.i64.wrap (v0 + (1 : Int))) v1 v2 v3 v4
 else
 some true := (Q6 Q0 (Q1 (QH.gok _)) _ _).trans (by kernel_rfl)
noncomputable abbrev Q15.s : Sg := ⟨[.lend, .lend], [.agg [.int .i64, .int .i64, .int .i64, .sl false false 90], .agg [.int .i64, .int .i64, .int .i64, .sl false false 90]], ⟨[vb], [none, none]⟩, Tryz.f102⟩
noncomputable def Q15.gs (δ : Type) : List (Nat × Callee (GT tab) δ) := [(101, QH.k)]
theorem Q15.gok (δ : Type) : Q4 Tryz.prog tab (Q15.gs δ) := .cons QH.con .nil
noncomputable def Q15.c := cx Q15.s [] [] [] false (Q15.gs _)
noncomputable def Q15 (x0 x1 : Int × Int × Int × (List Int)) : Option (Bool) := fnW Q15.s Q15.c (x0, x1)
theorem Q15.fok : FkS Q15.s 102 := ⟨Tryz.func102, by kernel_rfl, by kernel_rfl⟩
noncomputable def Q15.fn (x : Args tab Q15.s.ar) : Option (ResT tab Q15.s.rs) := Q15 x.1 x.2
noncomputable abbrev Q15.k {δ : Type} : Callee (GT tab) δ := kS Q15.s Q15.fn
theorem Q15.con {δ : Type} : Con Tryz.prog (KT tab) 102 (Q15.k (δ := δ)) := Q5 (c := Q15.c) mixed Q0 (Q1 (Q15.gok _)) Q15.fok rfl rfl fun _ => rfl
theorem Q15.eq (x0 x1 : Int × Int × Int × (List Int)) : Q15 x0 x1 =
 bif x0.1 == x1.1 then
 bif x0.2.1 == x1.2.1 then
 (QH x0.2.2 x1.2.2).bind fun y1 =>
 some y1
 else
 some false
 else
 some false := by kernel_rfl
noncomputable abbrev Q03.s : Sg := ⟨[.lend], [.agg [.int .i64, .int .i64, .int .i64, .sl false false 3, .sl false false 30, .sl false false 3, .int .i64, .sl false false 90, .int .i64, .int .i64, .int .i64, .sl false false 90, .int .i64, .int .i64, .int .i64, .sl false false 90]], ⟨[vo 5, vb], [none]⟩, Tryz.f41⟩
noncomputable def Q03.gs (δ : Type) : List (Nat × Callee (GT tab) δ) := [(34, Qm.k), (43, Q0K.k), (98, Qq.k), (99, Q1o.k), (100, QZ.k), (101, QH.k), (102, Q15.k)]
theorem Q03.gok (δ : Type) : Q4 Tryz.prog tab (Q03.gs δ) := .cons Qm.con (.cons Q0K.con (.cons Qq.con (.cons Q1o.con (.cons QZ.con (.cons QH.con (.cons Q15.con .nil))))))
noncomputable def Q03.c := cx Q03.s [] [3] [(3, [1])] false (Q03.gs _)
noncomputable def Q03 (x0 : Int × Int × Int × (List Int) × (List (Int × (List Int))) × (List Int) × Int × (List Int) × Int × Int × Int × (List Int) × Int × Int × Int × (List Int)) : Option ((List Int) × Bool) := fnW Q03.s Q03.c x0
theorem Q03.fok : FkS Q03.s 41 := ⟨Tryz.func41, by kernel_rfl, by kernel_rfl⟩
noncomputable def Q03.fn (x : Args tab Q03.s.ar) : Option (ResT tab Q03.s.rs) := Q03 x
noncomputable abbrev Q03.k {δ : Type} : Callee (GT tab) δ := kS Q03.s Q03.fn
theorem Q03.con {δ : Type} : Con Tryz.prog (KT tab) 41 (Q03.k (δ := δ)) := Q5 (c := Q03.c) mixed Q0 (Q1 (Q03.gok _)) Q03.fok rfl rfl fun _ => rfl
noncomputable def Q03_l0 (v0 v1 v2 : Int) (v3 : List Int) (v4 : List (Int × (List Int))) (v5 : List Int) (v6 : Int) (v7 : List Int) (v8 v9 v10 : Int) (v11 : List Int) (v12 v13 v14 : Int) (v15 : List Int) : Option ((List Int) × Bool) := lpW Q03.s Q03.c 0 (ud 70 [.undef, .ptr 0 0]) [.box 34 [.int .i64 v0, .int .i64 v1, .int .i64 v2, .vs false 3 v3, .vs false 30 v4, .vs false 3 v5, .int .i64 v6, .vs false 90 v7, .int .i64 v8, .int .i64 v9, .int .i64 v10, .vs false 90 v11, .int .i64 v12, .int .i64 v13, .int .i64 v14, .vs false 90 v15]] 1
theorem Q03.eq (x0 : Int × Int × Int × (List Int) × (List (Int × (List Int))) × (List Int) × Int × (List Int) × Int × Int × Int × (List Int) × Int × Int × Int × (List Int)) : Q03 x0 =
 (Q0K x0.2.1).bind fun y1 =>
 bif !y1 then
 some (([] : List Int), false)
 else
 bif decide (x0.2.2.1 > (301 : Int)) then
 some (([] : List Int), false)
 else
 Q03_l0 x0.1 x0.2.1 x0.2.2.1 x0.2.2.2.1 x0.2.2.2.2.1 x0.2.2.2.2.2.1 x0.2.2.2.2.2.2.1 x0.2.2.2.2.2.2.2.1 x0.2.2.2.2.2.2.2.2.1 x0.2.2.2.2.2.2.2.2.2.1 x0.2.2.2.2.2.2.2.2.2.2.1 x0.2.2.2.2.2.2.2.2.2.2.2.1 x0.2.2.2.2.2.2.2.2.2.2.2.2.1 x0.2.2.2.2.2.2.2.2.2.2.2.2.2.1 x0.2.2.2.2.2.2.2.2.2.2.2.2.2.2.1 x0.2.2.2.2.2.2.2.2.2.2.2.2.2.2.2 := by kernel_rfl
theorem Q03_l0.eq (v0 v1 v2 : Int) (v3 : List Int) (v4 : List (Int × (List Int))) (v5 : List Int) (v6 : Int) (v7 : List Int) (v8 v9 v10 : Int) (v11 : List Int) (v12 v13 v14 : Int) (v15 : List Int) : Q03_l0 v0 v1 v2 v3 v4 v5 v6 v7 v8 v9 v10 v11 v12 v13 v14 v15 =
 (Q1o (v2, v3, v4)).bind fun y1 =>
 (Qq y1).bind fun y2 =>
 bif !y2.2 then
 some (([] : List Int), false)
 else
 (Qm y2.1 v1).bind fun y3 =>
 bif v0 != y3.1.1 then
 some (([] : List Int), false)
 else
 (QZ v5 y3.1.2.2.2.2.2.1).bind fun y4 =>
 bif !y4 then
 some (([] : List Int), false)
 else
 (QH (v6, v7) (y3.1.2.2.2.2.2.2.1, y3.1.2.2.2.2.2.2.2.1)).bind fun y5 =>
 bif !y5 then
 some (([] : List Int), false)
 else
 (Q15 (v8, v9, v10, v11) (y3.1.2.2.2.2.2.2.2.2.1, y3.1.2.2.2.2.2.2.2.2.2.1, y3.1.2.2.2.2.2.2.2.2.2.2.1, y3.1.2.2.2.2.2.2.2.2.2.2.2.1)).bind fun y6 =>
 bif !y6 then
 some (([] : List Int), false)
 else
 (Q15 (v12, v13, v14, v15) y3.1.2.2.2.2.2.2.2.2.2.2.2.2).bind fun y7 =>
 bif !y7 then
 some (([] : List Int), false)
 else
 some (y2.1, true) := (Q6 Q0 (Q1 (Q03.gok _)) _ _).trans (by kernel_rfl)
noncomputable abbrev Q0X.s : Sg := ⟨[.lend, .lend, .lend], [vl 5, vl 5, vi], ⟨[vb], [none, none, none]⟩, Tryz.f42⟩
noncomputable def Q0X.gs (δ : Type) : List (Nat × Callee (GT tab) δ) := [(85, Q0G.k)]
theorem Q0X.gok (δ : Type) : Q4 Tryz.prog tab (Q0X.gs δ) := .cons Q0G.con .nil
noncomputable def Q0X.c := cx Q0X.s [] [] [] false (Q0X.gs _)
noncomputable def Q0X (x0 x1 : List Int) (x2 : Int) : Option (Bool) := fnW Q0X.s Q0X.c (x0, x1, x2)
theorem Q0X.fok : FkS Q0X.s 42 := ⟨Tryz.func42, by kernel_rfl, by kernel_rfl⟩
noncomputable def Q0X.fn (x : Args tab Q0X.s.ar) : Option (ResT tab Q0X.s.rs) := Q0X x.1 x.2.1 x.2.2
noncomputable abbrev Q0X.k {δ : Type} : Callee (GT tab) δ := kS Q0X.s Q0X.fn
theorem Q0X.con {δ : Type} : Con Tryz.prog (KT tab) 42 (Q0X.k (δ := δ)) := Q5 (c := Q0X.c) mixed Q0 (Q1 (Q0X.gok _)) Q0X.fok rfl rfl fun _ => rfl
theorem Q0X.eq (x0 x1 : List Int) (x2 : Int) : Q0X x0 x1 x2 =
 (Q0G x0).bind fun y1 =>
 bif y1 then
 (Q0G x1).bind fun y2 =>
 bif y2 then
 bif decide (x2 ≥ (0 : Int)) then
 some (decide (x2 ≤ (8 : Int)))
 else
 some false
 else
 some false
 else
 some false := by kernel_rfl
noncomputable abbrev Q1p.s : Sg := ⟨[.lend, .lend, .lend], [vl 5, vi, vi], ⟨[vl 5], [none, none, none]⟩, Tryz.f181⟩
noncomputable def Q1p.gs (δ : Type) : List (Nat × Callee (GT tab) δ) := []
theorem Q1p.gok (δ : Type) : Q4 Tryz.prog tab (Q1p.gs δ) := .nil
noncomputable def Q1p.c := cx Q1p.s [] [] [] false (Q1p.gs _)
noncomputable def Q1p (x0 : List Int) (x1 x2 : Int) : Option (List Int) := fnW Q1p.s Q1p.c (x0, x1, x2)
theorem Q1p.fok : FkS Q1p.s 181 := ⟨Tryz.func181, by kernel_rfl, by kernel_rfl⟩
noncomputable def Q1p.fn (x : Args tab Q1p.s.ar) : Option (ResT tab Q1p.s.rs) := Q1p x.1 x.2.1 x.2.2
noncomputable abbrev Q1p.k {δ : Type} : Callee (GT tab) δ := kS Q1p.s Q1p.fn
theorem Q1p.con {δ : Type} : Con Tryz.prog (KT tab) 181 (Q1p.k (δ := δ)) := Q5 (c := Q1p.c) mixed Q0 (Q1 (Q1p.gok _)) Q1p.fok rfl rfl fun _ => rfl
theorem Q1p.eq (x0 : List Int) (x1 x2 : Int) : Q1p x0 x1 x2 =
 bif decide (0 ≤ (if IntKind.i64.wrap (x1 + x2) < (x0.length : Int) then IntKind.i64.wrap (x1 + x2) else (x0.length : Int)) ∧ (if IntKind.i64.wrap (x1 + x2) < (x0.length : Int) then IntKind.i64.wrap (x1 + x2) else (x0.length : Int)) ≤ ((x0.length : Nat) : Int)) then
 bif decide (0 ≤ x1 ∧ x1 ≤ (((if IntKind.i64.wrap (x1 + x2) < (x0.length : Int) then IntKind.i64.wrap (x1 + x2) else (x0.length : Int)).toNat : Nat) : Int)) then
 some ((x0.take ((if IntKind.i64.wrap (x1 + x2) < (x0.length : Int) then IntKind.i64.wrap (x1 + x2) else (x0.length : Int)).toNat)).drop x1.toNat)
 else
 none
 else
 none := by kernel_rfl
noncomputable abbrev Q0c.s : Sg := ⟨[.lend, .lend], [vl 5, vi], ⟨[.one (.b (.b (.b (.b (.sl true false 22)))))], [none, none]⟩, Tryz.f145⟩
noncomputable def Q0c.gs (δ : Type) : List (Nat × Callee (GT tab) δ) := [(86, Qp.k), (181, Q1p.k)]
theorem Q0c.gok (δ : Type) : Q4 Tryz.prog tab (Q0c.gs δ) := .cons Qp.con (.cons Q1p.con .nil)
noncomputable def Q0c.c := cx Q0c.s [22] [] [(4, [0, 1, 5, 6, 7])] false (Q0c.gs _)
noncomputable def Q0c (x0 : List Int) (x1 : Int) : Option (List (List Int)) := fnW Q0c.s Q0c.c (x0, x1)
theorem Q0c.fok : FkS Q0c.s 145 := ⟨Tryz.func145, by kernel_rfl, by kernel_rfl⟩
noncomputable def Q0c.fn (x : Args tab Q0c.s.ar) : Option (ResT tab Q0c.s.rs) := Q0c x.1 x.2
noncomputable abbrev Q0c.k {δ : Type} : Callee (GT tab) δ := kS Q0c.s Q0c.fn
theorem Q0c.con {δ : Type} : Con Tryz.prog (KT tab) 145 (Q0c.k (δ := δ)) := Q5 (c := Q0c.c) mixed Q0 (Q1 (Q0c.gok _)) Q0c.fok rfl rfl fun _ => rfl
noncomputable def Q0c_l0 (v0 : List Int) (v1 v2 : Int) (v3 : List Int) (v4 : List (List Int)) : Option (List (List Int)) := lpW Q0c.s Q0c.c 0 (ud 20 [.vs false 5 v0, .int .i64 v1, .undef, .undef, .undef, .sl 0 0, .sl 1 0, .int .i64 v2]) [.row 0 true 3 v3, .row 0 false 22 v4] 2
theorem Q0c.eq (x0 : List Int) (x1 : Int) : Q0c x0 x1 =
 (Qp x0).bind fun y1 =>
 Q0c_l0 x0 x1 (0 : Int) y1 ([] : List (List Int)) := by kernel_rfl
theorem Q0c_l0.eq (v0 : List Int) (v1 v2 : Int) (v3 : List Int) (v4 : List (List Int)) : Q0c_l0 v0 v1 v2 v3 v4 =
 bif decide (v2 < (v3.length : Int)) then
 (at? v3 v2).bind fun y1 =>
 v3[v2.toNat]?.bind fun y2 =>
 (Q1p v0 y2 v1).bind fun y3 =>
 bif decide ((v4.length + ([y3] : List (List Int)).length) * 24 ≤ 140737488355328) then
 Q0c_l0 v0 v1 (IntKind.i64.wrap (v2 + (1 : Int))) v3 (v4 ++ ([y3] : List (List Int)))
 else
 none
 else
 some v4 := (Q6 Q0 (Q1 (Q0c.gok _)) _ _).trans (by kernel_rfl)
noncomputable abbrev Q00.s : Sg := ⟨[.lend, .lend], [vl 22, vl 5], ⟨[vi, vi], [none, none]⟩, Tryz.f146⟩
noncomputable def Q00.gs (δ : Type) : List (Nat × Callee (GT tab) δ) := [(136, Qs.k)]
theorem Q00.gok (δ : Type) : Q4 Tryz.prog tab (Q00.gs δ) := .cons Qs.con .nil
noncomputable def Q00.c := cx Q00.s [] [] [(4, [0, 1, 6, 7, 8])] false (Q00.gs _)
noncomputable def Q00 (x0 : List (List Int)) (x1 : List Int) : Option (Int × Int) := fnW Q00.s Q00.c (x0, x1)
theorem Q00.fok : FkS Q00.s 146 := ⟨Tryz.func146, by kernel_rfl, by kernel_rfl⟩
noncomputable def Q00.fn (x : Args tab Q00.s.ar) : Option (ResT tab Q00.s.rs) := Q00 x.1 x.2
noncomputable abbrev Q00.k {δ : Type} : Callee (GT tab) δ := kS Q00.s Q00.fn
theorem Q00.con {δ : Type} : Con Tryz.prog (KT tab) 146 (Q00.k (δ := δ)) := Q5 (c := Q00.c) mixed Q0 (Q1 (Q00.gok _)) Q00.fok rfl rfl fun _ => rfl
noncomputable def Q00_l0 (v0 : List (List Int)) (v1 : List Int) (v2 v3 v4 : Int) : Option (Int × Int) := lpW Q00.s Q00.c 0 (ud 23 [.vs false 22 v0, .vs false 5 v1, .undef, .undef, .undef, .undef, .int .i64 v2, .int .i64 v3, .int .i64 v4]) [] 0
theorem Q00.eq (x0 : List (List Int)) (x1 : List Int) : Q00 x0 x1 =
 Q00_l0 x0 x1 (0 : Int) (0 : Int) (0 : Int) := by kernel_rfl
theorem Q00_l0.eq (v0 : List (List Int)) (v1 : List Int) (v2 v3 v4 : Int) : Q00_l0 v0 v1 v2 v3 v4 =
 bif decide (v4 < (v0.length : Int)) then
 (at? v0 v4).bind fun y1 =>
 (Qs y1 v1).bind fun y2 =>
 bif decide (y2 < (0 : Int)) then
 bif decide (y2 ≤ (0 : Int)) then
 Q00_l0 v0 v1 (IntKind.i64.wrap (v2 + (1 : Int))) (IntKind.i64.wrap (v3 + (1 : Int))) (IntKind.i64.wrap (v4 + (1 : Int)))
 else
 Q00_l0 v0 v1 (IntKind.i64.wrap (v2 + (1 : Int))) v3 (IntKind.i64.wrap (v4 + (1 : Int)))
 else
 bif decide (y2 ≤ (0 : Int)) then
 Q00_l0 v0 v1 v2 (IntKind.i64.wrap (v3 + (1 : Int))) (IntKind.i64.wrap (v4 + (1 : Int)))
 else
 Q00_l0 v0 v1 v2 v3 (IntKind.i64.wrap (v4 + (1 : Int)))
 else
 some (v2, v3) := (Q6 Q0 (Q1 (Q00.gok _)) _ _).trans (by kernel_rfl)
noncomputable abbrev Qf.s : Sg := ⟨[.lend, .lend, .lend], [vl 5, vl 5, vi], ⟨[vl 137], [none, none, none]⟩, Tryz.f106⟩
noncomputable def Qf.gs (δ : Type) : List (Nat × Callee (GT tab) δ) := [(42, Q0X.k), (136, Qs.k), (145, Q0c.k), (146, Q00.k)]
theorem Qf.gok (δ : Type) : Q4 Tryz.prog tab (Qf.gs δ) := .cons Q0X.con (.cons Qs.con (.cons Q0c.con (.cons Q00.con .nil)))
noncomputable def Qf.c := cx Qf.s [22] [] [(8, [7, 8, 9, 10, 11]), (12, [7, 8, 9, 10, 11, 12, 13]), (20, [7, 8, 10, 15, 16])] false (Qf.gs _)
noncomputable def Qf (x0 x1 : List Int) (x2 : Int) : Option (List ((List Int) × Int × Int × Int × Int)) := fnW Qf.s Qf.c (x0, x1, x2)
theorem Qf.fok : FkS Qf.s 106 := ⟨Tryz.func106, by kernel_rfl, by kernel_rfl⟩
noncomputable def Qf.fn (x : Args tab Qf.s.ar) : Option (ResT tab Qf.s.rs) := Qf x.1 x.2.1 x.2.2
noncomputable abbrev Qf.k {δ : Type} : Callee (GT tab) δ := kS Qf.s Qf.fn
theorem Qf.con {δ : Type} : Con Tryz.prog (KT tab) 106 (Qf.k (δ := δ)) := Q5 (c := Qf.c) mixed Q0 (Q1 (Qf.gok _)) Qf.fok rfl rfl fun _ => rfl
noncomputable def Qf_l0 (v0 : Int) (v1 v2 v3 v4 : List (List Int)) : Option (List ((List Int) × Int × Int × Int × Int)) := lpW Qf.s Qf.c 0 (ud 119 [.undef, .undef, .undef, .undef, .undef, .undef, .undef, .sl 0 0, .sl 1 0, .sl 2 0, .sl 3 0, .int .i64 v0]) [.row 0 false 22 v1, .row 0 false 22 v2, .row 0 false 22 v3, .row 0 false 22 v4] 4
noncomputable def Qf_l1 (v0 v1 : Int) (v2 : Bool) (v3 v4 v5 v6 : List (List Int)) : Option (List ((List Int) × Int × Int × Int × Int)) := lpW Qf.s Qf.c 1 (ud 117 [.undef, .undef, .undef, .undef, .undef, .undef, .undef, .sl 0 0, .sl 1 0, .sl 2 0, .sl 3 0, .int .i64 v0, .int .i64 v1, .bool v2]) [.row 0 false 22 v3, .row 0 false 22 v4, .row 0 false 22 v5, .row 0 false 22 v6] 4
noncomputable def Qf_l2 (v0 : Int) (v1 v2 v3 : List (List Int)) (v4 : List ((List Int) × Int × Int × Int × Int)) : Option (List ((List Int) × Int × Int × Int × Int)) := lpW Qf.s Qf.c 2 (ud 114 [.undef, .undef, .undef, .undef, .undef, .undef, .undef, .sl 0 0, .sl 1 0, .undef, .sl 2 0, .undef, .undef, .undef, .undef, .sl 3 0, .int .i64 v0]) [.row 0 false 22 v1, .row 0 false 22 v2, .row 0 false 22 v3, .row 0 true 137 v4] 4
theorem Qf.eq (x0 x1 : List Int) (x2 : Int) : Qf x0 x1 x2 =
 (Q0X x0 x1 x2).bind fun y1 =>
 bif !y1 then
 some ([] : List ((List Int) × Int × Int × Int × Int))
 else
 (Q0c x0 x2).bind fun y2 =>
 (Q0c x1 x2).bind fun y3 =>
 bif decide ((([] : List (List Int)).length + y2.length) * 24 ≤ 140737488355328) then
 bif decide (((([] : List (List Int)) ++ y2).length + y3.length) * 24 ≤ 140737488355328) then
 Qf_l0 (0 : Int) y2 y3 ((([] : List (List Int)) ++ y2) ++ y3) ([] : List (List Int))
 else
 none
 else
 none := by kernel_rfl
theorem Qf_l0.eq (v0 : Int) (v1 v2 v3 v4 : List (List Int)) : Qf_l0 v0 v1 v2 v3 v4 =
 bif decide (v0 < (v3.length : Int)) then
 Qf_l1 v0 (0 : Int) false v1 v2 v3 v4
 else
 Qf_l2 (0 : Int) v1 v2 v4 ([] : List ((List Int) × Int × Int × Int × Int)) := (Q6 Q0 (Q1 (Qf.gok _)) _ _).trans (by kernel_rfl)
theorem Qf_l1.eq (v0 v1 : Int) (v2 : Bool) (v3 v4 v5 v6 : List (List Int)) : Qf_l1 v0 v1 v2 v3 v4 v5 v6 =
 bif decide (v1 < (v6.length : Int)) then
 (at? v6 v1).bind fun y1 =>
 v6[v1.toNat]?.bind fun y2 =>
 (at? v5 v0).bind fun y3 =>
 v5[v0.toNat]?.bind fun y4 =>
 (Qs y2 y4).bind fun y5 =>
 bif decide (y5 ≤ (0 : Int)) then
 bif v2 then
 Qf_l1 v0 (IntKind.i64.wrap (v1 + (1 : Int))) true v3 v4 v5 v6
 else
 (at? v6 v1).bind fun y6 =>
 v6[v1.toNat]?.bind fun y7 =>
 (at? v5 v0).bind fun y8 =>
 v5[v0.toNat]?.bind fun y9 =>
 (Qs y7 y9).bind fun y10 =>
 Qf_l1 v0 (IntKind.i64.wrap (v1 + (1 : Int))) (y10 == (0 : Int)) v3 v4 v5 v6
 else
 bif !v2 then
 (at? v5 v0).bind fun y11 =>
 v5[v0.toNat]?.bind fun y12 =>
 bif decide (0 ≤ v1 ∧ v1 ≤ ((v6.length : Nat) : Int)) then
 bif decide ((([y12] : List (List Int)).length + ((v6.drop v1.toNat).take (v6.length - v1.toNat)).length) * 24 ≤ 140737488355328) then
 bif decide (0 ≤ v1 ∧ v1 ≤ ((v6.length : Nat) : Int)) then
 bif decide ((([] : List (List Int)).length + ((v6.drop 0).take (v1.toNat - 0)).length) * 24 ≤ 140737488355328) then
 bif decide (((([] : List (List Int)) ++ ((v6.drop 0).take (v1.toNat - 0))).length + (([y12] : List (List Int)) ++ ((v6.drop v1.toNat).take (v6.length - v1.toNat))).length) * 24 ≤ 140737488355328) then
 Qf_l0 (IntKind.i64.wrap (v0 + (1 : Int))) v3 v4 v5 ((([] : List (List Int)) ++ ((v6.drop 0).take (v1.toNat - 0))) ++ (([y12] : List (List Int)) ++ ((v6.drop v1.toNat).take (v6.length - v1.toNat))))
 else
 none
 else
 none
 else
 none
 else
 none
 else
 none
 else
 Qf_l0 (IntKind.i64.wrap (v0 + (1 : Int))) v3 v4 v5 v6
 else
 bif !v2 then
 (at? v5 v0).bind fun y13 =>
 v5[v0.toNat]?.bind fun y14 =>
 bif decide (0 ≤ v1 ∧ v1 ≤ ((v6.length : Nat) : Int)) then
 bif decide ((([y14] : List (List Int)).length + ((v6.drop v1.toNat).take (v6.length - v1.toNat)).length) * 24 ≤ 140737488355328) then
 bif decide (0 ≤ v1 ∧ v1 ≤ ((v6.length : Nat) : Int)) then
 bif decide ((([] : List (List Int)).length + ((v6.drop 0).take (v1.toNat - 0)).length) * 24 ≤ 140737488355328) then
 bif decide (((([] : List (List Int)) ++ ((v6.drop 0).take (v1.toNat - 0))).length + (([y14] : List (List Int)) ++ ((v6.drop v1.toNat).take (v6.length - v1.toNat))).length) * 24 ≤ 140737488355328) then
 Qf_l0 (IntKind.i64.wrap (v0 + (1 : Int))) v3 v4 v5 ((([] : List (List Int)) ++ ((v6.drop 0).take (v1.toNat - 0))) ++ (([y14] : List (List Int)) ++ ((v6.drop v1.toNat).take (v6.length - v1.toNat))))
 else
 none
 else
 none
 else
 none
 else
 none
 else
 none
 else
 Qf_l0 (IntKind.i64.wrap (v0 + (1 : Int))) v3 v4 v5 v6 := (Q6 Q0 (Q1 (Qf.gok _)) _ _).trans (by kernel_rfl)
theorem Qf_l2.eq (v0 : Int) (v1 v2 v3 : List (List Int)) (v4 : List ((List Int) × Int × Int × Int × Int)) : Qf_l2 v0 v1 v2 v3 v4 =
 bif decide (v0 < (v3.length : Int)) then
 (at? v3 v0).bind fun y1 =>
 v3[v0.toNat]?.bind fun y2 =>
 bif decide ((([] : List Int).length + y2.length) * 1 ≤ 140737488355328) then
 (at? v3 v0).bind fun y3 =>
 v3[v0.toNat]?.bind fun y4 =>
 (Q00 v1 y4).bind fun y5 =>
 (at? v3 v0).bind fun y6 =>
 v3[v0.toNat]?.bind fun y7 =>
 (Q00 v2 y7).bind fun y8 =>
 bif decide ((v4.length + ([(([] : List Int) ++ y2, y5.1, y5.2, y8.1, y8.2)] : List ((List Int) × Int × Int × Int × Int)).length) * 56 ≤ 140737488355328) then
 Qf_l2 (IntKind.i64.wrap (v0 + (1 : Int))) v1 v2 v3 (v4 ++ ([(([] : List Int) ++ y2, y5.1, y5.2, y8.1, y8.2)] : List ((List Int) × Int × Int × Int × Int)))
 else
 none
 else
 none
 else
 some v4 := (Q6 Q0 (Q1 (Qf.gok _)) _ _).trans (by kernel_rfl)
noncomputable abbrev Q0P.s : Sg := ⟨[.lend], [vl 3], ⟨[vb], [none]⟩, Tryz.f182⟩
noncomputable def Q0P.gs (δ : Type) : List (Nat × Callee (GT tab) δ) := []
theorem Q0P.gok (δ : Type) : Q4 Tryz.prog tab (Q0P.gs δ) := .nil
noncomputable def Q0P.c := cx Q0P.s [] [] [] false (Q0P.gs _)
noncomputable def Q0P (x0 : List Int) : Option (Bool) := fnW Q0P.s Q0P.c x0
theorem Q0P.fok : FkS Q0P.s 182 := ⟨Tryz.func182, by kernel_rfl, by kernel_rfl⟩
noncomputable def Q0P.fn (x : Args tab Q0P.s.ar) : Option (ResT tab Q0P.s.rs) := Q0P x
noncomputable abbrev Q0P.k {δ : Type} : Callee (GT tab) δ := kS Q0P.s Q0P.fn
theorem Q0P.con {δ : Type} : Con Tryz.prog (KT tab) 182 (Q0P.k (δ := δ)) := Q5 (c := Q0P.c) mixed Q0 (Q1 (Q0P.gok _)) Q0P.fok rfl rfl fun _ => rfl
theorem Q0P.eq (x0 : List Int) : Q0P x0 =
 some (decide ((x0.length : Int) ≤ (301 : Int))) := by kernel_rfl
def Q1Y.ms : List Mode := [.lend, .lend]
def Q1Y.as : List VSh := [.one (.b (.b (.b (.b (.sl false false 3))))), .one (.b (.b (.b (.b (.sl false false 3)))))]
def Q1Y.rs : RSh := ⟨[.one (.b (.b (.b (.b (.sl false false 24)))))], [none, none]⟩
noncomputable def Q1Y (x0 : List Int) (x1 : List Int) : Option (List (List Int)) := (tableC fS (List.map (fun x => x) x0) (List.map (fun x => x) x1)).map (List.map fun x => x)
noncomputable def Q1Y.fn : Args tab Q1Y.as → Option (ResT tab Q1Y.rs) := fun x => Q1Y x.1 x.2
noncomputable abbrev Q1Y.k {δ : Type} : Callee (GT tab) δ := Q1U tab Q1Y.ms Q1Y.as Q1Y.rs Q1Y.fn
theorem Q1Y.con {δ : Type} : Con Tryz.prog (KT tab) 183 (Q1Y.k (δ := δ)) := con_table (l := tab) Tryz.func183 (by kernel_rfl) rfl It.T183.tableOk (e := 24) (e3 := 3) (g := fun x => x) (g' := fun x => x) (h := fun x => x) rfl (fun _ => rfl) (fun ys => Eq.trans rfl (congrArg (fun z => [T.sl false false 3 z]) (List.map_id ys).symm))
noncomputable abbrev Q1q.s : Sg := ⟨[.lend, .lend], [vl 3, vl 3], ⟨[vi], [none, none]⟩, Tryz.f147⟩
noncomputable def Q1q.gs (δ : Type) : List (Nat × Callee (GT tab) δ) := [(182, Q0P.k), (183, Q1Y.k)]
theorem Q1q.gok (δ : Type) : Q4 Tryz.prog tab (Q1q.gs δ) := .cons Q0P.con (.cons Q1Y.con .nil)
noncomputable def Q1q.c := cx Q1q.s [] [] [] false (Q1q.gs _)
noncomputable def Q1q (x0 x1 : List Int) : Option (Int) := fnW Q1q.s Q1q.c (x0, x1)
theorem Q1q.fok : FkS Q1q.s 147 := ⟨Tryz.func147, by kernel_rfl, by kernel_rfl⟩
noncomputable def Q1q.fn (x : Args tab Q1q.s.ar) : Option (ResT tab Q1q.s.rs) := Q1q x.1 x.2
noncomputable abbrev Q1q.k {δ : Type} : Callee (GT tab) δ := kS Q1q.s Q1q.fn
theorem Q1q.con {δ : Type} : Con Tryz.prog (KT tab) 147 (Q1q.k (δ := δ)) := Q5 (c := Q1q.c) mixed Q0 (Q1 (Q1q.gok _)) Q1q.fok rfl rfl fun _ => rfl
theorem Q1q.eq (x0 x1 : List Int) : Q1q x0 x1 =
 (Q0P x0).bind fun y1 =>
 bif !y1 then
 some (-1 : Int)
 else
 (Q0P x1).bind fun y2 =>
 bif !y2 then
 some (-1 : Int)
 else
 (Q1Y x0 x1).bind fun y3 =>
 (at? y3 (0 : Int)).bind fun y4 =>
 (at? y4 (0 : Int)).bind fun y5 =>
 some y5 := by kernel_rfl
noncomputable abbrev Qe.s : Sg := ⟨[.lend, .lend], [vl 3, vl 3], ⟨[vo 140], [none, none]⟩, Tryz.f148⟩
noncomputable def Qe.gs (δ : Type) : List (Nat × Callee (GT tab) δ) := [(182, Q0P.k), (183, Q1Y.k)]
theorem Qe.gok (δ : Type) : Q4 Tryz.prog tab (Qe.gs δ) := .cons Q0P.con (.cons Q1Y.con .nil)
noncomputable def Qe.c := cx Qe.s [] [3] [(3, [0, 1]), (7, [0, 1, 5, 6, 7, 8]), (10, [0, 1, 5, 6, 7, 8, 9, 10]), (12, [0, 1, 5, 6, 7, 8, 9, 10, 11])] false (Qe.gs _)
noncomputable def Qe (x0 x1 : List Int) : Option (List (Int × Int)) := fnW Qe.s Qe.c (x0, x1)
theorem Qe.fok : FkS Qe.s 148 := ⟨Tryz.func148, by kernel_rfl, by kernel_rfl⟩
noncomputable def Qe.fn (x : Args tab Qe.s.ar) : Option (ResT tab Qe.s.rs) := Qe x.1 x.2
noncomputable abbrev Qe.k {δ : Type} : Callee (GT tab) δ := kS Qe.s Qe.fn
theorem Qe.con {δ : Type} : Con Tryz.prog (KT tab) 148 (Qe.k (δ := δ)) := Q5 (c := Qe.c) mixed Q0 (Q1 (Qe.gok _)) Qe.fok rfl rfl fun _ => rfl
noncomputable def Qe_l0 (v0 v1 : List Int) : Option (List (Int × Int)) := lpW Qe.s Qe.c 0 (ud 84 [.vs false 3 v0, .vs false 3 v1]) [] 0
noncomputable def Qe_l1 (v0 v1 : List Int) (v2 : List (List Int)) (v3 v4 : Int) (v5 : List (Int × Int)) : Option (List (Int × Int)) := lpW Qe.s Qe.c 1 (ud 77 [.vs false 3 v0, .vs false 3 v1, .undef, .undef, .undef, .vs false 24 v2, .sl 0 0, .int .i64 v3, .int .i64 v4]) [.row 0 true 140 v5] 1
noncomputable def Qe_l2 (v0 v1 : List Int) (v2 : List (List Int)) (v3 v4 v5 v6 : Int) (v7 : List (Int × Int)) : Option (List (Int × Int)) := lpW Qe.s Qe.c 2 (ud 75 [.vs false 3 v0, .vs false 3 v1, .undef, .undef, .undef, .vs false 24 v2, .sl 0 0, .int .i64 v3, .int .i64 v4, .int .i64 v5, .int .i64 v6]) [.row 0 true 140 v7] 1
noncomputable def Qe_l3 (v0 v1 : List Int) (v2 : List (List Int)) (v3 v4 v5 v6 v7 : Int) (v8 : List (Int × Int)) : Option (List (Int × Int)) := lpW Qe.s Qe.c 3 (ud 74 [.vs false 3 v0, .vs false 3 v1, .undef, .undef, .undef, .vs false 24 v2, .sl 0 0, .int .i64 v3, .int .i64 v4, .int .i64 v5, .int .i64 v6, .int .i64 v7]) [.row 0 true 140 v8] 1
theorem Qe.eq (x0 x1 : List Int) : Qe x0 x1 =
 (Q0P x0).bind fun y1 =>
 bif !y1 then
 some ([] : List (Int × Int))
 else
 (Q0P x1).bind fun y2 =>
 bif !y2 then
 some ([] : List (Int × Int))
 else
 Qe_l0 x0 x1 := by kernel_rfl
theorem Qe_l0.eq (v0 v1 : List Int) : Qe_l0 v0 v1 =
 (Q1Y v0 v1).bind fun y1 =>
 Qe_l1 v0 v1 y1 (0 : Int) (0 : Int) ([] : List (Int × Int)) := (Q6 Q0 (Q1 (Qe.gok _)) _ _).trans (by kernel_rfl)
theorem Qe_l1.eq (v0 v1 : List Int) (v2 : List (List Int)) (v3 v4 : Int) (v5 : List (Int × Int)) : Qe_l1 v0 v1 v2 v3 v4 v5 =
 (at? v2 v3).bind fun y1 =>
 (at? y1 v4).bind fun y2 =>
 bif decide (y2 > (0 : Int)) then
 Qe_l2 v0 v1 v2 v3 v4 v3 (-1 : Int) v5
 else
 some v5 := (Q6 Q0 (Q1 (Qe.gok _)) _ _).trans (by kernel_rfl)
theorem Qe_l2.eq (v0 v1 : List Int) (v2 : List (List Int)) (v3 v4 v5 v6 : Int) (v7 : List (Int × Int)) : Qe_l2 v0 v1 v2 v3 v4 v5 v6 v7 =
 bif decide (v6 < (0 : Int)) then
 Qe_l3 v0 v1 v2 v3 v4 v5 v6 (IntKind.i64.wrap ((v1.length : Int) - (1 : Int))) v7
 else
 bif decide ((v7.length + ([(IntKind.i64.wrap (v5 - (1 : Int)), v6)] : List (Int × Int)).length) * 16 ≤ 140737488355328) then
 Qe_l1 v0 v1 v2 v5 (IntKind.i64.wrap (v6 + (1 : Int))) (v7 ++ ([(IntKind.i64.wrap (v5 - (1 : Int)), v6)] : List (Int × Int)))
 else
 none := (Q6 Q0 (Q1 (Qe.gok _)) _ _).trans (by kernel_rfl)
theorem Qe_l3.eq (v0 v1 : List Int) (v2 : List (List Int)) (v3 v4 v5 v6 v7 : Int) (v8 : List (Int × Int)) : Qe_l3 v0 v1 v2 v3 v4 v5 v6 v7 v8 =
 bif decide (v7 ≥ v4) then
 (at? v0 v5).bind fun y1 =>
 (at? v1 v7).bind fun y2 =>
 bif y1 == y2 then
 (at? v2 (IntKind.i64.wrap (v5 + (1 : Int)))).bind fun y3 =>
 (at? y3 (IntKind.i64.wrap (v7 + (1 : Int)))).bind fun y4 =>
 (at? v2 v3).bind fun y5 =>
 (at? y5 v4).bind fun y6 =>
 bif IntKind.i64.wrap ((1 : Int) + y4) == y6 then
 Qe_l3 v0 v1 v2 v3 v4 v5 v7 (IntKind.i64.wrap (v7 - (1 : Int))) v8
 else
 Qe_l3 v0 v1 v2 v3 v4 v5 v6 (IntKind.i64.wrap (v7 - (1 : Int))) v8
 else
 Qe_l3 v0 v1 v2 v3 v4 v5 v6 (IntKind.i64.wrap (v7 - (1 : Int))) v8
 else
 Qe_l2 v0 v1 v2 v3 v4 (IntKind.i64.wrap (v5 + (1 : Int))) v6 v8 := (Q6 Q0 (Q1 (Qe.gok _)) _ _).trans (by kernel_rfl)
noncomputable abbrev Q16.s : Sg := ⟨[.lend, .lend, .lend], [vl 3, vl 3, vi], ⟨[vo 140], [none, none, none]⟩, Tryz.f107⟩
noncomputable def Q16.gs (δ : Type) : List (Nat × Callee (GT tab) δ) := [(147, Q1q.k), (148, Qe.k)]
theorem Q16.gok (δ : Type) : Q4 Tryz.prog tab (Q16.gs δ) := .cons Q1q.con (.cons Qe.con .nil)
noncomputable def Q16.c := cx Q16.s [] [] [] false (Q16.gs _)
noncomputable def Q16 (x0 x1 : List Int) (x2 : Int) : Option (List (Int × Int)) := fnW Q16.s Q16.c (x0, x1, x2)
theorem Q16.fok : FkS Q16.s 107 := ⟨Tryz.func107, by kernel_rfl, by kernel_rfl⟩
noncomputable def Q16.fn (x : Args tab Q16.s.ar) : Option (ResT tab Q16.s.rs) := Q16 x.1 x.2.1 x.2.2
noncomputable abbrev Q16.k {δ : Type} : Callee (GT tab) δ := kS Q16.s Q16.fn
theorem Q16.con {δ : Type} : Con Tryz.prog (KT tab) 107 (Q16.k (δ := δ)) := Q5 (c := Q16.c) mixed Q0 (Q1 (Q16.gok _)) Q16.fok rfl rfl fun _ => rfl
theorem Q16.eq (x0 x1 : List Int) (x2 : Int) : Q16 x0 x1 x2 =
 (Q1q x0 x1).bind fun y1 =>
 bif decide (y1 < (0 : Int)) then
 some ([] : List (Int × Int))
 else
 bif decide (IntKind.i64.wrap ((IntKind.i64.wrap ((x0.length : Int) + (x1.length : Int))) - (IntKind.i64.wrap ((2 : Int) * y1))) > x2) then
 some ([] : List (Int × Int))
 else
 (Qe x0 x1).bind fun y2 =>
 some y2 := by kernel_rfl
noncomputable abbrev QB.s : Sg := ⟨[.lend, .lend, .lend, .lend], [vl 5, vl 5, vi, vi], ⟨[vo 140], [none, none, none, none]⟩, Tryz.f45⟩
noncomputable def QB.gs (δ : Type) : List (Nat × Callee (GT tab) δ) := [(88, Qv.k), (106, Qf.k), (107, Q16.k)]
theorem QB.gok (δ : Type) : Q4 Tryz.prog tab (QB.gs δ) := .cons Qv.con (.cons Qf.con (.cons Q16.con .nil))
noncomputable def QB.c := cx QB.s [] [] [(6, [3, 9, 10, 11, 12, 13]), (11, [3, 9, 10, 11, 12, 13, 14, 15, 16])] false (QB.gs _)
noncomputable def QB (x0 x1 : List Int) (x2 x3 : Int) : Option (List (Int × Int)) := fnW QB.s QB.c (x0, x1, x2, x3)
theorem QB.fok : FkS QB.s 45 := ⟨Tryz.func45, by kernel_rfl, by kernel_rfl⟩
noncomputable def QB.fn (x : Args tab QB.s.ar) : Option (ResT tab QB.s.rs) := QB x.1 x.2.1 x.2.2.1 x.2.2.2
noncomputable abbrev QB.k {δ : Type} : Callee (GT tab) δ := kS QB.s QB.fn
theorem QB.con {δ : Type} : Con Tryz.prog (KT tab) 45 (QB.k (δ := δ)) := Q5 (c := QB.c) mixed Q0 (Q1 (QB.gok _)) QB.fok rfl rfl fun _ => rfl
noncomputable def QB_l0 (v0 : Int) (v1 : List ((List Int) × Int × Int × Int × Int)) (v2 : Int) (v3 : List (Int × Int)) (v4 v5 : List Int) : Option (List (Int × Int)) := lpW QB.s QB.c 0 (ud 63 [.undef, .undef, .undef, .int .i64 v0, .undef, .undef, .undef, .undef, .undef, .sl 0 0, .vs false 137 v1, .sl 1 0, .sl 2 0, .int .i64 v2]) [.row 0 true 140 v3, .row 0 true 3 v4, .row 0 true 3 v5] 3
noncomputable def QB_l1 (v0 : Int) (v1 : List ((List Int) × Int × Int × Int × Int)) (v2 v3 : Int) (v4 : List (Int × Int)) (v5 v6 v7 : List Int) (v8 v9 v10 v11 : Int) (v12 : List (Int × Int)) : Option (List (Int × Int)) := lpW QB.s QB.c 1 (ud 60 [.undef, .undef, .undef, .int .i64 v0, .undef, .undef, .undef, .undef, .undef, .sl 0 0, .vs false 137 v1, .sl 1 0, .sl 2 0, .int .i64 v2, .ptr 3 0, .sl 4 0, .int .i64 v3]) [.row 0 true 140 v4, .row 0 true 3 v5, .row 0 true 3 v6, .box 137 [.vs false 5 v7, .int .i64 v8, .int .i64 v9, .int .i64 v10, .int .i64 v11], .row 0 true 140 v12] 5
theorem QB.eq (x0 x1 : List Int) (x2 x3 : Int) : QB x0 x1 x2 x3 =
 (Qf x0 x1 x2).bind fun y1 =>
 (Qv x0).bind fun y2 =>
 (Qv x1).bind fun y3 =>
 QB_l0 x3 y1 (0 : Int) ([] : List (Int × Int)) y2 y3 := by kernel_rfl
theorem QB_l0.eq (v0 : Int) (v1 : List ((List Int) × Int × Int × Int × Int)) (v2 : Int) (v3 : List (Int × Int)) (v4 v5 : List Int) : QB_l0 v0 v1 v2 v3 v4 v5 =
 bif decide (v2 < (v1.length : Int)) then
 (at? v1 v2).bind fun y1 =>
 bif decide (0 ≤ y1.2.2.1 ∧ y1.2.2.1 ≤ ((v4.length : Nat) : Int)) then
 bif decide (0 ≤ y1.2.1 ∧ y1.2.1 ≤ ((y1.2.2.1.toNat : Nat) : Int)) then
 bif decide (0 ≤ y1.2.2.2.2 ∧ y1.2.2.2.2 ≤ ((v5.length : Nat) : Int)) then
 bif decide (0 ≤ y1.2.2.2.1 ∧ y1.2.2.2.1 ≤ ((y1.2.2.2.2.toNat : Nat) : Int)) then
 (Q16 ((v4.drop y1.2.1.toNat).take (y1.2.2.1.toNat - y1.2.1.toNat)) ((v5.drop y1.2.2.2.1.toNat).take (y1.2.2.2.2.toNat - y1.2.2.2.1.toNat)) v0).bind fun y2 =>
 QB_l1 v0 v1 v2 (0 : Int) v3 v4 v5 y1.1 y1.2.1 y1.2.2.1 y1.2.2.2.1 y1.2.2.2.2 y2
 else
 none
 else
 none
 else
 none
 else
 none
 else
 some v3 := (Q6 Q0 (Q1 (QB.gok _)) _ _).trans (by kernel_rfl)
theorem QB_l1.eq (v0 : Int) (v1 : List ((List Int) × Int × Int × Int × Int)) (v2 v3 : Int) (v4 : List (Int × Int)) (v5 v6 v7 : List Int) (v8 v9 v10 v11 : Int) (v12 : List (Int × Int)) : QB_l1 v0 v1 v2 v3 v4 v5 v6 v7 v8 v9 v10 v11 v12 =
 bif decide (v3 < (v12.length : Int)) then
 (at? v12 v3).bind fun y1 =>
 v12[v3.toNat]?.bind fun y2 =>
 (at? v12 v3).bind fun y3 =>
 v12[v3.toNat]?.bind fun y4 =>
 bif decide ((v4.length + ([(IntKind.i64.wrap (y2.1 + v8), IntKind.i64.wrap (y4.2 + v10))] : List (Int × Int)).length) * 16 ≤ 140737488355328) then
 QB_l1 v0 v1 v2 (IntKind.i64.wrap (v3 + (1 : Int))) (v4 ++ ([(IntKind.i64.wrap (y2.1 + v8), IntKind.i64.wrap (y4.2 + v10))] : List (Int × Int))) v5 v6 v7 v8 v9 v10 v11 v12
 else
 none
 else
 QB_l0 v0 v1 (IntKind.i64.wrap (v2 + (1 : Int))) v4 v5 v6 := (Q6 Q0 (Q1 (QB.gok _)) _ _).trans (by kernel_rfl)
noncomputable abbrev QC.s : Sg := ⟨[.lend, .lend, .lend], [vi, vl 3, vl 140], ⟨[.agg [.int .i64, .sl true true 90, .int .i64, .sl true true 90, .sl true true 3]], [none, none, none]⟩, Tryz.f103⟩
noncomputable def QC.gs (δ : Type) : List (Nat × Callee (GT tab) δ) := [(92, Ql.k)]
theorem QC.gok (δ : Type) : Q4 Tryz.prog tab (QC.gs δ) := .cons Ql.con .nil
noncomputable def QC.c := cx QC.s [] [] [(4, [1, 2, 6, 7, 8, 9]), (12, [1, 6, 8, 10, 11])] false (QC.gs _)
noncomputable def QC (x0 : Int) (x1 : List Int) (x2 : List (Int × Int)) : Option (Int × (List Int) × Int × (List Int) × (List Int)) := fnW QC.s QC.c (x0, x1, x2)
theorem QC.fok : FkS QC.s 103 := ⟨Tryz.func103, by kernel_rfl, by kernel_rfl⟩
noncomputable def QC.fn (x : Args tab QC.s.ar) : Option (ResT tab QC.s.rs) := QC x.1 x.2.1 x.2.2
noncomputable abbrev QC.k {δ : Type} : Callee (GT tab) δ := kS QC.s QC.fn
theorem QC.con {δ : Type} : Con Tryz.prog (KT tab) 103 (QC.k (δ := δ)) := Q5 (c := QC.c) mixed Q0 (Q1 (QC.gok _)) QC.fok rfl rfl fun _ => rfl
noncomputable def QC_l0 (v0 : List Int) (v1 : List (Int × Int)) (v2 v3 v4 : Int) (v5 v6 v7 v8 v9 : List Int) : Option (Int × (List Int) × Int × (List Int) × (List Int)) := lpW QC.s QC.c 0 (ud 61 [.undef, .vs false 3 v0, .vs false 140 v1, .undef, .undef, .undef, .ptr 0 0, .sl 4 0, .sl 5 0, .int .i64 v2]) [.box 130 [.int .i64 v3, .sl 1 0, .int .i64 v4, .sl 2 0, .sl 3 0], .row 0 true 90 v5, .row 0 true 90 v6, .row 0 true 3 v7, .row 0 true 3 v8, .row 0 true 3 v9] 6
noncomputable def QC_l1 (v0 : List Int) (v1 v2 v3 : Int) (v4 v5 v6 v7 : List Int) (v8 v9 : Int) (v10 v11 v12 : List Int) : Option (Int × (List Int) × Int × (List Int) × (List Int)) := lpW QC.s QC.c 1 (ud 59 [.undef, .vs false 3 v0, .undef, .undef, .undef, .undef, .ptr 0 0, .undef, .sl 4 0, .undef, .ptr 5 0, .int .i64 v1]) [.box 130 [.int .i64 v2, .sl 1 0, .int .i64 v3, .sl 2 0, .sl 3 0], .row 0 true 90 v4, .row 0 true 90 v5, .row 0 true 3 v6, .row 0 true 3 v7, .box 130 [.int .i64 v8, .sl 6 0, .int .i64 v9, .sl 7 0, .sl 8 0], .row 0 true 90 v10, .row 0 true 90 v11, .row 0 true 3 v12] 9
theorem QC.eq (x0 : Int) (x1 : List Int) (x2 : List (Int × Int)) : QC x0 x1 x2 =
 bif decide ((0 : Int) ≤ x0) && decide (x0.toNat * 8 ≤ 140737488355328) then
 bif decide ((0 : Int) ≤ (x1.length : Int)) && decide (((x1.length : Int).toNat) * 8 ≤ 140737488355328) then
 QC_l0 x1 x2 (0 : Int) (0 : Int) (0 : Int) ([] : List Int) ([] : List Int) ([] : List Int) (List.replicate x0.toNat (0 : Int)) (List.replicate ((x1.length : Int).toNat) (0 : Int))
 else
 none
 else
 none := by kernel_rfl
theorem QC_l0.eq (v0 : List Int) (v1 : List (Int × Int)) (v2 v3 v4 : Int) (v5 v6 v7 v8 v9 : List Int) : QC_l0 v0 v1 v2 v3 v4 v5 v6 v7 v8 v9 =
 bif decide (v2 < (v1.length : Int)) then
 (at? v1 v2).bind fun y1 =>
 (at? v8 y1.1).bind fun y2 =>
 v8[y1.1.toNat]?.bind fun y3 =>
 (at? v1 v2).bind fun y4 =>
 (at? v9 y4.2).bind fun y5 =>
 v9[y4.2.toNat]?.bind fun y6 =>
 QC_l0 v0 v1 (IntKind.i64.wrap (v2 + (1 : Int))) v3 v4 v5 v6 v7 (v8.set y1.1.toNat (1 : Int)) (v9.set y4.2.toNat (1 : Int))
 else
 (Ql v8).bind fun y7 =>
 (Ql v9).bind fun y8 =>
 QC_l1 v0 (0 : Int) v3 v4 v5 v6 v7 v9 y7.1.1 y8.1.1 y7.1.2 y8.1.2 ([] : List Int) := (Q6 Q0 (Q1 (QC.gok _)) _ _).trans (by kernel_rfl)
theorem QC_l1.eq (v0 : List Int) (v1 v2 v3 : Int) (v4 v5 v6 v7 : List Int) (v8 v9 : Int) (v10 v11 v12 : List Int) : QC_l1 v0 v1 v2 v3 v4 v5 v6 v7 v8 v9 v10 v11 v12 =
 bif decide (v1 < (v0.length : Int)) then
 (at? v7 v1).bind fun y1 =>
 v7[v1.toNat]?.bind fun y2 =>
 bif y2 == (0 : Int) then
 (at? v0 v1).bind fun y3 =>
 bif decide ((v12.length + ([y3] : List Int).length) * 8 ≤ 140737488355328) then
 QC_l1 v0 (IntKind.i64.wrap (v1 + (1 : Int))) v2 v3 v4 v5 v6 v7 v8 v9 v10 v11 (v12 ++ ([y3] : List Int))
 else
 none
 else
 QC_l1 v0 (IntKind.i64.wrap (v1 + (1 : Int))) v2 v3 v4 v5 v6 v7 v8 v9 v10 v11 v12
 else
 some (v8, v10, v9, v11, v12) := (Q6 Q0 (Q1 (QC.gok _)) _ _).trans (by kernel_rfl)
noncomputable abbrev Q0d.s : Sg := ⟨[.lend, .lend], [vl 3, vl 3], ⟨[vo 3], [none, none]⟩, Tryz.f104⟩
noncomputable def Q0d.gs (δ : Type) : List (Nat × Callee (GT tab) δ) := []
theorem Q0d.gok (δ : Type) : Q4 Tryz.prog tab (Q0d.gs δ) := .nil
noncomputable def Q0d.c := cx Q0d.s [] [] [(3, [0, 1, 5, 6])] false (Q0d.gs _)
noncomputable def Q0d (x0 x1 : List Int) : Option (List Int) := fnW Q0d.s Q0d.c (x0, x1)
theorem Q0d.fok : FkS Q0d.s 104 := ⟨Tryz.func104, by kernel_rfl, by kernel_rfl⟩
noncomputable def Q0d.fn (x : Args tab Q0d.s.ar) : Option (ResT tab Q0d.s.rs) := Q0d x.1 x.2
noncomputable abbrev Q0d.k {δ : Type} : Callee (GT tab) δ := kS Q0d.s Q0d.fn
theorem Q0d.con {δ : Type} : Con Tryz.prog (KT tab) 104 (Q0d.k (δ := δ)) := Q5 (c := Q0d.c) mixed Q0 (Q1 (Q0d.gok _)) Q0d.fok rfl rfl fun _ => rfl
noncomputable def Q0d_l0 (v0 v1 : List Int) (v2 : Int) (v3 : List Int) : Option (List Int) := lpW Q0d.s Q0d.c 0 (ud 20 [.vs false 3 v0, .vs false 3 v1, .undef, .undef, .undef, .sl 0 0, .int .i64 v2]) [.row 0 true 3 v3] 1
theorem Q0d.eq (x0 x1 : List Int) : Q0d x0 x1 =
 Q0d_l0 x0 x1 (0 : Int) ([] : List Int) := by kernel_rfl
theorem Q0d_l0.eq (v0 v1 : List Int) (v2 : Int) (v3 : List Int) : Q0d_l0 v0 v1 v2 v3 =
 bif decide (v2 < (v0.length : Int)) then
 (at? v1 v2).bind fun y1 =>
 bif y1 == (0 : Int) then
 (at? v0 v2).bind fun y2 =>
 bif decide ((v3.length + ([y2] : List Int).length) * 8 ≤ 140737488355328) then
 Q0d_l0 v0 v1 (IntKind.i64.wrap (v2 + (1 : Int))) (v3 ++ ([y2] : List Int))
 else
 none
 else
 Q0d_l0 v0 v1 (IntKind.i64.wrap (v2 + (1 : Int))) v3
 else
 some v3 := (Q6 Q0 (Q1 (Q0d.gok _)) _ _).trans (by kernel_rfl)
noncomputable abbrev Q1r.s : Sg := ⟨[.lend, .lend, .lend, .lend], [vl 5, vl 5, vl 140, vi], ⟨[.agg [.int .i64, .int .i64, .int .i64, .sl true true 90, .int .i64, .sl true true 90, .int .i64, .sl true true 3, .sl true true 30, .int .i64, .sl true true 3, .sl true true 30, .sl true true 3, .int .i64, .sl true true 90, .int .i64, .int .i64, .int .i64, .sl true true 90, .int .i64, .int .i64, .int .i64, .sl true true 90]], [none, none, none, none]⟩, Tryz.f44⟩
noncomputable def Q1r.gs (δ : Type) : List (Nat × Callee (GT tab) δ) := [(34, Qm.k), (88, Qv.k), (90, Qi.k), (103, QC.k), (104, Q0d.k), (105, Qn.k)]
theorem Q1r.gok (δ : Type) : Q4 Tryz.prog tab (Q1r.gs δ) := .cons Qm.con (.cons Qv.con (.cons Qi.con (.cons QC.con (.cons Q0d.con (.cons Qn.con .nil)))))
noncomputable def Q1r.c := cx Q1r.s [] [] [] false (Q1r.gs _)
noncomputable def Q1r (x0 x1 : List Int) (x2 : List (Int × Int)) (x3 : Int) : Option (Int × Int × Int × (List Int) × Int × (List Int) × Int × (List Int) × (List (Int × (List Int))) × Int × (List Int) × (List (Int × (List Int))) × (List Int) × Int × (List Int) × Int × Int × Int × (List Int) × Int × Int × Int × (List Int)) := fnW Q1r.s Q1r.c (x0, x1, x2, x3)
theorem Q1r.fok : FkS Q1r.s 44 := ⟨Tryz.func44, by kernel_rfl, by kernel_rfl⟩
noncomputable def Q1r.fn (x : Args tab Q1r.s.ar) : Option (ResT tab Q1r.s.rs) := Q1r x.1 x.2.1 x.2.2.1 x.2.2.2
noncomputable abbrev Q1r.k {δ : Type} : Callee (GT tab) δ := kS Q1r.s Q1r.fn
theorem Q1r.con {δ : Type} : Con Tryz.prog (KT tab) 44 (Q1r.k (δ := δ)) := Q5 (c := Q1r.c) mixed Q0 (Q1 (Q1r.gok _)) Q1r.fok rfl rfl fun _ => rfl
theorem Q1r.eq (x0 x1 : List Int) (x2 : List (Int × Int)) (x3 : Int) : Q1r x0 x1 x2 x3 =
 (Qm x1 x3).bind fun y1 =>
 (Qv x1).bind fun y2 =>
 (QC (IntKind.i64.wrap ((x0.length : Int) + (1 : Int))) y2 x2).bind fun y3 =>
 (Qv x0).bind fun y4 =>
 (Qn (y3.1, y3.2.1)).bind fun y5 =>
 (Q0d y4 y5).bind fun y6 =>
 (Qi y6).bind fun y7 =>
 (Qi y3.2.2.2.2).bind fun y8 =>
 some (y1.1.1, x3, y3.1, y3.2.1, y3.2.2.1, y3.2.2.2.1, y7.1.1, y7.1.2.1, y7.1.2.2, y8.1.1, y8.1.2.1, y8.1.2.2, y1.1.2.2.2.2.2.1, y1.1.2.2.2.2.2.2.1, y1.1.2.2.2.2.2.2.2.1, y1.1.2.2.2.2.2.2.2.2.1, y1.1.2.2.2.2.2.2.2.2.2.1, y1.1.2.2.2.2.2.2.2.2.2.2.1, y1.1.2.2.2.2.2.2.2.2.2.2.2.1, y1.1.2.2.2.2.2.2.2.2.2.2.2.2.1, y1.1.2.2.2.2.2.2.2.2.2.2.2.2.2.1, y1.1.2.2.2.2.2.2.2.2.2.2.2.2.2.2.1, y1.1.2.2.2.2.2.2.2.2.2.2.2.2.2.2.2) := by kernel_rfl
noncomputable abbrev Q0Q.s : Sg := ⟨[.lend, .lend, .lend, .lend, .lend], [.agg [.int .i64, .int .i64, .int .i64, .sl false false 3, .sl false false 30, .sl false false 3, .int .i64, .sl false false 90, .int .i64, .int .i64, .int .i64, .sl false false 90, .int .i64, .int .i64, .int .i64, .sl false false 90], vl 5, vi, vi, vi], ⟨[.agg [.int .i64, .int .i64, .int .i64, .sl true true 90, .int .i64, .sl true true 90, .int .i64, .sl true true 3, .sl true true 30, .int .i64, .sl true true 3, .sl true true 30, .sl true true 3, .int .i64, .sl true true 90, .int .i64, .int .i64, .int .i64, .sl true true 90, .int .i64, .int .i64, .int .i64, .sl true true 90], vb], [none, none, none, none, none]⟩, Tryz.f8⟩
noncomputable def Q0Q.gs (δ : Type) : List (Nat × Callee (GT tab) δ) := [(41, Q03.k), (42, Q0X.k), (43, Q0K.k), (44, Q1r.k), (45, QB.k)]
theorem Q0Q.gok (δ : Type) : Q4 Tryz.prog tab (Q0Q.gs δ) := .cons Q03.con (.cons Q0X.con (.cons Q0K.con (.cons Q1r.con (.cons QB.con .nil))))
noncomputable def Q0Q.c := cx Q0Q.s [] [] [] false (Q0Q.gs _)
noncomputable def Q0Q (x0 : Int × Int × Int × (List Int) × (List (Int × (List Int))) × (List Int) × Int × (List Int) × Int × Int × Int × (List Int) × Int × Int × Int × (List Int)) (x1 : List Int) (x2 x3 x4 : Int) : Option ((Int × Int × Int × (List Int) × Int × (List Int) × Int × (List Int) × (List (Int × (List Int))) × Int × (List Int) × (List (Int × (List Int))) × (List Int) × Int × (List Int) × Int × Int × Int × (List Int) × Int × Int × Int × (List Int)) × Bool) := fnW Q0Q.s Q0Q.c (x0, x1, x2, x3, x4)
theorem Q0Q.fok : FkS Q0Q.s 8 := ⟨Tryz.func8, by kernel_rfl, by kernel_rfl⟩
noncomputable def Q0Q.fn (x : Args tab Q0Q.s.ar) : Option (ResT tab Q0Q.s.rs) := Q0Q x.1 x.2.1 x.2.2.1 x.2.2.2.1 x.2.2.2.2
noncomputable abbrev Q0Q.k {δ : Type} : Callee (GT tab) δ := kS Q0Q.s Q0Q.fn
theorem Q0Q.con {δ : Type} : Con Tryz.prog (KT tab) 8 (Q0Q.k (δ := δ)) := Q5 (c := Q0Q.c) mixed Q0 (Q1 (Q0Q.gok _)) Q0Q.fok rfl rfl fun _ => rfl
theorem Q0Q.eq (x0 : Int × Int × Int × (List Int) × (List (Int × (List Int))) × (List Int) × Int × (List Int) × Int × Int × Int × (List Int) × Int × Int × Int × (List Int)) (x1 : List Int) (x2 x3 x4 : Int) : Q0Q x0 x1 x2 x3 x4 =
 (Q03 x0).bind fun y1 =>
 bif !y1.2 then
 some (((0 : Int), (0 : Int), (0 : Int), ([] : List Int), (0 : Int), ([] : List Int), (0 : Int), ([] : List Int), ([] : List (Int × (List Int))), (0 : Int), ([] : List Int), ([] : List (Int × (List Int))), ([] : List Int), (0 : Int), ([] : List Int), (0 : Int), (0 : Int), (0 : Int), ([] : List Int), (0 : Int), (0 : Int), (0 : Int), ([] : List Int)), false)
 else
 (Q0X y1.1 x1 x2).bind fun y2 =>
 bif !y2 then
 some (((0 : Int), (0 : Int), (0 : Int), ([] : List Int), (0 : Int), ([] : List Int), (0 : Int), ([] : List Int), ([] : List (Int × (List Int))), (0 : Int), ([] : List Int), ([] : List (Int × (List Int))), ([] : List Int), (0 : Int), ([] : List Int), (0 : Int), (0 : Int), (0 : Int), ([] : List Int), (0 : Int), (0 : Int), (0 : Int), ([] : List Int)), false)
 else
 (Q0K x4).bind fun y3 =>
 bif !y3 then
 some (((0 : Int), (0 : Int), (0 : Int), ([] : List Int), (0 : Int), ([] : List Int), (0 : Int), ([] : List Int), ([] : List (Int × (List Int))), (0 : Int), ([] : List Int), ([] : List (Int × (List Int))), ([] : List Int), (0 : Int), ([] : List Int), (0 : Int), (0 : Int), (0 : Int), ([] : List Int), (0 : Int), (0 : Int), (0 : Int), ([] : List Int)), false)
 else
 (QB y1.1 x1 x2 x3).bind fun y4 =>
 (Q1r y1.1 x1 y4 x4).bind fun y5 =>
 some (y5, true) := by kernel_rfl
noncomputable abbrev QD.s : Sg := ⟨[.lend, .lend, .lend], [vi, vi, vi], ⟨[vb], [none, none, none]⟩, Tryz.f58⟩
noncomputable def QD.gs (δ : Type) : List (Nat × Callee (GT tab) δ) := []
theorem QD.gok (δ : Type) : Q4 Tryz.prog tab (QD.gs δ) := .nil
noncomputable def QD.c := cx QD.s [] [] [] false (QD.gs _)
noncomputable def QD (x0 x1 x2 : Int) : Option (Bool) := fnW QD.s QD.c (x0, x1, x2)
theorem QD.fok : FkS QD.s 58 := ⟨Tryz.func58, by kernel_rfl, by kernel_rfl⟩
noncomputable def QD.fn (x : Args tab QD.s.ar) : Option (ResT tab QD.s.rs) := QD x.1 x.2.1 x.2.2
noncomputable abbrev QD.k {δ : Type} : Callee (GT tab) δ := kS QD.s QD.fn
theorem QD.con {δ : Type} : Con Tryz.prog (KT tab) 58 (QD.k (δ := δ)) := Q5 (c := QD.c) mixed Q0 (Q1 (QD.gok _)) QD.fok rfl rfl fun _ => rfl
theorem QD.eq (x0 x1 x2 : Int) : QD x0 x1 x2 =
 bif decide (x1 ≤ x0) then
 some (decide (x0 ≤ x2))
 else
 some false := by kernel_rfl
noncomputable abbrev Q0Y.s : Sg := ⟨[.lend], [.agg [.int .i64, .sl false false 90]], ⟨[vb], [none]⟩, Tryz.f150⟩
noncomputable def Q0Y.gs (δ : Type) : List (Nat × Callee (GT tab) δ) := [(58, QD.k)]
theorem Q0Y.gok (δ : Type) : Q4 Tryz.prog tab (Q0Y.gs δ) := .cons QD.con .nil
noncomputable def Q0Y.c := cx Q0Y.s [] [] [] false (Q0Y.gs _)
noncomputable def Q0Y (x0 : Int × (List Int)) : Option (Bool) := fnW Q0Y.s Q0Y.c x0
theorem Q0Y.fok : FkS Q0Y.s 150 := ⟨Tryz.func150, by kernel_rfl, by kernel_rfl⟩
noncomputable def Q0Y.fn (x : Args tab Q0Y.s.ar) : Option (ResT tab Q0Y.s.rs) := Q0Y x
noncomputable abbrev Q0Y.k {δ : Type} : Callee (GT tab) δ := kS Q0Y.s Q0Y.fn
theorem Q0Y.con {δ : Type} : Con Tryz.prog (KT tab) 150 (Q0Y.k (δ := δ)) := Q5 (c := Q0Y.c) mixed Q0 (Q1 (Q0Y.gok _)) Q0Y.fok rfl rfl fun _ => rfl
theorem Q0Y.eq (x0 : Int × (List Int)) : Q0Y x0 =
 (QD x0.1 (0 : Int) (5000 : Int)).bind fun y1 =>
 bif !y1 then
 some false
 else
 bif (x0.2.length : Int) != IntKind.i64.wrap ((IntKind.i64.wrap ((IntKind.i64.wrap (x0.1 + (64 : Int))) - (1 : Int))).tdiv (64 : Int)) then
 some false
 else
 bif x0.1.tmod (64 : Int) == (0 : Int) then
 some true
 else
 (at? x0.2 (IntKind.i64.wrap ((x0.2.length : Int) - (1 : Int)))).bind fun y2 =>
 bif decide (x0.1.tmod (64 : Int) < (0 : Int)) then
 none
 else
 some (y2.fdiv (2 ^ (min (x0.1.tmod (64 : Int)).toNat 64)) == (0 : Int)) := by kernel_rfl
noncomputable abbrev Q0Z.s : Sg := ⟨[.lend, .lend], [.agg [.int .i64, .sl false false 90], vi], ⟨[vi], [none, none]⟩, Tryz.f118⟩
noncomputable def Q0Z.gs (δ : Type) : List (Nat × Callee (GT tab) δ) := []
theorem Q0Z.gok (δ : Type) : Q4 Tryz.prog tab (Q0Z.gs δ) := .nil
noncomputable def Q0Z.c := cx Q0Z.s [] [] [] false (Q0Z.gs _)
noncomputable def Q0Z (x0 : Int × (List Int)) (x1 : Int) : Option (Int) := fnW Q0Z.s Q0Z.c (x0, x1)
theorem Q0Z.fok : FkS Q0Z.s 118 := ⟨Tryz.func118, by kernel_rfl, by kernel_rfl⟩
noncomputable def Q0Z.fn (x : Args tab Q0Z.s.ar) : Option (ResT tab Q0Z.s.rs) := Q0Z x.1 x.2
noncomputable abbrev Q0Z.k {δ : Type} : Callee (GT tab) δ := kS Q0Z.s Q0Z.fn
theorem Q0Z.con {δ : Type} : Con Tryz.prog (KT tab) 118 (Q0Z.k (δ := δ)) := Q5 (c := Q0Z.c) mixed Q0 (Q1 (Q0Z.gok _)) Q0Z.fok rfl rfl fun _ => rfl
theorem Q0Z.eq (x0 : Int × (List Int)) (x1 : Int) : Q0Z x0 x1 =
 (at? x0.2 (IntKind.i64.wrap (x1.tdiv (64 : Int)))).bind fun y1 =>
 bif decide (x1.tmod (64 : Int) < (0 : Int)) then
 none
 else
 some (IntKind.i64.wrap (IntKind.u64.wrap (((BitVec.ofInt 64 (y1.fdiv (2 ^ (min (x1.tmod (64 : Int)).toNat 64)))) &&& (BitVec.ofInt 64 (1 : Int))).toNat : Int))) := by kernel_rfl
noncomputable abbrev Q0i.s : Sg := ⟨[.lend], [.agg [.int .i64, .sl false false 90]], ⟨[vo 3], [none]⟩, Tryz.f53⟩
noncomputable def Q0i.gs (δ : Type) : List (Nat × Callee (GT tab) δ) := [(118, Q0Z.k)]
theorem Q0i.gok (δ : Type) : Q4 Tryz.prog tab (Q0i.gs δ) := .cons Q0Z.con .nil
noncomputable def Q0i.c := cx Q0i.s [] [] [(3, [1, 3, 6, 7])] false (Q0i.gs _)
noncomputable def Q0i (x0 : Int × (List Int)) : Option (List Int) := fnW Q0i.s Q0i.c x0
theorem Q0i.fok : FkS Q0i.s 53 := ⟨Tryz.func53, by kernel_rfl, by kernel_rfl⟩
noncomputable def Q0i.fn (x : Args tab Q0i.s.ar) : Option (ResT tab Q0i.s.rs) := Q0i x
noncomputable abbrev Q0i.k {δ : Type} : Callee (GT tab) δ := kS Q0i.s Q0i.fn
theorem Q0i.con {δ : Type} : Con Tryz.prog (KT tab) 53 (Q0i.k (δ := δ)) := Q5 (c := Q0i.c) mixed Q0 (Q1 (Q0i.gok _)) Q0i.fok rfl rfl fun _ => rfl
noncomputable def Q0i_l0 (v0 v1 v2 : Int) (v3 v4 : List Int) : Option (List Int) := lpW Q0i.s Q0i.c 0 (ud 10 [.undef, .ptr 0 0, .undef, .sl 1 0, .undef, .undef, .int .i64 v0, .int .i64 v1]) [.box 30 [.int .i64 v2, .vs false 90 v3], .row 0 true 3 v4] 2
theorem Q0i.eq (x0 : Int × (List Int)) : Q0i x0 =
 Q0i_l0 x0.1 (0 : Int) x0.1 x0.2 ([] : List Int) := by kernel_rfl
theorem Q0i_l0.eq (v0 v1 v2 : Int) (v3 v4 : List Int) : Q0i_l0 v0 v1 v2 v3 v4 =
 bif decide (v1 < v0) then
 (Q0Z (v2, v3) v1).bind fun y1 =>
 bif decide ((v4.length + ([y1] : List Int).length) * 8 ≤ 140737488355328) then
 Q0i_l0 v0 (IntKind.i64.wrap (v1 + (1 : Int))) v2 v3 (v4 ++ ([y1] : List Int))
 else
 none
 else
 some v4 := (Q6 Q0 (Q1 (Q0i.gok _)) _ _).trans (by kernel_rfl)
noncomputable abbrev Q1s.s : Sg := ⟨[.lend], [.agg [.int .i64, .sl false false 90]], ⟨[vo 3], [none]⟩, Tryz.f149⟩
noncomputable def Q1s.gs (δ : Type) : List (Nat × Callee (GT tab) δ) := [(53, Q0i.k), (150, Q0Y.k)]
theorem Q1s.gok (δ : Type) : Q4 Tryz.prog tab (Q1s.gs δ) := .cons Q0i.con (.cons Q0Y.con .nil)
noncomputable def Q1s.c := cx Q1s.s [] [] [] false (Q1s.gs _)
noncomputable def Q1s (x0 : Int × (List Int)) : Option (List Int) := fnW Q1s.s Q1s.c x0
theorem Q1s.fok : FkS Q1s.s 149 := ⟨Tryz.func149, by kernel_rfl, by kernel_rfl⟩
noncomputable def Q1s.fn (x : Args tab Q1s.s.ar) : Option (ResT tab Q1s.s.rs) := Q1s x
noncomputable abbrev Q1s.k {δ : Type} : Callee (GT tab) δ := kS Q1s.s Q1s.fn
theorem Q1s.con {δ : Type} : Con Tryz.prog (KT tab) 149 (Q1s.k (δ := δ)) := Q5 (c := Q1s.c) mixed Q0 (Q1 (Q1s.gok _)) Q1s.fok rfl rfl fun _ => rfl
theorem Q1s.eq (x0 : Int × (List Int)) : Q1s x0 =
 (Q0Y x0).bind fun y1 =>
 bif !y1 then
 some ([] : List Int)
 else
 (Q0i x0).bind fun y2 =>
 some y2 := by kernel_rfl
noncomputable abbrev QN.s : Sg := ⟨[.lend, .lend], [vl 3, vi], ⟨[vi], [none, none]⟩, Tryz.f52⟩
noncomputable def QN.gs (δ : Type) : List (Nat × Callee (GT tab) δ) := []
theorem QN.gok (δ : Type) : Q4 Tryz.prog tab (QN.gs δ) := .nil
noncomputable def QN.c := cx QN.s [] [] [(3, [1, 5, 8, 9, 10])] false (QN.gs _)
noncomputable def QN (x0 : List Int) (x1 : Int) : Option (Int) := fnW QN.s QN.c (x0, x1)
theorem QN.fok : FkS QN.s 52 := ⟨Tryz.func52, by kernel_rfl, by kernel_rfl⟩
noncomputable def QN.fn (x : Args tab QN.s.ar) : Option (ResT tab QN.s.rs) := QN x.1 x.2
noncomputable abbrev QN.k {δ : Type} : Callee (GT tab) δ := kS QN.s QN.fn
theorem QN.con {δ : Type} : Con Tryz.prog (KT tab) 52 (QN.k (δ := δ)) := Q5 (c := QN.c) mixed Q0 (Q1 (QN.gok _)) QN.fok rfl rfl fun _ => rfl
noncomputable def QN_l0 (v0 v1 : Int) (v2 : List Int) (v3 v4 : Int) : Option (Int) := lpW QN.s QN.c 0 (ud 10 [.undef, .int .i64 v0, .undef, .undef, .undef, .int .i64 v1, .undef, .undef, .vs false 3 v2, .int .i64 v3, .int .i64 v4]) [] 0
theorem QN.eq (x0 : List Int) (x1 : Int) : QN x0 x1 =
 QN_l0 x1 (0 : Int) x0 (x0.length : Int) (0 : Int) := by kernel_rfl
theorem QN_l0.eq (v0 v1 : Int) (v2 : List Int) (v3 v4 : Int) : QN_l0 v0 v1 v2 v3 v4 =
 bif decide (v4 < v3) then
 (at? v2 v4).bind fun y1 =>
 bif y1 == v0 then
 QN_l0 v0 (IntKind.i64.wrap (v1 + (1 : Int))) v2 v3 (IntKind.i64.wrap (v4 + (1 : Int)))
 else
 QN_l0 v0 v1 v2 v3 (IntKind.i64.wrap (v4 + (1 : Int)))
 else
 some v1 := (Q6 Q0 (Q1 (QN.gok _)) _ _).trans (by kernel_rfl)
noncomputable abbrev Q9.s : Sg := ⟨[.lend], [.agg [.int .i64, .sl false false 3, .sl false false 30]], ⟨[vo 3, vb], [none]⟩, Tryz.f108⟩
noncomputable def Q9.gs (δ : Type) : List (Nat × Callee (GT tab) δ) := [(52, QN.k), (58, QD.k), (149, Q1s.k), (150, Q0Y.k)]
theorem Q9.gok (δ : Type) : Q4 Tryz.prog tab (Q9.gs δ) := .cons QN.con (.cons QD.con (.cons Q1s.con (.cons Q0Y.con .nil)))
noncomputable def Q9.c := cx Q9.s [] [3, 15] [(3, [1]), (5, [1, 4, 5, 40, 41]), (10, [1, 4, 5, 50, 51, 52]), (15, [1, 4, 5, 7, 9, 50, 51, 52]), (17, [1, 4, 5, 9, 10, 11, 12, 50, 51, 52, 87, 88, 89]), (24, [1, 4, 5, 9, 10, 50, 51, 52, 109, 110, 111])] false (Q9.gs _)
noncomputable def Q9 (x0 : Int × (List Int) × (List (Int × (List Int)))) : Option ((List Int) × Bool) := fnW Q9.s Q9.c x0
theorem Q9.fok : FkS Q9.s 108 := ⟨Tryz.func108, by kernel_rfl, by kernel_rfl⟩
noncomputable def Q9.fn (x : Args tab Q9.s.ar) : Option (ResT tab Q9.s.rs) := Q9 x
noncomputable abbrev Q9.k {δ : Type} : Callee (GT tab) δ := kS Q9.s Q9.fn
theorem Q9.con {δ : Type} : Con Tryz.prog (KT tab) 108 (Q9.k (δ := δ)) := Q5 (c := Q9.c) mixed Q0 (Q1 (Q9.gok _)) Q9.fok rfl rfl fun _ => rfl
noncomputable def Q9_l0 (v0 : Int) (v1 : List Int) (v2 : List (Int × (List Int))) : Option ((List Int) × Bool) := lpW Q9.s Q9.c 0 (ud 137 [.undef, .ptr 0 0]) [.box 27 [.int .i64 v0, .vs false 3 v1, .vs false 30 v2]] 1
noncomputable def Q9_l1 (v0 v1 v2 : Int) (v3 : List Int) (v4 : List (Int × (List Int))) (v5 v6 : List Int) : Option ((List Int) × Bool) := lpW Q9.s Q9.c 1 (ud 97 [.undef, .ptr 0 0, .undef, .undef, .sl 1 0, .sl 2 0, .undef, .undef, .undef, .undef, .undef, .undef, .undef, .undef, .undef, .undef, .undef, .undef, .undef, .undef, .undef, .undef, .undef, .undef, .undef, .undef, .undef, .undef, .undef, .undef, .undef, .undef, .undef, .undef, .undef, .undef, .undef, .undef, .undef, .undef, .int .i64 v0, .int .i64 v1]) [.box 27 [.int .i64 v2, .vs false 3 v3, .vs false 30 v4], .row 0 true 3 v5, .row 0 true 3 v6] 3
noncomputable def Q9_l2 (v0 : List (Int × (List Int))) (v1 v2 v3 : Int) (v4 : List Int) (v5 : List (Int × (List Int))) (v6 v7 : List Int) : Option ((List Int) × Bool) := lpW Q9.s Q9.c 2 (ud 86 [.undef, .ptr 0 0, .undef, .undef, .sl 1 0, .sl 2 0, .undef, .undef, .undef, .undef, .undef, .undef, .undef, .undef, .undef, .undef, .undef, .undef, .undef, .undef, .undef, .undef, .undef, .undef, .undef, .undef, .undef, .undef, .undef, .undef, .undef, .undef, .undef, .undef, .undef, .undef, .undef, .undef, .undef, .undef, .undef, .undef, .undef, .undef, .undef, .undef, .undef, .undef, .undef, .undef, .vs false 30 v0, .int .i64 v1, .int .i64 v2]) [.box 27 [.int .i64 v3, .vs false 3 v4, .vs false 30 v5], .row 0 true 3 v6, .row 0 true 3 v7] 3
noncomputable def Q9_l3 (v0 : Int) (v1 : List (Int × (List Int))) (v2 v3 v4 : Int) (v5 : List Int) (v6 : List (Int × (List Int))) (v7 v8 v9 : List Int) : Option ((List Int) × Bool) := lpW Q9.s Q9.c 3 (ud 86 [.undef, .ptr 0 0, .undef, .undef, .sl 1 0, .sl 2 0, .undef, .int .i64 v0, .undef, .sl 3 0, .undef, .undef, .undef, .undef, .undef, .undef, .undef, .undef, .undef, .undef, .undef, .undef, .undef, .undef, .undef, .undef, .undef, .undef, .undef, .undef, .undef, .undef, .undef, .undef, .undef, .undef, .undef, .undef, .undef, .undef, .undef, .undef, .undef, .undef, .undef, .undef, .undef, .undef, .undef, .undef, .vs false 30 v1, .int .i64 v2, .int .i64 v3]) [.box 27 [.int .i64 v4, .vs false 3 v5, .vs false 30 v6], .row 0 true 3 v7, .row 0 true 3 v8, .row 0 true 3 v9] 4
noncomputable def Q9_l4 (v0 v1 : Int) (v2 : List (Int × (List Int))) (v3 v4 v5 v6 v7 : Int) (v8 : List Int) (v9 : List (Int × (List Int))) (v10 v11 v12 v13 : List Int) : Option ((List Int) × Bool) := lpW Q9.s Q9.c 4 (ud 49 [.undef, .ptr 0 0, .undef, .undef, .sl 1 0, .sl 2 0, .undef, .undef, .undef, .sl 3 0, .sl 4 0, .int .i64 v0, .int .i64 v1, .undef, .undef, .undef, .undef, .undef, .undef, .undef, .undef, .undef, .undef, .undef, .undef, .undef, .undef, .undef, .undef, .undef, .undef, .undef, .undef, .undef, .undef, .undef, .undef, .undef, .undef, .undef, .undef, .undef, .undef, .undef, .undef, .undef, .undef, .undef, .undef, .undef, .vs false 30 v2, .int .i64 v3, .int .i64 v4, .undef, .undef, .undef, .undef, .undef, .undef, .undef, .undef, .undef, .undef, .undef, .undef, .undef, .undef, .undef, .undef, .undef, .undef, .undef, .undef, .undef, .undef, .undef, .undef, .undef, .undef, .undef, .undef, .undef, .undef, .undef, .undef, .undef, .undef, .sl 3 0, .int .i64 v5, .int .i64 v6]) [.box 27 [.int .i64 v7, .vs false 3 v8, .vs false 30 v9], .row 0 true 3 v10, .row 0 true 3 v11, .row 0 true 3 v12, .row 0 true 3 v13] 5
noncomputable def Q9_l5 (v0 : List (Int × (List Int))) (v1 v2 v3 v4 v5 : Int) (v6 : List Int) (v7 : List (Int × (List Int))) (v8 v9 v10 v11 : List Int) : Option ((List Int) × Bool) := lpW Q9.s Q9.c 5 (ud 27 [.undef, .ptr 0 0, .undef, .undef, .sl 1 0, .sl 2 0, .undef, .undef, .undef, .sl 3 0, .sl 4 0, .undef, .undef, .undef, .undef, .undef, .undef, .undef, .undef, .undef, .undef, .undef, .undef, .undef, .undef, .undef, .undef, .undef, .undef, .undef, .undef, .undef, .undef, .undef, .undef, .undef, .undef, .undef, .undef, .undef, .undef, .undef, .undef, .undef, .undef, .undef, .undef, .undef, .undef, .undef, .vs false 30 v0, .int .i64 v1, .int .i64 v2, .undef, .undef, .undef, .undef, .undef, .undef, .undef, .undef, .undef, .undef, .undef, .undef, .undef, .undef, .undef, .undef, .undef, .undef, .undef, .undef, .undef, .undef, .undef, .undef, .undef, .undef, .undef, .undef, .undef, .undef, .undef, .undef, .undef, .undef, .undef, .undef, .undef, .undef, .undef, .undef, .undef, .undef, .undef, .undef, .undef, .undef, .undef, .undef, .undef, .undef, .undef, .undef, .undef, .undef, .undef, .undef, .sl 2 0, .int .i64 v3, .int .i64 v4]) [.box 27 [.int .i64 v5, .vs false 3 v6, .vs false 30 v7], .row 0 true 3 v8, .row 0 true 3 v9, .row 0 true 3 v10, .row 0 true 3 v11] 5
theorem Q9.eq (x0 : Int × (List Int) × (List (Int × (List Int)))) : Q9 x0 =
 (QD x0.1 (0 : Int) (1000 : Int)).bind fun y1 =>
 bif !y1 then
 some (([] : List Int), false)
 else
 bif (x0.2.1.length : Int) != (9 : Int) then
 some (([] : List Int), false)
 else
 bif (x0.2.2.length : Int) != (9 : Int) then
 some (([] : List Int), false)
 else
 Q9_l0 x0.1 x0.2.1 x0.2.2 := by kernel_rfl
theorem Q9_l0.eq (v0 : Int) (v1 : List Int) (v2 : List (Int × (List Int))) : Q9_l0 v0 v1 v2 =
 bif decide ((0 : Int) ≤ v0) && decide (v0.toNat * 8 ≤ 140737488355328) then
 bif decide ((0 : Int) ≤ v0) && decide (v0.toNat * 8 ≤ 140737488355328) then
 Q9_l1 ((List.replicate v0.toNat (0 : Int)).length : Int) (0 : Int) v0 v1 v2 (List.replicate v0.toNat (0 : Int)) (List.replicate v0.toNat (0 : Int))
 else
 none
 else
 none := (Q6 Q0 (Q1 (Q9.gok _)) _ _).trans (by kernel_rfl)
theorem Q9_l1.eq (v0 v1 v2 : Int) (v3 : List Int) (v4 : List (Int × (List Int))) (v5 v6 : List Int) : Q9_l1 v0 v1 v2 v3 v4 v5 v6 =
 bif decide (v1 < v0) then
 (at? v6 v1).bind fun y1 =>
 v6[v1.toNat]?.bind fun y2 =>
 Q9_l1 v0 (IntKind.i64.wrap (v1 + (1 : Int))) v2 v3 v4 v5 (v6.set v1.toNat v1)
 else
 Q9_l2 v4 (v4.length : Int) (0 : Int) v2 v3 v4 v5 v6 := (Q6 Q0 (Q1 (Q9.gok _)) _ _).trans (by kernel_rfl)
theorem Q9_l2.eq (v0 : List (Int × (List Int))) (v1 v2 v3 : Int) (v4 : List Int) (v5 : List (Int × (List Int))) (v6 v7 : List Int) : Q9_l2 v0 v1 v2 v3 v4 v5 v6 v7 =
 bif decide (v2 < v1) then
 (at? v0 v2).bind fun y1 =>
 (Q1s y1).bind fun y2 =>
 (Q0Y y1).bind fun y3 =>
 bif !y3 then
 some (([] : List Int), false)
 else
 bif y1.1 != v3 then
 some (([] : List Int), false)
 else
 (QN y2 (0 : Int)).bind fun y4 =>
 (at? v4 v2).bind fun y5 =>
 bif y4 != y5 then
 some (([] : List Int), false)
 else
 Q9_l3 v2 v0 v1 v2 v3 v4 v5 v6 v7 y2
 else
 some (v6, true) := (Q6 Q0 (Q1 (Q9.gok _)) _ _).trans (by kernel_rfl)
theorem Q9_l3.eq (v0 : Int) (v1 : List (Int × (List Int))) (v2 v3 v4 : Int) (v5 : List Int) (v6 : List (Int × (List Int))) (v7 v8 v9 : List Int) : Q9_l3 v0 v1 v2 v3 v4 v5 v6 v7 v8 v9 =
 bif decide ((0 : Int) ≤ v4) && decide (v4.toNat * 8 ≤ 140737488355328) then
 (at? v5 v0).bind fun y1 =>
 Q9_l4 (0 : Int) y1 v1 v2 v3 (v9.length : Int) (0 : Int) v4 v5 v6 v7 v8 v9 (List.replicate v4.toNat (0 : Int))
 else
 none := (Q6 Q0 (Q1 (Q9.gok _)) _ _).trans (by kernel_rfl)
theorem Q9_l4.eq (v0 v1 : Int) (v2 : List (Int × (List Int))) (v3 v4 v5 v6 v7 : Int) (v8 : List Int) (v9 : List (Int × (List Int))) (v10 v11 v12 v13 : List Int) : Q9_l4 v0 v1 v2 v3 v4 v5 v6 v7 v8 v9 v10 v11 v12 v13 =
 bif decide (v6 < v5) then
 (at? v12 v6).bind fun y1 =>
 v12[v6.toNat]?.bind fun y2 =>
 bif y2 == (0 : Int) then
 (at? v13 v6).bind fun y3 =>
 v13[v6.toNat]?.bind fun y4 =>
 Q9_l4 (IntKind.i64.wrap (v0 + (1 : Int))) v1 v2 v3 v4 v5 (IntKind.i64.wrap (v6 + (1 : Int))) v7 v8 v9 v10 v11 v12 (v13.set v6.toNat v0)
 else
 (at? v13 v6).bind fun y5 =>
 v13[v6.toNat]?.bind fun y6 =>
 Q9_l4 v0 (IntKind.i64.wrap (v1 + (1 : Int))) v2 v3 v4 v5 (IntKind.i64.wrap (v6 + (1 : Int))) v7 v8 v9 v10 v11 v12 (v13.set v6.toNat v1)
 else
 Q9_l5 v2 v3 v4 (v11.length : Int) (0 : Int) v7 v8 v9 v10 v11 v12 v13 := (Q6 Q0 (Q1 (Q9.gok _)) _ _).trans (by kernel_rfl)
theorem Q9_l5.eq (v0 : List (Int × (List Int))) (v1 v2 v3 v4 v5 : Int) (v6 : List Int) (v7 : List (Int × (List Int))) (v8 v9 v10 v11 : List Int) : Q9_l5 v0 v1 v2 v3 v4 v5 v6 v7 v8 v9 v10 v11 =
 bif decide (v4 < v3) then
 (at? v9 v4).bind fun y1 =>
 v9[v4.toNat]?.bind fun y2 =>
 (at? v8 v4).bind fun y3 =>
 v8[v4.toNat]?.bind fun y4 =>
 (at? v10 y2).bind fun y5 =>
 v10[y2.toNat]?.bind fun y6 =>
 (at? v8 v4).bind fun y7 =>
 v8[v4.toNat]?.bind fun y8 =>
 (at? v11 y2).bind fun y9 =>
 v11[y2.toNat]?.bind fun y10 =>
 (at? v9 v4).bind fun y11 =>
 v9[v4.toNat]?.bind fun y12 =>
 Q9_l5 v0 v1 v2 v3 (IntKind.i64.wrap (v4 + (1 : Int))) v5 v6 v7 (v8.set v4.toNat (IntKind.i64.wrap (((BitVec.ofInt 64 (IntKind.i64.wrap (y4 * 2 ^ 1))) ||| (BitVec.ofInt 64 y6)).toNat : Int))) (v9.set v4.toNat y10) v10 v11
 else
 Q9_l2 v0 v1 (IntKind.i64.wrap (v2 + (1 : Int))) v5 v6 v7 v8 v9 := (Q6 Q0 (Q1 (Q9.gok _)) _ _).trans (by kernel_rfl)
noncomputable abbrev Q10.s : Sg := ⟨[.lend], [vi], ⟨[vb], [none]⟩, Tryz.f48⟩
noncomputable def Q10.gs (δ : Type) : List (Nat × Callee (GT tab) δ) := [(58, QD.k)]
theorem Q10.gok (δ : Type) : Q4 Tryz.prog tab (Q10.gs δ) := .cons QD.con .nil
noncomputable def Q10.c := cx Q10.s [] [] [] false (Q10.gs _)
noncomputable def Q10 (x0 : Int) : Option (Bool) := fnW Q10.s Q10.c x0
theorem Q10.fok : FkS Q10.s 48 := ⟨Tryz.func48, by kernel_rfl, by kernel_rfl⟩
noncomputable def Q10.fn (x : Args tab Q10.s.ar) : Option (ResT tab Q10.s.rs) := Q10 x
noncomputable abbrev Q10.k {δ : Type} : Callee (GT tab) δ := kS Q10.s Q10.fn
theorem Q10.con {δ : Type} : Con Tryz.prog (KT tab) 48 (Q10.k (δ := δ)) := Q5 (c := Q10.c) mixed Q0 (Q1 (Q10.gok _)) Q10.fok rfl rfl fun _ => rfl
theorem Q10.eq (x0 : Int) : Q10 x0 =
 (QD x0 (1 : Int) (64 : Int)).bind fun y1 =>
 some y1 := by kernel_rfl
noncomputable abbrev Q1H.s : Sg := ⟨[.lend], [vi], ⟨[vb], [none]⟩, Tryz.f184⟩
noncomputable def Q1H.gs (δ : Type) : List (Nat × Callee (GT tab) δ) := [(58, QD.k)]
theorem Q1H.gok (δ : Type) : Q4 Tryz.prog tab (Q1H.gs δ) := .cons QD.con .nil
noncomputable def Q1H.c := cx Q1H.s [] [] [] false (Q1H.gs _)
noncomputable def Q1H (x0 : Int) : Option (Bool) := fnW Q1H.s Q1H.c x0
theorem Q1H.fok : FkS Q1H.s 184 := ⟨Tryz.func184, by kernel_rfl, by kernel_rfl⟩
noncomputable def Q1H.fn (x : Args tab Q1H.s.ar) : Option (ResT tab Q1H.s.rs) := Q1H x
noncomputable abbrev Q1H.k {δ : Type} : Callee (GT tab) δ := kS Q1H.s Q1H.fn
theorem Q1H.con {δ : Type} : Con Tryz.prog (KT tab) 184 (Q1H.k (δ := δ)) := Q5 (c := Q1H.c) mixed Q0 (Q1 (Q1H.gok _)) Q1H.fok rfl rfl fun _ => rfl
theorem Q1H.eq (x0 : Int) : Q1H x0 =
 (QD x0 (0 : Int) (256 : Int)).bind fun y1 =>
 some y1 := by kernel_rfl
noncomputable abbrev Q17.s : Sg := ⟨[.lend, .lend], [vi, .one (.ptr false 0 [.fn 184 []])], ⟨[vb], [none, none]⟩, Tryz.f198⟩
noncomputable def Q17.gs (δ : Type) : List (Nat × Callee (GT tab) δ) := [(184, Q1H.k)]
theorem Q17.gok (δ : Type) : Q4 Tryz.prog tab (Q17.gs δ) := .cons Q1H.con .nil
noncomputable def Q17.c := cx Q17.s [] [] [] false (Q17.gs _)
noncomputable def Q17 (x0 : Int) (x1 : Unit) : Option (Bool) := fnW Q17.s Q17.c (x0, x1)
theorem Q17.fok : FkS Q17.s 198 := ⟨Tryz.func198, by kernel_rfl, by kernel_rfl⟩
noncomputable def Q17.fn (x : Args tab Q17.s.ar) : Option (ResT tab Q17.s.rs) := Q17 x.1 x.2
noncomputable abbrev Q17.k {δ : Type} : Callee (GT tab) δ := kS Q17.s Q17.fn
theorem Q17.con {δ : Type} : Con Tryz.prog (KT tab) 198 (Q17.k (δ := δ)) := Q5 (c := Q17.c) mixed Q0 (Q1 (Q17.gok _)) Q17.fok rfl rfl fun _ => rfl
theorem Q17.eq (x0 : Int) (x1 : Unit) : Q17 x0 x1 =
 (Q1H x0).bind fun y1 =>
 some (!y1) := by kernel_rfl
noncomputable abbrev Q0C.s : Sg := ⟨[.lend, .lend], [vl 3, .one (.fn 198 [.ptr false 0 [.fn 184 []]])], ⟨[vi], [none, none]⟩, Tryz.f211⟩
noncomputable def Q0C.gs (δ : Type) : List (Nat × Callee (GT tab) δ) := [(198, Q17.k)]
theorem Q0C.gok (δ : Type) : Q4 Tryz.prog tab (Q0C.gs δ) := .cons Q17.con .nil
noncomputable def Q0C.c := cx Q0C.s [] [] [(2, [0, 1, 7, 8])] false (Q0C.gs _)
noncomputable def Q0C (x0 : List Int) (x1 : Unit) : Option (Int) := fnW Q0C.s Q0C.c (x0, x1)
theorem Q0C.fok : FkS Q0C.s 211 := ⟨Tryz.func211, by kernel_rfl, by kernel_rfl⟩
noncomputable def Q0C.fn (x : Args tab Q0C.s.ar) : Option (ResT tab Q0C.s.rs) := Q0C x.1 x.2
noncomputable abbrev Q0C.k {δ : Type} : Callee (GT tab) δ := kS Q0C.s Q0C.fn
theorem Q0C.con {δ : Type} : Con Tryz.prog (KT tab) 211 (Q0C.k (δ := δ)) := Q5 (c := Q0C.c) mixed Q0 (Q1 (Q0C.gok _)) Q0C.fok rfl rfl fun _ => rfl
noncomputable def Q0C_l0 (v0 : List Int) (v1 v2 : Int) : Option (Int) := lpW Q0C.s Q0C.c 0 (ud 10 [.vs false 3 v0, .fn 198 [.vp [.fn 184 []]], .undef, .undef, .undef, .undef, .undef, .int .i64 v1, .int .i64 v2]) [] 0
theorem Q0C.eq (x0 : List Int) (x1 : Unit) : Q0C x0 x1 =
 Q0C_l0 x0 (x0.length : Int) (0 : Int) := by kernel_rfl
theorem Q0C_l0.eq (v0 : List Int) (v1 v2 : Int) : Q0C_l0 v0 v1 v2 =
 bif decide (v2 < v1) then
 (at? v0 v2).bind fun y1 =>
 (Q17 y1 ()).bind fun y2 =>
 bif y2 then
 some v2
 else
 Q0C_l0 v0 v1 (IntKind.i64.wrap (v2 + (1 : Int)))
 else
 some (-1 : Int) := (Q6 Q0 (Q1 (Q0C.gok _)) _ _).trans (by kernel_rfl)
noncomputable abbrev Q1I.s : Sg := ⟨[.lend, .lend], [vl 3, .one (.fn 198 [.ptr false 78 [.fn 184 []]])], ⟨[vb], [none, none]⟩, Tryz.f197⟩
noncomputable def Q1I.gs (δ : Type) : List (Nat × Callee (GT tab) δ) := [(211, Q0C.k)]
theorem Q1I.gok (δ : Type) : Q4 Tryz.prog tab (Q1I.gs δ) := .cons Q0C.con .nil
noncomputable def Q1I.c := cx Q1I.s [] [] [] false (Q1I.gs _)
noncomputable def Q1I (x0 : List Int) (x1 : Unit) : Option (Bool) := fnW Q1I.s Q1I.c (x0, x1)
theorem Q1I.fok : FkS Q1I.s 197 := ⟨Tryz.func197, by kernel_rfl, by kernel_rfl⟩
noncomputable def Q1I.fn (x : Args tab Q1I.s.ar) : Option (ResT tab Q1I.s.rs) := Q1I x.1 x.2
noncomputable abbrev Q1I.k {δ : Type} : Callee (GT tab) δ := kS Q1I.s Q1I.fn
theorem Q1I.con {δ : Type} : Con Tryz.prog (KT tab) 197 (Q1I.k (δ := δ)) := Q5 (c := Q1I.c) mixed Q0 (Q1 (Q1I.gok _)) Q1I.fok rfl rfl fun _ => rfl
theorem Q1I.eq (x0 : List Int) (x1 : Unit) : Q1I x0 x1 =
 (Q0C x0 ()).bind fun y1 =>
 some (decide (y1 ≥ (0 : Int))) := by kernel_rfl
noncomputable abbrev Q1t.s : Sg := ⟨[.lend, .lend], [vl 3, .one (.fn 184 [])], ⟨[vb], [none, none]⟩, Tryz.f168⟩
noncomputable def Q1t.gs (δ : Type) : List (Nat × Callee (GT tab) δ) := [(197, Q1I.k)]
theorem Q1t.gok (δ : Type) : Q4 Tryz.prog tab (Q1t.gs δ) := .cons Q1I.con .nil
noncomputable def Q1t.c := cx Q1t.s [] [] [] false (Q1t.gs _)
noncomputable def Q1t (x0 : List Int) (x1 : Unit) : Option (Bool) := fnW Q1t.s Q1t.c (x0, x1)
theorem Q1t.fok : FkS Q1t.s 168 := ⟨Tryz.func168, by kernel_rfl, by kernel_rfl⟩
noncomputable def Q1t.fn (x : Args tab Q1t.s.ar) : Option (ResT tab Q1t.s.rs) := Q1t x.1 x.2
noncomputable abbrev Q1t.k {δ : Type} : Callee (GT tab) δ := kS Q1t.s Q1t.fn
theorem Q1t.con {δ : Type} : Con Tryz.prog (KT tab) 168 (Q1t.k (δ := δ)) := Q5 (c := Q1t.c) mixed Q0 (Q1 (Q1t.gok _)) Q1t.fok rfl rfl fun _ => rfl
theorem Q1t.eq (x0 : List Int) (x1 : Unit) : Q1t x0 x1 =
 (Q1I x0 ()).bind fun y1 =>
 some (!y1) := by kernel_rfl
noncomputable abbrev Q1u.s : Sg := ⟨[.lend], [vl 3], ⟨[vb], [none]⟩, Tryz.f151⟩
noncomputable def Q1u.gs (δ : Type) : List (Nat × Callee (GT tab) δ) := [(168, Q1t.k)]
theorem Q1u.gok (δ : Type) : Q4 Tryz.prog tab (Q1u.gs δ) := .cons Q1t.con .nil
noncomputable def Q1u.c := cx Q1u.s [] [] [] false (Q1u.gs _)
noncomputable def Q1u (x0 : List Int) : Option (Bool) := fnW Q1u.s Q1u.c x0
theorem Q1u.fok : FkS Q1u.s 151 := ⟨Tryz.func151, by kernel_rfl, by kernel_rfl⟩
noncomputable def Q1u.fn (x : Args tab Q1u.s.ar) : Option (ResT tab Q1u.s.rs) := Q1u x
noncomputable abbrev Q1u.k {δ : Type} : Callee (GT tab) δ := kS Q1u.s Q1u.fn
theorem Q1u.con {δ : Type} : Con Tryz.prog (KT tab) 151 (Q1u.k (δ := δ)) := Q5 (c := Q1u.c) mixed Q0 (Q1 (Q1u.gok _)) Q1u.fok rfl rfl fun _ => rfl
theorem Q1u.eq (x0 : List Int) : Q1u x0 =
 bif decide ((x0.length : Int) ≤ (301 : Int)) then
 (Q1t x0 ()).bind fun y1 =>
 some y1
 else
 some false := by kernel_rfl
noncomputable abbrev Qw.s : Sg := ⟨[.lend], [vl 3], ⟨[vo 3], [none]⟩, Tryz.f156⟩
noncomputable def Qw.gs (δ : Type) : List (Nat × Callee (GT tab) δ) := []
theorem Qw.gok (δ : Type) : Q4 Tryz.prog tab (Qw.gs δ) := .nil
noncomputable def Qw.c := cx Qw.s [] [] [(3, [3, 8, 9, 10]), (8, [3, 6])] false (Qw.gs _)
noncomputable def Qw (x0 : List Int) : Option (List Int) := fnW Qw.s Qw.c x0
theorem Qw.fok : FkS Qw.s 156 := ⟨Tryz.func156, by kernel_rfl, by kernel_rfl⟩
noncomputable def Qw.fn (x : Args tab Qw.s.ar) : Option (ResT tab Qw.s.rs) := Qw x
noncomputable abbrev Qw.k {δ : Type} : Callee (GT tab) δ := kS Qw.s Qw.fn
theorem Qw.con {δ : Type} : Con Tryz.prog (KT tab) 156 (Qw.k (δ := δ)) := Q5 (c := Qw.c) mixed Q0 (Q1 (Qw.gok _)) Qw.fok rfl rfl fun _ => rfl
noncomputable def Qw_l0 (v0 : List Int) (v1 v2 : Int) (v3 : List Int) : Option (List Int) := lpW Qw.s Qw.c 0 (ud 27 [.undef, .undef, .undef, .sl 0 0, .undef, .undef, .undef, .undef, .vs false 3 v0, .int .i64 v1, .int .i64 v2]) [.row 0 true 3 v3] 1
noncomputable def Qw_l1 (v0 : Int) (v1 : List Int) : Option (List Int) := lpW Qw.s Qw.c 1 (ud 31 [.undef, .undef, .undef, .sl 0 0, .undef, .undef, .int .i64 v0]) [.row 0 true 3 v1] 1
theorem Qw.eq (x0 : List Int) : Qw x0 =
 Qw_l0 x0 (x0.length : Int) (0 : Int) (List.replicate 258 (0 : Int)) := by kernel_rfl
theorem Qw_l0.eq (v0 : List Int) (v1 v2 : Int) (v3 : List Int) : Qw_l0 v0 v1 v2 v3 =
 bif decide (v2 < v1) then
 (at? v0 v2).bind fun y1 =>
 (at? v3 (IntKind.i64.wrap (y1 + (1 : Int)))).bind fun y2 =>
 v3[(IntKind.i64.wrap (y1 + (1 : Int))).toNat]?.bind fun y3 =>
 (at? v3 (IntKind.i64.wrap (y1 + (1 : Int)))).bind fun y4 =>
 v3[(IntKind.i64.wrap (y1 + (1 : Int))).toNat]?.bind fun y5 =>
 Qw_l0 v0 v1 (IntKind.i64.wrap (v2 + (1 : Int))) (v3.set ((IntKind.i64.wrap (y1 + (1 : Int))).toNat) (IntKind.i64.wrap (y3 + (1 : Int))))
 else
 Qw_l1 (1 : Int) v3 := (Q6 Q0 (Q1 (Qw.gok _)) _ _).trans (by kernel_rfl)
theorem Qw_l1.eq (v0 : Int) (v1 : List Int) : Qw_l1 v0 v1 =
 bif decide (v0 < (258 : Int)) then
 (at? v1 v0).bind fun y1 =>
 v1[v0.toNat]?.bind fun y2 =>
 (at? v1 (IntKind.i64.wrap (v0 - (1 : Int)))).bind fun y3 =>
 v1[(IntKind.i64.wrap (v0 - (1 : Int))).toNat]?.bind fun y4 =>
 (at? v1 v0).bind fun y5 =>
 v1[v0.toNat]?.bind fun y6 =>
 Qw_l1 (IntKind.i64.wrap (v0 + (1 : Int))) (v1.set v0.toNat (IntKind.i64.wrap (y2 + y4)))
 else
 some v1 := (Q6 Q0 (Q1 (Qw.gok _)) _ _).trans (by kernel_rfl)
noncomputable abbrev Q0j.s : Sg := ⟨[.lend], [vl 3], ⟨[vo 3], [none]⟩, Tryz.f123⟩
noncomputable def Q0j.gs (δ : Type) : List (Nat × Callee (GT tab) δ) := [(156, Qw.k)]
theorem Q0j.gok (δ : Type) : Q4 Tryz.prog tab (Q0j.gs δ) := .cons Qw.con .nil
noncomputable def Q0j.c := cx Q0j.s [] [] [(4, [3, 4, 9, 10, 11])] false (Q0j.gs _)
noncomputable def Q0j (x0 : List Int) : Option (List Int) := fnW Q0j.s Q0j.c x0
theorem Q0j.fok : FkS Q0j.s 123 := ⟨Tryz.func123, by kernel_rfl, by kernel_rfl⟩
noncomputable def Q0j.fn (x : Args tab Q0j.s.ar) : Option (ResT tab Q0j.s.rs) := Q0j x
noncomputable abbrev Q0j.k {δ : Type} : Callee (GT tab) δ := kS Q0j.s Q0j.fn
theorem Q0j.con {δ : Type} : Con Tryz.prog (KT tab) 123 (Q0j.k (δ := δ)) := Q5 (c := Q0j.c) mixed Q0 (Q1 (Q0j.gok _)) Q0j.fok rfl rfl fun _ => rfl
noncomputable def Q0j_l0 (v0 : List Int) (v1 v2 : Int) (v3 v4 : List Int) : Option (List Int) := lpW Q0j.s Q0j.c 0 (ud 18 [.undef, .undef, .undef, .sl 0 0, .sl 1 0, .undef, .undef, .undef, .undef, .vs false 3 v0, .int .i64 v1, .int .i64 v2]) [.row 0 true 3 v3, .row 0 true 3 v4] 2
theorem Q0j.eq (x0 : List Int) : Q0j x0 =
 (Qw x0).bind fun y1 =>
 Q0j_l0 x0 (x0.length : Int) (0 : Int) y1 ([] : List Int) := by kernel_rfl
theorem Q0j_l0.eq (v0 : List Int) (v1 v2 : Int) (v3 v4 : List Int) : Q0j_l0 v0 v1 v2 v3 v4 =
 bif decide (v2 < v1) then
 (at? v0 v2).bind fun y1 =>
 (at? v3 y1).bind fun y2 =>
 v3[y1.toNat]?.bind fun y3 =>
 bif decide ((v4.length + ([y3] : List Int).length) * 8 ≤ 140737488355328) then
 (at? v3 y1).bind fun y4 =>
 v3[y1.toNat]?.bind fun y5 =>
 (at? v3 y1).bind fun y6 =>
 v3[y1.toNat]?.bind fun y7 =>
 Q0j_l0 v0 v1 (IntKind.i64.wrap (v2 + (1 : Int))) (v3.set y1.toNat (IntKind.i64.wrap (y5 + (1 : Int)))) (v4 ++ ([y3] : List Int))
 else
 none
 else
 some v4 := (Q6 Q0 (Q1 (Q0j.gok _)) _ _).trans (by kernel_rfl)
def Q24.ms : List Mode := [.lend, .lend]
def Q24.as : List VSh := [.one (.b (.b (.b (.b (.sl false false 5))))), .one (.b (.b (.b (.b (.sl false false 5)))))]
def Q24.rs : RSh := ⟨[.one (.b (.b (.b (.b (.int .i64)))))], [none, none]⟩
noncomputable def Q24 (x0 : List Int) (x1 : List Int) : Option (Int) := some (cmpB (x0.map fun x => x) (x1.map fun x => x))
noncomputable def Q24.fn : Args tab Q24.as → Option (ResT tab Q24.rs) := fun x => Q24 x.1 x.2
noncomputable abbrev Q24.k {δ : Type} : Callee (GT tab) δ := Q1U tab Q24.ms Q24.as Q24.rs Q24.fn
theorem Q24.con {δ : Type} : Con Tryz.prog (KT tab) 202 (Q24.k (δ := δ)) := con_compare Tryz.func202 (by kernel_rfl) (by kernel_rfl) (by kernel_rfl) (by kernel_rfl) (l := tab) (e := 5) (g := fun x => x) rfl
noncomputable abbrev Q1J.s : Sg := ⟨[.lend, .lend], [vl 5, vl 5], ⟨[vi], [none, none]⟩, Tryz.f177⟩
noncomputable def Q1J.gs (δ : Type) : List (Nat × Callee (GT tab) δ) := [(202, Q24.k)]
theorem Q1J.gok (δ : Type) : Q4 Tryz.prog tab (Q1J.gs δ) := .cons Q24.con .nil
noncomputable def Q1J.c := cx Q1J.s [] [] [] false (Q1J.gs _)
noncomputable def Q1J (x0 x1 : List Int) : Option (Int) := fnW Q1J.s Q1J.c (x0, x1)
theorem Q1J.fok : FkS Q1J.s 177 := ⟨Tryz.func177, by kernel_rfl, by kernel_rfl⟩
noncomputable def Q1J.fn (x : Args tab Q1J.s.ar) : Option (ResT tab Q1J.s.rs) := Q1J x.1 x.2
noncomputable abbrev Q1J.k {δ : Type} : Callee (GT tab) δ := kS Q1J.s Q1J.fn
theorem Q1J.con {δ : Type} : Con Tryz.prog (KT tab) 177 (Q1J.k (δ := δ)) := Q5 (c := Q1J.c) mixed Q0 (Q1 (Q1J.gok _)) Q1J.fok rfl rfl fun _ => rfl
theorem Q1J.eq (x0 x1 : List Int) : Q1J x0 x1 =
 (Q24 x0 x1).bind fun y1 =>
 some y1 := by kernel_rfl
noncomputable abbrev Q0R.s : Sg := ⟨[.lend, .lend, .lend], [vi, vi, .one (.ptr false 22 [.b (.b (.b (.sl false false 5)))])], ⟨[vi], [none, none, none]⟩, Tryz.f176⟩
noncomputable def Q0R.gs (δ : Type) : List (Nat × Callee (GT tab) δ) := [(177, Q1J.k)]
theorem Q0R.gok (δ : Type) : Q4 Tryz.prog tab (Q0R.gs δ) := .cons Q1J.con .nil
noncomputable def Q0R.c := cx Q0R.s [] [] [] false (Q0R.gs _)
noncomputable def Q0R (x0 x1 : Int) (x2 : List Int) : Option (Int) := fnW Q0R.s Q0R.c (x0, x1, x2)
theorem Q0R.fok : FkS Q0R.s 176 := ⟨Tryz.func176, by kernel_rfl, by kernel_rfl⟩
noncomputable def Q0R.fn (x : Args tab Q0R.s.ar) : Option (ResT tab Q0R.s.rs) := Q0R x.1 x.2.1 x.2.2
noncomputable abbrev Q0R.k {δ : Type} : Callee (GT tab) δ := kS Q0R.s Q0R.fn
theorem Q0R.con {δ : Type} : Con Tryz.prog (KT tab) 176 (Q0R.k (δ := δ)) := Q5 (c := Q0R.c) mixed Q0 (Q1 (Q0R.gok _)) Q0R.fok rfl rfl fun _ => rfl
theorem Q0R.eq (x0 x1 : Int) (x2 : List Int) : Q0R x0 x1 x2 =
 bif decide (0 ≤ x0 ∧ x0 ≤ ((x2.length : Nat) : Int)) then
 bif decide (0 ≤ x1 ∧ x1 ≤ ((x2.length : Nat) : Int)) then
 (Q1J ((x2.take x2.length).drop x0.toNat) ((x2.take x2.length).drop x1.toNat)).bind fun y1 =>
 some y1
 else
 none
 else
 none := by kernel_rfl
def Q22.ms : List Mode := [.keep, .lend]
def Q22.as : List VSh := [.one (.b (.b (.b (.b (.sl true true 3))))), .one (.fn 176 [.ptr false 22 [.b (.b (.sl false false 5))]])]
def Q22.rs : RSh := ⟨[], [some (.one (.b (.b (.b (.b (.sl true true 3)))))), none]⟩
noncomputable def Q22 (x0 : List Int) (x1 : List Int) : Option (List Int) := sortC (fun a b => Q0R a b x1) x0
noncomputable def Q22.fn : Args tab Q22.as → Option (ResT tab Q22.rs) := fun x => Q22 x.1 x.2
noncomputable abbrev Q22.k {δ : Type} : Callee (GT tab) δ := Q1U tab Q22.ms Q22.as Q22.rs Q22.fn
theorem Q22.con {δ : Type} : Con Tryz.prog (KT tab) 175 (Q22.k (δ := δ)) := con_sort (l := tab) Tryz.laysSort175 rfl (e := 3) (g := fun x => x) rfl (gf := 176) (fun a w => FnOk.enters Q0R.fok a w) (cv := .one (.fn 176 [.ptr false 22 [.b (.b (.sl false false 5))]])) (capsT := fun y => [.ptr false 22 [.sl false false 5 y]]) (fun _ => by kernel_rfl) (fun y => List.all_eq_true.1 (by kernel_rfl)) (cal := Q0R.k) Q0R.con (ks := [none, none, none]) (F := fun a b y => Q0R a b y) (fun a b y => sem_map (by kernel_rfl))
noncomputable abbrev QT.s : Sg := ⟨[.lend], [vl 5], ⟨[vo 3], [none]⟩, Tryz.f122⟩
noncomputable def QT.gs (δ : Type) : List (Nat × Callee (GT tab) δ) := [(175, Q22.k)]
theorem QT.gok (δ : Type) : Q4 Tryz.prog tab (QT.gs δ) := .cons Q22.con .nil
noncomputable def QT.c := cx QT.s [] [] [(3, [1, 3, 7, 8])] false (QT.gs _)
noncomputable def QT (x0 : List Int) : Option (List Int) := fnW QT.s QT.c x0
theorem QT.fok : FkS QT.s 122 := ⟨Tryz.func122, by kernel_rfl, by kernel_rfl⟩
noncomputable def QT.fn (x : Args tab QT.s.ar) : Option (ResT tab QT.s.rs) := QT x
noncomputable abbrev QT.k {δ : Type} : Callee (GT tab) δ := kS QT.s QT.fn
theorem QT.con {δ : Type} : Con Tryz.prog (KT tab) 122 (QT.k (δ := δ)) := Q5 (c := QT.c) mixed Q0 (Q1 (QT.gok _)) QT.fok rfl rfl fun _ => rfl
noncomputable def QT_l0 (v0 v1 : Int) (v2 v3 : List Int) : Option (List Int) := lpW QT.s QT.c 0 (ud 11 [.undef, .ptr 0 0, .undef, .sl 1 0, .undef, .undef, .undef, .int .i64 v0, .int .i64 v1]) [.box 22 [.vs false 5 v2], .row 0 true 3 v3] 2
theorem QT.eq (x0 : List Int) : QT x0 =
 QT_l0 (IntKind.i64.wrap ((x0.length : Int) + (1 : Int))) (0 : Int) x0 ([] : List Int) := by kernel_rfl
theorem QT_l0.eq (v0 v1 : Int) (v2 v3 : List Int) : QT_l0 v0 v1 v2 v3 =
 bif decide (v1 < v0) then
 bif decide ((v3.length + ([v1] : List Int).length) * 8 ≤ 140737488355328) then
 QT_l0 v0 (IntKind.i64.wrap (v1 + (1 : Int))) v2 (v3 ++ ([v1] : List Int))
 else
 none
 else
 (Q22 v3 v2).bind fun y1 =>
 some y1 := (Q6 Q0 (Q1 (QT.gok _)) _ _).trans (by kernel_rfl)
noncomputable abbrev Qz.s : Sg := ⟨[.lend], [vl 5], ⟨[vo 3], [none]⟩, Tryz.f59⟩
noncomputable def Qz.gs (δ : Type) : List (Nat × Callee (GT tab) δ) := [(122, QT.k)]
theorem Qz.gok (δ : Type) : Q4 Tryz.prog tab (Qz.gs δ) := .cons QT.con .nil
noncomputable def Qz.c := cx Qz.s [] [] [(3, [0, 3, 7, 8, 9])] false (Qz.gs _)
noncomputable def Qz (x0 : List Int) : Option (List Int) := fnW Qz.s Qz.c x0
theorem Qz.fok : FkS Qz.s 59 := ⟨Tryz.func59, by kernel_rfl, by kernel_rfl⟩
noncomputable def Qz.fn (x : Args tab Qz.s.ar) : Option (ResT tab Qz.s.rs) := Qz x
noncomputable abbrev Qz.k {δ : Type} : Callee (GT tab) δ := kS Qz.s Qz.fn
theorem Qz.con {δ : Type} : Con Tryz.prog (KT tab) 59 (Qz.k (δ := δ)) := Q5 (c := Qz.c) mixed Q0 (Q1 (Qz.gok _)) Qz.fok rfl rfl fun _ => rfl
noncomputable def Qz_l0 (v0 : List Int) (v1 v2 : Int) (v3 v4 : List Int) : Option (List Int) := lpW Qz.s Qz.c 0 (ud 20 [.vs false 5 v0, .undef, .undef, .sl 0 0, .undef, .undef, .undef, .sl 1 0, .int .i64 v1, .int .i64 v2]) [.row 0 true 3 v3, .row 0 true 3 v4] 2
theorem Qz.eq (x0 : List Int) : Qz x0 =
 (QT x0).bind fun y1 =>
 Qz_l0 x0 (y1.length : Int) (0 : Int) ([] : List Int) y1 := by kernel_rfl
theorem Qz_l0.eq (v0 : List Int) (v1 v2 : Int) (v3 v4 : List Int) : Qz_l0 v0 v1 v2 v3 v4 =
 bif decide (v2 < v1) then
 (at? v4 v2).bind fun y1 =>
 v4[v2.toNat]?.bind fun y2 =>
 bif y2 == (0 : Int) then
 bif decide ((v3.length + ([(0 : Int)] : List Int).length) * 8 ≤ 140737488355328) then
 Qz_l0 v0 v1 (IntKind.i64.wrap (v2 + (1 : Int))) (v3 ++ ([(0 : Int)] : List Int)) v4
 else
 none
 else
 (at? v0 (IntKind.i64.wrap (y2 - (1 : Int)))).bind fun y3 =>
 bif decide ((v3.length + ([IntKind.i64.wrap ((IntKind.i64.wrap y3) + (1 : Int))] : List Int).length) * 8 ≤ 140737488355328) then
 Qz_l0 v0 v1 (IntKind.i64.wrap (v2 + (1 : Int))) (v3 ++ ([IntKind.i64.wrap ((IntKind.i64.wrap y3) + (1 : Int))] : List Int)) v4
 else
 none
 else
 some v3 := (Q6 Q0 (Q1 (Qz.gok _)) _ _).trans (by kernel_rfl)
noncomputable abbrev QU.s : Sg := ⟨[.lend, .lend], [vl 3, vl 3], ⟨[vb], [none, none]⟩, Tryz.f152⟩
noncomputable def QU.gs (δ : Type) : List (Nat × Callee (GT tab) δ) := []
theorem QU.gok (δ : Type) : Q4 Tryz.prog tab (QU.gs δ) := .nil
noncomputable def QU.c := cx QU.s [] [] [(4, [0, 1, 12, 13])] false (QU.gs _)
noncomputable def QU (x0 x1 : List Int) : Option (Bool) := fnW QU.s QU.c (x0, x1)
theorem QU.fok : FkS QU.s 152 := ⟨Tryz.func152, by kernel_rfl, by kernel_rfl⟩
noncomputable def QU.fn (x : Args tab QU.s.ar) : Option (ResT tab QU.s.rs) := QU x.1 x.2
noncomputable abbrev QU.k {δ : Type} : Callee (GT tab) δ := kS QU.s QU.fn
theorem QU.con {δ : Type} : Con Tryz.prog (KT tab) 152 (QU.k (δ := δ)) := Q5 (c := QU.c) mixed Q0 (Q1 (QU.gok _)) QU.fok rfl rfl fun _ => rfl
noncomputable def QU_l0 (v0 v1 : List Int) (v2 v3 : Int) : Option (Bool) := lpW QU.s QU.c 0 (ud 12 [.vs false 3 v0, .vs false 3 v1, .undef, .undef, .undef, .undef, .undef, .undef, .undef, .undef, .undef, .undef, .int .i64 v2, .int .i64 v3]) [] 0
theorem QU.eq (x0 x1 : List Int) : QU x0 x1 =
 bif (x0.length : Int) != (x1.length : Int) then
 some false
 else
 QU_l0 x0 x1 (x0.length : Int) (0 : Int) := by kernel_rfl
theorem QU_l0.eq (v0 v1 : List Int) (v2 v3 : Int) : QU_l0 v0 v1 v2 v3 =
 bif decide (v3 < v2) then
 (at? v0 v3).bind fun y1 =>
 (at? v1 v3).bind fun y2 =>
 bif y1 != y2 then
 some false
 else
 QU_l0 v0 v1 v2 (IntKind.i64.wrap (v3 + (1 : Int)))
 else
 some true := (Q6 Q0 (Q1 (QU.gok _)) _ _).trans (by kernel_rfl)
noncomputable abbrev QK.s : Sg := ⟨[.lend], [vl 3], ⟨[vo 5, vb], [none]⟩, Tryz.f109⟩
noncomputable def QK.gs (δ : Type) : List (Nat × Callee (GT tab) δ) := [(52, QN.k), (59, Qz.k), (123, Q0j.k), (151, Q1u.k), (152, QU.k)]
theorem QK.gok (δ : Type) : Q4 Tryz.prog tab (QK.gs δ) := .cons QN.con (.cons Qz.con (.cons Q0j.con (.cons Q1u.con (.cons QU.con .nil))))
noncomputable def QK.c := cx QK.s [] [3] [(3, [0]), (7, [0, 4, 5, 6, 7])] false (QK.gs _)
noncomputable def QK (x0 : List Int) : Option ((List Int) × Bool) := fnW QK.s QK.c x0
theorem QK.fok : FkS QK.s 109 := ⟨Tryz.func109, by kernel_rfl, by kernel_rfl⟩
noncomputable def QK.fn (x : Args tab QK.s.ar) : Option (ResT tab QK.s.rs) := QK x
noncomputable abbrev QK.k {δ : Type} : Callee (GT tab) δ := kS QK.s QK.fn
theorem QK.con {δ : Type} : Con Tryz.prog (KT tab) 109 (QK.k (δ := δ)) := Q5 (c := QK.c) mixed Q0 (Q1 (QK.gok _)) QK.fok rfl rfl fun _ => rfl
noncomputable def QK_l0 (v0 : List Int) : Option ((List Int) × Bool) := lpW QK.s QK.c 0 (ud 52 [.vs false 3 v0]) [] 0
noncomputable def QK_l1 (v0 : List Int) (v1 v2 : Int) (v3 v4 : List Int) : Option ((List Int) × Bool) := lpW QK.s QK.c 1 (ud 45 [.vs false 3 v0, .undef, .undef, .undef, .sl 0 0, .sl 1 0, .int .i64 v1, .int .i64 v2]) [.row 0 true 3 v3, .row 0 true 5 v4] 2
theorem QK.eq (x0 : List Int) : QK x0 =
 (Q1u x0).bind fun y1 =>
 bif !y1 then
 some (([] : List Int), false)
 else
 (QN x0 (0 : Int)).bind fun y2 =>
 bif y2 != (1 : Int) then
 some (([] : List Int), false)
 else
 QK_l0 x0 := by kernel_rfl
theorem QK_l0.eq (v0 : List Int) : QK_l0 v0 =
 (Q0j v0).bind fun y1 =>
 bif decide ((0 : Int) ≤ IntKind.i64.wrap ((v0.length : Int) - (1 : Int))) && decide (((IntKind.i64.wrap ((v0.length : Int) - (1 : Int))).toNat) * 1 ≤ 140737488355328) then
 QK_l1 v0 (0 : Int) (IntKind.i64.wrap (((List.replicate ((IntKind.i64.wrap ((v0.length : Int) - (1 : Int))).toNat) (0 : Int)).length : Int) - (1 : Int))) y1 (List.replicate ((IntKind.i64.wrap ((v0.length : Int) - (1 : Int))).toNat) (0 : Int))
 else
 none := (Q6 Q0 (Q1 (QK.gok _)) _ _).trans (by kernel_rfl)
theorem QK_l1.eq (v0 : List Int) (v1 v2 : Int) (v3 v4 : List Int) : QK_l1 v0 v1 v2 v3 v4 =
 bif decide (v2 ≥ (0 : Int)) then
 (at? v0 v1).bind fun y1 =>
 bif y1 == (0 : Int) then
 some (([] : List Int), false)
 else
 (at? v0 v1).bind fun y2 =>
 (at? v4 v2).bind fun y3 =>
 v4[v2.toNat]?.bind fun y4 =>
 (at? v3 v1).bind fun y5 =>
 v3[v1.toNat]?.bind fun y6 =>
 QK_l1 v0 y6 (IntKind.i64.wrap (v2 - (1 : Int))) v3 (v4.set v2.toNat (IntKind.u8.wrap (IntKind.i64.wrap (y2 - (1 : Int)))))
 else
 (Qz v4).bind fun y7 =>
 (QU y7 v0).bind fun y8 =>
 bif !y8 then
 some (([] : List Int), false)
 else
 some (v4, true) := (Q6 Q0 (Q1 (QK.gok _)) _ _).trans (by kernel_rfl)
noncomputable abbrev Q1K.s : Sg := ⟨[.lend], [vi], ⟨[vb], [none]⟩, Tryz.f169⟩
noncomputable def Q1K.gs (δ : Type) : List (Nat × Callee (GT tab) δ) := [(58, QD.k)]
theorem Q1K.gok (δ : Type) : Q4 Tryz.prog tab (Q1K.gs δ) := .cons QD.con .nil
noncomputable def Q1K.c := cx Q1K.s [] [] [] false (Q1K.gs _)
noncomputable def Q1K (x0 : Int) : Option (Bool) := fnW Q1K.s Q1K.c x0
theorem Q1K.fok : FkS Q1K.s 169 := ⟨Tryz.func169, by kernel_rfl, by kernel_rfl⟩
noncomputable def Q1K.fn (x : Args tab Q1K.s.ar) : Option (ResT tab Q1K.s.rs) := Q1K x
noncomputable abbrev Q1K.k {δ : Type} : Callee (GT tab) δ := kS Q1K.s Q1K.fn
theorem Q1K.con {δ : Type} : Con Tryz.prog (KT tab) 169 (Q1K.k (δ := δ)) := Q5 (c := Q1K.c) mixed Q0 (Q1 (Q1K.gok _)) Q1K.fok rfl rfl fun _ => rfl
theorem Q1K.eq (x0 : Int) : Q1K x0 =
 (QD x0 (0 : Int) (511 : Int)).bind fun y1 =>
 some y1 := by kernel_rfl
noncomputable abbrev Q18.s : Sg := ⟨[.lend, .lend], [vi, .one (.ptr false 0 [.fn 169 []])], ⟨[vb], [none, none]⟩, Tryz.f198⟩
noncomputable def Q18.gs (δ : Type) : List (Nat × Callee (GT tab) δ) := [(169, Q1K.k)]
theorem Q18.gok (δ : Type) : Q4 Tryz.prog tab (Q18.gs δ) := .cons Q1K.con .nil
noncomputable def Q18.c := cx Q18.s [] [] [] false (Q18.gs _)
noncomputable def Q18 (x0 : Int) (x1 : Unit) : Option (Bool) := fnW Q18.s Q18.c (x0, x1)
theorem Q18.fok : FkS Q18.s 198 := ⟨Tryz.func198, by kernel_rfl, by kernel_rfl⟩
noncomputable def Q18.fn (x : Args tab Q18.s.ar) : Option (ResT tab Q18.s.rs) := Q18 x.1 x.2
noncomputable abbrev Q18.k {δ : Type} : Callee (GT tab) δ := kS Q18.s Q18.fn
theorem Q18.con {δ : Type} : Con Tryz.prog (KT tab) 198 (Q18.k (δ := δ)) := Q5 (c := Q18.c) mixed Q0 (Q1 (Q18.gok _)) Q18.fok rfl rfl fun _ => rfl
theorem Q18.eq (x0 : Int) (x1 : Unit) : Q18 x0 x1 =
 (Q1K x0).bind fun y1 =>
 some (!y1) := by kernel_rfl
noncomputable abbrev Q0D.s : Sg := ⟨[.lend, .lend], [vl 3, .one (.fn 198 [.ptr false 0 [.fn 169 []]])], ⟨[vi], [none, none]⟩, Tryz.f211⟩
noncomputable def Q0D.gs (δ : Type) : List (Nat × Callee (GT tab) δ) := [(198, Q18.k)]
theorem Q0D.gok (δ : Type) : Q4 Tryz.prog tab (Q0D.gs δ) := .cons Q18.con .nil
noncomputable def Q0D.c := cx Q0D.s [] [] [(2, [0, 1, 7, 8])] false (Q0D.gs _)
noncomputable def Q0D (x0 : List Int) (x1 : Unit) : Option (Int) := fnW Q0D.s Q0D.c (x0, x1)
theorem Q0D.fok : FkS Q0D.s 211 := ⟨Tryz.func211, by kernel_rfl, by kernel_rfl⟩
noncomputable def Q0D.fn (x : Args tab Q0D.s.ar) : Option (ResT tab Q0D.s.rs) := Q0D x.1 x.2
noncomputable abbrev Q0D.k {δ : Type} : Callee (GT tab) δ := kS Q0D.s Q0D.fn
theorem Q0D.con {δ : Type} : Con Tryz.prog (KT tab) 211 (Q0D.k (δ := δ)) := Q5 (c := Q0D.c) mixed Q0 (Q1 (Q0D.gok _)) Q0D.fok rfl rfl fun _ => rfl
noncomputable def Q0D_l0 (v0 : List Int) (v1 v2 : Int) : Option (Int) := lpW Q0D.s Q0D.c 0 (ud 10 [.vs false 3 v0, .fn 198 [.vp [.fn 169 []]], .undef, .undef, .undef, .undef, .undef, .int .i64 v1, .int .i64 v2]) [] 0
theorem Q0D.eq (x0 : List Int) (x1 : Unit) : Q0D x0 x1 =
 Q0D_l0 x0 (x0.length : Int) (0 : Int) := by kernel_rfl
theorem Q0D_l0.eq (v0 : List Int) (v1 v2 : Int) : Q0D_l0 v0 v1 v2 =
 bif decide (v2 < v1) then
 (at? v0 v2).bind fun y1 =>
 (Q18 y1 ()).bind fun y2 =>
 bif y2 then
 some v2
 else
 Q0D_l0 v0 v1 (IntKind.i64.wrap (v2 + (1 : Int)))
 else
 some (-1 : Int) := (Q6 Q0 (Q1 (Q0D.gok _)) _ _).trans (by kernel_rfl)
noncomputable abbrev Q1L.s : Sg := ⟨[.lend, .lend], [vl 3, .one (.fn 198 [.ptr false 78 [.fn 169 []]])], ⟨[vb], [none, none]⟩, Tryz.f197⟩
noncomputable def Q1L.gs (δ : Type) : List (Nat × Callee (GT tab) δ) := [(211, Q0D.k)]
theorem Q1L.gok (δ : Type) : Q4 Tryz.prog tab (Q1L.gs δ) := .cons Q0D.con .nil
noncomputable def Q1L.c := cx Q1L.s [] [] [] false (Q1L.gs _)
noncomputable def Q1L (x0 : List Int) (x1 : Unit) : Option (Bool) := fnW Q1L.s Q1L.c (x0, x1)
theorem Q1L.fok : FkS Q1L.s 197 := ⟨Tryz.func197, by kernel_rfl, by kernel_rfl⟩
noncomputable def Q1L.fn (x : Args tab Q1L.s.ar) : Option (ResT tab Q1L.s.rs) := Q1L x.1 x.2
noncomputable abbrev Q1L.k {δ : Type} : Callee (GT tab) δ := kS Q1L.s Q1L.fn
theorem Q1L.con {δ : Type} : Con Tryz.prog (KT tab) 197 (Q1L.k (δ := δ)) := Q5 (c := Q1L.c) mixed Q0 (Q1 (Q1L.gok _)) Q1L.fok rfl rfl fun _ => rfl
theorem Q1L.eq (x0 : List Int) (x1 : Unit) : Q1L x0 x1 =
 (Q0D x0 ()).bind fun y1 =>
 some (decide (y1 ≥ (0 : Int))) := by kernel_rfl
noncomputable abbrev Q1v.s : Sg := ⟨[.lend, .lend], [vl 3, .one (.fn 169 [])], ⟨[vb], [none, none]⟩, Tryz.f168⟩
noncomputable def Q1v.gs (δ : Type) : List (Nat × Callee (GT tab) δ) := [(197, Q1L.k)]
theorem Q1v.gok (δ : Type) : Q4 Tryz.prog tab (Q1v.gs δ) := .cons Q1L.con .nil
noncomputable def Q1v.c := cx Q1v.s [] [] [] false (Q1v.gs _)
noncomputable def Q1v (x0 : List Int) (x1 : Unit) : Option (Bool) := fnW Q1v.s Q1v.c (x0, x1)
theorem Q1v.fok : FkS Q1v.s 168 := ⟨Tryz.func168, by kernel_rfl, by kernel_rfl⟩
noncomputable def Q1v.fn (x : Args tab Q1v.s.ar) : Option (ResT tab Q1v.s.rs) := Q1v x.1 x.2
noncomputable abbrev Q1v.k {δ : Type} : Callee (GT tab) δ := kS Q1v.s Q1v.fn
theorem Q1v.con {δ : Type} : Con Tryz.prog (KT tab) 168 (Q1v.k (δ := δ)) := Q5 (c := Q1v.c) mixed Q0 (Q1 (Q1v.gok _)) Q1v.fok rfl rfl fun _ => rfl
theorem Q1v.eq (x0 : List Int) (x1 : Unit) : Q1v x0 x1 =
 (Q1L x0 ()).bind fun y1 =>
 some (!y1) := by kernel_rfl
noncomputable abbrev QI.s : Sg := ⟨[.lend], [vl 3], ⟨[.agg [.int .i64, .sl true true 90]], [none]⟩, Tryz.f113⟩
noncomputable def QI.gs (δ : Type) : List (Nat × Callee (GT tab) δ) := []
theorem QI.gok (δ : Type) : Q4 Tryz.prog tab (QI.gs δ) := .nil
noncomputable def QI.c := cx QI.s [] [] [(3, [2, 3, 15, 16, 17])] false (QI.gs _)
noncomputable def QI (x0 : List Int) : Option (Int × (List Int)) := fnW QI.s QI.c x0
theorem QI.fok : FkS QI.s 113 := ⟨Tryz.func113, by kernel_rfl, by kernel_rfl⟩
noncomputable def QI.fn (x : Args tab QI.s.ar) : Option (ResT tab QI.s.rs) := QI x
noncomputable abbrev QI.k {δ : Type} : Callee (GT tab) δ := kS QI.s QI.fn
theorem QI.con {δ : Type} : Con Tryz.prog (KT tab) 113 (QI.k (δ := δ)) := Q5 (c := QI.c) mixed Q0 (Q1 (QI.gok _)) QI.fok rfl rfl fun _ => rfl
noncomputable def QI_l0 (v0 : List Int) (v1 v2 v3 : Int) (v4 : List Int) (v5 : Int) (v6 : List Int) : Option (Int × (List Int)) := lpW QI.s QI.c 0 (ud 19 [.undef, .undef, .ptr 0 0, .ptr 2 0, .undef, .undef, .undef, .undef, .undef, .undef, .undef, .undef, .undef, .undef, .undef, .vs false 3 v0, .int .i64 v1, .int .i64 v2]) [.box 30 [.int .i64 v3, .sl 1 0], .row 0 true 90 v4, .box 30 [.int .i64 v5, .sl 3 0], .row 0 true 90 v6] 4
theorem QI.eq (x0 : List Int) : QI x0 =
 bif decide ((0 : Int) ≤ IntKind.i64.wrap ((IntKind.i64.wrap ((IntKind.i64.wrap ((x0.length : Int) + (64 : Int))) - (1 : Int))).tdiv (64 : Int))) && decide (((IntKind.i64.wrap ((IntKind.i64.wrap ((IntKind.i64.wrap ((x0.length : Int) + (64 : Int))) - (1 : Int))).tdiv (64 : Int))).toNat) * 8 ≤ 140737488355328) then
 QI_l0 x0 (x0.length : Int) (0 : Int) (0 : Int) ([] : List Int) (x0.length : Int) (List.replicate ((IntKind.i64.wrap ((IntKind.i64.wrap ((IntKind.i64.wrap ((x0.length : Int) + (64 : Int))) - (1 : Int))).tdiv (64 : Int))).toNat) (0 : Int))
 else
 none := by kernel_rfl
theorem QI_l0.eq (v0 : List Int) (v1 v2 v3 : Int) (v4 : List Int) (v5 : Int) (v6 : List Int) : QI_l0 v0 v1 v2 v3 v4 v5 v6 =
 bif decide (v2 < v1) then
 (at? v0 v2).bind fun y1 =>
 (at? v6 (IntKind.i64.wrap (v2.tdiv (64 : Int)))).bind fun y2 =>
 v6[(IntKind.i64.wrap (v2.tdiv (64 : Int))).toNat]?.bind fun y3 =>
 bif decide (v2.tmod (64 : Int) < (0 : Int)) then
 none
 else
 (at? v6 (IntKind.i64.wrap (v2.tdiv (64 : Int)))).bind fun y4 =>
 v6[(IntKind.i64.wrap (v2.tdiv (64 : Int))).toNat]?.bind fun y5 =>
 QI_l0 v0 v1 (IntKind.i64.wrap (v2 + (1 : Int))) v3 v4 v5 (v6.set ((IntKind.i64.wrap (v2.tdiv (64 : Int))).toNat) (IntKind.u64.wrap (((BitVec.ofInt 64 y3) ||| (BitVec.ofInt 64 (IntKind.u64.wrap ((IntKind.u64.wrap y1) * 2 ^ (min (v2.tmod (64 : Int)).toNat 64))))).toNat : Int)))
 else
 some (v5, v6) := (Q6 Q0 (Q1 (QI.gok _)) _ _).trans (by kernel_rfl)
def Q25.ms : List Mode := [.give, .lend]
def Q25.as : List VSh := [.one (.b (.b (.b (.b (.sl true true 3))))), .one (.b (.b (.b (.b (.int .i64)))))]
def Q25.rs : RSh := ⟨[.one (.b (.b (.b (.b (.sl true true 3)))))], [none, none]⟩
noncomputable def Q25 (x0 : List Int) (x1 : Int) : Option (List Int) := growF 8 (x0, x1)
noncomputable def Q25.fn : Args tab Q25.as → Option (ResT tab Q25.rs) := fun x => Q25 x.1 x.2
noncomputable abbrev Q25.k {δ : Type} : Callee (GT tab) δ := Q1U tab Q25.ms Q25.as Q25.rs Q25.fn
theorem Q25.con {δ : Type} : Con Tryz.prog (KT tab) 199 (Q25.k (δ := δ)) := con_grow2 Tryz.laysGrow199 rfl rfl (ty := tyOf tys) Q0 (e := 3) rfl (by decide) rfl rfl
noncomputable abbrev QE.s : Sg := ⟨[.lend], [vl 24], ⟨[vo 3], [none]⟩, Tryz.f170⟩
noncomputable def QE.gs (δ : Type) : List (Nat × Callee (GT tab) δ) := [(199, Q25.k)]
theorem QE.gok (δ : Type) : Q4 Tryz.prog tab (QE.gs δ) := .cons Q25.con .nil
noncomputable def QE.c := cx QE.s [] [] [(3, [0, 3, 9, 10, 11]), (11, [6, 25, 26, 27])] false (QE.gs _)
noncomputable def QE (x0 : List (List Int)) : Option (List Int) := fnW QE.s QE.c x0
theorem QE.fok : FkS QE.s 170 := ⟨Tryz.func170, by kernel_rfl, by kernel_rfl⟩
noncomputable def QE.fn (x : Args tab QE.s.ar) : Option (ResT tab QE.s.rs) := QE x
noncomputable abbrev QE.k {δ : Type} : Callee (GT tab) δ := kS QE.s QE.fn
theorem QE.con {δ : Type} : Con Tryz.prog (KT tab) 170 (QE.k (δ := δ)) := Q5 (c := QE.c) mixed Q0 (Q1 (QE.gok _)) QE.fok rfl rfl fun _ => rfl
noncomputable def QE_l0 (v0 : List (List Int)) (v1 : Int) (v2 : List (List Int)) (v3 v4 : Int) : Option (List Int) := lpW QE.s QE.c 0 (ud 24 [.vs false 24 v0, .undef, .undef, .int .i64 v1, .undef, .undef, .undef, .undef, .undef, .vs false 24 v2, .int .i64 v3, .int .i64 v4]) [] 0
noncomputable def QE_l1 (v0 : List (List Int)) (v1 v2 : Int) (v3 : List Int) : Option (List Int) := lpW QE.s QE.c 1 (ud 8 [.undef, .undef, .undef, .undef, .undef, .undef, .sl 0 0, .undef, .undef, .undef, .undef, .undef, .undef, .undef, .undef, .undef, .undef, .undef, .undef, .undef, .undef, .undef, .undef, .undef, .undef, .vs false 24 v0, .int .i64 v1, .int .i64 v2]) [.row 0 true 3 v3] 1
theorem QE.eq (x0 : List (List Int)) : QE x0 =
 QE_l0 x0 (0 : Int) x0 (x0.length : Int) (0 : Int) := by kernel_rfl
theorem QE_l0.eq (v0 : List (List Int)) (v1 : Int) (v2 : List (List Int)) (v3 v4 : Int) : QE_l0 v0 v1 v2 v3 v4 =
 bif decide (v4 < v3) then
 (at? v2 v4).bind fun y1 =>
 bif decide (IntKind.i64.wrap (v1 + (y1.length : Int)) < (0 : Int)) then
 none
 else
 QE_l0 v0 (IntKind.i64.wrap (v1 + (y1.length : Int))) v2 v3 (IntKind.i64.wrap (v4 + (1 : Int)))
 else
 (Q25 ([] : List Int) v1).bind fun y2 =>
 QE_l1 v0 (v0.length : Int) (0 : Int) y2 := (Q6 Q0 (Q1 (QE.gok _)) _ _).trans (by kernel_rfl)
theorem QE_l1.eq (v0 : List (List Int)) (v1 v2 : Int) (v3 : List Int) : QE_l1 v0 v1 v2 v3 =
 bif decide (v2 < v1) then
 (at? v0 v2).bind fun y1 =>
 bif decide ((v3.length + y1.length) * 8 ≤ 140737488355328) then
 QE_l1 v0 v1 (IntKind.i64.wrap (v2 + (1 : Int))) (v3 ++ y1)
 else
 none
 else
 some v3 := (Q6 Q0 (Q1 (QE.gok _)) _ _).trans (by kernel_rfl)
noncomputable abbrev Qa.s : Sg := ⟨[.lend], [vl 3], ⟨[.agg [.int .i64, .sl true true 3, .sl true true 30], vb], [none]⟩, Tryz.f116⟩
noncomputable def Qa.gs (δ : Type) : List (Nat × Callee (GT tab) δ) := [(113, QI.k), (168, Q1v.k), (170, QE.k)]
theorem Qa.gok (δ : Type) : Q4 Tryz.prog tab (Qa.gs δ) := .cons QI.con (.cons Q1v.con (.cons QE.con .nil))
noncomputable def Qa.c := cx Qa.s [] [3] [(3, [0, 2]), (5, [0, 2, 4, 24]), (9, [2, 4, 5, 6, 7, 8, 24, 27, 28, 29])] false (Qa.gs _)
noncomputable def Qa (x0 : List Int) : Option ((Int × (List Int) × (List (Int × (List Int)))) × Bool) := fnW Qa.s Qa.c x0
theorem Qa.fok : FkS Qa.s 116 := ⟨Tryz.func116, by kernel_rfl, by kernel_rfl⟩
noncomputable def Qa.fn (x : Args tab Qa.s.ar) : Option (ResT tab Qa.s.rs) := Qa x
noncomputable abbrev Qa.k {δ : Type} : Callee (GT tab) δ := kS Qa.s Qa.fn
theorem Qa.con {δ : Type} : Con Tryz.prog (KT tab) 116 (Qa.k (δ := δ)) := Q5 (c := Qa.c) mixed Q0 (Q1 (Qa.gok _)) Qa.fok rfl rfl fun _ => rfl
noncomputable def Qa_l0 (v0 : List Int) (v1 : Int) (v2 : List Int) (v3 : List (Int × (List Int))) : Option ((Int × (List Int) × (List (Int × (List Int)))) × Bool) := lpW Qa.s Qa.c 0 (ud 70 [.vs false 3 v0, .undef, .ptr 0 0]) [.box 27 [.int .i64 v1, .sl 1 0, .sl 2 0], .row 0 true 3 v2, .row 0 true 30 v3] 3
noncomputable def Qa_l1 (v0 : List Int) (v1 v2 : Int) (v3 : List Int) (v4 : List (Int × (List Int))) (v5 : Int) (v6 : List Int) (v7 : List (Int × (List Int))) : Option ((Int × (List Int) × (List (Int × (List Int)))) × Bool) := lpW Qa.s Qa.c 1 (ud 48 [.vs false 3 v0, .undef, .ptr 0 0, .undef, .ptr 3 0, .undef, .undef, .undef, .undef, .undef, .undef, .undef, .undef, .undef, .undef, .undef, .undef, .undef, .undef, .undef, .undef, .undef, .undef, .undef, .int .i64 v1]) [.box 27 [.int .i64 v2, .sl 1 0, .sl 2 0], .row 0 true 3 v3, .row 0 true 30 v4, .box 27 [.int .i64 v5, .sl 4 0, .sl 5 0], .row 0 true 3 v6, .row 0 true 30 v7] 6
noncomputable def Qa_l2 (v0 v1 : Int) (v2 : List Int) (v3 v4 v5 : Int) (v6 : List Int) (v7 : List (Int × (List Int))) (v8 : Int) (v9 : List Int) (v10 : List (Int × (List Int))) (v11 v12 v13 : List Int) : Option ((Int × (List Int) × (List (Int × (List Int)))) × Bool) := lpW Qa.s Qa.c 2 (ud 43 [.undef, .undef, .ptr 0 0, .undef, .ptr 3 0, .int .i64 v0, .sl 6 0, .sl 7 0, .sl 8 0, .undef, .undef, .undef, .undef, .undef, .undef, .undef, .undef, .undef, .undef, .undef, .undef, .undef, .undef, .undef, .int .i64 v1, .undef, .undef, .vs false 3 v2, .int .i64 v3, .int .i64 v4]) [.box 27 [.int .i64 v5, .sl 1 0, .sl 2 0], .row 0 true 3 v6, .row 0 true 30 v7, .box 27 [.int .i64 v8, .sl 4 0, .sl 5 0], .row 0 true 3 v9, .row 0 true 30 v10, .row 0 true 3 v11, .row 0 true 3 v12, .row 0 true 3 v13] 9
noncomputable def Qa_l3 (v0 : Int) (v1 : List Int) (v2 : Int) (v3 : List Int) (v4 : List (Int × (List Int))) (v5 : Int) (v6 : List Int) (v7 : List (Int × (List Int))) : Option ((Int × (List Int) × (List (Int × (List Int)))) × Bool) := lpW Qa.s Qa.c 1 (ud 48 [.sl 0 0, .undef, .ptr 1 0, .undef, .ptr 4 0, .undef, .undef, .undef, .undef, .undef, .undef, .undef, .undef, .undef, .undef, .undef, .undef, .undef, .undef, .undef, .undef, .undef, .undef, .undef, .int .i64 v0]) [.row 0 true 3 v1, .box 27 [.int .i64 v2, .sl 2 0, .sl 3 0], .row 0 true 3 v3, .row 0 true 30 v4, .box 27 [.int .i64 v5, .sl 5 0, .sl 6 0], .row 0 true 3 v6, .row 0 true 30 v7] 7
noncomputable def Qa_l4 (v0 v1 v2 v3 v4 : Int) (v5 : List Int) (v6 : List (Int × (List Int))) (v7 : Int) (v8 : List Int) (v9 : List (Int × (List Int))) (v10 v11 v12 v13 : List Int) : Option ((Int × (List Int) × (List (Int × (List Int)))) × Bool) := lpW Qa.s Qa.c 2 (ud 43 [.undef, .undef, .ptr 0 0, .undef, .ptr 3 0, .int .i64 v0, .sl 6 0, .sl 7 0, .sl 8 0, .undef, .undef, .undef, .undef, .undef, .undef, .undef, .undef, .undef, .undef, .undef, .undef, .undef, .undef, .undef, .int .i64 v1, .undef, .undef, .sl 9 0, .int .i64 v2, .int .i64 v3]) [.box 27 [.int .i64 v4, .sl 1 0, .sl 2 0], .row 0 true 3 v5, .row 0 true 30 v6, .box 27 [.int .i64 v7, .sl 4 0, .sl 5 0], .row 0 true 3 v8, .row 0 true 30 v9, .row 0 true 3 v10, .row 0 true 3 v11, .row 0 true 3 v12, .row 0 true 3 v13] 10
theorem Qa.eq (x0 : List Int) : Qa x0 =
 bif decide ((x0.length : Int) > (1000 : Int)) then
 some (((0 : Int), ([] : List Int), ([] : List (Int × (List Int)))), false)
 else
 (Q1v x0 ()).bind fun y1 =>
 bif !y1 then
 some (((0 : Int), ([] : List Int), ([] : List (Int × (List Int)))), false)
 else
 Qa_l0 x0 (0 : Int) ([] : List Int) ([] : List (Int × (List Int))) := by kernel_rfl
theorem Qa_l0.eq (v0 : List Int) (v1 : Int) (v2 : List Int) (v3 : List (Int × (List Int))) : Qa_l0 v0 v1 v2 v3 =
 Qa_l1 v0 (0 : Int) v1 v2 v3 (v0.length : Int) ([] : List Int) ([] : List (Int × (List Int))) := (Q6 Q0 (Q1 (Qa.gok _)) _ _).trans (by kernel_rfl)
theorem Qa_l1.eq (v0 : List Int) (v1 v2 : Int) (v3 : List Int) (v4 : List (Int × (List Int))) (v5 : Int) (v6 : List Int) (v7 : List (Int × (List Int))) : Qa_l1 v0 v1 v2 v3 v4 v5 v6 v7 =
 bif decide (v1 < (9 : Int)) then
 Qa_l2 v1 v1 v0 (v0.length : Int) (0 : Int) v2 v3 v4 v5 v6 v7 ([] : List Int) ([] : List Int) ([] : List Int)
 else
 some ((v5, v6, v7), true) := (Q6 Q0 (Q1 (Qa.gok _)) _ _).trans (by kernel_rfl)
theorem Qa_l2.eq (v0 v1 : Int) (v2 : List Int) (v3 v4 v5 : Int) (v6 : List Int) (v7 : List (Int × (List Int))) (v8 : Int) (v9 : List Int) (v10 : List (Int × (List Int))) (v11 v12 v13 : List Int) : Qa_l2 v0 v1 v2 v3 v4 v5 v6 v7 v8 v9 v10 v11 v12 v13 =
 bif decide (v4 < v3) then
 (at? v2 v4).bind fun y1 =>
 bif decide (IntKind.i64.wrap ((8 : Int) - v0) < (0 : Int)) then
 none
 else
 bif decide ((v13.length + ([IntKind.i64.wrap (((BitVec.ofInt 64 (y1.fdiv (2 ^ (min (IntKind.i64.wrap ((8 : Int) - v0)).toNat 64)))) &&& (BitVec.ofInt 64 (1 : Int))).toNat : Int)] : List Int).length) * 8 ≤ 140737488355328) then
 bif IntKind.i64.wrap (((BitVec.ofInt 64 (y1.fdiv (2 ^ (min (IntKind.i64.wrap ((8 : Int) - v0)).toNat 64)))) &&& (BitVec.ofInt 64 (1 : Int))).toNat : Int) == (0 : Int) then
 bif decide ((v11.length + ([y1] : List Int).length) * 8 ≤ 140737488355328) then
 Qa_l2 v0 v1 v2 v3 (IntKind.i64.wrap (v4 + (1 : Int))) v5 v6 v7 v8 v9 v10 (v11 ++ ([y1] : List Int)) v12 (v13 ++ ([IntKind.i64.wrap (((BitVec.ofInt 64 (y1.fdiv (2 ^ (min (IntKind.i64.wrap ((8 : Int) - v0)).toNat 64)))) &&& (BitVec.ofInt 64 (1 : Int))).toNat : Int)] : List Int))
 else
 none
 else
 bif decide ((v12.length + ([y1] : List Int).length) * 8 ≤ 140737488355328) then
 Qa_l2 v0 v1 v2 v3 (IntKind.i64.wrap (v4 + (1 : Int))) v5 v6 v7 v8 v9 v10 v11 (v12 ++ ([y1] : List Int)) (v13 ++ ([IntKind.i64.wrap (((BitVec.ofInt 64 (y1.fdiv (2 ^ (min (IntKind.i64.wrap ((8 : Int) - v0)).toNat 64)))) &&& (BitVec.ofInt 64 (1 : Int))).toNat : Int)] : List Int))
 else
 none
 else
 none
 else
 bif decide ((v9.length + ([(v11.length : Int)] : List Int).length) * 8 ≤ 140737488355328) then
 (QI v13).bind fun y2 =>
 bif decide ((v10.length + ([(y2.1, y2.2)] : List (Int × (List Int))).length) * 32 ≤ 140737488355328) then
 (QE ([v11, v12] : List (List Int))).bind fun y3 =>
 Qa_l3 (IntKind.i64.wrap (v1 + (1 : Int))) y3 v5 v6 v7 v8 (v9 ++ ([(v11.length : Int)] : List Int)) (v10 ++ ([(y2.1, y2.2)] : List (Int × (List Int))))
 else
 none
 else
 none := (Q6 Q0 (Q1 (Qa.gok _)) _ _).trans (by kernel_rfl)
theorem Qa_l3.eq (v0 : Int) (v1 : List Int) (v2 : Int) (v3 : List Int) (v4 : List (Int × (List Int))) (v5 : Int) (v6 : List Int) (v7 : List (Int × (List Int))) : Qa_l3 v0 v1 v2 v3 v4 v5 v6 v7 =
 bif decide (v0 < (9 : Int)) then
 Qa_l4 v0 v0 (v1.length : Int) (0 : Int) v2 v3 v4 v5 v6 v7 ([] : List Int) ([] : List Int) ([] : List Int) v1
 else
 some ((v5, v6, v7), true) := (Q6 Q0 (Q1 (Qa.gok _)) _ _).trans (by kernel_rfl)
theorem Qa_l4.eq (v0 v1 v2 v3 v4 : Int) (v5 : List Int) (v6 : List (Int × (List Int))) (v7 : Int) (v8 : List Int) (v9 : List (Int × (List Int))) (v10 v11 v12 v13 : List Int) : Qa_l4 v0 v1 v2 v3 v4 v5 v6 v7 v8 v9 v10 v11 v12 v13 =
 bif decide (v3 < v2) then
 (at? v13 v3).bind fun y1 =>
 v13[v3.toNat]?.bind fun y2 =>
 bif decide (IntKind.i64.wrap ((8 : Int) - v0) < (0 : Int)) then
 none
 else
 bif decide ((v12.length + ([IntKind.i64.wrap (((BitVec.ofInt 64 (y2.fdiv (2 ^ (min (IntKind.i64.wrap ((8 : Int) - v0)).toNat 64)))) &&& (BitVec.ofInt 64 (1 : Int))).toNat : Int)] : List Int).length) * 8 ≤ 140737488355328) then
 bif IntKind.i64.wrap (((BitVec.ofInt 64 (y2.fdiv (2 ^ (min (IntKind.i64.wrap ((8 : Int) - v0)).toNat 64)))) &&& (BitVec.ofInt 64 (1 : Int))).toNat : Int) == (0 : Int) then
 bif decide ((v10.length + ([y2] : List Int).length) * 8 ≤ 140737488355328) then
 Qa_l4 v0 v1 v2 (IntKind.i64.wrap (v3 + (1 : Int))) v4 v5 v6 v7 v8 v9 (v10 ++ ([y2] : List Int)) v11 (v12 ++ ([IntKind.i64.wrap (((BitVec.ofInt 64 (y2.fdiv (2 ^ (min (IntKind.i64.wrap ((8 : Int) - v0)).toNat 64)))) &&& (BitVec.ofInt 64 (1 : Int))).toNat : Int)] : List Int)) v13
 else
 none
 else
 bif decide ((v11.length + ([y2] : List Int).length) * 8 ≤ 140737488355328) then
 Qa_l4 v0 v1 v2 (IntKind.i64.wrap (v3 + (1 : Int))) v4 v5 v6 v7 v8 v9 v10 (v11 ++ ([y2] : List Int)) (v12 ++ ([IntKind.i64.wrap (((BitVec.ofInt 64 (y2.fdiv (2 ^ (min (IntKind.i64.wrap ((8 : Int) - v0)).toNat 64)))) &&& (BitVec.ofInt 64 (1 : Int))).toNat : Int)] : List Int)) v13
 else
 none
 else
 none
 else
 bif decide ((v8.length + ([(v10.length : Int)] : List Int).length) * 8 ≤ 140737488355328) then
 (QI v12).bind fun y3 =>
 bif decide ((v9.length + ([(y3.1, y3.2)] : List (Int × (List Int))).length) * 32 ≤ 140737488355328) then
 (QE ([v10, v11] : List (List Int))).bind fun y4 =>
 Qa_l3 (IntKind.i64.wrap (v1 + (1 : Int))) y4 v4 v5 v6 v7 (v8 ++ ([(v10.length : Int)] : List Int)) (v9 ++ ([(y3.1, y3.2)] : List (Int × (List Int))))
 else
 none
 else
 none := (Q6 Q0 (Q1 (Qa.gok _)) _ _).trans (by kernel_rfl)
noncomputable abbrev Q0k.s : Sg := ⟨[.lend], [vl 3], ⟨[vo 3], [none]⟩, Tryz.f157⟩
noncomputable def Q0k.gs (δ : Type) : List (Nat × Callee (GT tab) δ) := []
theorem Q0k.gok (δ : Type) : Q4 Tryz.prog tab (Q0k.gs δ) := .nil
noncomputable def Q0k.c := cx Q0k.s [] [] [(3, [3, 9, 10, 11])] false (Q0k.gs _)
noncomputable def Q0k (x0 : List Int) : Option (List Int) := fnW Q0k.s Q0k.c x0
theorem Q0k.fok : FkS Q0k.s 157 := ⟨Tryz.func157, by kernel_rfl, by kernel_rfl⟩
noncomputable def Q0k.fn (x : Args tab Q0k.s.ar) : Option (ResT tab Q0k.s.rs) := Q0k x
noncomputable abbrev Q0k.k {δ : Type} : Callee (GT tab) δ := kS Q0k.s Q0k.fn
theorem Q0k.con {δ : Type} : Con Tryz.prog (KT tab) 157 (Q0k.k (δ := δ)) := Q5 (c := Q0k.c) mixed Q0 (Q1 (Q0k.gok _)) Q0k.fok rfl rfl fun _ => rfl
noncomputable def Q0k_l0 (v0 : List Int) (v1 v2 : Int) (v3 : List Int) : Option (List Int) := lpW Q0k.s Q0k.c 0 (ud 10 [.undef, .undef, .undef, .sl 0 0, .undef, .undef, .undef, .undef, .undef, .vs false 3 v0, .int .i64 v1, .int .i64 v2]) [.row 0 true 3 v3] 1
theorem Q0k.eq (x0 : List Int) : Q0k x0 =
 bif decide ((0 : Int) ≤ (x0.length : Int)) && decide (((x0.length : Int).toNat) * 8 ≤ 140737488355328) then
 Q0k_l0 x0 (x0.length : Int) (0 : Int) (List.replicate ((x0.length : Int).toNat) (0 : Int))
 else
 none := by kernel_rfl
theorem Q0k_l0.eq (v0 : List Int) (v1 v2 : Int) (v3 : List Int) : Q0k_l0 v0 v1 v2 v3 =
 bif decide (v2 < v1) then
 (at? v0 v2).bind fun y1 =>
 (at? v3 y1).bind fun y2 =>
 v3[y1.toNat]?.bind fun y3 =>
 Q0k_l0 v0 v1 (IntKind.i64.wrap (v2 + (1 : Int))) (v3.set y1.toNat v2)
 else
 some v3 := (Q6 Q0 (Q1 (Q0k.gok _)) _ _).trans (by kernel_rfl)
noncomputable abbrev QR.s : Sg := ⟨[.lend], [.one (.b (.b (.b (.b (.int .u64)))))], ⟨[vi], [none]⟩, Tryz.f206⟩
noncomputable def QR.gs (δ : Type) : List (Nat × Callee (GT tab) δ) := []
theorem QR.gok (δ : Type) : Q4 Tryz.prog tab (QR.gs δ) := .nil
noncomputable def QR.c := cx QR.s [] [4, 7] [(4, [0, 2]), (7, [0, 2])] false (QR.gs _)
noncomputable def QR (x0 : Int) : Option (Int) := fnW QR.s QR.c x0
theorem QR.fok : FkS QR.s 206 := ⟨Tryz.func206, by kernel_rfl, by kernel_rfl⟩
noncomputable def QR.fn (x : Args tab QR.s.ar) : Option (ResT tab QR.s.rs) := QR x
noncomputable abbrev QR.k {δ : Type} : Callee (GT tab) δ := kS QR.s QR.fn
theorem QR.con {δ : Type} : Con Tryz.prog (KT tab) 206 (QR.k (δ := δ)) := Q5 (c := QR.c) mixed Q0 (Q1 (QR.gok _)) QR.fok rfl rfl fun _ => rfl
noncomputable def QR_l0 (v0 v1 : Int) : Option (Int) := lpW QR.s QR.c 0 (ud 22 [.int .u64 v0, .undef, .int .i64 v1]) [] 0
noncomputable def QR_l1 (v0 v1 : Int) : Option (Int) := lpW QR.s QR.c 1 (ud 22 [.int .u64 v0, .undef, .int .i64 v1]) [] 0
theorem QR.eq (x0 : Int) : QR x0 =
 bif decide (x0 ≥ (4294967296 : Int)) then
 QR_l0 (x0.fdiv (2 ^ 32)) (32 : Int)
 else
 QR_l0 x0 (0 : Int) := by kernel_rfl
theorem QR_l0.eq (v0 v1 : Int) : QR_l0 v0 v1 =
 bif decide (v0 ≥ (65536 : Int)) then
 QR_l1 (v0.fdiv (2 ^ 16)) (IntKind.i64.wrap (v1 + (16 : Int)))
 else
 QR_l1 v0 v1 := (Q6 Q0 (Q1 (QR.gok _)) _ _).trans (by kernel_rfl)
theorem QR_l1.eq (v0 v1 : Int) : QR_l1 v0 v1 =
 bif decide (v0 ≥ (256 : Int)) then
 (at? ((⟨(List.toArray ([0, 1, 2, 2, 3, 3, 3, 3, 4, 4, 4, 4, 4, 4, 4, 4, 5, 5, 5, 5, 5, 5, 5, 5, 5, 5, 5, 5, 5, 5, 5, 5, 6, 6, 6, 6, 6, 6, 6, 6, 6, 6, 6, 6, 6, 6, 6, 6, 6, 6, 6, 6, 6, 6, 6, 6, 6, 6, 6, 6, 6, 6, 6, 6, 7, 7, 7, 7, 7, 7, 7, 7, 7, 7, 7, 7, 7, 7, 7, 7, 7, 7, 7, 7, 7, 7, 7, 7, 7, 7, 7, 7, 7, 7, 7, 7, 7, 7, 7, 7, 7, 7, 7, 7, 7, 7, 7, 7, 7, 7, 7, 7, 7, 7, 7, 7, 7, 7, 7, 7, 7, 7, 7, 7, 7, 7, 7, 7] ++ [8, 8, 8, 8, 8, 8, 8, 8, 8, 8, 8, 8, 8, 8, 8, 8, 8, 8, 8, 8, 8, 8, 8, 8, 8, 8, 8, 8, 8, 8, 8, 8, 8, 8, 8, 8, 8, 8, 8, 8, 8, 8, 8, 8, 8, 8, 8, 8, 8, 8, 8, 8, 8, 8, 8, 8, 8, 8, 8, 8, 8, 8, 8, 8, 8, 8, 8, 8, 8, 8, 8, 8, 8, 8, 8, 8, 8, 8, 8, 8, 8, 8, 8, 8, 8, 8, 8, 8, 8, 8, 8, 8, 8, 8, 8, 8, 8, 8, 8, 8, 8, 8, 8, 8, 8, 8, 8, 8, 8, 8, 8, 8, 8, 8, 8, 8, 8, 8, 8, 8, 8, 8, 8, 8, 8, 8, 8, 8]))⟩ : ByteArray).data.toList) (IntKind.u8.wrap (v0.fdiv (2 ^ 8)))).bind fun y1 =>
 some (IntKind.i64.wrap ((IntKind.i64.wrap (v1 + (8 : Int))) + (IntKind.i64.wrap (y1.toNat : Int))))
 else
 (at? ((⟨(List.toArray ([0, 1, 2, 2, 3, 3, 3, 3, 4, 4, 4, 4, 4, 4, 4, 4, 5, 5, 5, 5, 5, 5, 5, 5, 5, 5, 5, 5, 5, 5, 5, 5, 6, 6, 6, 6, 6, 6, 6, 6, 6, 6, 6, 6, 6, 6, 6, 6, 6, 6, 6, 6, 6, 6, 6, 6, 6, 6, 6, 6, 6, 6, 6, 6, 7, 7, 7, 7, 7, 7, 7, 7, 7, 7, 7, 7, 7, 7, 7, 7, 7, 7, 7, 7, 7, 7, 7, 7, 7, 7, 7, 7, 7, 7, 7, 7, 7, 7, 7, 7, 7, 7, 7, 7, 7, 7, 7, 7, 7, 7, 7, 7, 7, 7, 7, 7, 7, 7, 7, 7, 7, 7, 7, 7, 7, 7, 7, 7] ++ [8, 8, 8, 8, 8, 8, 8, 8, 8, 8, 8, 8, 8, 8, 8, 8, 8, 8, 8, 8, 8, 8, 8, 8, 8, 8, 8, 8, 8, 8, 8, 8, 8, 8, 8, 8, 8, 8, 8, 8, 8, 8, 8, 8, 8, 8, 8, 8, 8, 8, 8, 8, 8, 8, 8, 8, 8, 8, 8, 8, 8, 8, 8, 8, 8, 8, 8, 8, 8, 8, 8, 8, 8, 8, 8, 8, 8, 8, 8, 8, 8, 8, 8, 8, 8, 8, 8, 8, 8, 8, 8, 8, 8, 8, 8, 8, 8, 8, 8, 8, 8, 8, 8, 8, 8, 8, 8, 8, 8, 8, 8, 8, 8, 8, 8, 8, 8, 8, 8, 8, 8, 8, 8, 8, 8, 8, 8, 8]))⟩ : ByteArray).data.toList) (IntKind.u8.wrap v0)).bind fun y2 =>
 some (IntKind.i64.wrap (v1 + (IntKind.i64.wrap (y2.toNat : Int)))) := (Q6 Q0 (Q1 (QR.gok _)) _ _).trans (by kernel_rfl)
noncomputable abbrev Q1M.s : Sg := ⟨[.lend], [.one (.b (.b (.b (.b (.int .u64)))))], ⟨[vi], [none]⟩, Tryz.f189⟩
noncomputable def Q1M.gs (δ : Type) : List (Nat × Callee (GT tab) δ) := [(206, QR.k)]
theorem Q1M.gok (δ : Type) : Q4 Tryz.prog tab (Q1M.gs δ) := .cons QR.con .nil
noncomputable def Q1M.c := cx Q1M.s [] [] [] false (Q1M.gs _)
noncomputable def Q1M (x0 : Int) : Option (Int) := fnW Q1M.s Q1M.c x0
theorem Q1M.fok : FkS Q1M.s 189 := ⟨Tryz.func189, by kernel_rfl, by kernel_rfl⟩
noncomputable def Q1M.fn (x : Args tab Q1M.s.ar) : Option (ResT tab Q1M.s.rs) := Q1M x
noncomputable abbrev Q1M.k {δ : Type} : Callee (GT tab) δ := kS Q1M.s Q1M.fn
theorem Q1M.con {δ : Type} : Con Tryz.prog (KT tab) 189 (Q1M.k (δ := δ)) := Q5 (c := Q1M.c) mixed Q0 (Q1 (Q1M.gok _)) Q1M.fok rfl rfl fun _ => rfl
theorem Q1M.eq (x0 : Int) : Q1M x0 =
 (QR x0).bind fun y1 =>
 some y1 := by kernel_rfl
noncomputable abbrev Q19.s : Sg := ⟨[.lend], [vi], ⟨[vi], [none]⟩, Tryz.f159⟩
noncomputable def Q19.gs (δ : Type) : List (Nat × Callee (GT tab) δ) := [(189, Q1M.k)]
theorem Q19.gok (δ : Type) : Q4 Tryz.prog tab (Q19.gs δ) := .cons Q1M.con .nil
noncomputable def Q19.c := cx Q19.s [] [] [] false (Q19.gs _)
noncomputable def Q19 (x0 : Int) : Option (Int) := fnW Q19.s Q19.c x0
theorem Q19.fok : FkS Q19.s 159 := ⟨Tryz.func159, by kernel_rfl, by kernel_rfl⟩
noncomputable def Q19.fn (x : Args tab Q19.s.ar) : Option (ResT tab Q19.s.rs) := Q19 x
noncomputable abbrev Q19.k {δ : Type} : Callee (GT tab) δ := kS Q19.s Q19.fn
theorem Q19.con {δ : Type} : Con Tryz.prog (KT tab) 159 (Q19.k (δ := δ)) := Q5 (c := Q19.c) mixed Q0 (Q1 (Q19.gok _)) Q19.fok rfl rfl fun _ => rfl
theorem Q19.eq (x0 : Int) : Q19 x0 =
 bif decide (x0 < (0 : Int)) then
 some (-1 : Int)
 else
 (Q1M (IntKind.u64.wrap x0)).bind fun y1 =>
 some y1 := by kernel_rfl
noncomputable abbrev Q1N.s : Sg := ⟨[.lend, .lend], [vi, .one (.ptr false 0 [.b (.b (.b (.int .i64)))])], ⟨[vb], [none, none]⟩, Tryz.f187⟩
noncomputable def Q1N.gs (δ : Type) : List (Nat × Callee (GT tab) δ) := [(58, QD.k)]
theorem Q1N.gok (δ : Type) : Q4 Tryz.prog tab (Q1N.gs δ) := .cons QD.con .nil
noncomputable def Q1N.c := cx Q1N.s [] [] [] false (Q1N.gs _)
noncomputable def Q1N (x0 x1 : Int) : Option (Bool) := fnW Q1N.s Q1N.c (x0, x1)
theorem Q1N.fok : FkS Q1N.s 187 := ⟨Tryz.func187, by kernel_rfl, by kernel_rfl⟩
noncomputable def Q1N.fn (x : Args tab Q1N.s.ar) : Option (ResT tab Q1N.s.rs) := Q1N x.1 x.2
noncomputable abbrev Q1N.k {δ : Type} : Callee (GT tab) δ := kS Q1N.s Q1N.fn
theorem Q1N.con {δ : Type} : Con Tryz.prog (KT tab) 187 (Q1N.k (δ := δ)) := Q5 (c := Q1N.c) mixed Q0 (Q1 (Q1N.gok _)) Q1N.fok rfl rfl fun _ => rfl
theorem Q1N.eq (x0 x1 : Int) : Q1N x0 x1 =
 bif decide (x1 < (0 : Int)) then
 none
 else
 (QD x0 (0 : Int) (IntKind.i64.wrap ((IntKind.i64.wrap ((1 : Int) * 2 ^ (min x1.toNat 64))) - (1 : Int)))).bind fun y1 =>
 some y1 := by kernel_rfl
noncomputable abbrev Q1a.s : Sg := ⟨[.lend, .lend], [vi, .one (.ptr false 0 [.fn 187 [.ptr false 0 [.b (.int .i64)]]])], ⟨[vb], [none, none]⟩, Tryz.f198⟩
noncomputable def Q1a.gs (δ : Type) : List (Nat × Callee (GT tab) δ) := [(187, Q1N.k)]
theorem Q1a.gok (δ : Type) : Q4 Tryz.prog tab (Q1a.gs δ) := .cons Q1N.con .nil
noncomputable def Q1a.c := cx Q1a.s [] [] [] false (Q1a.gs _)
noncomputable def Q1a (x0 x1 : Int) : Option (Bool) := fnW Q1a.s Q1a.c (x0, x1)
theorem Q1a.fok : FkS Q1a.s 198 := ⟨Tryz.func198, by kernel_rfl, by kernel_rfl⟩
noncomputable def Q1a.fn (x : Args tab Q1a.s.ar) : Option (ResT tab Q1a.s.rs) := Q1a x.1 x.2
noncomputable abbrev Q1a.k {δ : Type} : Callee (GT tab) δ := kS Q1a.s Q1a.fn
theorem Q1a.con {δ : Type} : Con Tryz.prog (KT tab) 198 (Q1a.k (δ := δ)) := Q5 (c := Q1a.c) mixed Q0 (Q1 (Q1a.gok _)) Q1a.fok rfl rfl fun _ => rfl
theorem Q1a.eq (x0 x1 : Int) : Q1a x0 x1 =
 (Q1N x0 x1).bind fun y1 =>
 some (!y1) := by kernel_rfl
noncomputable abbrev Q0E.s : Sg := ⟨[.lend, .lend], [vl 3, .one (.fn 198 [.ptr false 0 [.fn 187 [.ptr false 0 [.int .i64]]]])], ⟨[vi], [none, none]⟩, Tryz.f211⟩
noncomputable def Q0E.gs (δ : Type) : List (Nat × Callee (GT tab) δ) := [(198, Q1a.k)]
theorem Q0E.gok (δ : Type) : Q4 Tryz.prog tab (Q0E.gs δ) := .cons Q1a.con .nil
noncomputable def Q0E.c := cx Q0E.s [] [] [(2, [0, 1, 7, 8])] false (Q0E.gs _)
noncomputable def Q0E (x0 : List Int) (x1 : Int) : Option (Int) := fnW Q0E.s Q0E.c (x0, x1)
theorem Q0E.fok : FkS Q0E.s 211 := ⟨Tryz.func211, by kernel_rfl, by kernel_rfl⟩
noncomputable def Q0E.fn (x : Args tab Q0E.s.ar) : Option (ResT tab Q0E.s.rs) := Q0E x.1 x.2
noncomputable abbrev Q0E.k {δ : Type} : Callee (GT tab) δ := kS Q0E.s Q0E.fn
theorem Q0E.con {δ : Type} : Con Tryz.prog (KT tab) 211 (Q0E.k (δ := δ)) := Q5 (c := Q0E.c) mixed Q0 (Q1 (Q0E.gok _)) Q0E.fok rfl rfl fun _ => rfl
noncomputable def Q0E_l0 (v0 : List Int) (v1 v2 v3 : Int) : Option (Int) := lpW Q0E.s Q0E.c 0 (ud 10 [.vs false 3 v0, .fn 198 [.vp [.fn 187 [.ptr false 0 [.int .i64 v1]]]], .undef, .undef, .undef, .undef, .undef, .int .i64 v2, .int .i64 v3]) [] 0
theorem Q0E.eq (x0 : List Int) (x1 : Int) : Q0E x0 x1 =
 Q0E_l0 x0 x1 (x0.length : Int) (0 : Int) := by kernel_rfl
theorem Q0E_l0.eq (v0 : List Int) (v1 v2 v3 : Int) : Q0E_l0 v0 v1 v2 v3 =
 bif decide (v3 < v2) then
 (at? v0 v3).bind fun y1 =>
 (Q1a y1 v1).bind fun y2 =>
 bif y2 then
 some v3
 else
 Q0E_l0 v0 v1 v2 (IntKind.i64.wrap (v3 + (1 : Int)))
 else
 some (-1 : Int) := (Q6 Q0 (Q1 (Q0E.gok _)) _ _).trans (by kernel_rfl)
noncomputable abbrev Q1O.s : Sg := ⟨[.lend, .lend], [vl 3, .one (.fn 198 [.ptr false 78 [.fn 187 [.ptr false 0 [.int .i64]]]])], ⟨[vb], [none, none]⟩, Tryz.f197⟩
noncomputable def Q1O.gs (δ : Type) : List (Nat × Callee (GT tab) δ) := [(211, Q0E.k)]
theorem Q1O.gok (δ : Type) : Q4 Tryz.prog tab (Q1O.gs δ) := .cons Q0E.con .nil
noncomputable def Q1O.c := cx Q1O.s [] [] [] false (Q1O.gs _)
noncomputable def Q1O (x0 : List Int) (x1 : Int) : Option (Bool) := fnW Q1O.s Q1O.c (x0, x1)
theorem Q1O.fok : FkS Q1O.s 197 := ⟨Tryz.func197, by kernel_rfl, by kernel_rfl⟩
noncomputable def Q1O.fn (x : Args tab Q1O.s.ar) : Option (ResT tab Q1O.s.rs) := Q1O x.1 x.2
noncomputable abbrev Q1O.k {δ : Type} : Callee (GT tab) δ := kS Q1O.s Q1O.fn
theorem Q1O.con {δ : Type} : Con Tryz.prog (KT tab) 197 (Q1O.k (δ := δ)) := Q5 (c := Q1O.c) mixed Q0 (Q1 (Q1O.gok _)) Q1O.fok rfl rfl fun _ => rfl
theorem Q1O.eq (x0 : List Int) (x1 : Int) : Q1O x0 x1 =
 (Q0E x0 x1).bind fun y1 =>
 some (decide (y1 ≥ (0 : Int))) := by kernel_rfl
noncomputable abbrev Q1w.s : Sg := ⟨[.lend, .lend], [vl 3, .one (.fn 187 [.ptr false 3 [.b (.b (.int .i64))]])], ⟨[vb], [none, none]⟩, Tryz.f168⟩
noncomputable def Q1w.gs (δ : Type) : List (Nat × Callee (GT tab) δ) := [(197, Q1O.k)]
theorem Q1w.gok (δ : Type) : Q4 Tryz.prog tab (Q1w.gs δ) := .cons Q1O.con .nil
noncomputable def Q1w.c := cx Q1w.s [] [] [] false (Q1w.gs _)
noncomputable def Q1w (x0 : List Int) (x1 : Int) : Option (Bool) := fnW Q1w.s Q1w.c (x0, x1)
theorem Q1w.fok : FkS Q1w.s 168 := ⟨Tryz.func168, by kernel_rfl, by kernel_rfl⟩
noncomputable def Q1w.fn (x : Args tab Q1w.s.ar) : Option (ResT tab Q1w.s.rs) := Q1w x.1 x.2
noncomputable abbrev Q1w.k {δ : Type} : Callee (GT tab) δ := kS Q1w.s Q1w.fn
theorem Q1w.con {δ : Type} : Con Tryz.prog (KT tab) 168 (Q1w.k (δ := δ)) := Q5 (c := Q1w.c) mixed Q0 (Q1 (Q1w.gok _)) Q1w.fok rfl rfl fun _ => rfl
theorem Q1w.eq (x0 : List Int) (x1 : Int) : Q1w x0 x1 =
 (Q1O x0 x1).bind fun y1 =>
 some (!y1) := by kernel_rfl
noncomputable abbrev Q0l.s : Sg := ⟨[.lend, .lend], [vi, vi], ⟨[vo 3], [none, none]⟩, Tryz.f188⟩
noncomputable def Q0l.gs (δ : Type) : List (Nat × Callee (GT tab) δ) := []
theorem Q0l.gok (δ : Type) : Q4 Tryz.prog tab (Q0l.gs δ) := .nil
noncomputable def Q0l.c := cx Q0l.s [] [] [(3, [0, 5, 6, 7])] false (Q0l.gs _)
noncomputable def Q0l (x0 x1 : Int) : Option (List Int) := fnW Q0l.s Q0l.c (x0, x1)
theorem Q0l.fok : FkS Q0l.s 188 := ⟨Tryz.func188, by kernel_rfl, by kernel_rfl⟩
noncomputable def Q0l.fn (x : Args tab Q0l.s.ar) : Option (ResT tab Q0l.s.rs) := Q0l x.1 x.2
noncomputable abbrev Q0l.k {δ : Type} : Callee (GT tab) δ := kS Q0l.s Q0l.fn
theorem Q0l.con {δ : Type} : Con Tryz.prog (KT tab) 188 (Q0l.k (δ := δ)) := Q5 (c := Q0l.c) mixed Q0 (Q1 (Q0l.gok _)) Q0l.fok rfl rfl fun _ => rfl
noncomputable def Q0l_l0 (v0 v1 v2 : Int) (v3 : List Int) : Option (List Int) := lpW Q0l.s Q0l.c 0 (ud 10 [.int .i64 v0, .undef, .undef, .undef, .undef, .sl 0 0, .int .i64 v1, .int .i64 v2]) [.row 0 true 3 v3] 1
theorem Q0l.eq (x0 x1 : Int) : Q0l x0 x1 =
 Q0l_l0 x0 x1 (0 : Int) ([] : List Int) := by kernel_rfl
theorem Q0l_l0.eq (v0 v1 v2 : Int) (v3 : List Int) : Q0l_l0 v0 v1 v2 v3 =
 bif decide (v2 < v1) then
 bif decide ((v3.length + ([IntKind.i64.wrap (((BitVec.ofInt 64 v0) &&& (BitVec.ofInt 64 (1 : Int))).toNat : Int)] : List Int).length) * 8 ≤ 140737488355328) then
 Q0l_l0 (v0.fdiv (2 ^ 1)) v1 (IntKind.i64.wrap (v2 + (1 : Int))) (v3 ++ ([IntKind.i64.wrap (((BitVec.ofInt 64 v0) &&& (BitVec.ofInt 64 (1 : Int))).toNat : Int)] : List Int))
 else
 none
 else
 some v3 := (Q6 Q0 (Q1 (Q0l.gok _)) _ _).trans (by kernel_rfl)
noncomputable abbrev QO.s : Sg := ⟨[.lend, .lend], [vl 3, vi], ⟨[.agg [.int .i64, .int .i64, .int .i64, .sl true true 90], vb], [none, none]⟩, Tryz.f158⟩
noncomputable def QO.gs (δ : Type) : List (Nat × Callee (GT tab) δ) := [(58, QD.k), (113, QI.k), (168, Q1w.k), (188, Q0l.k)]
theorem QO.gok (δ : Type) : Q4 Tryz.prog tab (QO.gs δ) := .cons QD.con (.cons QI.con (.cons Q1w.con (.cons Q0l.con .nil)))
noncomputable def QO.c := cx QO.s [] [3] [(3, [0, 3, 4]), (5, [0, 3, 4, 6, 31, 32, 33])] false (QO.gs _)
noncomputable def QO (x0 : List Int) (x1 : Int) : Option ((Int × Int × Int × (List Int)) × Bool) := fnW QO.s QO.c (x0, x1)
theorem QO.fok : FkS QO.s 158 := ⟨Tryz.func158, by kernel_rfl, by kernel_rfl⟩
noncomputable def QO.fn (x : Args tab QO.s.ar) : Option (ResT tab QO.s.rs) := QO x.1 x.2
noncomputable abbrev QO.k {δ : Type} : Callee (GT tab) δ := kS QO.s QO.fn
theorem QO.con {δ : Type} : Con Tryz.prog (KT tab) 158 (QO.k (δ := δ)) := Q5 (c := QO.c) mixed Q0 (Q1 (QO.gok _)) QO.fok rfl rfl fun _ => rfl
noncomputable def QO_l0 (v0 : List Int) (v1 v2 v3 v4 : Int) (v5 : List Int) : Option ((Int × Int × Int × (List Int)) × Bool) := lpW QO.s QO.c 0 (ud 44 [.vs false 3 v0, .undef, .undef, .ptr 0 0, .ptr 1 0]) [.box 3 [.int .i64 v1], .box 32 [.int .i64 v2, .int .i64 v3, .int .i64 v4, .sl 2 0], .row 0 true 90 v5] 3
noncomputable def QO_l1 (v0 v1 : List Int) (v2 v3 v4 v5 v6 v7 : Int) (v8 v9 : List Int) : Option ((Int × Int × Int × (List Int)) × Bool) := lpW QO.s QO.c 1 (ud 15 [.vs false 3 v0, .undef, .undef, .ptr 0 0, .ptr 1 0, .undef, .sl 3 0, .undef, .undef, .undef, .undef, .undef, .undef, .undef, .undef, .undef, .undef, .undef, .undef, .undef, .undef, .undef, .undef, .undef, .undef, .undef, .undef, .undef, .undef, .undef, .undef, .vs false 3 v1, .int .i64 v2, .int .i64 v3]) [.box 3 [.int .i64 v4], .box 32 [.int .i64 v5, .int .i64 v6, .int .i64 v7, .sl 2 0], .row 0 true 90 v8, .row 0 true 3 v9] 4
theorem QO.eq (x0 : List Int) (x1 : Int) : QO x0 x1 =
 (QD x1 (0 : Int) (32 : Int)).bind fun y1 =>
 bif !y1 then
 some (((0 : Int), (0 : Int), (0 : Int), ([] : List Int)), false)
 else
 bif decide ((x0.length : Int) > (5000 : Int)) then
 some (((0 : Int), (0 : Int), (0 : Int), ([] : List Int)), false)
 else
 bif decide (IntKind.i64.wrap ((x0.length : Int) * x1) > (5000 : Int)) then
 some (((0 : Int), (0 : Int), (0 : Int), ([] : List Int)), false)
 else
 (Q1w x0 x1).bind fun y2 =>
 bif !y2 then
 some (((0 : Int), (0 : Int), (0 : Int), ([] : List Int)), false)
 else
 QO_l0 x0 x1 (0 : Int) (0 : Int) (0 : Int) ([] : List Int) := by kernel_rfl
theorem QO_l0.eq (v0 : List Int) (v1 v2 v3 v4 : Int) (v5 : List Int) : QO_l0 v0 v1 v2 v3 v4 v5 =
 QO_l1 v0 v0 (v0.length : Int) (0 : Int) v1 v2 v3 v4 v5 ([] : List Int) := (Q6 Q0 (Q1 (QO.gok _)) _ _).trans (by kernel_rfl)
theorem QO_l1.eq (v0 v1 : List Int) (v2 v3 v4 v5 v6 v7 : Int) (v8 v9 : List Int) : QO_l1 v0 v1 v2 v3 v4 v5 v6 v7 v8 v9 =
 bif decide (v3 < v2) then
 (at? v1 v3).bind fun y1 =>
 (Q0l y1 v4).bind fun y2 =>
 bif decide ((v9.length + y2.length) * 8 ≤ 140737488355328) then
 QO_l1 v0 v1 v2 (IntKind.i64.wrap (v3 + (1 : Int))) v4 v5 v6 v7 v8 (v9 ++ y2)
 else
 none
 else
 (QI v9).bind fun y3 =>
 some ((v4, (v0.length : Int), y3.1, y3.2), true) := (Q6 Q0 (Q1 (QO.gok _)) _ _).trans (by kernel_rfl)
noncomputable abbrev Qu.s : Sg := ⟨[.lend, .lend], [vl 5, vi], ⟨[.agg [.int .i64, .int .i64, .int .i64, .sl true true 3, .sl true true 30, .sl true true 3, .int .i64, .sl true true 90, .int .i64, .int .i64, .int .i64, .sl true true 90, .int .i64, .int .i64, .int .i64, .sl true true 90]], [none, none]⟩, Tryz.f111⟩
noncomputable def Qu.gs (δ : Type) : List (Nat × Callee (GT tab) δ) := [(59, Qz.k), (113, QI.k), (116, Qa.k), (122, QT.k), (156, Qw.k), (157, Q0k.k), (158, QO.k), (159, Q19.k)]
theorem Qu.gok (δ : Type) : Q4 Tryz.prog tab (Qu.gs δ) := .cons Qz.con (.cons QI.con (.cons Qa.con (.cons QT.con (.cons Qw.con (.cons Q0k.con (.cons QO.con (.cons Q19.con .nil)))))))
noncomputable def Qu.c := cx Qu.s [] [] [(7, [0, 1, 4, 5, 7, 8, 9, 10, 31, 32, 33]), (15, [0, 1, 4, 7, 8, 9, 10, 13, 14])] false (Qu.gs _)
noncomputable def Qu (x0 : List Int) (x1 : Int) : Option (Int × Int × Int × (List Int) × (List (Int × (List Int))) × (List Int) × Int × (List Int) × Int × Int × Int × (List Int) × Int × Int × Int × (List Int)) := fnW Qu.s Qu.c (x0, x1)
theorem Qu.fok : FkS Qu.s 111 := ⟨Tryz.func111, by kernel_rfl, by kernel_rfl⟩
noncomputable def Qu.fn (x : Args tab Qu.s.ar) : Option (ResT tab Qu.s.rs) := Qu x.1 x.2
noncomputable abbrev Qu.k {δ : Type} : Callee (GT tab) δ := kS Qu.s Qu.fn
theorem Qu.con {δ : Type} : Con Tryz.prog (KT tab) 111 (Qu.k (δ := δ)) := Q5 (c := Qu.c) mixed Q0 (Q1 (Qu.gok _)) Qu.fok rfl rfl fun _ => rfl
noncomputable def Qu_l0 (v0 : List Int) (v1 v2 v3 v4 v5 v6 v7 v8 v9 v10 v11 v12 v13 : Int) (v14 : List Int) (v15 : List (Int × (List Int))) (v16 v17 v18 v19 v20 : List Int) (v21 v22 v23 v24 v25 v26 v27 v28 v29 v30 : Int) (v31 : List Int) (v32 : List (Int × (List Int))) (v33 v34 v35 v36 v37 v38 v39 : List Int) : Option (Int × Int × Int × (List Int) × (List (Int × (List Int))) × (List Int) × Int × (List Int) × Int × Int × Int × (List Int) × Int × Int × Int × (List Int)) := lpW Qu.s Qu.c 0 (ud 58 [.vs false 5 v0, .int .i64 v1, .undef, .undef, .ptr 0 0, .sl 7 0, .undef, .ptr 8 0, .sl 15 0, .sl 16 0, .sl 17 0, .undef, .undef, .undef, .undef, .undef, .undef, .undef, .undef, .undef, .undef, .undef, .undef, .undef, .undef, .undef, .undef, .undef, .undef, .undef, .undef, .sl 7 0, .int .i64 v2, .int .i64 v3]) [.box 34 [.int .i64 v4, .int .i64 v5, .int .i64 v6, .sl 1 0, .sl 2 0, .sl 3 0, .int .i64 v7, .sl 4 0, .int .i64 v8, .int .i64 v9, .int .i64 v10, .sl 5 0, .int .i64 v11, .int .i64 v12, .int .i64 v13, .sl 6 0], .row 0 true 3 v14, .row 0 true 30 v15, .row 0 true 3 v16, .row 0 true 90 v17, .row 0 true 90 v18, .row 0 true 90 v19, .row 0 true 3 v20, .box 34 [.int .i64 v21, .int .i64 v22, .int .i64 v23, .sl 9 0, .sl 10 0, .sl 11 0, .int .i64 v24, .sl 12 0, .int .i64 v25, .int .i64 v26, .int .i64 v27, .sl 13 0, .int .i64 v28, .int .i64 v29, .int .i64 v30, .sl 14 0], .row 0 true 3 v31, .row 0 true 30 v32, .row 0 true 3 v33, .row 0 true 90 v34, .row 0 true 90 v35, .row 0 true 90 v36, .row 0 true 3 v37, .row 0 true 3 v38, .row 0 true 3 v39] 18
noncomputable def Qu_l1 (v0 : List Int) (v1 v2 v3 v4 v5 v6 v7 v8 v9 v10 v11 v12 : Int) (v13 : List Int) (v14 : List (Int × (List Int))) (v15 v16 v17 v18 : List Int) (v19 v20 v21 v22 v23 v24 v25 v26 v27 v28 : Int) (v29 : List Int) (v30 : List (Int × (List Int))) (v31 v32 v33 v34 v35 v36 v37 v38 : List Int) : Option (Int × Int × Int × (List Int) × (List (Int × (List Int))) × (List Int) × Int × (List Int) × Int × Int × Int × (List Int) × Int × Int × Int × (List Int)) := lpW Qu.s Qu.c 1 (ud 77 [.vs false 5 v0, .int .i64 v1, .undef, .undef, .ptr 0 0, .undef, .undef, .ptr 7 0, .sl 14 0, .sl 15 0, .sl 16 0, .undef, .undef, .sl 17 0, .int .i64 v2]) [.box 34 [.int .i64 v3, .int .i64 v4, .int .i64 v5, .sl 1 0, .sl 2 0, .sl 3 0, .int .i64 v6, .sl 4 0, .int .i64 v7, .int .i64 v8, .int .i64 v9, .sl 5 0, .int .i64 v10, .int .i64 v11, .int .i64 v12, .sl 6 0], .row 0 true 3 v13, .row 0 true 30 v14, .row 0 true 3 v15, .row 0 true 90 v16, .row 0 true 90 v17, .row 0 true 90 v18, .box 34 [.int .i64 v19, .int .i64 v20, .int .i64 v21, .sl 8 0, .sl 9 0, .sl 10 0, .int .i64 v22, .sl 11 0, .int .i64 v23, .int .i64 v24, .int .i64 v25, .sl 12 0, .int .i64 v26, .int .i64 v27, .int .i64 v28, .sl 13 0], .row 0 true 3 v29, .row 0 true 30 v30, .row 0 true 3 v31, .row 0 true 90 v32, .row 0 true 90 v33, .row 0 true 90 v34, .row 0 true 3 v35, .row 0 true 3 v36, .row 0 true 3 v37, .row 0 true 3 v38] 18
theorem Qu.eq (x0 : List Int) (x1 : Int) : Qu x0 x1 =
 (QT x0).bind fun y1 =>
 (Qz x0).bind fun y2 =>
 (Qw y2).bind fun y3 =>
 (Qa y2).bind fun y4 =>
 Qu_l0 x0 x1 (y1.length : Int) (0 : Int) (0 : Int) (0 : Int) (0 : Int) (0 : Int) (0 : Int) (0 : Int) (0 : Int) (0 : Int) (0 : Int) (0 : Int) ([] : List Int) ([] : List (Int × (List Int))) ([] : List Int) ([] : List Int) ([] : List Int) ([] : List Int) y1 (x0.length : Int) x1 y4.1.1 (0 : Int) (0 : Int) (0 : Int) (0 : Int) (0 : Int) (0 : Int) (0 : Int) y4.1.2.1 y4.1.2.2 y3 ([] : List Int) ([] : List Int) ([] : List Int) ([] : List Int) ([] : List Int) ([] : List Int) := by kernel_rfl
theorem Qu_l0.eq (v0 : List Int) (v1 v2 v3 v4 v5 v6 v7 v8 v9 v10 v11 v12 v13 : Int) (v14 : List Int) (v15 : List (Int × (List Int))) (v16 v17 v18 v19 v20 : List Int) (v21 v22 v23 v24 v25 v26 v27 v28 v29 v30 : Int) (v31 : List Int) (v32 : List (Int × (List Int))) (v33 v34 v35 v36 v37 v38 v39 : List Int) : Qu_l0 v0 v1 v2 v3 v4 v5 v6 v7 v8 v9 v10 v11 v12 v13 v14 v15 v16 v17 v18 v19 v20 v21 v22 v23 v24 v25 v26 v27 v28 v29 v30 v31 v32 v33 v34 v35 v36 v37 v38 v39 =
 bif decide (v3 < v2) then
 (at? v20 v3).bind fun y1 =>
 v20[v3.toNat]?.bind fun y2 =>
 bif decide (v1 = (0 : Int)) then
 none
 else
 bif y2.tmod v1 == (0 : Int) then
 bif decide ((v37.length + ([(1 : Int)] : List Int).length) * 8 ≤ 140737488355328) then
 bif decide (v1 = (0 : Int)) then
 none
 else
 bif decide ((v38.length + ([IntKind.i64.wrap (y2.tdiv v1)] : List Int).length) * 8 ≤ 140737488355328) then
 Qu_l0 v0 v1 v2 (IntKind.i64.wrap (v3 + (1 : Int))) v4 v5 v6 v7 v8 v9 v10 v11 v12 v13 v14 v15 v16 v17 v18 v19 v20 v21 v22 v23 v24 v25 v26 v27 v28 v29 v30 v31 v32 v33 v34 v35 v36 (v37 ++ ([(1 : Int)] : List Int)) (v38 ++ ([IntKind.i64.wrap (y2.tdiv v1)] : List Int)) v39
 else
 none
 else
 none
 else
 bif decide ((v37.length + ([(0 : Int)] : List Int).length) * 8 ≤ 140737488355328) then
 Qu_l0 v0 v1 v2 (IntKind.i64.wrap (v3 + (1 : Int))) v4 v5 v6 v7 v8 v9 v10 v11 v12 v13 v14 v15 v16 v17 v18 v19 v20 v21 v22 v23 v24 v25 v26 v27 v28 v29 v30 v31 v32 v33 v34 v35 v36 (v37 ++ ([(0 : Int)] : List Int)) v38 v39
 else
 none
 else
 (Q0k v20).bind fun y3 =>
 Qu_l1 v0 v1 (0 : Int) v4 v5 v6 v7 v8 v9 v10 v11 v12 v13 v14 v15 v16 v17 v18 v19 v21 v22 v23 v24 v25 v26 v27 v28 v29 v30 v31 v32 v33 v34 v35 v36 v37 v38 v39 y3 := (Q6 Q0 (Q1 (Qu.gok _)) _ _).trans (by kernel_rfl)
theorem Qu_l1.eq (v0 : List Int) (v1 v2 v3 v4 v5 v6 v7 v8 v9 v10 v11 v12 : Int) (v13 : List Int) (v14 : List (Int × (List Int))) (v15 v16 v17 v18 : List Int) (v19 v20 v21 v22 v23 v24 v25 v26 v27 v28 : Int) (v29 : List Int) (v30 : List (Int × (List Int))) (v31 v32 v33 v34 v35 v36 v37 v38 : List Int) : Qu_l1 v0 v1 v2 v3 v4 v5 v6 v7 v8 v9 v10 v11 v12 v13 v14 v15 v16 v17 v18 v19 v20 v21 v22 v23 v24 v25 v26 v27 v28 v29 v30 v31 v32 v33 v34 v35 v36 v37 v38 =
 bif decide (v2 ≤ (v0.length : Int)) then
 (at? v38 v2).bind fun y1 =>
 v38[v2.toNat]?.bind fun y2 =>
 bif decide ((v37.length + ([y2] : List Int).length) * 8 ≤ 140737488355328) then
 Qu_l1 v0 v1 (IntKind.i64.wrap (v2 + v1)) v3 v4 v5 v6 v7 v8 v9 v10 v11 v12 v13 v14 v15 v16 v17 v18 v19 v20 v21 v22 v23 v24 v25 v26 v27 v28 v29 v30 v31 v32 v33 v34 v35 v36 (v37 ++ ([y2] : List Int)) v38
 else
 none
 else
 (QI v35).bind fun y3 =>
 (Q19 (v0.length : Int)).bind fun y4 =>
 (QO v36 y4).bind fun y5 =>
 (Q19 (v0.length : Int)).bind fun y6 =>
 (QO v37 y6).bind fun y7 =>
 some (v19, v20, v21, v29, v30, v31, y3.1, y3.2, y5.1.1, y5.1.2.1, y5.1.2.2.1, y5.1.2.2.2, y7.1.1, y7.1.2.1, y7.1.2.2.1, y7.1.2.2.2) := (Q6 Q0 (Q1 (Qu.gok _)) _ _).trans (by kernel_rfl)
noncomputable abbrev Q0r.s : Sg := ⟨[.lend, .lend], [vl 90, vl 90], ⟨[vb], [none, none]⟩, Tryz.f186⟩
noncomputable def Q0r.gs (δ : Type) : List (Nat × Callee (GT tab) δ) := []
theorem Q0r.gok (δ : Type) : Q4 Tryz.prog tab (Q0r.gs δ) := .nil
noncomputable def Q0r.c := cx Q0r.s [] [] [(4, [0, 1, 12, 13])] false (Q0r.gs _)
noncomputable def Q0r (x0 x1 : List Int) : Option (Bool) := fnW Q0r.s Q0r.c (x0, x1)
theorem Q0r.fok : FkS Q0r.s 186 := ⟨Tryz.func186, by kernel_rfl, by kernel_rfl⟩
noncomputable def Q0r.fn (x : Args tab Q0r.s.ar) : Option (ResT tab Q0r.s.rs) := Q0r x.1 x.2
noncomputable abbrev Q0r.k {δ : Type} : Callee (GT tab) δ := kS Q0r.s Q0r.fn
theorem Q0r.con {δ : Type} : Con Tryz.prog (KT tab) 186 (Q0r.k (δ := δ)) := Q5 (c := Q0r.c) mixed Q0 (Q1 (Q0r.gok _)) Q0r.fok rfl rfl fun _ => rfl
noncomputable def Q0r_l0 (v0 v1 : List Int) (v2 v3 : Int) : Option (Bool) := lpW Q0r.s Q0r.c 0 (ud 12 [.vs false 90 v0, .vs false 90 v1, .undef, .undef, .undef, .undef, .undef, .undef, .undef, .undef, .undef, .undef, .int .i64 v2, .int .i64 v3]) [] 0
theorem Q0r.eq (x0 x1 : List Int) : Q0r x0 x1 =
 bif (x0.length : Int) != (x1.length : Int) then
 some false
 else
 Q0r_l0 x0 x1 (x0.length : Int) (0 : Int) := by kernel_rfl
theorem Q0r_l0.eq (v0 v1 : List Int) (v2 v3 : Int) : Q0r_l0 v0 v1 v2 v3 =
 bif decide (v3 < v2) then
 (at? v0 v3).bind fun y1 =>
 (at? v1 v3).bind fun y2 =>
 bif y1 != y2 then
 some false
 else
 Q0r_l0 v0 v1 v2 (IntKind.i64.wrap (v3 + (1 : Int)))
 else
 some true := (Q6 Q0 (Q1 (Q0r.gok _)) _ _).trans (by kernel_rfl)
noncomputable abbrev Q0I.s : Sg := ⟨[.lend, .lend], [.agg [.int .i64, .sl false false 90], .agg [.int .i64, .sl false false 90]], ⟨[vb], [none, none]⟩, Tryz.f154⟩
noncomputable def Q0I.gs (δ : Type) : List (Nat × Callee (GT tab) δ) := [(186, Q0r.k)]
theorem Q0I.gok (δ : Type) : Q4 Tryz.prog tab (Q0I.gs δ) := .cons Q0r.con .nil
noncomputable def Q0I.c := cx Q0I.s [] [] [] false (Q0I.gs _)
noncomputable def Q0I (x0 x1 : Int × (List Int)) : Option (Bool) := fnW Q0I.s Q0I.c (x0, x1)
theorem Q0I.fok : FkS Q0I.s 154 := ⟨Tryz.func154, by kernel_rfl, by kernel_rfl⟩
noncomputable def Q0I.fn (x : Args tab Q0I.s.ar) : Option (ResT tab Q0I.s.rs) := Q0I x.1 x.2
noncomputable abbrev Q0I.k {δ : Type} : Callee (GT tab) δ := kS Q0I.s Q0I.fn
theorem Q0I.con {δ : Type} : Con Tryz.prog (KT tab) 154 (Q0I.k (δ := δ)) := Q5 (c := Q0I.c) mixed Q0 (Q1 (Q0I.gok _)) Q0I.fok rfl rfl fun _ => rfl
theorem Q0I.eq (x0 x1 : Int × (List Int)) : Q0I x0 x1 =
 bif x0.1 == x1.1 then
 (Q0r x0.2 x1.2).bind fun y1 =>
 some y1
 else
 some false := by kernel_rfl
noncomputable abbrev Q0s.s : Sg := ⟨[.lend, .lend, .lend], [vl 30, vl 30, .one (.fn 154 [])], ⟨[vb], [none, none, none]⟩, Tryz.f185⟩
noncomputable def Q0s.gs (δ : Type) : List (Nat × Callee (GT tab) δ) := [(154, Q0I.k)]
theorem Q0s.gok (δ : Type) : Q4 Tryz.prog tab (Q0s.gs δ) := .cons Q0I.con .nil
noncomputable def Q0s.c := cx Q0s.s [] [] [(4, [1, 2, 15, 16, 17])] false (Q0s.gs _)
noncomputable def Q0s (x0 x1 : List (Int × (List Int))) (x2 : Unit) : Option (Bool) := fnW Q0s.s Q0s.c (x0, x1, x2)
theorem Q0s.fok : FkS Q0s.s 185 := ⟨Tryz.func185, by kernel_rfl, by kernel_rfl⟩
noncomputable def Q0s.fn (x : Args tab Q0s.s.ar) : Option (ResT tab Q0s.s.rs) := Q0s x.1 x.2.1 x.2.2
noncomputable abbrev Q0s.k {δ : Type} : Callee (GT tab) δ := kS Q0s.s Q0s.fn
theorem Q0s.con {δ : Type} : Con Tryz.prog (KT tab) 185 (Q0s.k (δ := δ)) := Q5 (c := Q0s.c) mixed Q0 (Q1 (Q0s.gok _)) Q0s.fok rfl rfl fun _ => rfl
noncomputable def Q0s_l0 (v0 v1 : List (Int × (List Int))) (v2 v3 : Int) : Option (Bool) := lpW Q0s.s Q0s.c 0 (ud 14 [.undef, .vs false 30 v0, .fn 154 [], .undef, .undef, .undef, .undef, .undef, .undef, .undef, .undef, .undef, .undef, .undef, .undef, .vs false 30 v1, .int .i64 v2, .int .i64 v3]) [] 0
theorem Q0s.eq (x0 x1 : List (Int × (List Int))) (x2 : Unit) : Q0s x0 x1 x2 =
 bif (x0.length : Int) != (x1.length : Int) then
 some false
 else
 Q0s_l0 x1 x0 (x0.length : Int) (0 : Int) := by kernel_rfl
theorem Q0s_l0.eq (v0 v1 : List (Int × (List Int))) (v2 v3 : Int) : Q0s_l0 v0 v1 v2 v3 =
 bif decide (v3 < v2) then
 (at? v1 v3).bind fun y1 =>
 (at? v0 v3).bind fun y2 =>
 (Q0I y1 y2).bind fun y3 =>
 bif !y3 then
 some false
 else
 Q0s_l0 v0 v1 v2 (IntKind.i64.wrap (v3 + (1 : Int)))
 else
 some true := (Q6 Q0 (Q1 (Q0s.gok _)) _ _).trans (by kernel_rfl)
noncomputable abbrev Q1x.s : Sg := ⟨[.lend, .lend], [.agg [.int .i64, .sl false false 3, .sl false false 30], .agg [.int .i64, .sl false false 3, .sl false false 30]], ⟨[vb], [none, none]⟩, Tryz.f153⟩
noncomputable def Q1x.gs (δ : Type) : List (Nat × Callee (GT tab) δ) := [(152, QU.k), (185, Q0s.k)]
theorem Q1x.gok (δ : Type) : Q4 Tryz.prog tab (Q1x.gs δ) := .cons QU.con (.cons Q0s.con .nil)
noncomputable def Q1x.c := cx Q1x.s [] [] [] false (Q1x.gs _)
noncomputable def Q1x (x0 x1 : Int × (List Int) × (List (Int × (List Int)))) : Option (Bool) := fnW Q1x.s Q1x.c (x0, x1)
theorem Q1x.fok : FkS Q1x.s 153 := ⟨Tryz.func153, by kernel_rfl, by kernel_rfl⟩
noncomputable def Q1x.fn (x : Args tab Q1x.s.ar) : Option (ResT tab Q1x.s.rs) := Q1x x.1 x.2
noncomputable abbrev Q1x.k {δ : Type} : Callee (GT tab) δ := kS Q1x.s Q1x.fn
theorem Q1x.con {δ : Type} : Con Tryz.prog (KT tab) 153 (Q1x.k (δ := δ)) := Q5 (c := Q1x.c) mixed Q0 (Q1 (Q1x.gok _)) Q1x.fok rfl rfl fun _ => rfl
theorem Q1x.eq (x0 x1 : Int × (List Int) × (List (Int × (List Int)))) : Q1x x0 x1 =
 bif x0.1 == x1.1 then
 (QU x0.2.1 x1.2.1).bind fun y1 =>
 bif y1 then
 (Q0s x0.2.2 x1.2.2 ()).bind fun y2 =>
 some y2
 else
 some false
 else
 some false := by kernel_rfl
noncomputable abbrev Q1b.s : Sg := ⟨[.lend, .lend], [.agg [.int .i64, .int .i64, .int .i64, .sl false false 90], .agg [.int .i64, .int .i64, .int .i64, .sl false false 90]], ⟨[vb], [none, none]⟩, Tryz.f155⟩
noncomputable def Q1b.gs (δ : Type) : List (Nat × Callee (GT tab) δ) := [(154, Q0I.k)]
theorem Q1b.gok (δ : Type) : Q4 Tryz.prog tab (Q1b.gs δ) := .cons Q0I.con .nil
noncomputable def Q1b.c := cx Q1b.s [] [] [] false (Q1b.gs _)
noncomputable def Q1b (x0 x1 : Int × Int × Int × (List Int)) : Option (Bool) := fnW Q1b.s Q1b.c (x0, x1)
theorem Q1b.fok : FkS Q1b.s 155 := ⟨Tryz.func155, by kernel_rfl, by kernel_rfl⟩
noncomputable def Q1b.fn (x : Args tab Q1b.s.ar) : Option (ResT tab Q1b.s.rs) := Q1b x.1 x.2
noncomputable abbrev Q1b.k {δ : Type} : Callee (GT tab) δ := kS Q1b.s Q1b.fn
theorem Q1b.con {δ : Type} : Con Tryz.prog (KT tab) 155 (Q1b.k (δ := δ)) := Q5 (c := Q1b.c) mixed Q0 (Q1 (Q1b.gok _)) Q1b.fok rfl rfl fun _ => rfl
theorem Q1b.eq (x0 x1 : Int × Int × Int × (List Int)) : Q1b x0 x1 =
 bif x0.1 == x1.1 then
 bif x0.2.1 == x1.2.1 then
 (Q0I x0.2.2 x1.2.2).bind fun y1 =>
 some y1
 else
 some false
 else
 some false := by kernel_rfl
noncomputable abbrev Q1c.s : Sg := ⟨[.lend, .lend], [.agg [.int .i64, .int .i64, .int .i64, .sl false false 3, .sl false false 30, .sl false false 3, .int .i64, .sl false false 90, .int .i64, .int .i64, .int .i64, .sl false false 90, .int .i64, .int .i64, .int .i64, .sl false false 90], .agg [.int .i64, .int .i64, .int .i64, .sl false false 3, .sl false false 30, .sl false false 3, .int .i64, .sl false false 90, .int .i64, .int .i64, .int .i64, .sl false false 90, .int .i64, .int .i64, .int .i64, .sl false false 90]], ⟨[vb], [none, none]⟩, Tryz.f110⟩
noncomputable def Q1c.gs (δ : Type) : List (Nat × Callee (GT tab) δ) := [(152, QU.k), (153, Q1x.k), (154, Q0I.k), (155, Q1b.k)]
theorem Q1c.gok (δ : Type) : Q4 Tryz.prog tab (Q1c.gs δ) := .cons QU.con (.cons Q1x.con (.cons Q0I.con (.cons Q1b.con .nil)))
noncomputable def Q1c.c := cx Q1c.s [] [] [] false (Q1c.gs _)
noncomputable def Q1c (x0 x1 : Int × Int × Int × (List Int) × (List (Int × (List Int))) × (List Int) × Int × (List Int) × Int × Int × Int × (List Int) × Int × Int × Int × (List Int)) : Option (Bool) := fnW Q1c.s Q1c.c (x0, x1)
theorem Q1c.fok : FkS Q1c.s 110 := ⟨Tryz.func110, by kernel_rfl, by kernel_rfl⟩
noncomputable def Q1c.fn (x : Args tab Q1c.s.ar) : Option (ResT tab Q1c.s.rs) := Q1c x.1 x.2
noncomputable abbrev Q1c.k {δ : Type} : Callee (GT tab) δ := kS Q1c.s Q1c.fn
theorem Q1c.con {δ : Type} : Con Tryz.prog (KT tab) 110 (Q1c.k (δ := δ)) := Q5 (c := Q1c.c) mixed Q0 (Q1 (Q1c.gok _)) Q1c.fok rfl rfl fun _ => rfl
theorem Q1c.eq (x0 x1 : Int × Int × Int × (List Int) × (List (Int × (List Int))) × (List Int) × Int × (List Int) × Int × Int × Int × (List Int) × Int × Int × Int × (List Int)) : Q1c x0 x1 =
 bif x0.1 == x1.1 then
 bif x0.2.1 == x1.2.1 then
 (Q1x (x0.2.2.1, x0.2.2.2.1, x0.2.2.2.2.1) (x1.2.2.1, x1.2.2.2.1, x1.2.2.2.2.1)).bind fun y1 =>
 bif y1 then
 (QU x0.2.2.2.2.2.1 x1.2.2.2.2.2.1).bind fun y2 =>
 bif y2 then
 (Q0I (x0.2.2.2.2.2.2.1, x0.2.2.2.2.2.2.2.1) (x1.2.2.2.2.2.2.1, x1.2.2.2.2.2.2.2.1)).bind fun y3 =>
 bif y3 then
 (Q1b (x0.2.2.2.2.2.2.2.2.1, x0.2.2.2.2.2.2.2.2.2.1, x0.2.2.2.2.2.2.2.2.2.2.1, x0.2.2.2.2.2.2.2.2.2.2.2.1) (x1.2.2.2.2.2.2.2.2.1, x1.2.2.2.2.2.2.2.2.2.1, x1.2.2.2.2.2.2.2.2.2.2.1, x1.2.2.2.2.2.2.2.2.2.2.2.1)).bind fun y4 =>
 bif y4 then
 (Q1b x0.2.2.2.2.2.2.2.2.2.2.2.2 x1.2.2.2.2.2.2.2.2.2.2.2.2).bind fun y5 =>
 some y5
 else
 some false
 else
 some false
 else
 some false
 else
 some false
 else
 some false
 else
 some false := by kernel_rfl
noncomputable abbrev Q0U.s : Sg := ⟨[.lend], [.agg [.int .i64, .int .i64, .int .i64, .sl false false 3, .sl false false 30, .sl false false 3, .int .i64, .sl false false 90, .int .i64, .int .i64, .int .i64, .sl false false 90, .int .i64, .int .i64, .int .i64, .sl false false 90]], ⟨[vo 5, vb], [none]⟩, Tryz.f46⟩
noncomputable def Q0U.gs (δ : Type) : List (Nat × Callee (GT tab) δ) := [(48, Q10.k), (108, Q9.k), (109, QK.k), (110, Q1c.k), (111, Qu.k)]
theorem Q0U.gok (δ : Type) : Q4 Tryz.prog tab (Q0U.gs δ) := .cons Q10.con (.cons Q9.con (.cons QK.con (.cons Q1c.con (.cons Qu.con .nil))))
noncomputable def Q0U.c := cx Q0U.s [] [] [] false (Q0U.gs _)
noncomputable def Q0U (x0 : Int × Int × Int × (List Int) × (List (Int × (List Int))) × (List Int) × Int × (List Int) × Int × Int × Int × (List Int) × Int × Int × Int × (List Int)) : Option ((List Int) × Bool) := fnW Q0U.s Q0U.c x0
theorem Q0U.fok : FkS Q0U.s 46 := ⟨Tryz.func46, by kernel_rfl, by kernel_rfl⟩
noncomputable def Q0U.fn (x : Args tab Q0U.s.ar) : Option (ResT tab Q0U.s.rs) := Q0U x
noncomputable abbrev Q0U.k {δ : Type} : Callee (GT tab) δ := kS Q0U.s Q0U.fn
theorem Q0U.con {δ : Type} : Con Tryz.prog (KT tab) 46 (Q0U.k (δ := δ)) := Q5 (c := Q0U.c) mixed Q0 (Q1 (Q0U.gok _)) Q0U.fok rfl rfl fun _ => rfl
theorem Q0U.eq (x0 : Int × Int × Int × (List Int) × (List (Int × (List Int))) × (List Int) × Int × (List Int) × Int × Int × Int × (List Int) × Int × Int × Int × (List Int)) : Q0U x0 =
 (Q9 (x0.2.2.1, x0.2.2.2.1, x0.2.2.2.2.1)).bind fun y1 =>
 bif !y1.2 then
 some (([] : List Int), false)
 else
 (Q10 x0.2.1).bind fun y2 =>
 bif !y2 then
 some (([] : List Int), false)
 else
 (QK y1.1).bind fun y3 =>
 bif y3.2 then
 (Qu y3.1 x0.2.1).bind fun y4 =>
 (Q1c y4 x0).bind fun y5 =>
 some (y3.1, y5)
 else
 some (y3.1, false) := by kernel_rfl
noncomputable abbrev Q1d.s : Sg := ⟨[.lend], [vl 5], ⟨[vb], [none]⟩, Tryz.f112⟩
noncomputable def Q1d.gs (δ : Type) : List (Nat × Callee (GT tab) δ) := []
theorem Q1d.gok (δ : Type) : Q4 Tryz.prog tab (Q1d.gs δ) := .nil
noncomputable def Q1d.c := cx Q1d.s [] [] [] false (Q1d.gs _)
noncomputable def Q1d (x0 : List Int) : Option (Bool) := fnW Q1d.s Q1d.c x0
theorem Q1d.fok : FkS Q1d.s 112 := ⟨Tryz.func112, by kernel_rfl, by kernel_rfl⟩
noncomputable def Q1d.fn (x : Args tab Q1d.s.ar) : Option (ResT tab Q1d.s.rs) := Q1d x
noncomputable abbrev Q1d.k {δ : Type} : Callee (GT tab) δ := kS Q1d.s Q1d.fn
theorem Q1d.con {δ : Type} : Con Tryz.prog (KT tab) 112 (Q1d.k (δ := δ)) := Q5 (c := Q1d.c) mixed Q0 (Q1 (Q1d.gok _)) Q1d.fok rfl rfl fun _ => rfl
theorem Q1d.eq (x0 : List Int) : Q1d x0 =
 some (decide ((x0.length : Int) ≤ (300 : Int))) := by kernel_rfl
noncomputable abbrev Q1y.s : Sg := ⟨[.lend, .lend, .lend], [vl 5, vl 5, vi], ⟨[vb], [none, none, none]⟩, Tryz.f47⟩
noncomputable def Q1y.gs (δ : Type) : List (Nat × Callee (GT tab) δ) := [(58, QD.k), (112, Q1d.k)]
theorem Q1y.gok (δ : Type) : Q4 Tryz.prog tab (Q1y.gs δ) := .cons QD.con (.cons Q1d.con .nil)
noncomputable def Q1y.c := cx Q1y.s [] [] [] false (Q1y.gs _)
noncomputable def Q1y (x0 x1 : List Int) (x2 : Int) : Option (Bool) := fnW Q1y.s Q1y.c (x0, x1, x2)
theorem Q1y.fok : FkS Q1y.s 47 := ⟨Tryz.func47, by kernel_rfl, by kernel_rfl⟩
noncomputable def Q1y.fn (x : Args tab Q1y.s.ar) : Option (ResT tab Q1y.s.rs) := Q1y x.1 x.2.1 x.2.2
noncomputable abbrev Q1y.k {δ : Type} : Callee (GT tab) δ := kS Q1y.s Q1y.fn
theorem Q1y.con {δ : Type} : Con Tryz.prog (KT tab) 47 (Q1y.k (δ := δ)) := Q5 (c := Q1y.c) mixed Q0 (Q1 (Q1y.gok _)) Q1y.fok rfl rfl fun _ => rfl
theorem Q1y.eq (x0 x1 : List Int) (x2 : Int) : Q1y x0 x1 x2 =
 (Q1d x0).bind fun y1 =>
 bif y1 then
 (Q1d x1).bind fun y2 =>
 bif y2 then
 (QD x2 (0 : Int) (8 : Int)).bind fun y3 =>
 some y3
 else
 some false
 else
 some false := by kernel_rfl
noncomputable abbrev Q0e.s : Sg := ⟨[.lend, .lend], [vl 5, vi], ⟨[vl 9], [none, none]⟩, Tryz.f160⟩
noncomputable def Q0e.gs (δ : Type) : List (Nat × Callee (GT tab) δ) := [(122, QT.k)]
theorem Q0e.gok (δ : Type) : Q4 Tryz.prog tab (Q0e.gs δ) := .cons QT.con .nil
noncomputable def Q0e.c := cx Q0e.s [] [] [(3, [0, 1, 5, 9, 10, 11])] false (Q0e.gs _)
noncomputable def Q0e (x0 : List Int) (x1 : Int) : Option (List ByteArray) := fnW Q0e.s Q0e.c (x0, x1)
theorem Q0e.fok : FkS Q0e.s 160 := ⟨Tryz.func160, by kernel_rfl, by kernel_rfl⟩
noncomputable def Q0e.fn (x : Args tab Q0e.s.ar) : Option (ResT tab Q0e.s.rs) := Q0e x.1 x.2
noncomputable abbrev Q0e.k {δ : Type} : Callee (GT tab) δ := kS Q0e.s Q0e.fn
theorem Q0e.con {δ : Type} : Con Tryz.prog (KT tab) 160 (Q0e.k (δ := δ)) := Q5 (c := Q0e.c) mixed Q0 (Q1 (Q0e.gok _)) Q0e.fok rfl rfl fun _ => rfl
noncomputable def Q0e_l0 (v0 : List Int) (v1 v2 v3 : Int) (v4 : List ByteArray) (v5 : List Int) : Option (List ByteArray) := lpW Q0e.s Q0e.c 0 (ud 18 [.vs false 5 v0, .int .i64 v1, .undef, .undef, .undef, .sl 0 0, .undef, .undef, .undef, .sl 1 0, .int .i64 v2, .int .i64 v3]) [.row 0 true 9 v4, .row 0 true 3 v5] 2
theorem Q0e.eq (x0 : List Int) (x1 : Int) : Q0e x0 x1 =
 (QT x0).bind fun y1 =>
 Q0e_l0 x0 x1 (y1.length : Int) (0 : Int) ([] : List ByteArray) y1 := by kernel_rfl
theorem Q0e_l0.eq (v0 : List Int) (v1 v2 v3 : Int) (v4 : List ByteArray) (v5 : List Int) : Q0e_l0 v0 v1 v2 v3 v4 v5 =
 bif decide (v3 < v2) then
 (at? v5 v3).bind fun y1 =>
 v5[v3.toNat]?.bind fun y2 =>
 bif decide (0 ≤ (if (v0.length : Int) < IntKind.i64.wrap (y2 + v1) then (v0.length : Int) else IntKind.i64.wrap (y2 + v1)) ∧ (if (v0.length : Int) < IntKind.i64.wrap (y2 + v1) then (v0.length : Int) else IntKind.i64.wrap (y2 + v1)) ≤ ((v0.length : Nat) : Int)) then
 bif decide (0 ≤ y2 ∧ y2 ≤ (((if (v0.length : Int) < IntKind.i64.wrap (y2 + v1) then (v0.length : Int) else IntKind.i64.wrap (y2 + v1)).toNat : Nat) : Int)) then
 bif decide ((v4.length + ([Q2e (((v0.take ((if (v0.length : Int) < IntKind.i64.wrap (y2 + v1) then (v0.length : Int) else IntKind.i64.wrap (y2 + v1)).toNat)).drop y2.toNat).map fun x => x)] : List ByteArray).length) * 16 ≤ 140737488355328) then
 Q0e_l0 v0 v1 v2 (IntKind.i64.wrap (v3 + (1 : Int))) (v4 ++ ([Q2e (((v0.take ((if (v0.length : Int) < IntKind.i64.wrap (y2 + v1) then (v0.length : Int) else IntKind.i64.wrap (y2 + v1)).toNat)).drop y2.toNat).map fun x => x)] : List ByteArray)) v5
 else
 none
 else
 none
 else
 none
 else
 some v4 := (Q6 Q0 (Q1 (Q0e.gok _)) _ _).trans (by kernel_rfl)
def Q26.ms : List Mode := [.give, .lend]
def Q26.as : List VSh := [.one (.b (.b (.b (.b (.sl true true 9))))), .one (.b (.b (.b (.b (.int .i64)))))]
def Q26.rs : RSh := ⟨[.one (.b (.b (.b (.b (.sl true true 9)))))], [none, none]⟩
noncomputable def Q26 (x0 : List ByteArray) (x1 : Int) : Option (List ByteArray) := growF 16 (x0, x1)
noncomputable def Q26.fn : Args tab Q26.as → Option (ResT tab Q26.rs) := fun x => Q26 x.1 x.2
noncomputable abbrev Q26.k {δ : Type} : Callee (GT tab) δ := Q1U tab Q26.ms Q26.as Q26.rs Q26.fn
theorem Q26.con {δ : Type} : Con Tryz.prog (KT tab) 193 (Q26.k (δ := δ)) := con_grow2 Tryz.laysGrow193 rfl rfl (ty := tyOf tys) Q0 (e := 9) rfl (by decide) rfl rfl
end Go.Ev.W
