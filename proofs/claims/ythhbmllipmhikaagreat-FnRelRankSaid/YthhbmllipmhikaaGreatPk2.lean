/- What functions of the program come to. -/
import Derived.Test.YthhbmllipmhikaaGreatPkT
import Derived.Test.YthhbmllipmhikaaGreatEvGrow
import Derived.Test.YthhbmllipmhikaaGreatPk1
import Derived.Test.YthhbmllipmhikaaGreatPkL
namespace Go.Ev.W
open Go.Ev Go.Proofs
set_option maxRecDepth 100000
set_option linter.unusedVariables false
noncomputable abbrev Q1r.s : Sg := ⟨[.lend], [vi], ⟨[vb], [none]⟩, Tryz.f110⟩
noncomputable def Q1r.gs (δ : Type) : List (Nat × Callee (GT tab) δ) := [(18, Qy.k)]
theorem Q1r.gok (δ : Type) : Q4 Tryz.prog tab (Q1r.gs δ) := .cons Qy.con .nil
noncomputable def Q1r.c := cx Q1r.s [] [] [] false (Q1r.gs _)
noncomputable def Q1r (x0 : Int) : Option (Bool) := fnW Q1r.s Q1r.c x0
theorem Q1r.fok : FkS Q1r.s 110 := ⟨Tryz.func110, by kernel_rfl, by kernel_rfl⟩
noncomputable def Q1r.fn (x : Args tab Q1r.s.ar) : Option (ResT tab Q1r.s.rs) := Q1r x
noncomputable abbrev Q1r.k {δ : Type} : Callee (GT tab) δ := kS Q1r.s Q1r.fn
theorem Q1r.con {δ : Type} : Con Tryz.prog (KT tab) 110 (Q1r.k (δ := δ)) := Q5 (c := Q1r.c) mixed Q1 (Q0 (Q1r.gok _)) Q1r.fok rfl rfl fun _ => rfl
theorem Q1r.eq (x0 : Int) : Q1r x0 =
 (Qy x0 (0 : Int) (511 : Int)).bind fun y1 =>
 some y1 := by kernel_rfl
noncomputable abbrev Q0Y.s : Sg := ⟨[.lend, .lend], [vi, .one (.ptr false 0 [.fn 110 []])], ⟨[vb], [none, none]⟩, Tryz.f124⟩
noncomputable def Q0Y.gs (δ : Type) : List (Nat × Callee (GT tab) δ) := [(110, Q1r.k)]
theorem Q0Y.gok (δ : Type) : Q4 Tryz.prog tab (Q0Y.gs δ) := .cons Q1r.con .nil
noncomputable def Q0Y.c := cx Q0Y.s [] [] [] false (Q0Y.gs _)
noncomputable def Q0Y (x0 : Int) (x1 : Unit) : Option (Bool) := fnW Q0Y.s Q0Y.c (x0, x1)
theorem Q0Y.fok : FkS Q0Y.s 124 := ⟨Tryz.func124, by kernel_rfl, by kernel_rfl⟩
noncomputable def Q0Y.fn (x : Args tab Q0Y.s.ar) : Option (ResT tab Q0Y.s.rs) := Q0Y x.1 x.2
noncomputable abbrev Q0Y.k {δ : Type} : Callee (GT tab) δ := kS Q0Y.s Q0Y.fn
theorem Q0Y.con {δ : Type} : Con Tryz.prog (KT tab) 124 (Q0Y.k (δ := δ)) := Q5 (c := Q0Y.c) mixed Q1 (Q0 (Q0Y.gok _)) Q0Y.fok rfl rfl fun _ => rfl
theorem Q0Y.eq (x0 : Int) (x1 : Unit) : Q0Y x0 x1 =
 (Q1r x0).bind fun y1 =>
 some (!y1) := by kernel_rfl
noncomputable abbrev Q0x.s : Sg := ⟨[.lend, .lend], [vl 3, .one (.fn 124 [.ptr false 0 [.fn 110 []]])], ⟨[vi], [none, none]⟩, Tryz.f138⟩
noncomputable def Q0x.gs (δ : Type) : List (Nat × Callee (GT tab) δ) := [(124, Q0Y.k)]
theorem Q0x.gok (δ : Type) : Q4 Tryz.prog tab (Q0x.gs δ) := .cons Q0Y.con .nil
noncomputable def Q0x.c := cx Q0x.s [] [] [(2, [0, 1, 7, 8])] false (Q0x.gs _)
noncomputable def Q0x (x0 : List Int) (x1 : Unit) : Option (Int) := fnW Q0x.s Q0x.c (x0, x1)
theorem Q0x.fok : FkS Q0x.s 138 := ⟨Tryz.func138, by kernel_rfl, by kernel_rfl⟩
noncomputable def Q0x.fn (x : Args tab Q0x.s.ar) : Option (ResT tab Q0x.s.rs) := Q0x x.1 x.2
noncomputable abbrev Q0x.k {δ : Type} : Callee (GT tab) δ := kS Q0x.s Q0x.fn
theorem Q0x.con {δ : Type} : Con Tryz.prog (KT tab) 138 (Q0x.k (δ := δ)) := Q5 (c := Q0x.c) mixed Q1 (Q0 (Q0x.gok _)) Q0x.fok rfl rfl fun _ => rfl
noncomputable def Q0x_l0 (v0 : List Int) (v1 v2 : Int) : Option (Int) := lpW Q0x.s Q0x.c 0 (ud 10 [.vs false 3 v0, .fn 124 [.vp [.fn 110 []]], .undef, .undef, .undef, .undef, .undef, .int .i64 v1, .int .i64 v2]) [] 0
theorem Q0x.eq (x0 : List Int) (x1 : Unit) : Q0x x0 x1 =
 Q0x_l0 x0 (x0.length : Int) (0 : Int) := by kernel_rfl
theorem Q0x_l0.eq (v0 : List Int) (v1 v2 : Int) : Q0x_l0 v0 v1 v2 =
 bif decide (v2 < v1) then
 (at? v0 v2).bind fun y1 =>
 (Q0Y y1 ()).bind fun y2 =>
 bif y2 then
 some v2
 else
 Q0x_l0 v0 v1 (IntKind.i64.wrap (v2 + (1 : Int)))
 else
 some (-1 : Int) := (Q7 Q1 (Q0 (Q0x.gok _)) _ _).trans (by kernel_rfl)
noncomputable abbrev Q1s.s : Sg := ⟨[.lend, .lend], [vl 3, .one (.fn 124 [.ptr false 56 [.fn 110 []]])], ⟨[vb], [none, none]⟩, Tryz.f123⟩
noncomputable def Q1s.gs (δ : Type) : List (Nat × Callee (GT tab) δ) := [(138, Q0x.k)]
theorem Q1s.gok (δ : Type) : Q4 Tryz.prog tab (Q1s.gs δ) := .cons Q0x.con .nil
noncomputable def Q1s.c := cx Q1s.s [] [] [] false (Q1s.gs _)
noncomputable def Q1s (x0 : List Int) (x1 : Unit) : Option (Bool) := fnW Q1s.s Q1s.c (x0, x1)
theorem Q1s.fok : FkS Q1s.s 123 := ⟨Tryz.func123, by kernel_rfl, by kernel_rfl⟩
noncomputable def Q1s.fn (x : Args tab Q1s.s.ar) : Option (ResT tab Q1s.s.rs) := Q1s x.1 x.2
noncomputable abbrev Q1s.k {δ : Type} : Callee (GT tab) δ := kS Q1s.s Q1s.fn
theorem Q1s.con {δ : Type} : Con Tryz.prog (KT tab) 123 (Q1s.k (δ := δ)) := Q5 (c := Q1s.c) mixed Q1 (Q0 (Q1s.gok _)) Q1s.fok rfl rfl fun _ => rfl
theorem Q1s.eq (x0 : List Int) (x1 : Unit) : Q1s x0 x1 =
 (Q0x x0 ()).bind fun y1 =>
 some (decide (y1 ≥ (0 : Int))) := by kernel_rfl
noncomputable abbrev Q1j.s : Sg := ⟨[.lend, .lend], [vl 3, .one (.fn 110 [])], ⟨[vb], [none, none]⟩, Tryz.f109⟩
noncomputable def Q1j.gs (δ : Type) : List (Nat × Callee (GT tab) δ) := [(123, Q1s.k)]
theorem Q1j.gok (δ : Type) : Q4 Tryz.prog tab (Q1j.gs δ) := .cons Q1s.con .nil
noncomputable def Q1j.c := cx Q1j.s [] [] [] false (Q1j.gs _)
noncomputable def Q1j (x0 : List Int) (x1 : Unit) : Option (Bool) := fnW Q1j.s Q1j.c (x0, x1)
theorem Q1j.fok : FkS Q1j.s 109 := ⟨Tryz.func109, by kernel_rfl, by kernel_rfl⟩
noncomputable def Q1j.fn (x : Args tab Q1j.s.ar) : Option (ResT tab Q1j.s.rs) := Q1j x.1 x.2
noncomputable abbrev Q1j.k {δ : Type} : Callee (GT tab) δ := kS Q1j.s Q1j.fn
theorem Q1j.con {δ : Type} : Con Tryz.prog (KT tab) 109 (Q1j.k (δ := δ)) := Q5 (c := Q1j.c) mixed Q1 (Q0 (Q1j.gok _)) Q1j.fok rfl rfl fun _ => rfl
theorem Q1j.eq (x0 : List Int) (x1 : Unit) : Q1j x0 x1 =
 (Q1s x0 ()).bind fun y1 =>
 some (!y1) := by kernel_rfl
noncomputable abbrev QZ.s : Sg := ⟨[.lend], [vl 3], ⟨[.agg [.int .i64, .sl true true 92]], [none]⟩, Tryz.f103⟩
noncomputable def QZ.gs (δ : Type) : List (Nat × Callee (GT tab) δ) := []
theorem QZ.gok (δ : Type) : Q4 Tryz.prog tab (QZ.gs δ) := .nil
noncomputable def QZ.c := cx QZ.s [] [] [(3, [2, 3, 15, 16, 17])] false (QZ.gs _)
noncomputable def QZ (x0 : List Int) : Option (Int × (List Int)) := fnW QZ.s QZ.c x0
theorem QZ.fok : FkS QZ.s 103 := ⟨Tryz.func103, by kernel_rfl, by kernel_rfl⟩
noncomputable def QZ.fn (x : Args tab QZ.s.ar) : Option (ResT tab QZ.s.rs) := QZ x
noncomputable abbrev QZ.k {δ : Type} : Callee (GT tab) δ := kS QZ.s QZ.fn
theorem QZ.con {δ : Type} : Con Tryz.prog (KT tab) 103 (QZ.k (δ := δ)) := Q5 (c := QZ.c) mixed Q1 (Q0 (QZ.gok _)) QZ.fok rfl rfl fun _ => rfl
noncomputable def QZ_l0 (v0 : List Int) (v1 v2 v3 : Int) (v4 : List Int) (v5 : Int) (v6 : List Int) : Option (Int × (List Int)) := lpW QZ.s QZ.c 0 (ud 19 [.undef, .undef, .ptr 0 0, .ptr 2 0, .undef, .undef, .undef, .undef, .undef, .undef, .undef, .undef, .undef, .undef, .undef, .vs false 3 v0, .int .i64 v1, .int .i64 v2]) [.box 30 [.int .i64 v3, .sl 1 0], .row 0 true 92 v4, .box 30 [.int .i64 v5, .sl 3 0], .row 0 true 92 v6] 4
theorem QZ.eq (x0 : List Int) : QZ x0 =
 bif decide ((0 : Int) ≤ IntKind.i64.wrap ((IntKind.i64.wrap ((IntKind.i64.wrap ((x0.length : Int) + (64 : Int))) - (1 : Int))).tdiv (64 : Int))) && decide (((IntKind.i64.wrap ((IntKind.i64.wrap ((IntKind.i64.wrap ((x0.length : Int) + (64 : Int))) - (1 : Int))).tdiv (64 : Int))).toNat) * 8 ≤ 140737488355328) then
 QZ_l0 x0 (x0.length : Int) (0 : Int) (0 : Int) ([] : List Int) (x0.length : Int) (List.replicate ((IntKind.i64.wrap ((IntKind.i64.wrap ((IntKind.i64.wrap ((x0.length : Int) + (64 : Int))) - (1 : Int))).tdiv (64 : Int))).toNat) (0 : Int))
 else
 none := by kernel_rfl
theorem QZ_l0.eq (v0 : List Int) (v1 v2 v3 : Int) (v4 : List Int) (v5 : Int) (v6 : List Int) : QZ_l0 v0 v1 v2 v3 v4 v5 v6 =
 bif decide (v2 < v1) then
 (at? v0 v2).bind fun y1 =>
 (at? v6 (IntKind.i64.wrap (v2.tdiv (64 : Int)))).bind fun y2 =>
 v6[(IntKind.i64.wrap (v2.tdiv (64 : Int))).toNat]?.bind fun y3 =>
 bif decide (v2.tmod (64 : Int) < (0 : Int)) then
 none
 else
 (at? v6 (IntKind.i64.wrap (v2.tdiv (64 : Int)))).bind fun y4 =>
 v6[(IntKind.i64.wrap (v2.tdiv (64 : Int))).toNat]?.bind fun y5 =>
 QZ_l0 v0 v1 (IntKind.i64.wrap (v2 + (1 : Int))) v3 v4 v5 (v6.set ((IntKind.i64.wrap (v2.tdiv (64 : Int))).toNat) (IntKind.u64.wrap (((BitVec.ofInt 64 y3) ||| (BitVec.ofInt 64 (IntKind.u64.wrap ((IntKind.u64.wrap y1) * 2 ^ (min (v2.tmod (64 : Int)).toNat 64))))).toNat : Int)))
 else
 some (v5, v6) := (Q7 Q1 (Q0 (QZ.gok _)) _ _).trans (by kernel_rfl)
def Q1P.ms : List Mode := [.give, .lend]
def Q1P.as : List VSh := [.one (.b (.b (.b (.b (.sl true true 3))))), .one (.b (.b (.b (.b (.int .i64)))))]
def Q1P.rs : RSh := ⟨[.one (.b (.b (.b (.b (.sl true true 3)))))], [none, none]⟩
noncomputable def Q1P (x0 : List Int) (x1 : Int) : Option (List Int) := growF 8 (x0, x1)
noncomputable def Q1P.fn : Args tab Q1P.as → Option (ResT tab Q1P.rs) := fun x => Q1P x.1 x.2
noncomputable abbrev Q1P.k {δ : Type} : Callee (GT tab) δ := Q21 tab Q1P.ms Q1P.as Q1P.rs Q1P.fn
theorem Q1P.con {δ : Type} : Con Tryz.prog (KT tab) 125 (Q1P.k (δ := δ)) := con_grow2 Tryz.laysGrow125 rfl rfl (ty := tyOf tys) Q1 (e := 3) rfl (by decide) rfl rfl
noncomputable abbrev QR.s : Sg := ⟨[.lend], [vl 24], ⟨[vo 3], [none]⟩, Tryz.f111⟩
noncomputable def QR.gs (δ : Type) : List (Nat × Callee (GT tab) δ) := [(125, Q1P.k)]
theorem QR.gok (δ : Type) : Q4 Tryz.prog tab (QR.gs δ) := .cons Q1P.con .nil
noncomputable def QR.c := cx QR.s [] [] [(3, [0, 3, 9, 10, 11]), (11, [6, 25, 26, 27])] false (QR.gs _)
noncomputable def QR (x0 : List (List Int)) : Option (List Int) := fnW QR.s QR.c x0
theorem QR.fok : FkS QR.s 111 := ⟨Tryz.func111, by kernel_rfl, by kernel_rfl⟩
noncomputable def QR.fn (x : Args tab QR.s.ar) : Option (ResT tab QR.s.rs) := QR x
noncomputable abbrev QR.k {δ : Type} : Callee (GT tab) δ := kS QR.s QR.fn
theorem QR.con {δ : Type} : Con Tryz.prog (KT tab) 111 (QR.k (δ := δ)) := Q5 (c := QR.c) mixed Q1 (Q0 (QR.gok _)) QR.fok rfl rfl fun _ => rfl
noncomputable def QR_l0 (v0 : List (List Int)) (v1 : Int) (v2 : List (List Int)) (v3 v4 : Int) : Option (List Int) := lpW QR.s QR.c 0 (ud 24 [.vs false 24 v0, .undef, .undef, .int .i64 v1, .undef, .undef, .undef, .undef, .undef, .vs false 24 v2, .int .i64 v3, .int .i64 v4]) [] 0
noncomputable def QR_l1 (v0 : List (List Int)) (v1 v2 : Int) (v3 : List Int) : Option (List Int) := lpW QR.s QR.c 1 (ud 8 [.undef, .undef, .undef, .undef, .undef, .undef, .sl 0 0, .undef, .undef, .undef, .undef, .undef, .undef, .undef, .undef, .undef, .undef, .undef, .undef, .undef, .undef, .undef, .undef, .undef, .undef, .vs false 24 v0, .int .i64 v1, .int .i64 v2]) [.row 0 true 3 v3] 1
theorem QR.eq (x0 : List (List Int)) : QR x0 =
 QR_l0 x0 (0 : Int) x0 (x0.length : Int) (0 : Int) := by kernel_rfl
theorem QR_l0.eq (v0 : List (List Int)) (v1 : Int) (v2 : List (List Int)) (v3 v4 : Int) : QR_l0 v0 v1 v2 v3 v4 =
 bif decide (v4 < v3) then
 (at? v2 v4).bind fun y1 =>
 bif decide (IntKind.i64.wrap (v1 + (y1.length : Int)) < (0 : Int)) then
 none
 else
 QR_l0 v0 (IntKind.i64.wrap (v1 + (y1.length : Int))) v2 v3 (IntKind.i64.wrap (v4 + (1 : Int)))
 else
 (Q1P ([] : List Int) v1).bind fun y2 =>
 QR_l1 v0 (v0.length : Int) (0 : Int) y2 := (Q7 Q1 (Q0 (QR.gok _)) _ _).trans (by kernel_rfl)
theorem QR_l1.eq (v0 : List (List Int)) (v1 v2 : Int) (v3 : List Int) : QR_l1 v0 v1 v2 v3 =
 bif decide (v2 < v1) then
 (at? v0 v2).bind fun y1 =>
 bif decide ((v3.length + y1.length) * 8 ≤ 140737488355328) then
 QR_l1 v0 v1 (IntKind.i64.wrap (v2 + (1 : Int))) (v3 ++ y1)
 else
 none
 else
 some v3 := (Q7 Q1 (Q0 (QR.gok _)) _ _).trans (by kernel_rfl)
noncomputable abbrev Qg.s : Sg := ⟨[.lend], [vl 3], ⟨[.agg [.int .i64, .sl true true 3, .sl true true 30], vb], [none]⟩, Tryz.f82⟩
noncomputable def Qg.gs (δ : Type) : List (Nat × Callee (GT tab) δ) := [(103, QZ.k), (109, Q1j.k), (111, QR.k)]
theorem Qg.gok (δ : Type) : Q4 Tryz.prog tab (Qg.gs δ) := .cons QZ.con (.cons Q1j.con (.cons QR.con .nil))
noncomputable def Qg.c := cx Qg.s [] [3] [(3, [0, 2]), (5, [0, 2, 4, 24]), (9, [2, 4, 5, 6, 7, 8, 24, 27, 28, 29])] false (Qg.gs _)
noncomputable def Qg (x0 : List Int) : Option ((Int × (List Int) × (List (Int × (List Int)))) × Bool) := fnW Qg.s Qg.c x0
theorem Qg.fok : FkS Qg.s 82 := ⟨Tryz.func82, by kernel_rfl, by kernel_rfl⟩
noncomputable def Qg.fn (x : Args tab Qg.s.ar) : Option (ResT tab Qg.s.rs) := Qg x
noncomputable abbrev Qg.k {δ : Type} : Callee (GT tab) δ := kS Qg.s Qg.fn
theorem Qg.con {δ : Type} : Con Tryz.prog (KT tab) 82 (Qg.k (δ := δ)) := Q5 (c := Qg.c) mixed Q1 (Q0 (Qg.gok _)) Qg.fok rfl rfl fun _ => rfl
noncomputable def Qg_l0 (v0 : List Int) (v1 : Int) (v2 : List Int) (v3 : List (Int × (List Int))) : Option ((Int × (List Int) × (List (Int × (List Int)))) × Bool) := lpW Qg.s Qg.c 0 (ud 70 [.vs false 3 v0, .undef, .ptr 0 0]) [.box 27 [.int .i64 v1, .sl 1 0, .sl 2 0], .row 0 true 3 v2, .row 0 true 30 v3] 3
noncomputable def Qg_l1 (v0 : List Int) (v1 v2 : Int) (v3 : List Int) (v4 : List (Int × (List Int))) (v5 : Int) (v6 : List Int) (v7 : List (Int × (List Int))) : Option ((Int × (List Int) × (List (Int × (List Int)))) × Bool) := lpW Qg.s Qg.c 1 (ud 48 [.vs false 3 v0, .undef, .ptr 0 0, .undef, .ptr 3 0, .undef, .undef, .undef, .undef, .undef, .undef, .undef, .undef, .undef, .undef, .undef, .undef, .undef, .undef, .undef, .undef, .undef, .undef, .undef, .int .i64 v1]) [.box 27 [.int .i64 v2, .sl 1 0, .sl 2 0], .row 0 true 3 v3, .row 0 true 30 v4, .box 27 [.int .i64 v5, .sl 4 0, .sl 5 0], .row 0 true 3 v6, .row 0 true 30 v7] 6
noncomputable def Qg_l2 (v0 v1 : Int) (v2 : List Int) (v3 v4 v5 : Int) (v6 : List Int) (v7 : List (Int × (List Int))) (v8 : Int) (v9 : List Int) (v10 : List (Int × (List Int))) (v11 v12 v13 : List Int) : Option ((Int × (List Int) × (List (Int × (List Int)))) × Bool) := lpW Qg.s Qg.c 2 (ud 43 [.undef, .undef, .ptr 0 0, .undef, .ptr 3 0, .int .i64 v0, .sl 6 0, .sl 7 0, .sl 8 0, .undef, .undef, .undef, .undef, .undef, .undef, .undef, .undef, .undef, .undef, .undef, .undef, .undef, .undef, .undef, .int .i64 v1, .undef, .undef, .vs false 3 v2, .int .i64 v3, .int .i64 v4]) [.box 27 [.int .i64 v5, .sl 1 0, .sl 2 0], .row 0 true 3 v6, .row 0 true 30 v7, .box 27 [.int .i64 v8, .sl 4 0, .sl 5 0], .row 0 true 3 v9, .row 0 true 30 v10, .row 0 true 3 v11, .row 0 true 3 v12, .row 0 true 3 v13] 9
noncomputable def Qg_l3 (v0 : Int) (v1 : List Int) (v2 : Int) (v3 : List Int) (v4 : List (Int × (List Int))) (v5 : Int) (v6 : List Int) (v7 : List (Int × (List Int))) : Option ((Int × (List Int) × (List (Int × (List Int)))) × Bool) := lpW Qg.s Qg.c 1 (ud 48 [.sl 0 0, .undef, .ptr 1 0, .undef, .ptr 4 0, .undef, .undef, .undef, .undef, .undef, .undef, .undef, .undef, .undef, .undef, .undef, .undef, .undef, .undef, .undef, .undef, .undef, .undef, .undef, .int .i64 v0]) [.row 0 true 3 v1, .box 27 [.int .i64 v2, .sl 2 0, .sl 3 0], .row 0 true 3 v3, .row 0 true 30 v4, .box 27 [.int .i64 v5, .sl 5 0, .sl 6 0], .row 0 true 3 v6, .row 0 true 30 v7] 7
noncomputable def Qg_l4 (v0 v1 v2 v3 v4 : Int) (v5 : List Int) (v6 : List (Int × (List Int))) (v7 : Int) (v8 : List Int) (v9 : List (Int × (List Int))) (v10 v11 v12 v13 : List Int) : Option ((Int × (List Int) × (List (Int × (List Int)))) × Bool) := lpW Qg.s Qg.c 2 (ud 43 [.undef, .undef, .ptr 0 0, .undef, .ptr 3 0, .int .i64 v0, .sl 6 0, .sl 7 0, .sl 8 0, .undef, .undef, .undef, .undef, .undef, .undef, .undef, .undef, .undef, .undef, .undef, .undef, .undef, .undef, .undef, .int .i64 v1, .undef, .undef, .sl 9 0, .int .i64 v2, .int .i64 v3]) [.box 27 [.int .i64 v4, .sl 1 0, .sl 2 0], .row 0 true 3 v5, .row 0 true 30 v6, .box 27 [.int .i64 v7, .sl 4 0, .sl 5 0], .row 0 true 3 v8, .row 0 true 30 v9, .row 0 true 3 v10, .row 0 true 3 v11, .row 0 true 3 v12, .row 0 true 3 v13] 10
theorem Qg.eq (x0 : List Int) : Qg x0 =
 bif decide ((x0.length : Int) > (1000 : Int)) then
 some (((0 : Int), ([] : List Int), ([] : List (Int × (List Int)))), false)
 else
 (Q1j x0 ()).bind fun y1 =>
 bif !y1 then
 some (((0 : Int), ([] : List Int), ([] : List (Int × (List Int)))), false)
 else
 Qg_l0 x0 (0 : Int) ([] : List Int) ([] : List (Int × (List Int))) := by kernel_rfl
theorem Qg_l0.eq (v0 : List Int) (v1 : Int) (v2 : List Int) (v3 : List (Int × (List Int))) : Qg_l0 v0 v1 v2 v3 =
 Qg_l1 v0 (0 : Int) v1 v2 v3 (v0.length : Int) ([] : List Int) ([] : List (Int × (List Int))) := (Q7 Q1 (Q0 (Qg.gok _)) _ _).trans (by kernel_rfl)
theorem Qg_l1.eq (v0 : List Int) (v1 v2 : Int) (v3 : List Int) (v4 : List (Int × (List Int))) (v5 : Int) (v6 : List Int) (v7 : List (Int × (List Int))) : Qg_l1 v0 v1 v2 v3 v4 v5 v6 v7 =
 bif decide (v1 < (9 : Int)) then
 Qg_l2 v1 v1 v0 (v0.length : Int) (0 : Int) v2 v3 v4 v5 v6 v7 ([] : List Int) ([] : List Int) ([] : List Int)
 else
 some ((v5, v6, v7), true) := (Q7 Q1 (Q0 (Qg.gok _)) _ _).trans (by kernel_rfl)
theorem Qg_l2.eq (v0 v1 : Int) (v2 : List Int) (v3 v4 v5 : Int) (v6 : List Int) (v7 : List (Int × (List Int))) (v8 : Int) (v9 : List Int) (v10 : List (Int × (List Int))) (v11 v12 v13 : List Int) : Qg_l2 v0 v1 v2 v3 v4 v5 v6 v7 v8 v9 v10 v11 v12 v13 =
 bif decide (v4 < v3) then
 (at? v2 v4).bind fun y1 =>
 bif decide (IntKind.i64.wrap ((8 : Int) - v0) < (0 : Int)) then
 none
 else
 bif decide ((v13.length + ([IntKind.i64.wrap (((BitVec.ofInt 64 (y1.fdiv (2 ^ (min (IntKind.i64.wrap ((8 : Int) - v0)).toNat 64)))) &&& (BitVec.ofInt 64 (1 : Int))).toNat : Int)] : List Int).length) * 8 ≤ 140737488355328) then
 bif IntKind.i64.wrap (((BitVec.ofInt 64 (y1.fdiv (2 ^ (min (IntKind.i64.wrap ((8 : Int) - v0)).toNat 64)))) &&& (BitVec.ofInt 64 (1 : Int))).toNat : Int) == (0 : Int) then
 bif decide ((v11.length + ([y1] : List Int).length) * 8 ≤ 140737488355328) then
 Qg_l2 v0 v1 v2 v3 (IntKind.i64.wrap (v4 + (1 : Int))) v5 v6 v7 v8 v9 v10 (v11 ++ ([y1] : List Int)) v12 (v13 ++ ([IntKind.i64.wrap (((BitVec.ofInt 64 (y1.fdiv (2 ^ (min (IntKind.i64.wrap ((8 : Int) - v0)).toNat 64)))) &&& (BitVec.ofInt 64 (1 : Int))).toNat : Int)] : List Int))
 else
 none
 else
 bif decide ((v12.length + ([y1] : List Int).length) * 8 ≤ 140737488355328) then
 Qg_l2 v0 v1 v2 v3 (IntKind.i64.wrap (v4 + (1 : Int))) v5 v6 v7 v8 v9 v10 v11 (v12 ++ ([y1] : List Int)) (v13 ++ ([IntKind.i64.wrap (((BitVec.ofInt 64 (y1.fdiv (2 ^ (min (IntKind.i64.wrap ((8 : Int) - v0)).toNat 64)))) &&& (BitVec.ofInt 64 (1 : Int))).toNat : Int)] : List Int))
 else
 none
 else
 none
 else
 bif decide ((v9.length + ([(v11.length : Int)] : List Int).length) * 8 ≤ 140737488355328) then
 (QZ v13).bind fun y2 =>
 bif decide ((v10.length + ([(y2.1, y2.2)] : List (Int × (List Int))).length) * 32 ≤ 140737488355328) then
 (QR ([v11, v12] : List (List Int))).bind fun y3 =>
 Qg_l3 (IntKind.i64.wrap (v1 + (1 : Int))) y3 v5 v6 v7 v8 (v9 ++ ([(v11.length : Int)] : List Int)) (v10 ++ ([(y2.1, y2.2)] : List (Int × (List Int))))
 else
 none
 else
 none := (Q7 Q1 (Q0 (Qg.gok _)) _ _).trans (by kernel_rfl)
theorem Qg_l3.eq (v0 : Int) (v1 : List Int) (v2 : Int) (v3 : List Int) (v4 : List (Int × (List Int))) (v5 : Int) (v6 : List Int) (v7 : List (Int × (List Int))) : Qg_l3 v0 v1 v2 v3 v4 v5 v6 v7 =
 bif decide (v0 < (9 : Int)) then
 Qg_l4 v0 v0 (v1.length : Int) (0 : Int) v2 v3 v4 v5 v6 v7 ([] : List Int) ([] : List Int) ([] : List Int) v1
 else
 some ((v5, v6, v7), true) := (Q7 Q1 (Q0 (Qg.gok _)) _ _).trans (by kernel_rfl)
theorem Qg_l4.eq (v0 v1 v2 v3 v4 : Int) (v5 : List Int) (v6 : List (Int × (List Int))) (v7 : Int) (v8 : List Int) (v9 : List (Int × (List Int))) (v10 v11 v12 v13 : List Int) : Qg_l4 v0 v1 v2 v3 v4 v5 v6 v7 v8 v9 v10 v11 v12 v13 =
 bif decide (v3 < v2) then
 (at? v13 v3).bind fun y1 =>
 v13[v3.toNat]?.bind fun y2 =>
 bif decide (IntKind.i64.wrap ((8 : Int) - v0) < (0 : Int)) then
 none
 else
 bif decide ((v12.length + ([IntKind.i64.wrap (((BitVec.ofInt 64 (y2.fdiv (2 ^ (min (IntKind.i64.wrap ((8 : Int) - v0)).toNat 64)))) &&& (BitVec.ofInt 64 (1 : Int))).toNat : Int)] : List Int).length) * 8 ≤ 140737488355328) then
 bif IntKind.i64.wrap (((BitVec.ofInt 64 (y2.fdiv (2 ^ (min (IntKind.i64.wrap ((8 : Int) - v0)).toNat 64)))) &&& (BitVec.ofInt 64 (1 : Int))).toNat : Int) == (0 : Int) then
 bif decide ((v10.length + ([y2] : List Int).length) * 8 ≤ 140737488355328) then
 Qg_l4 v0 v1 v2 (IntKind.i64.wrap (v3 + (1 : Int))) v4 v5 v6 v7 v8 v9 (v10 ++ ([y2] : List Int)) v11 (v12 ++ ([IntKind.i64.wrap (((BitVec.ofInt 64 (y2.fdiv (2 ^ (min (IntKind.i64.wrap ((8 : Int) - v0)).toNat 64)))) &&& (BitVec.ofInt 64 (1 : Int))).toNat : Int)] : List Int)) v13
 else
 none
 else
 bif decide ((v11.length + ([y2] : List Int).length) * 8 ≤ 140737488355328) then
 Qg_l4 v0 v1 v2 (IntKind.i64.wrap (v3 + (1 : Int))) v4 v5 v6 v7 v8 v9 v10 (v11 ++ ([y2] : List Int)) (v12 ++ ([IntKind.i64.wrap (((BitVec.ofInt 64 (y2.fdiv (2 ^ (min (IntKind.i64.wrap ((8 : Int) - v0)).toNat 64)))) &&& (BitVec.ofInt 64 (1 : Int))).toNat : Int)] : List Int)) v13
 else
 none
 else
 none
 else
 bif decide ((v8.length + ([(v10.length : Int)] : List Int).length) * 8 ≤ 140737488355328) then
 (QZ v12).bind fun y3 =>
 bif decide ((v9.length + ([(y3.1, y3.2)] : List (Int × (List Int))).length) * 32 ≤ 140737488355328) then
 (QR ([v10, v11] : List (List Int))).bind fun y4 =>
 Qg_l3 (IntKind.i64.wrap (v1 + (1 : Int))) y4 v4 v5 v6 v7 (v8 ++ ([(v10.length : Int)] : List Int)) (v9 ++ ([(y3.1, y3.2)] : List (Int × (List Int))))
 else
 none
 else
 none := (Q7 Q1 (Q0 (Qg.gok _)) _ _).trans (by kernel_rfl)
noncomputable abbrev Q0l.s : Sg := ⟨[.lend], [vl 3], ⟨[vo 3], [none]⟩, Tryz.f102⟩
noncomputable def Q0l.gs (δ : Type) : List (Nat × Callee (GT tab) δ) := []
theorem Q0l.gok (δ : Type) : Q4 Tryz.prog tab (Q0l.gs δ) := .nil
noncomputable def Q0l.c := cx Q0l.s [] [] [(3, [3, 9, 10, 11])] false (Q0l.gs _)
noncomputable def Q0l (x0 : List Int) : Option (List Int) := fnW Q0l.s Q0l.c x0
theorem Q0l.fok : FkS Q0l.s 102 := ⟨Tryz.func102, by kernel_rfl, by kernel_rfl⟩
noncomputable def Q0l.fn (x : Args tab Q0l.s.ar) : Option (ResT tab Q0l.s.rs) := Q0l x
noncomputable abbrev Q0l.k {δ : Type} : Callee (GT tab) δ := kS Q0l.s Q0l.fn
theorem Q0l.con {δ : Type} : Con Tryz.prog (KT tab) 102 (Q0l.k (δ := δ)) := Q5 (c := Q0l.c) mixed Q1 (Q0 (Q0l.gok _)) Q0l.fok rfl rfl fun _ => rfl
noncomputable def Q0l_l0 (v0 : List Int) (v1 v2 : Int) (v3 : List Int) : Option (List Int) := lpW Q0l.s Q0l.c 0 (ud 10 [.undef, .undef, .undef, .sl 0 0, .undef, .undef, .undef, .undef, .undef, .vs false 3 v0, .int .i64 v1, .int .i64 v2]) [.row 0 true 3 v3] 1
theorem Q0l.eq (x0 : List Int) : Q0l x0 =
 bif decide ((0 : Int) ≤ (x0.length : Int)) && decide (((x0.length : Int).toNat) * 8 ≤ 140737488355328) then
 Q0l_l0 x0 (x0.length : Int) (0 : Int) (List.replicate ((x0.length : Int).toNat) (0 : Int))
 else
 none := by kernel_rfl
theorem Q0l_l0.eq (v0 : List Int) (v1 v2 : Int) (v3 : List Int) : Q0l_l0 v0 v1 v2 v3 =
 bif decide (v2 < v1) then
 (at? v0 v2).bind fun y1 =>
 (at? v3 y1).bind fun y2 =>
 v3[y1.toNat]?.bind fun y3 =>
 Q0l_l0 v0 v1 (IntKind.i64.wrap (v2 + (1 : Int))) (v3.set y1.toNat v2)
 else
 some v3 := (Q7 Q1 (Q0 (Q0l.gok _)) _ _).trans (by kernel_rfl)
noncomputable abbrev Q03.s : Sg := ⟨[.lend], [.one (.b (.b (.b (.b (.int .u64)))))], ⟨[vi], [none]⟩, Tryz.f135⟩
noncomputable def Q03.gs (δ : Type) : List (Nat × Callee (GT tab) δ) := []
theorem Q03.gok (δ : Type) : Q4 Tryz.prog tab (Q03.gs δ) := .nil
noncomputable def Q03.c := cx Q03.s [] [4, 7] [(4, [0, 2]), (7, [0, 2])] false (Q03.gs _)
noncomputable def Q03 (x0 : Int) : Option (Int) := fnW Q03.s Q03.c x0
theorem Q03.fok : FkS Q03.s 135 := ⟨Tryz.func135, by kernel_rfl, by kernel_rfl⟩
noncomputable def Q03.fn (x : Args tab Q03.s.ar) : Option (ResT tab Q03.s.rs) := Q03 x
noncomputable abbrev Q03.k {δ : Type} : Callee (GT tab) δ := kS Q03.s Q03.fn
theorem Q03.con {δ : Type} : Con Tryz.prog (KT tab) 135 (Q03.k (δ := δ)) := Q5 (c := Q03.c) mixed Q1 (Q0 (Q03.gok _)) Q03.fok rfl rfl fun _ => rfl
noncomputable def Q03_l0 (v0 v1 : Int) : Option (Int) := lpW Q03.s Q03.c 0 (ud 22 [.int .u64 v0, .undef, .int .i64 v1]) [] 0
noncomputable def Q03_l1 (v0 v1 : Int) : Option (Int) := lpW Q03.s Q03.c 1 (ud 22 [.int .u64 v0, .undef, .int .i64 v1]) [] 0
theorem Q03.eq (x0 : Int) : Q03 x0 =
 bif decide (x0 ≥ (4294967296 : Int)) then
 Q03_l0 (x0.fdiv (2 ^ 32)) (32 : Int)
 else
 Q03_l0 x0 (0 : Int) := by kernel_rfl
theorem Q03_l0.eq (v0 v1 : Int) : Q03_l0 v0 v1 =
 bif decide (v0 ≥ (65536 : Int)) then
 Q03_l1 (v0.fdiv (2 ^ 16)) (IntKind.i64.wrap (v1 + (16 : Int)))
 else
 Q03_l1 v0 v1 := (Q7 Q1 (Q0 (Q03.gok _)) _ _).trans (by kernel_rfl)
theorem Q03_l1.eq (v0 v1 : Int) : Q03_l1 v0 v1 =
 bif decide (v0 ≥ (256 : Int)) then
 (at? ((⟨(List.toArray ([0, 1, 2, 2, 3, 3, 3, 3, 4, 4, 4, 4, 4, 4, 4, 4, 5, 5, 5, 5, 5, 5, 5, 5, 5, 5, 5, 5, 5, 5, 5, 5, 6, 6, 6, 6, 6, 6, 6, 6, 6, 6, 6, 6, 6, 6, 6, 6, 6, 6, 6, 6, 6, 6, 6, 6, 6, 6, 6, 6, 6, 6, 6, 6, 7, 7, 7, 7, 7, 7, 7, 7, 7, 7, 7, 7, 7, 7, 7, 7, 7, 7, 7, 7, 7, 7, 7, 7, 7, 7, 7, 7, 7, 7, 7, 7, 7, 7, 7, 7, 7, 7, 7, 7, 7, 7, 7, 7, 7, 7, 7, 7, 7, 7, 7, 7, 7, 7, 7, 7, 7, 7, 7, 7, 7, 7, 7, 7] ++ [8, 8, 8, 8, 8, 8, 8, 8, 8, 8, 8, 8, 8, 8, 8, 8, 8, 8, 8, 8, 8, 8, 8, 8, 8, 8, 8, 8, 8, 8, 8, 8, 8, 8, 8, 8, 8, 8, 8, 8, 8, 8, 8, 8, 8, 8, 8, 8, 8, 8, 8, 8, 8, 8, 8, 8, 8, 8, 8, 8, 8, 8, 8, 8, 8, 8, 8, 8, 8, 8, 8, 8, 8, 8, 8, 8, 8, 8, 8, 8, 8, 8, 8, 8, 8, 8, 8, 8, 8, 8, 8, 8, 8, 8, 8, 8, 8, 8, 8, 8, 8, 8, 8, 8, 8, 8, 8, 8, 8, 8, 8, 8, 8, 8, 8, 8, 8, 8, 8, 8, 8, 8, 8, 8, 8, 8, 8, 8]))⟩ : ByteArray).data.toList) (IntKind.u8.wrap (v0.fdiv (2 ^ 8)))).bind fun y1 =>
 some (IntKind.i64.wrap ((IntKind.i64.wrap (v1 + (8 : Int))) + (IntKind.i64.wrap (y1.toNat : Int))))
 else
 (at? ((⟨(List.toArray ([0, 1, 2, 2, 3, 3, 3, 3, 4, 4, 4, 4, 4, 4, 4, 4, 5, 5, 5, 5, 5, 5, 5, 5, 5, 5, 5, 5, 5, 5, 5, 5, 6, 6, 6, 6, 6, 6, 6, 6, 6, 6, 6, 6, 6, 6, 6, 6, 6, 6, 6, 6, 6, 6, 6, 6, 6, 6, 6, 6, 6, 6, 6, 6, 7, 7, 7, 7, 7, 7, 7, 7, 7, 7, 7, 7, 7, 7, 7, 7, 7, 7, 7, 7, 7, 7, 7, 7, 7, 7, 7, 7, 7, 7, 7, 7, 7, 7, 7, 7, 7, 7, 7, 7, 7, 7, 7, 7, 7, 7, 7, 7, 7, 7, 7, 7, 7, 7, 7, 7, 7, 7, 7, 7, 7, 7, 7, 7] ++ [8, 8, 8, 8, 8, 8, 8, 8, 8, 8, 8, 8, 8, 8, 8, 8, 8, 8, 8, 8, 8, 8, 8, 8, 8, 8, 8, 8, 8, 8, 8, 8, 8, 8, 8, 8, 8, 8, 8, 8, 8, 8, 8, 8, 8, 8, 8, 8, 8, 8, 8, 8, 8, 8, 8, 8, 8, 8, 8, 8, 8, 8, 8, 8, 8, 8, 8, 8, 8, 8, 8, 8, 8, 8, 8, 8, 8, 8, 8, 8, 8, 8, 8, 8, 8, 8, 8, 8, 8, 8, 8, 8, 8, 8, 8, 8, 8, 8, 8, 8, 8, 8, 8, 8, 8, 8, 8, 8, 8, 8, 8, 8, 8, 8, 8, 8, 8, 8, 8, 8, 8, 8, 8, 8, 8, 8, 8, 8]))⟩ : ByteArray).data.toList) (IntKind.u8.wrap v0)).bind fun y2 =>
 some (IntKind.i64.wrap (v1 + (IntKind.i64.wrap (y2.toNat : Int)))) := (Q7 Q1 (Q0 (Q03.gok _)) _ _).trans (by kernel_rfl)
noncomputable abbrev Q1t.s : Sg := ⟨[.lend], [.one (.b (.b (.b (.b (.int .u64)))))], ⟨[vi], [none]⟩, Tryz.f113⟩
noncomputable def Q1t.gs (δ : Type) : List (Nat × Callee (GT tab) δ) := [(135, Q03.k)]
theorem Q1t.gok (δ : Type) : Q4 Tryz.prog tab (Q1t.gs δ) := .cons Q03.con .nil
noncomputable def Q1t.c := cx Q1t.s [] [] [] false (Q1t.gs _)
noncomputable def Q1t (x0 : Int) : Option (Int) := fnW Q1t.s Q1t.c x0
theorem Q1t.fok : FkS Q1t.s 113 := ⟨Tryz.func113, by kernel_rfl, by kernel_rfl⟩
noncomputable def Q1t.fn (x : Args tab Q1t.s.ar) : Option (ResT tab Q1t.s.rs) := Q1t x
noncomputable abbrev Q1t.k {δ : Type} : Callee (GT tab) δ := kS Q1t.s Q1t.fn
theorem Q1t.con {δ : Type} : Con Tryz.prog (KT tab) 113 (Q1t.k (δ := δ)) := Q5 (c := Q1t.c) mixed Q1 (Q0 (Q1t.gok _)) Q1t.fok rfl rfl fun _ => rfl
theorem Q1t.eq (x0 : Int) : Q1t x0 =
 (Q03 x0).bind fun y1 =>
 some y1 := by kernel_rfl
noncomputable abbrev Q0Z.s : Sg := ⟨[.lend], [vi], ⟨[vi], [none]⟩, Tryz.f105⟩
noncomputable def Q0Z.gs (δ : Type) : List (Nat × Callee (GT tab) δ) := [(113, Q1t.k)]
theorem Q0Z.gok (δ : Type) : Q4 Tryz.prog tab (Q0Z.gs δ) := .cons Q1t.con .nil
noncomputable def Q0Z.c := cx Q0Z.s [] [] [] false (Q0Z.gs _)
noncomputable def Q0Z (x0 : Int) : Option (Int) := fnW Q0Z.s Q0Z.c x0
theorem Q0Z.fok : FkS Q0Z.s 105 := ⟨Tryz.func105, by kernel_rfl, by kernel_rfl⟩
noncomputable def Q0Z.fn (x : Args tab Q0Z.s.ar) : Option (ResT tab Q0Z.s.rs) := Q0Z x
noncomputable abbrev Q0Z.k {δ : Type} : Callee (GT tab) δ := kS Q0Z.s Q0Z.fn
theorem Q0Z.con {δ : Type} : Con Tryz.prog (KT tab) 105 (Q0Z.k (δ := δ)) := Q5 (c := Q0Z.c) mixed Q1 (Q0 (Q0Z.gok _)) Q0Z.fok rfl rfl fun _ => rfl
theorem Q0Z.eq (x0 : Int) : Q0Z x0 =
 bif decide (x0 < (0 : Int)) then
 some (-1 : Int)
 else
 (Q1t (IntKind.u64.wrap x0)).bind fun y1 =>
 some y1 := by kernel_rfl
noncomputable abbrev Q1u.s : Sg := ⟨[.lend, .lend], [vi, .one (.ptr false 0 [.b (.b (.b (.int .i64)))])], ⟨[vb], [none, none]⟩, Tryz.f121⟩
noncomputable def Q1u.gs (δ : Type) : List (Nat × Callee (GT tab) δ) := [(18, Qy.k)]
theorem Q1u.gok (δ : Type) : Q4 Tryz.prog tab (Q1u.gs δ) := .cons Qy.con .nil
noncomputable def Q1u.c := cx Q1u.s [] [] [] false (Q1u.gs _)
noncomputable def Q1u (x0 x1 : Int) : Option (Bool) := fnW Q1u.s Q1u.c (x0, x1)
theorem Q1u.fok : FkS Q1u.s 121 := ⟨Tryz.func121, by kernel_rfl, by kernel_rfl⟩
noncomputable def Q1u.fn (x : Args tab Q1u.s.ar) : Option (ResT tab Q1u.s.rs) := Q1u x.1 x.2
noncomputable abbrev Q1u.k {δ : Type} : Callee (GT tab) δ := kS Q1u.s Q1u.fn
theorem Q1u.con {δ : Type} : Con Tryz.prog (KT tab) 121 (Q1u.k (δ := δ)) := Q5 (c := Q1u.c) mixed Q1 (Q0 (Q1u.gok _)) Q1u.fok rfl rfl fun _ => rfl
theorem Q1u.eq (x0 x1 : Int) : Q1u x0 x1 =
 bif decide (x1 < (0 : Int)) then
 none
 else
 (Qy x0 (0 : Int) (IntKind.i64.wrap ((IntKind.i64.wrap ((1 : Int) * 2 ^ (min x1.toNat 64))) - (1 : Int)))).bind fun y1 =>
 some y1 := by kernel_rfl
noncomputable abbrev Q10.s : Sg := ⟨[.lend, .lend], [vi, .one (.ptr false 0 [.fn 121 [.ptr false 0 [.b (.int .i64)]]])], ⟨[vb], [none, none]⟩, Tryz.f124⟩
noncomputable def Q10.gs (δ : Type) : List (Nat × Callee (GT tab) δ) := [(121, Q1u.k)]
theorem Q10.gok (δ : Type) : Q4 Tryz.prog tab (Q10.gs δ) := .cons Q1u.con .nil
noncomputable def Q10.c := cx Q10.s [] [] [] false (Q10.gs _)
noncomputable def Q10 (x0 x1 : Int) : Option (Bool) := fnW Q10.s Q10.c (x0, x1)
theorem Q10.fok : FkS Q10.s 124 := ⟨Tryz.func124, by kernel_rfl, by kernel_rfl⟩
noncomputable def Q10.fn (x : Args tab Q10.s.ar) : Option (ResT tab Q10.s.rs) := Q10 x.1 x.2
noncomputable abbrev Q10.k {δ : Type} : Callee (GT tab) δ := kS Q10.s Q10.fn
theorem Q10.con {δ : Type} : Con Tryz.prog (KT tab) 124 (Q10.k (δ := δ)) := Q5 (c := Q10.c) mixed Q1 (Q0 (Q10.gok _)) Q10.fok rfl rfl fun _ => rfl
theorem Q10.eq (x0 x1 : Int) : Q10 x0 x1 =
 (Q1u x0 x1).bind fun y1 =>
 some (!y1) := by kernel_rfl
noncomputable abbrev Q0y.s : Sg := ⟨[.lend, .lend], [vl 3, .one (.fn 124 [.ptr false 0 [.fn 121 [.ptr false 0 [.int .i64]]]])], ⟨[vi], [none, none]⟩, Tryz.f138⟩
noncomputable def Q0y.gs (δ : Type) : List (Nat × Callee (GT tab) δ) := [(124, Q10.k)]
theorem Q0y.gok (δ : Type) : Q4 Tryz.prog tab (Q0y.gs δ) := .cons Q10.con .nil
noncomputable def Q0y.c := cx Q0y.s [] [] [(2, [0, 1, 7, 8])] false (Q0y.gs _)
noncomputable def Q0y (x0 : List Int) (x1 : Int) : Option (Int) := fnW Q0y.s Q0y.c (x0, x1)
theorem Q0y.fok : FkS Q0y.s 138 := ⟨Tryz.func138, by kernel_rfl, by kernel_rfl⟩
noncomputable def Q0y.fn (x : Args tab Q0y.s.ar) : Option (ResT tab Q0y.s.rs) := Q0y x.1 x.2
noncomputable abbrev Q0y.k {δ : Type} : Callee (GT tab) δ := kS Q0y.s Q0y.fn
theorem Q0y.con {δ : Type} : Con Tryz.prog (KT tab) 138 (Q0y.k (δ := δ)) := Q5 (c := Q0y.c) mixed Q1 (Q0 (Q0y.gok _)) Q0y.fok rfl rfl fun _ => rfl
noncomputable def Q0y_l0 (v0 : List Int) (v1 v2 v3 : Int) : Option (Int) := lpW Q0y.s Q0y.c 0 (ud 10 [.vs false 3 v0, .fn 124 [.vp [.fn 121 [.ptr false 0 [.int .i64 v1]]]], .undef, .undef, .undef, .undef, .undef, .int .i64 v2, .int .i64 v3]) [] 0
theorem Q0y.eq (x0 : List Int) (x1 : Int) : Q0y x0 x1 =
 Q0y_l0 x0 x1 (x0.length : Int) (0 : Int) := by kernel_rfl
theorem Q0y_l0.eq (v0 : List Int) (v1 v2 v3 : Int) : Q0y_l0 v0 v1 v2 v3 =
 bif decide (v3 < v2) then
 (at? v0 v3).bind fun y1 =>
 (Q10 y1 v1).bind fun y2 =>
 bif y2 then
 some v3
 else
 Q0y_l0 v0 v1 v2 (IntKind.i64.wrap (v3 + (1 : Int)))
 else
 some (-1 : Int) := (Q7 Q1 (Q0 (Q0y.gok _)) _ _).trans (by kernel_rfl)
noncomputable abbrev Q1v.s : Sg := ⟨[.lend, .lend], [vl 3, .one (.fn 124 [.ptr false 56 [.fn 121 [.ptr false 0 [.int .i64]]]])], ⟨[vb], [none, none]⟩, Tryz.f123⟩
noncomputable def Q1v.gs (δ : Type) : List (Nat × Callee (GT tab) δ) := [(138, Q0y.k)]
theorem Q1v.gok (δ : Type) : Q4 Tryz.prog tab (Q1v.gs δ) := .cons Q0y.con .nil
noncomputable def Q1v.c := cx Q1v.s [] [] [] false (Q1v.gs _)
noncomputable def Q1v (x0 : List Int) (x1 : Int) : Option (Bool) := fnW Q1v.s Q1v.c (x0, x1)
theorem Q1v.fok : FkS Q1v.s 123 := ⟨Tryz.func123, by kernel_rfl, by kernel_rfl⟩
noncomputable def Q1v.fn (x : Args tab Q1v.s.ar) : Option (ResT tab Q1v.s.rs) := Q1v x.1 x.2
noncomputable abbrev Q1v.k {δ : Type} : Callee (GT tab) δ := kS Q1v.s Q1v.fn
theorem Q1v.con {δ : Type} : Con Tryz.prog (KT tab) 123 (Q1v.k (δ := δ)) := Q5 (c := Q1v.c) mixed Q1 (Q0 (Q1v.gok _)) Q1v.fok rfl rfl fun _ => rfl
theorem Q1v.eq (x0 : List Int) (x1 : Int) : Q1v x0 x1 =
 (Q0y x0 x1).bind fun y1 =>
 some (decide (y1 ≥ (0 : Int))) := by kernel_rfl
noncomputable abbrev Q1k.s : Sg := ⟨[.lend, .lend], [vl 3, .one (.fn 121 [.ptr false 3 [.b (.b (.int .i64))]])], ⟨[vb], [none, none]⟩, Tryz.f109⟩
noncomputable def Q1k.gs (δ : Type) : List (Nat × Callee (GT tab) δ) := [(123, Q1v.k)]
theorem Q1k.gok (δ : Type) : Q4 Tryz.prog tab (Q1k.gs δ) := .cons Q1v.con .nil
noncomputable def Q1k.c := cx Q1k.s [] [] [] false (Q1k.gs _)
noncomputable def Q1k (x0 : List Int) (x1 : Int) : Option (Bool) := fnW Q1k.s Q1k.c (x0, x1)
theorem Q1k.fok : FkS Q1k.s 109 := ⟨Tryz.func109, by kernel_rfl, by kernel_rfl⟩
noncomputable def Q1k.fn (x : Args tab Q1k.s.ar) : Option (ResT tab Q1k.s.rs) := Q1k x.1 x.2
noncomputable abbrev Q1k.k {δ : Type} : Callee (GT tab) δ := kS Q1k.s Q1k.fn
theorem Q1k.con {δ : Type} : Con Tryz.prog (KT tab) 109 (Q1k.k (δ := δ)) := Q5 (c := Q1k.c) mixed Q1 (Q0 (Q1k.gok _)) Q1k.fok rfl rfl fun _ => rfl
theorem Q1k.eq (x0 : List Int) (x1 : Int) : Q1k x0 x1 =
 (Q1v x0 x1).bind fun y1 =>
 some (!y1) := by kernel_rfl
noncomputable abbrev Q0m.s : Sg := ⟨[.lend, .lend], [vi, vi], ⟨[vo 3], [none, none]⟩, Tryz.f122⟩
noncomputable def Q0m.gs (δ : Type) : List (Nat × Callee (GT tab) δ) := []
theorem Q0m.gok (δ : Type) : Q4 Tryz.prog tab (Q0m.gs δ) := .nil
noncomputable def Q0m.c := cx Q0m.s [] [] [(3, [0, 5, 6, 7])] false (Q0m.gs _)
noncomputable def Q0m (x0 x1 : Int) : Option (List Int) := fnW Q0m.s Q0m.c (x0, x1)
theorem Q0m.fok : FkS Q0m.s 122 := ⟨Tryz.func122, by kernel_rfl, by kernel_rfl⟩
noncomputable def Q0m.fn (x : Args tab Q0m.s.ar) : Option (ResT tab Q0m.s.rs) := Q0m x.1 x.2
noncomputable abbrev Q0m.k {δ : Type} : Callee (GT tab) δ := kS Q0m.s Q0m.fn
theorem Q0m.con {δ : Type} : Con Tryz.prog (KT tab) 122 (Q0m.k (δ := δ)) := Q5 (c := Q0m.c) mixed Q1 (Q0 (Q0m.gok _)) Q0m.fok rfl rfl fun _ => rfl
noncomputable def Q0m_l0 (v0 v1 v2 : Int) (v3 : List Int) : Option (List Int) := lpW Q0m.s Q0m.c 0 (ud 10 [.int .i64 v0, .undef, .undef, .undef, .undef, .sl 0 0, .int .i64 v1, .int .i64 v2]) [.row 0 true 3 v3] 1
theorem Q0m.eq (x0 x1 : Int) : Q0m x0 x1 =
 Q0m_l0 x0 x1 (0 : Int) ([] : List Int) := by kernel_rfl
theorem Q0m_l0.eq (v0 v1 v2 : Int) (v3 : List Int) : Q0m_l0 v0 v1 v2 v3 =
 bif decide (v2 < v1) then
 bif decide ((v3.length + ([IntKind.i64.wrap (((BitVec.ofInt 64 v0) &&& (BitVec.ofInt 64 (1 : Int))).toNat : Int)] : List Int).length) * 8 ≤ 140737488355328) then
 Q0m_l0 (v0.fdiv (2 ^ 1)) v1 (IntKind.i64.wrap (v2 + (1 : Int))) (v3 ++ ([IntKind.i64.wrap (((BitVec.ofInt 64 v0) &&& (BitVec.ofInt 64 (1 : Int))).toNat : Int)] : List Int))
 else
 none
 else
 some v3 := (Q7 Q1 (Q0 (Q0m.gok _)) _ _).trans (by kernel_rfl)
noncomputable abbrev Q02.s : Sg := ⟨[.lend, .lend], [vl 3, vi], ⟨[.agg [.int .i64, .int .i64, .int .i64, .sl true true 92], vb], [none, none]⟩, Tryz.f104⟩
noncomputable def Q02.gs (δ : Type) : List (Nat × Callee (GT tab) δ) := [(18, Qy.k), (103, QZ.k), (109, Q1k.k), (122, Q0m.k)]
theorem Q02.gok (δ : Type) : Q4 Tryz.prog tab (Q02.gs δ) := .cons Qy.con (.cons QZ.con (.cons Q1k.con (.cons Q0m.con .nil)))
noncomputable def Q02.c := cx Q02.s [] [3] [(3, [0, 3, 4]), (5, [0, 3, 4, 6, 31, 32, 33])] false (Q02.gs _)
noncomputable def Q02 (x0 : List Int) (x1 : Int) : Option ((Int × Int × Int × (List Int)) × Bool) := fnW Q02.s Q02.c (x0, x1)
theorem Q02.fok : FkS Q02.s 104 := ⟨Tryz.func104, by kernel_rfl, by kernel_rfl⟩
noncomputable def Q02.fn (x : Args tab Q02.s.ar) : Option (ResT tab Q02.s.rs) := Q02 x.1 x.2
noncomputable abbrev Q02.k {δ : Type} : Callee (GT tab) δ := kS Q02.s Q02.fn
theorem Q02.con {δ : Type} : Con Tryz.prog (KT tab) 104 (Q02.k (δ := δ)) := Q5 (c := Q02.c) mixed Q1 (Q0 (Q02.gok _)) Q02.fok rfl rfl fun _ => rfl
noncomputable def Q02_l0 (v0 : List Int) (v1 v2 v3 v4 : Int) (v5 : List Int) : Option ((Int × Int × Int × (List Int)) × Bool) := lpW Q02.s Q02.c 0 (ud 44 [.vs false 3 v0, .undef, .undef, .ptr 0 0, .ptr 1 0]) [.box 3 [.int .i64 v1], .box 32 [.int .i64 v2, .int .i64 v3, .int .i64 v4, .sl 2 0], .row 0 true 92 v5] 3
noncomputable def Q02_l1 (v0 v1 : List Int) (v2 v3 v4 v5 v6 v7 : Int) (v8 v9 : List Int) : Option ((Int × Int × Int × (List Int)) × Bool) := lpW Q02.s Q02.c 1 (ud 15 [.vs false 3 v0, .undef, .undef, .ptr 0 0, .ptr 1 0, .undef, .sl 3 0, .undef, .undef, .undef, .undef, .undef, .undef, .undef, .undef, .undef, .undef, .undef, .undef, .undef, .undef, .undef, .undef, .undef, .undef, .undef, .undef, .undef, .undef, .undef, .undef, .vs false 3 v1, .int .i64 v2, .int .i64 v3]) [.box 3 [.int .i64 v4], .box 32 [.int .i64 v5, .int .i64 v6, .int .i64 v7, .sl 2 0], .row 0 true 92 v8, .row 0 true 3 v9] 4
theorem Q02.eq (x0 : List Int) (x1 : Int) : Q02 x0 x1 =
 (Qy x1 (0 : Int) (32 : Int)).bind fun y1 =>
 bif !y1 then
 some (((0 : Int), (0 : Int), (0 : Int), ([] : List Int)), false)
 else
 bif decide ((x0.length : Int) > (5000 : Int)) then
 some (((0 : Int), (0 : Int), (0 : Int), ([] : List Int)), false)
 else
 bif decide (IntKind.i64.wrap ((x0.length : Int) * x1) > (5000 : Int)) then
 some (((0 : Int), (0 : Int), (0 : Int), ([] : List Int)), false)
 else
 (Q1k x0 x1).bind fun y2 =>
 bif !y2 then
 some (((0 : Int), (0 : Int), (0 : Int), ([] : List Int)), false)
 else
 Q02_l0 x0 x1 (0 : Int) (0 : Int) (0 : Int) ([] : List Int) := by kernel_rfl
theorem Q02_l0.eq (v0 : List Int) (v1 v2 v3 v4 : Int) (v5 : List Int) : Q02_l0 v0 v1 v2 v3 v4 v5 =
 Q02_l1 v0 v0 (v0.length : Int) (0 : Int) v1 v2 v3 v4 v5 ([] : List Int) := (Q7 Q1 (Q0 (Q02.gok _)) _ _).trans (by kernel_rfl)
theorem Q02_l1.eq (v0 v1 : List Int) (v2 v3 v4 v5 v6 v7 : Int) (v8 v9 : List Int) : Q02_l1 v0 v1 v2 v3 v4 v5 v6 v7 v8 v9 =
 bif decide (v3 < v2) then
 (at? v1 v3).bind fun y1 =>
 (Q0m y1 v4).bind fun y2 =>
 bif decide ((v9.length + y2.length) * 8 ≤ 140737488355328) then
 Q02_l1 v0 v1 v2 (IntKind.i64.wrap (v3 + (1 : Int))) v4 v5 v6 v7 v8 (v9 ++ y2)
 else
 none
 else
 (QZ v9).bind fun y3 =>
 some ((v4, (v0.length : Int), y3.1, y3.2), true) := (Q7 Q1 (Q0 (Q02.gok _)) _ _).trans (by kernel_rfl)
noncomputable abbrev QH.s : Sg := ⟨[.lend, .lend], [vl 5, vi], ⟨[.agg [.int .i64, .int .i64, .int .i64, .sl true true 3, .sl true true 30, .sl true true 3, .int .i64, .sl true true 92, .int .i64, .int .i64, .int .i64, .sl true true 92, .int .i64, .int .i64, .int .i64, .sl true true 92]], [none, none]⟩, Tryz.f76⟩
noncomputable def QH.gs (δ : Type) : List (Nat × Callee (GT tab) δ) := [(20, QB.k), (41, Q0d.k), (82, Qg.k), (101, QJ.k), (102, Q0l.k), (103, QZ.k), (104, Q02.k), (105, Q0Z.k)]
theorem QH.gok (δ : Type) : Q4 Tryz.prog tab (QH.gs δ) := .cons QB.con (.cons Q0d.con (.cons Qg.con (.cons QJ.con (.cons Q0l.con (.cons QZ.con (.cons Q02.con (.cons Q0Z.con .nil)))))))
noncomputable def QH.c := cx QH.s [] [] [(7, [0, 1, 4, 5, 7, 8, 9, 10, 31, 32, 33]), (15, [0, 1, 4, 7, 8, 9, 10, 13, 14])] false (QH.gs _)
noncomputable def QH (x0 : List Int) (x1 : Int) : Option (Int × Int × Int × (List Int) × (List (Int × (List Int))) × (List Int) × Int × (List Int) × Int × Int × Int × (List Int) × Int × Int × Int × (List Int)) := fnW QH.s QH.c (x0, x1)
theorem QH.fok : FkS QH.s 76 := ⟨Tryz.func76, by kernel_rfl, by kernel_rfl⟩
noncomputable def QH.fn (x : Args tab QH.s.ar) : Option (ResT tab QH.s.rs) := QH x.1 x.2
noncomputable abbrev QH.k {δ : Type} : Callee (GT tab) δ := kS QH.s QH.fn
theorem QH.con {δ : Type} : Con Tryz.prog (KT tab) 76 (QH.k (δ := δ)) := Q5 (c := QH.c) mixed Q1 (Q0 (QH.gok _)) QH.fok rfl rfl fun _ => rfl
noncomputable def QH_l0 (v0 : List Int) (v1 v2 v3 v4 v5 v6 v7 v8 v9 v10 v11 v12 v13 : Int) (v14 : List Int) (v15 : List (Int × (List Int))) (v16 v17 v18 v19 v20 : List Int) (v21 v22 v23 v24 v25 v26 v27 v28 v29 v30 : Int) (v31 : List Int) (v32 : List (Int × (List Int))) (v33 v34 v35 v36 v37 v38 v39 : List Int) : Option (Int × Int × Int × (List Int) × (List (Int × (List Int))) × (List Int) × Int × (List Int) × Int × Int × Int × (List Int) × Int × Int × Int × (List Int)) := lpW QH.s QH.c 0 (ud 58 [.vs false 5 v0, .int .i64 v1, .undef, .undef, .ptr 0 0, .sl 7 0, .undef, .ptr 8 0, .sl 15 0, .sl 16 0, .sl 17 0, .undef, .undef, .undef, .undef, .undef, .undef, .undef, .undef, .undef, .undef, .undef, .undef, .undef, .undef, .undef, .undef, .undef, .undef, .undef, .undef, .sl 7 0, .int .i64 v2, .int .i64 v3]) [.box 34 [.int .i64 v4, .int .i64 v5, .int .i64 v6, .sl 1 0, .sl 2 0, .sl 3 0, .int .i64 v7, .sl 4 0, .int .i64 v8, .int .i64 v9, .int .i64 v10, .sl 5 0, .int .i64 v11, .int .i64 v12, .int .i64 v13, .sl 6 0], .row 0 true 3 v14, .row 0 true 30 v15, .row 0 true 3 v16, .row 0 true 92 v17, .row 0 true 92 v18, .row 0 true 92 v19, .row 0 true 3 v20, .box 34 [.int .i64 v21, .int .i64 v22, .int .i64 v23, .sl 9 0, .sl 10 0, .sl 11 0, .int .i64 v24, .sl 12 0, .int .i64 v25, .int .i64 v26, .int .i64 v27, .sl 13 0, .int .i64 v28, .int .i64 v29, .int .i64 v30, .sl 14 0], .row 0 true 3 v31, .row 0 true 30 v32, .row 0 true 3 v33, .row 0 true 92 v34, .row 0 true 92 v35, .row 0 true 92 v36, .row 0 true 3 v37, .row 0 true 3 v38, .row 0 true 3 v39] 18
noncomputable def QH_l1 (v0 : List Int) (v1 v2 v3 v4 v5 v6 v7 v8 v9 v10 v11 v12 : Int) (v13 : List Int) (v14 : List (Int × (List Int))) (v15 v16 v17 v18 : List Int) (v19 v20 v21 v22 v23 v24 v25 v26 v27 v28 : Int) (v29 : List Int) (v30 : List (Int × (List Int))) (v31 v32 v33 v34 v35 v36 v37 v38 : List Int) : Option (Int × Int × Int × (List Int) × (List (Int × (List Int))) × (List Int) × Int × (List Int) × Int × Int × Int × (List Int) × Int × Int × Int × (List Int)) := lpW QH.s QH.c 1 (ud 77 [.vs false 5 v0, .int .i64 v1, .undef, .undef, .ptr 0 0, .undef, .undef, .ptr 7 0, .sl 14 0, .sl 15 0, .sl 16 0, .undef, .undef, .sl 17 0, .int .i64 v2]) [.box 34 [.int .i64 v3, .int .i64 v4, .int .i64 v5, .sl 1 0, .sl 2 0, .sl 3 0, .int .i64 v6, .sl 4 0, .int .i64 v7, .int .i64 v8, .int .i64 v9, .sl 5 0, .int .i64 v10, .int .i64 v11, .int .i64 v12, .sl 6 0], .row 0 true 3 v13, .row 0 true 30 v14, .row 0 true 3 v15, .row 0 true 92 v16, .row 0 true 92 v17, .row 0 true 92 v18, .box 34 [.int .i64 v19, .int .i64 v20, .int .i64 v21, .sl 8 0, .sl 9 0, .sl 10 0, .int .i64 v22, .sl 11 0, .int .i64 v23, .int .i64 v24, .int .i64 v25, .sl 12 0, .int .i64 v26, .int .i64 v27, .int .i64 v28, .sl 13 0], .row 0 true 3 v29, .row 0 true 30 v30, .row 0 true 3 v31, .row 0 true 92 v32, .row 0 true 92 v33, .row 0 true 92 v34, .row 0 true 3 v35, .row 0 true 3 v36, .row 0 true 3 v37, .row 0 true 3 v38] 18
theorem QH.eq (x0 : List Int) (x1 : Int) : QH x0 x1 =
 (Q0d x0).bind fun y1 =>
 (QB x0).bind fun y2 =>
 (QJ y2).bind fun y3 =>
 (Qg y2).bind fun y4 =>
 QH_l0 x0 x1 (y1.length : Int) (0 : Int) (0 : Int) (0 : Int) (0 : Int) (0 : Int) (0 : Int) (0 : Int) (0 : Int) (0 : Int) (0 : Int) (0 : Int) ([] : List Int) ([] : List (Int × (List Int))) ([] : List Int) ([] : List Int) ([] : List Int) ([] : List Int) y1 (x0.length : Int) x1 y4.1.1 (0 : Int) (0 : Int) (0 : Int) (0 : Int) (0 : Int) (0 : Int) (0 : Int) y4.1.2.1 y4.1.2.2 y3 ([] : List Int) ([] : List Int) ([] : List Int) ([] : List Int) ([] : List Int) ([] : List Int) := by kernel_rfl
theorem QH_l0.eq (v0 : List Int) (v1 v2 v3 v4 v5 v6 v7 v8 v9 v10 v11 v12 v13 : Int) (v14 : List Int) (v15 : List (Int × (List Int))) (v16 v17 v18 v19 v20 : List Int) (v21 v22 v23 v24 v25 v26 v27 v28 v29 v30 : Int) (v31 : List Int) (v32 : List (Int × (List Int))) (v33 v34 v35 v36 v37 v38 v39 : List Int) : QH_l0 v0 v1 v2 v3 v4 v5 v6 v7 v8 v9 v10 v11 v12 v13 v14 v15 v16 v17 v18 v19 v20 v21 v22 v23 v24 v25 v26 v27 v28 v29 v30 v31 v32 v33 v34 v35 v36 v37 v38 v39 =
 bif decide (v3 < v2) then
 (at? v20 v3).bind fun y1 =>
 v20[v3.toNat]?.bind fun y2 =>
 bif decide (v1 = (0 : Int)) then
 none
 else
 bif y2.tmod v1 == (0 : Int) then
 bif decide ((v37.length + ([(1 : Int)] : List Int).length) * 8 ≤ 140737488355328) then
 bif decide (v1 = (0 : Int)) then
 none
 else
 bif decide ((v38.length + ([IntKind.i64.wrap (y2.tdiv v1)] : List Int).length) * 8 ≤ 140737488355328) then
 QH_l0 v0 v1 v2 (IntKind.i64.wrap (v3 + (1 : Int))) v4 v5 v6 v7 v8 v9 v10 v11 v12 v13 v14 v15 v16 v17 v18 v19 v20 v21 v22 v23 v24 v25 v26 v27 v28 v29 v30 v31 v32 v33 v34 v35 v36 (v37 ++ ([(1 : Int)] : List Int)) (v38 ++ ([IntKind.i64.wrap (y2.tdiv v1)] : List Int)) v39
 else
 none
 else
 none
 else
 bif decide ((v37.length + ([(0 : Int)] : List Int).length) * 8 ≤ 140737488355328) then
 QH_l0 v0 v1 v2 (IntKind.i64.wrap (v3 + (1 : Int))) v4 v5 v6 v7 v8 v9 v10 v11 v12 v13 v14 v15 v16 v17 v18 v19 v20 v21 v22 v23 v24 v25 v26 v27 v28 v29 v30 v31 v32 v33 v34 v35 v36 (v37 ++ ([(0 : Int)] : List Int)) v38 v39
 else
 none
 else
 (Q0l v20).bind fun y3 =>
 QH_l1 v0 v1 (0 : Int) v4 v5 v6 v7 v8 v9 v10 v11 v12 v13 v14 v15 v16 v17 v18 v19 v21 v22 v23 v24 v25 v26 v27 v28 v29 v30 v31 v32 v33 v34 v35 v36 v37 v38 v39 y3 := (Q7 Q1 (Q0 (QH.gok _)) _ _).trans (by kernel_rfl)
theorem QH_l1.eq (v0 : List Int) (v1 v2 v3 v4 v5 v6 v7 v8 v9 v10 v11 v12 : Int) (v13 : List Int) (v14 : List (Int × (List Int))) (v15 v16 v17 v18 : List Int) (v19 v20 v21 v22 v23 v24 v25 v26 v27 v28 : Int) (v29 : List Int) (v30 : List (Int × (List Int))) (v31 v32 v33 v34 v35 v36 v37 v38 : List Int) : QH_l1 v0 v1 v2 v3 v4 v5 v6 v7 v8 v9 v10 v11 v12 v13 v14 v15 v16 v17 v18 v19 v20 v21 v22 v23 v24 v25 v26 v27 v28 v29 v30 v31 v32 v33 v34 v35 v36 v37 v38 =
 bif decide (v2 ≤ (v0.length : Int)) then
 (at? v38 v2).bind fun y1 =>
 v38[v2.toNat]?.bind fun y2 =>
 bif decide ((v37.length + ([y2] : List Int).length) * 8 ≤ 140737488355328) then
 QH_l1 v0 v1 (IntKind.i64.wrap (v2 + v1)) v3 v4 v5 v6 v7 v8 v9 v10 v11 v12 v13 v14 v15 v16 v17 v18 v19 v20 v21 v22 v23 v24 v25 v26 v27 v28 v29 v30 v31 v32 v33 v34 v35 v36 (v37 ++ ([y2] : List Int)) v38
 else
 none
 else
 (QZ v35).bind fun y3 =>
 (Q0Z (v0.length : Int)).bind fun y4 =>
 (Q02 v36 y4).bind fun y5 =>
 (Q0Z (v0.length : Int)).bind fun y6 =>
 (Q02 v37 y6).bind fun y7 =>
 some (v19, v20, v21, v29, v30, v31, y3.1, y3.2, y5.1.1, y5.1.2.1, y5.1.2.2.1, y5.1.2.2.2, y7.1.1, y7.1.2.1, y7.1.2.2.1, y7.1.2.2.2) := (Q7 Q1 (Q0 (QH.gok _)) _ _).trans (by kernel_rfl)
noncomputable abbrev Q0q.s : Sg := ⟨[.lend, .lend], [vl 92, vl 92], ⟨[vb], [none, none]⟩, Tryz.f107⟩
noncomputable def Q0q.gs (δ : Type) : List (Nat × Callee (GT tab) δ) := []
theorem Q0q.gok (δ : Type) : Q4 Tryz.prog tab (Q0q.gs δ) := .nil
noncomputable def Q0q.c := cx Q0q.s [] [] [(4, [0, 1, 12, 13])] false (Q0q.gs _)
noncomputable def Q0q (x0 x1 : List Int) : Option (Bool) := fnW Q0q.s Q0q.c (x0, x1)
theorem Q0q.fok : FkS Q0q.s 107 := ⟨Tryz.func107, by kernel_rfl, by kernel_rfl⟩
noncomputable def Q0q.fn (x : Args tab Q0q.s.ar) : Option (ResT tab Q0q.s.rs) := Q0q x.1 x.2
noncomputable abbrev Q0q.k {δ : Type} : Callee (GT tab) δ := kS Q0q.s Q0q.fn
theorem Q0q.con {δ : Type} : Con Tryz.prog (KT tab) 107 (Q0q.k (δ := δ)) := Q5 (c := Q0q.c) mixed Q1 (Q0 (Q0q.gok _)) Q0q.fok rfl rfl fun _ => rfl
noncomputable def Q0q_l0 (v0 v1 : List Int) (v2 v3 : Int) : Option (Bool) := lpW Q0q.s Q0q.c 0 (ud 12 [.vs false 92 v0, .vs false 92 v1, .undef, .undef, .undef, .undef, .undef, .undef, .undef, .undef, .undef, .undef, .int .i64 v2, .int .i64 v3]) [] 0
theorem Q0q.eq (x0 x1 : List Int) : Q0q x0 x1 =
 bif (x0.length : Int) != (x1.length : Int) then
 some false
 else
 Q0q_l0 x0 x1 (x0.length : Int) (0 : Int) := by kernel_rfl
theorem Q0q_l0.eq (v0 v1 : List Int) (v2 v3 : Int) : Q0q_l0 v0 v1 v2 v3 =
 bif decide (v3 < v2) then
 (at? v0 v3).bind fun y1 =>
 (at? v1 v3).bind fun y2 =>
 bif y1 != y2 then
 some false
 else
 Q0q_l0 v0 v1 v2 (IntKind.i64.wrap (v3 + (1 : Int)))
 else
 some true := (Q7 Q1 (Q0 (Q0q.gok _)) _ _).trans (by kernel_rfl)
noncomputable abbrev Q0j.s : Sg := ⟨[.lend, .lend], [.agg [.int .i64, .sl false false 92], .agg [.int .i64, .sl false false 92]], ⟨[vb], [none, none]⟩, Tryz.f78⟩
noncomputable def Q0j.gs (δ : Type) : List (Nat × Callee (GT tab) δ) := [(107, Q0q.k)]
theorem Q0j.gok (δ : Type) : Q4 Tryz.prog tab (Q0j.gs δ) := .cons Q0q.con .nil
noncomputable def Q0j.c := cx Q0j.s [] [] [] false (Q0j.gs _)
noncomputable def Q0j (x0 x1 : Int × (List Int)) : Option (Bool) := fnW Q0j.s Q0j.c (x0, x1)
theorem Q0j.fok : FkS Q0j.s 78 := ⟨Tryz.func78, by kernel_rfl, by kernel_rfl⟩
noncomputable def Q0j.fn (x : Args tab Q0j.s.ar) : Option (ResT tab Q0j.s.rs) := Q0j x.1 x.2
noncomputable abbrev Q0j.k {δ : Type} : Callee (GT tab) δ := kS Q0j.s Q0j.fn
theorem Q0j.con {δ : Type} : Con Tryz.prog (KT tab) 78 (Q0j.k (δ := δ)) := Q5 (c := Q0j.c) mixed Q1 (Q0 (Q0j.gok _)) Q0j.fok rfl rfl fun _ => rfl
theorem Q0j.eq (x0 x1 : Int × (List Int)) : Q0j x0 x1 =
 bif x0.1 == x1.1 then
 (Q0q x0.2 x1.2).bind fun y1 =>
 some y1
 else
 some false := by kernel_rfl
noncomputable abbrev Q0r.s : Sg := ⟨[.lend, .lend, .lend], [vl 30, vl 30, .one (.fn 78 [])], ⟨[vb], [none, none, none]⟩, Tryz.f108⟩
noncomputable def Q0r.gs (δ : Type) : List (Nat × Callee (GT tab) δ) := [(78, Q0j.k)]
theorem Q0r.gok (δ : Type) : Q4 Tryz.prog tab (Q0r.gs δ) := .cons Q0j.con .nil
noncomputable def Q0r.c := cx Q0r.s [] [] [(4, [1, 2, 15, 16, 17])] false (Q0r.gs _)
noncomputable def Q0r (x0 x1 : List (Int × (List Int))) (x2 : Unit) : Option (Bool) := fnW Q0r.s Q0r.c (x0, x1, x2)
theorem Q0r.fok : FkS Q0r.s 108 := ⟨Tryz.func108, by kernel_rfl, by kernel_rfl⟩
noncomputable def Q0r.fn (x : Args tab Q0r.s.ar) : Option (ResT tab Q0r.s.rs) := Q0r x.1 x.2.1 x.2.2
noncomputable abbrev Q0r.k {δ : Type} : Callee (GT tab) δ := kS Q0r.s Q0r.fn
theorem Q0r.con {δ : Type} : Con Tryz.prog (KT tab) 108 (Q0r.k (δ := δ)) := Q5 (c := Q0r.c) mixed Q1 (Q0 (Q0r.gok _)) Q0r.fok rfl rfl fun _ => rfl
noncomputable def Q0r_l0 (v0 v1 : List (Int × (List Int))) (v2 v3 : Int) : Option (Bool) := lpW Q0r.s Q0r.c 0 (ud 14 [.undef, .vs false 30 v0, .fn 78 [], .undef, .undef, .undef, .undef, .undef, .undef, .undef, .undef, .undef, .undef, .undef, .undef, .vs false 30 v1, .int .i64 v2, .int .i64 v3]) [] 0
theorem Q0r.eq (x0 x1 : List (Int × (List Int))) (x2 : Unit) : Q0r x0 x1 x2 =
 bif (x0.length : Int) != (x1.length : Int) then
 some false
 else
 Q0r_l0 x1 x0 (x0.length : Int) (0 : Int) := by kernel_rfl
theorem Q0r_l0.eq (v0 v1 : List (Int × (List Int))) (v2 v3 : Int) : Q0r_l0 v0 v1 v2 v3 =
 bif decide (v3 < v2) then
 (at? v1 v3).bind fun y1 =>
 (at? v0 v3).bind fun y2 =>
 (Q0j y1 y2).bind fun y3 =>
 bif !y3 then
 some false
 else
 Q0r_l0 v0 v1 v2 (IntKind.i64.wrap (v3 + (1 : Int)))
 else
 some true := (Q7 Q1 (Q0 (Q0r.gok _)) _ _).trans (by kernel_rfl)
noncomputable abbrev Q0N.s : Sg := ⟨[.lend, .lend], [.agg [.int .i64, .sl false false 3, .sl false false 30], .agg [.int .i64, .sl false false 3, .sl false false 30]], ⟨[vb], [none, none]⟩, Tryz.f79⟩
noncomputable def Q0N.gs (δ : Type) : List (Nat × Callee (GT tab) δ) := [(80, Q01.k), (108, Q0r.k)]
theorem Q0N.gok (δ : Type) : Q4 Tryz.prog tab (Q0N.gs δ) := .cons Q01.con (.cons Q0r.con .nil)
noncomputable def Q0N.c := cx Q0N.s [] [] [] false (Q0N.gs _)
noncomputable def Q0N (x0 x1 : Int × (List Int) × (List (Int × (List Int)))) : Option (Bool) := fnW Q0N.s Q0N.c (x0, x1)
theorem Q0N.fok : FkS Q0N.s 79 := ⟨Tryz.func79, by kernel_rfl, by kernel_rfl⟩
noncomputable def Q0N.fn (x : Args tab Q0N.s.ar) : Option (ResT tab Q0N.s.rs) := Q0N x.1 x.2
noncomputable abbrev Q0N.k {δ : Type} : Callee (GT tab) δ := kS Q0N.s Q0N.fn
theorem Q0N.con {δ : Type} : Con Tryz.prog (KT tab) 79 (Q0N.k (δ := δ)) := Q5 (c := Q0N.c) mixed Q1 (Q0 (Q0N.gok _)) Q0N.fok rfl rfl fun _ => rfl
theorem Q0N.eq (x0 x1 : Int × (List Int) × (List (Int × (List Int)))) : Q0N x0 x1 =
 bif x0.1 == x1.1 then
 (Q01 x0.2.1 x1.2.1).bind fun y1 =>
 bif y1 then
 (Q0r x0.2.2 x1.2.2 ()).bind fun y2 =>
 some y2
 else
 some false
 else
 some false := by kernel_rfl
noncomputable abbrev Q0D.s : Sg := ⟨[.lend, .lend], [.agg [.int .i64, .int .i64, .int .i64, .sl false false 92], .agg [.int .i64, .int .i64, .int .i64, .sl false false 92]], ⟨[vb], [none, none]⟩, Tryz.f81⟩
noncomputable def Q0D.gs (δ : Type) : List (Nat × Callee (GT tab) δ) := [(78, Q0j.k)]
theorem Q0D.gok (δ : Type) : Q4 Tryz.prog tab (Q0D.gs δ) := .cons Q0j.con .nil
noncomputable def Q0D.c := cx Q0D.s [] [] [] false (Q0D.gs _)
noncomputable def Q0D (x0 x1 : Int × Int × Int × (List Int)) : Option (Bool) := fnW Q0D.s Q0D.c (x0, x1)
theorem Q0D.fok : FkS Q0D.s 81 := ⟨Tryz.func81, by kernel_rfl, by kernel_rfl⟩
noncomputable def Q0D.fn (x : Args tab Q0D.s.ar) : Option (ResT tab Q0D.s.rs) := Q0D x.1 x.2
noncomputable abbrev Q0D.k {δ : Type} : Callee (GT tab) δ := kS Q0D.s Q0D.fn
theorem Q0D.con {δ : Type} : Con Tryz.prog (KT tab) 81 (Q0D.k (δ := δ)) := Q5 (c := Q0D.c) mixed Q1 (Q0 (Q0D.gok _)) Q0D.fok rfl rfl fun _ => rfl
theorem Q0D.eq (x0 x1 : Int × Int × Int × (List Int)) : Q0D x0 x1 =
 bif x0.1 == x1.1 then
 bif x0.2.1 == x1.2.1 then
 (Q0j x0.2.2 x1.2.2).bind fun y1 =>
 some y1
 else
 some false
 else
 some false := by kernel_rfl
noncomputable abbrev Q11.s : Sg := ⟨[.lend, .lend], [.agg [.int .i64, .int .i64, .int .i64, .sl false false 3, .sl false false 30, .sl false false 3, .int .i64, .sl false false 92, .int .i64, .int .i64, .int .i64, .sl false false 92, .int .i64, .int .i64, .int .i64, .sl false false 92], .agg [.int .i64, .int .i64, .int .i64, .sl false false 3, .sl false false 30, .sl false false 3, .int .i64, .sl false false 92, .int .i64, .int .i64, .int .i64, .sl false false 92, .int .i64, .int .i64, .int .i64, .sl false false 92]], ⟨[vb], [none, none]⟩, Tryz.f75⟩
noncomputable def Q11.gs (δ : Type) : List (Nat × Callee (GT tab) δ) := [(78, Q0j.k), (79, Q0N.k), (80, Q01.k), (81, Q0D.k)]
theorem Q11.gok (δ : Type) : Q4 Tryz.prog tab (Q11.gs δ) := .cons Q0j.con (.cons Q0N.con (.cons Q01.con (.cons Q0D.con .nil)))
noncomputable def Q11.c := cx Q11.s [] [] [] false (Q11.gs _)
noncomputable def Q11 (x0 x1 : Int × Int × Int × (List Int) × (List (Int × (List Int))) × (List Int) × Int × (List Int) × Int × Int × Int × (List Int) × Int × Int × Int × (List Int)) : Option (Bool) := fnW Q11.s Q11.c (x0, x1)
theorem Q11.fok : FkS Q11.s 75 := ⟨Tryz.func75, by kernel_rfl, by kernel_rfl⟩
noncomputable def Q11.fn (x : Args tab Q11.s.ar) : Option (ResT tab Q11.s.rs) := Q11 x.1 x.2
noncomputable abbrev Q11.k {δ : Type} : Callee (GT tab) δ := kS Q11.s Q11.fn
theorem Q11.con {δ : Type} : Con Tryz.prog (KT tab) 75 (Q11.k (δ := δ)) := Q5 (c := Q11.c) mixed Q1 (Q0 (Q11.gok _)) Q11.fok rfl rfl fun _ => rfl
theorem Q11.eq (x0 x1 : Int × Int × Int × (List Int) × (List (Int × (List Int))) × (List Int) × Int × (List Int) × Int × Int × Int × (List Int) × Int × Int × Int × (List Int)) : Q11 x0 x1 =
 bif x0.1 == x1.1 then
 bif x0.2.1 == x1.2.1 then
 (Q0N (x0.2.2.1, x0.2.2.2.1, x0.2.2.2.2.1) (x1.2.2.1, x1.2.2.2.1, x1.2.2.2.2.1)).bind fun y1 =>
 bif y1 then
 (Q01 x0.2.2.2.2.2.1 x1.2.2.2.2.2.1).bind fun y2 =>
 bif y2 then
 (Q0j (x0.2.2.2.2.2.2.1, x0.2.2.2.2.2.2.2.1) (x1.2.2.2.2.2.2.1, x1.2.2.2.2.2.2.2.1)).bind fun y3 =>
 bif y3 then
 (Q0D (x0.2.2.2.2.2.2.2.2.1, x0.2.2.2.2.2.2.2.2.2.1, x0.2.2.2.2.2.2.2.2.2.2.1, x0.2.2.2.2.2.2.2.2.2.2.2.1) (x1.2.2.2.2.2.2.2.2.1, x1.2.2.2.2.2.2.2.2.2.1, x1.2.2.2.2.2.2.2.2.2.2.1, x1.2.2.2.2.2.2.2.2.2.2.2.1)).bind fun y4 =>
 bif y4 then
 (Q0D x0.2.2.2.2.2.2.2.2.2.2.2.2 x1.2.2.2.2.2.2.2.2.2.2.2.2).bind fun y5 =>
 some y5
 else
 some false
 else
 some false
 else
 some false
 else
 some false
 else
 some false
 else
 some false := by kernel_rfl
noncomputable abbrev Q0I.s : Sg := ⟨[.lend], [.agg [.int .i64, .int .i64, .int .i64, .sl false false 3, .sl false false 30, .sl false false 3, .int .i64, .sl false false 92, .int .i64, .int .i64, .int .i64, .sl false false 92, .int .i64, .int .i64, .int .i64, .sl false false 92]], ⟨[vo 5, vb], [none]⟩, Tryz.f36⟩
noncomputable def Q0I.gs (δ : Type) : List (Nat × Callee (GT tab) δ) := [(27, Qc.k), (37, Q0S.k), (74, QN.k), (75, Q11.k), (76, QH.k)]
theorem Q0I.gok (δ : Type) : Q4 Tryz.prog tab (Q0I.gs δ) := .cons Qc.con (.cons Q0S.con (.cons QN.con (.cons Q11.con (.cons QH.con .nil))))
noncomputable def Q0I.c := cx Q0I.s [] [] [] false (Q0I.gs _)
noncomputable def Q0I (x0 : Int × Int × Int × (List Int) × (List (Int × (List Int))) × (List Int) × Int × (List Int) × Int × Int × Int × (List Int) × Int × Int × Int × (List Int)) : Option ((List Int) × Bool) := fnW Q0I.s Q0I.c x0
theorem Q0I.fok : FkS Q0I.s 36 := ⟨Tryz.func36, by kernel_rfl, by kernel_rfl⟩
noncomputable def Q0I.fn (x : Args tab Q0I.s.ar) : Option (ResT tab Q0I.s.rs) := Q0I x
noncomputable abbrev Q0I.k {δ : Type} : Callee (GT tab) δ := kS Q0I.s Q0I.fn
theorem Q0I.con {δ : Type} : Con Tryz.prog (KT tab) 36 (Q0I.k (δ := δ)) := Q5 (c := Q0I.c) mixed Q1 (Q0 (Q0I.gok _)) Q0I.fok rfl rfl fun _ => rfl
theorem Q0I.eq (x0 : Int × Int × Int × (List Int) × (List (Int × (List Int))) × (List Int) × Int × (List Int) × Int × Int × Int × (List Int) × Int × Int × Int × (List Int)) : Q0I x0 =
 (Qc (x0.2.2.1, x0.2.2.2.1, x0.2.2.2.2.1)).bind fun y1 =>
 bif !y1.2 then
 some (([] : List Int), false)
 else
 (Q0S x0.2.1).bind fun y2 =>
 bif !y2 then
 some (([] : List Int), false)
 else
 (QN y1.1).bind fun y3 =>
 bif y3.2 then
 (QH y3.1 x0.2.1).bind fun y4 =>
 (Q11 y4 x0).bind fun y5 =>
 some (y3.1, y5)
 else
 some (y3.1, false) := by kernel_rfl
noncomputable abbrev Q0n.s : Sg := ⟨[.lend], [.agg [.int .i64, .sl false false 92]], ⟨[.agg [.int .i64, .sl true true 92]], [none]⟩, Tryz.f106⟩
noncomputable def Q0n.gs (δ : Type) : List (Nat × Callee (GT tab) δ) := [(23, Q08.k), (25, QG.k), (103, QZ.k)]
theorem Q0n.gok (δ : Type) : Q4 Tryz.prog tab (Q0n.gs δ) := .cons Q08.con (.cons QG.con (.cons QZ.con .nil))
noncomputable def Q0n.c := cx Q0n.s [] [] [(5, [2, 3, 12, 13])] false (Q0n.gs _)
noncomputable def Q0n (x0 : Int × (List Int)) : Option (Int × (List Int)) := fnW Q0n.s Q0n.c x0
theorem Q0n.fok : FkS Q0n.s 106 := ⟨Tryz.func106, by kernel_rfl, by kernel_rfl⟩
noncomputable def Q0n.fn (x : Args tab Q0n.s.ar) : Option (ResT tab Q0n.s.rs) := Q0n x
noncomputable abbrev Q0n.k {δ : Type} : Callee (GT tab) δ := kS Q0n.s Q0n.fn
theorem Q0n.con {δ : Type} : Con Tryz.prog (KT tab) 106 (Q0n.k (δ := δ)) := Q5 (c := Q0n.c) mixed Q1 (Q0 (Q0n.gok _)) Q0n.fok rfl rfl fun _ => rfl
noncomputable def Q0n_l0 (v0 v1 v2 : Int) (v3 v4 : List Int) : Option (Int × (List Int)) := lpW Q0n.s Q0n.c 0 (ud 13 [.undef, .undef, .ptr 0 0, .sl 2 0, .undef, .undef, .undef, .undef, .undef, .undef, .undef, .undef, .int .i64 v0, .int .i64 v1]) [.box 30 [.int .i64 v2, .sl 1 0], .row 0 true 92 v3, .row 0 true 3 v4] 3
theorem Q0n.eq (x0 : Int × (List Int)) : Q0n x0 =
 (Q08 x0).bind fun y1 =>
 bif !y1 then
 some ((0 : Int), ([] : List Int))
 else
 (QG x0).bind fun y2 =>
 Q0n_l0 (y2.length : Int) (0 : Int) (0 : Int) ([] : List Int) y2 := by kernel_rfl
theorem Q0n_l0.eq (v0 v1 v2 : Int) (v3 v4 : List Int) : Q0n_l0 v0 v1 v2 v3 v4 =
 bif decide (v1 < v0) then
 (at? v4 v1).bind fun y1 =>
 v4[v1.toNat]?.bind fun y2 =>
 (at? v4 v1).bind fun y3 =>
 v4[v1.toNat]?.bind fun y4 =>
 Q0n_l0 v0 (IntKind.i64.wrap (v1 + (1 : Int))) v2 v3 (v4.set v1.toNat (IntKind.i64.wrap ((1 : Int) - y2)))
 else
 (QZ v4).bind fun y5 =>
 some y5 := (Q7 Q1 (Q0 (Q0n.gok _)) _ _).trans (by kernel_rfl)
noncomputable abbrev Q09.s : Sg := ⟨[.lend, .lend], [vl 3, .agg [.int .i64, .sl false false 92]], ⟨[vo 3], [none, none]⟩, Tryz.f83⟩
noncomputable def Q09.gs (δ : Type) : List (Nat × Callee (GT tab) δ) := [(57, Q0R.k)]
theorem Q09.gok (δ : Type) : Q4 Tryz.prog tab (Q09.gs δ) := .cons Q0R.con .nil
noncomputable def Q09.c := cx Q09.s [] [] [(3, [3, 5, 8, 9, 10])] false (Q09.gs _)
noncomputable def Q09 (x0 : List Int) (x1 : Int × (List Int)) : Option (List Int) := fnW Q09.s Q09.c (x0, x1)
theorem Q09.fok : FkS Q09.s 83 := ⟨Tryz.func83, by kernel_rfl, by kernel_rfl⟩
noncomputable def Q09.fn (x : Args tab Q09.s.ar) : Option (ResT tab Q09.s.rs) := Q09 x.1 x.2
noncomputable abbrev Q09.k {δ : Type} : Callee (GT tab) δ := kS Q09.s Q09.fn
theorem Q09.con {δ : Type} : Con Tryz.prog (KT tab) 83 (Q09.k (δ := δ)) := Q5 (c := Q09.c) mixed Q1 (Q0 (Q09.gok _)) Q09.fok rfl rfl fun _ => rfl
noncomputable def Q09_l0 (v0 : List Int) (v1 v2 v3 : Int) (v4 v5 : List Int) : Option (List Int) := lpW Q09.s Q09.c 0 (ud 14 [.undef, .undef, .undef, .ptr 0 0, .undef, .sl 1 0, .undef, .undef, .vs false 3 v0, .int .i64 v1, .int .i64 v2]) [.box 30 [.int .i64 v3, .vs false 92 v4], .row 0 true 3 v5] 2
theorem Q09.eq (x0 : List Int) (x1 : Int × (List Int)) : Q09 x0 x1 =
 Q09_l0 x0 (x0.length : Int) (0 : Int) x1.1 x1.2 ([] : List Int) := by kernel_rfl
theorem Q09_l0.eq (v0 : List Int) (v1 v2 v3 : Int) (v4 v5 : List Int) : Q09_l0 v0 v1 v2 v3 v4 v5 =
 bif decide (v2 < v1) then
 (at? v0 v2).bind fun y1 =>
 (Q0R (v3, v4) v2).bind fun y2 =>
 bif y2 == (0 : Int) then
 bif decide ((v5.length + ([y1] : List Int).length) * 8 ≤ 140737488355328) then
 Q09_l0 v0 v1 (IntKind.i64.wrap (v2 + (1 : Int))) v3 v4 (v5 ++ ([y1] : List Int))
 else
 none
 else
 Q09_l0 v0 v1 (IntKind.i64.wrap (v2 + (1 : Int))) v3 v4 v5
 else
 some v5 := (Q7 Q1 (Q0 (Q09.gok _)) _ _).trans (by kernel_rfl)
noncomputable abbrev Qr.s : Sg := ⟨[.lend, .lend], [vl 3, .agg [.int .i64, .sl false false 92, .int .i64, .sl false false 92, .sl false false 3]], ⟨[vo 3, vb], [none, none]⟩, Tryz.f77⟩
noncomputable def Qr.gs (δ : Type) : List (Nat × Callee (GT tab) δ) := [(19, Qh.k), (23, Q08.k), (25, QG.k), (83, Q09.k), (106, Q0n.k)]
theorem Qr.gok (δ : Type) : Q4 Tryz.prog tab (Qr.gs δ) := .cons Qh.con (.cons Q08.con (.cons QG.con (.cons Q09.con (.cons Q0n.con .nil))))
noncomputable def Qr.c := cx Qr.s [] [3, 6] [(3, [0, 3]), (6, [0, 3]), (9, [7, 8, 9, 71, 72, 73])] false (Qr.gs _)
noncomputable def Qr (x0 : List Int) (x1 : Int × (List Int) × Int × (List Int) × (List Int)) : Option ((List Int) × Bool) := fnW Qr.s Qr.c (x0, x1)
theorem Qr.fok : FkS Qr.s 77 := ⟨Tryz.func77, by kernel_rfl, by kernel_rfl⟩
noncomputable def Qr.fn (x : Args tab Qr.s.ar) : Option (ResT tab Qr.s.rs) := Qr x.1 x.2
noncomputable abbrev Qr.k {δ : Type} : Callee (GT tab) δ := kS Qr.s Qr.fn
theorem Qr.con {δ : Type} : Con Tryz.prog (KT tab) 77 (Qr.k (δ := δ)) := Q5 (c := Qr.c) mixed Q1 (Q0 (Qr.gok _)) Qr.fok rfl rfl fun _ => rfl
noncomputable def Qr_l0 (v0 : List Int) (v1 : Int) (v2 : List Int) (v3 : Int) (v4 v5 : List Int) : Option ((List Int) × Bool) := lpW Qr.s Qr.c 0 (ud 93 [.vs false 3 v0, .undef, .undef, .ptr 0 0]) [.box 82 [.int .i64 v1, .vs false 92 v2, .int .i64 v3, .vs false 92 v4, .vs false 3 v5]] 1
noncomputable def Qr_l1 (v0 : List Int) (v1 : Int) (v2 : List Int) (v3 : Int) (v4 v5 : List Int) : Option ((List Int) × Bool) := lpW Qr.s Qr.c 1 (ud 93 [.vs false 3 v0, .undef, .undef, .ptr 0 0]) [.box 82 [.int .i64 v1, .vs false 92 v2, .int .i64 v3, .vs false 92 v4, .vs false 3 v5]] 1
noncomputable def Qr_l2 (v0 : List Int) (v1 v2 : Int) (v3 v4 v5 : List Int) : Option ((List Int) × Bool) := lpW Qr.s Qr.c 2 (ud 23 [.undef, .undef, .undef, .undef, .undef, .undef, .undef, .sl 0 0, .vs false 3 v0, .sl 1 0, .undef, .undef, .undef, .undef, .undef, .undef, .undef, .undef, .undef, .undef, .undef, .undef, .undef, .undef, .undef, .undef, .undef, .undef, .undef, .undef, .undef, .undef, .undef, .undef, .undef, .undef, .undef, .undef, .undef, .undef, .undef, .undef, .undef, .undef, .undef, .undef, .undef, .undef, .undef, .undef, .undef, .undef, .undef, .undef, .undef, .undef, .undef, .undef, .undef, .undef, .undef, .undef, .undef, .undef, .undef, .undef, .undef, .undef, .undef, .undef, .undef, .sl 2 0, .int .i64 v1, .int .i64 v2]) [.row 0 true 3 v3, .row 0 true 3 v4, .row 0 true 3 v5] 3
noncomputable def Qr_l3 (v0 v1 : Nat) (v2 : List Int) (v3 v4 : Int) (v5 v6 v7 : List Int) : Option ((List Int) × Bool) := lpW Qr.s Qr.c 2 (ud 23 [.undef, .undef, .undef, .undef, .undef, .undef, .undef, .sv 0 0 v0 v1, .vs false 3 v2, .sl 1 0, .undef, .undef, .undef, .undef, .undef, .undef, .undef, .undef, .undef, .undef, .undef, .undef, .undef, .undef, .undef, .undef, .undef, .undef, .undef, .undef, .undef, .undef, .undef, .undef, .undef, .undef, .undef, .undef, .undef, .undef, .undef, .undef, .undef, .undef, .undef, .undef, .undef, .undef, .undef, .undef, .undef, .undef, .undef, .undef, .undef, .undef, .undef, .undef, .undef, .undef, .undef, .undef, .undef, .undef, .undef, .undef, .undef, .undef, .undef, .undef, .undef, .sl 2 0, .int .i64 v3, .int .i64 v4]) [.row 0 true 3 v5, .row 0 true 3 v6, .row 0 true 3 v7] 3
theorem Qr.eq (x0 : List Int) (x1 : Int × (List Int) × Int × (List Int) × (List Int)) : Qr x0 x1 =
 bif decide ((x0.length : Int) > (301 : Int)) then
 some (([] : List Int), false)
 else
 (Q08 (x1.1, x1.2.1)).bind fun y1 =>
 bif !y1 then
 some (([] : List Int), false)
 else
 (Q08 (x1.2.2.1, x1.2.2.2.1)).bind fun y2 =>
 bif !y2 then
 some (([] : List Int), false)
 else
 bif x1.1 != (x0.length : Int) then
 some (([] : List Int), false)
 else
 bif decide (x1.2.2.1 > (301 : Int)) then
 some (([] : List Int), false)
 else
 Qr_l0 x0 x1.1 x1.2.1 x1.2.2.1 x1.2.2.2.1 x1.2.2.2.2 := by kernel_rfl
theorem Qr_l0.eq (v0 : List Int) (v1 : Int) (v2 : List Int) (v3 : Int) (v4 v5 : List Int) : Qr_l0 v0 v1 v2 v3 v4 v5 =
 (QG (v3, v4)).bind fun y1 =>
 (Qh y1 (1 : Int)).bind fun y2 =>
 (QG (v1, v2)).bind fun y3 =>
 (Qh y3 (1 : Int)).bind fun y4 =>
 bif y4 != y2 then
 some (([] : List Int), false)
 else
 bif IntKind.i64.wrap (v3 - y2) != (v5.length : Int) then
 some (([] : List Int), false)
 else
 Qr_l1 v0 v1 v2 v3 v4 v5 := (Q7 Q1 (Q0 (Qr.gok _)) _ _).trans (by kernel_rfl)
theorem Qr_l1.eq (v0 : List Int) (v1 : Int) (v2 : List Int) (v3 : Int) (v4 v5 : List Int) : Qr_l1 v0 v1 v2 v3 v4 v5 =
 (Q0n (v1, v2)).bind fun y1 =>
 (Q09 v0 y1).bind fun y2 =>
 (QG (v3, v4)).bind fun y3 =>
 Qr_l2 v5 (y3.length : Int) (0 : Int) y2 ([] : List Int) y3 := (Q7 Q1 (Q0 (Qr.gok _)) _ _).trans (by kernel_rfl)
theorem Qr_l2.eq (v0 : List Int) (v1 v2 : Int) (v3 v4 v5 : List Int) : Qr_l2 v0 v1 v2 v3 v4 v5 =
 bif decide (v2 < v1) then
 (at? v5 v2).bind fun y1 =>
 v5[v2.toNat]?.bind fun y2 =>
 bif y2 == (1 : Int) then
 (at? v3 (0 : Int)).bind fun y3 =>
 v3[0]?.bind fun y4 =>
 bif decide ((v4.length + ([y4] : List Int).length) * 8 ≤ 140737488355328) then
 bif decide (0 ≤ (1 : Int) ∧ (1 : Int) ≤ ((v3.length : Nat) : Int)) then
 Qr_l3 1 (v3.length - 1) v0 v1 (IntKind.i64.wrap (v2 + (1 : Int))) v3 (v4 ++ ([y4] : List Int)) v5
 else
 none
 else
 none
 else
 (at? v0 (0 : Int)).bind fun y5 =>
 bif decide ((v4.length + ([y5] : List Int).length) * 8 ≤ 140737488355328) then
 bif decide (0 ≤ (1 : Int) ∧ (1 : Int) ≤ ((v0.length : Nat) : Int)) then
 Qr_l2 ((v0.take v0.length).drop 1) v1 (IntKind.i64.wrap (v2 + (1 : Int))) v3 (v4 ++ ([y5] : List Int)) v5
 else
 none
 else
 none
 else
 some (v4, true) := (Q7 Q1 (Q0 (Qr.gok _)) _ _).trans (by kernel_rfl)
theorem Qr_l3.eq (v0 v1 : Nat) (v2 : List Int) (v3 v4 : Int) (v5 v6 v7 : List Int) : Qr_l3 v0 v1 v2 v3 v4 v5 v6 v7 =
 bif decide (v4 < v3) then
 (at? v7 v4).bind fun y1 =>
 v7[v4.toNat]?.bind fun y2 =>
 bif y2 == (1 : Int) then
 bif decide (0 ≤ (0 : Int) ∧ (0 : Int) < ((v1 : Nat) : Int)) then
 v5[v0]?.bind fun y3 =>
 bif decide ((v6.length + ([y3] : List Int).length) * 8 ≤ 140737488355328) then
 bif decide (0 ≤ (1 : Int) ∧ (1 : Int) ≤ ((v1 : Nat) : Int)) then
 Qr_l3 (v0 + 1) (v1 - 1) v2 v3 (IntKind.i64.wrap (v4 + (1 : Int))) v5 (v6 ++ ([y3] : List Int)) v7
 else
 none
 else
 none
 else
 none
 else
 (at? v2 (0 : Int)).bind fun y4 =>
 bif decide ((v6.length + ([y4] : List Int).length) * 8 ≤ 140737488355328) then
 bif decide (0 ≤ (1 : Int) ∧ (1 : Int) ≤ ((v2.length : Nat) : Int)) then
 Qr_l3 v0 v1 ((v2.take v2.length).drop 1) v3 (IntKind.i64.wrap (v4 + (1 : Int))) v5 (v6 ++ ([y4] : List Int)) v7
 else
 none
 else
 none
 else
 some (v6, true) := (Q7 Q1 (Q0 (Qr.gok _)) _ _).trans (by kernel_rfl)
noncomputable abbrev Q1w.s : Sg := ⟨[.lend, .lend, .lend, .lend], [vl 5, .agg [.int .i64, .sl false false 92], .agg [.int .i64, .sl false false 92], vl 3], ⟨[vo 5, vb], [none, none, none, none]⟩, Tryz.f38⟩
noncomputable def Q1w.gs (δ : Type) : List (Nat × Callee (GT tab) δ) := [(20, QB.k), (74, QN.k), (77, Qr.k)]
theorem Q1w.gok (δ : Type) : Q4 Tryz.prog tab (Q1w.gs δ) := .cons QB.con (.cons QN.con (.cons Qr.con .nil))
noncomputable def Q1w.c := cx Q1w.s [] [] [] false (Q1w.gs _)
noncomputable def Q1w (x0 : List Int) (x1 x2 : Int × (List Int)) (x3 : List Int) : Option ((List Int) × Bool) := fnW Q1w.s Q1w.c (x0, x1, x2, x3)
theorem Q1w.fok : FkS Q1w.s 38 := ⟨Tryz.func38, by kernel_rfl, by kernel_rfl⟩
noncomputable def Q1w.fn (x : Args tab Q1w.s.ar) : Option (ResT tab Q1w.s.rs) := Q1w x.1 x.2.1 x.2.2.1 x.2.2.2
noncomputable abbrev Q1w.k {δ : Type} : Callee (GT tab) δ := kS Q1w.s Q1w.fn
theorem Q1w.con {δ : Type} : Con Tryz.prog (KT tab) 38 (Q1w.k (δ := δ)) := Q5 (c := Q1w.c) mixed Q1 (Q0 (Q1w.gok _)) Q1w.fok rfl rfl fun _ => rfl
theorem Q1w.eq (x0 : List Int) (x1 x2 : Int × (List Int)) (x3 : List Int) : Q1w x0 x1 x2 x3 =
 (QB x0).bind fun y1 =>
 (Qr y1 (x1.1, x1.2, x2.1, x2.2, x3)).bind fun y2 =>
 bif !y2.2 then
 some (([] : List Int), false)
 else
 (QN y2.1).bind fun y3 =>
 some (y3.1, y3.2) := by kernel_rfl
noncomputable abbrev Q1l.s : Sg := ⟨[.keep, .keep, .give, .give, .lend], [vo 5, vo 5, .agg [.int .i64, .sl false false 92], .agg [.int .i64, .sl false false 92], vi], ⟨[.agg [.int .i64, .int .i64, .int .i64, .sl false false 92, .int .i64, .sl false false 92, .int .i64, .sl true true 3, .sl true true 30, .int .i64, .sl true true 3, .sl true true 30, .sl true true 3, .int .i64, .sl true true 92, .int .i64, .int .i64, .int .i64, .sl true true 92, .int .i64, .int .i64, .int .i64, .sl true true 92]], [some (vo 5), some (vo 5), none, none, none]⟩, Tryz.f40⟩
noncomputable def Q1l.gs (δ : Type) : List (Nat × Callee (GT tab) δ) := [(20, QB.k), (76, QH.k), (82, Qg.k), (83, Q09.k)]
theorem Q1l.gok (δ : Type) : Q4 Tryz.prog tab (Q1l.gs δ) := .cons QB.con (.cons QH.con (.cons Qg.con (.cons Q09.con .nil)))
noncomputable def Q1l.c := cx Q1l.s [] [] [] false (Q1l.gs _)
noncomputable def Q1l (x0 x1 : List Int) (x2 x3 : Int × (List Int)) (x4 : Int) : Option ((Int × Int × Int × (List Int) × Int × (List Int) × Int × (List Int) × (List (Int × (List Int))) × Int × (List Int) × (List (Int × (List Int))) × (List Int) × Int × (List Int) × Int × Int × Int × (List Int) × Int × Int × Int × (List Int)) × (List Int) × (List Int)) := fnW Q1l.s Q1l.c (x0, x1, x2, x3, x4)
theorem Q1l.fok : FkS Q1l.s 40 := ⟨Tryz.func40, by kernel_rfl, by kernel_rfl⟩
noncomputable def Q1l.fn (x : Args tab Q1l.s.ar) : Option (ResT tab Q1l.s.rs) := Q1l x.1 x.2.1 x.2.2.1 x.2.2.2.1 x.2.2.2.2
noncomputable abbrev Q1l.k {δ : Type} : Callee (GT tab) δ := kS Q1l.s Q1l.fn
theorem Q1l.con {δ : Type} : Con Tryz.prog (KT tab) 40 (Q1l.k (δ := δ)) := Q5 (c := Q1l.c) mixed Q1 (Q0 (Q1l.gok _)) Q1l.fok rfl rfl fun _ => rfl
theorem Q1l.eq (x0 x1 : List Int) (x2 x3 : Int × (List Int)) (x4 : Int) : Q1l x0 x1 x2 x3 x4 =
 (QH x1 x4).bind fun y1 =>
 (QB x0).bind fun y2 =>
 (Q09 y2 x2).bind fun y3 =>
 (Qg y3).bind fun y4 =>
 (QB x1).bind fun y5 =>
 (Q09 y5 x3).bind fun y6 =>
 (Qg y6).bind fun y7 =>
 some ((y1.1, x4, x2.1, x2.2, x3.1, x3.2, y4.1.1, y4.1.2.1, y4.1.2.2, y7.1.1, y7.1.2.1, y7.1.2.2, y1.2.2.2.2.2.1, y1.2.2.2.2.2.2.1, y1.2.2.2.2.2.2.2.1, y1.2.2.2.2.2.2.2.2.1, y1.2.2.2.2.2.2.2.2.2.1, y1.2.2.2.2.2.2.2.2.2.2.1, y1.2.2.2.2.2.2.2.2.2.2.2.1, y1.2.2.2.2.2.2.2.2.2.2.2.2.1, y1.2.2.2.2.2.2.2.2.2.2.2.2.2.1, y1.2.2.2.2.2.2.2.2.2.2.2.2.2.2.1, y1.2.2.2.2.2.2.2.2.2.2.2.2.2.2.2), x0, x1) := by kernel_rfl
noncomputable abbrev Q12.s : Sg := ⟨[.lend, .lend], [.agg [.int .i64, .int .i64, .int .i64, .sl false false 92, .int .i64, .sl false false 92, .int .i64, .sl false false 3, .sl false false 30, .int .i64, .sl false false 3, .sl false false 30, .sl false false 3, .int .i64, .sl false false 92, .int .i64, .int .i64, .int .i64, .sl false false 92, .int .i64, .int .i64, .int .i64, .sl false false 92], .agg [.int .i64, .int .i64, .int .i64, .sl false false 92, .int .i64, .sl false false 92, .int .i64, .sl false false 3, .sl false false 30, .int .i64, .sl false false 3, .sl false false 30, .sl false false 3, .int .i64, .sl false false 92, .int .i64, .int .i64, .int .i64, .sl false false 92, .int .i64, .int .i64, .int .i64, .sl false false 92]], ⟨[vb], [none, none]⟩, Tryz.f39⟩
noncomputable def Q12.gs (δ : Type) : List (Nat × Callee (GT tab) δ) := [(78, Q0j.k), (79, Q0N.k), (80, Q01.k), (81, Q0D.k)]
theorem Q12.gok (δ : Type) : Q4 Tryz.prog tab (Q12.gs δ) := .cons Q0j.con (.cons Q0N.con (.cons Q01.con (.cons Q0D.con .nil)))
noncomputable def Q12.c := cx Q12.s [] [] [] false (Q12.gs _)
noncomputable def Q12 (x0 x1 : Int × Int × Int × (List Int) × Int × (List Int) × Int × (List Int) × (List (Int × (List Int))) × Int × (List Int) × (List (Int × (List Int))) × (List Int) × Int × (List Int) × Int × Int × Int × (List Int) × Int × Int × Int × (List Int)) : Option (Bool) := fnW Q12.s Q12.c (x0, x1)
theorem Q12.fok : FkS Q12.s 39 := ⟨Tryz.func39, by kernel_rfl, by kernel_rfl⟩
noncomputable def Q12.fn (x : Args tab Q12.s.ar) : Option (ResT tab Q12.s.rs) := Q12 x.1 x.2
noncomputable abbrev Q12.k {δ : Type} : Callee (GT tab) δ := kS Q12.s Q12.fn
theorem Q12.con {δ : Type} : Con Tryz.prog (KT tab) 39 (Q12.k (δ := δ)) := Q5 (c := Q12.c) mixed Q1 (Q0 (Q12.gok _)) Q12.fok rfl rfl fun _ => rfl
theorem Q12.eq (x0 x1 : Int × Int × Int × (List Int) × Int × (List Int) × Int × (List Int) × (List (Int × (List Int))) × Int × (List Int) × (List (Int × (List Int))) × (List Int) × Int × (List Int) × Int × Int × Int × (List Int) × Int × Int × Int × (List Int)) : Q12 x0 x1 =
 bif x0.1 == x1.1 then
 bif x0.2.1 == x1.2.1 then
 (Q0j (x0.2.2.1, x0.2.2.2.1) (x1.2.2.1, x1.2.2.2.1)).bind fun y1 =>
 bif y1 then
 (Q0j (x0.2.2.2.2.1, x0.2.2.2.2.2.1) (x1.2.2.2.2.1, x1.2.2.2.2.2.1)).bind fun y2 =>
 bif y2 then
 (Q0N (x0.2.2.2.2.2.2.1, x0.2.2.2.2.2.2.2.1, x0.2.2.2.2.2.2.2.2.1) (x1.2.2.2.2.2.2.1, x1.2.2.2.2.2.2.2.1, x1.2.2.2.2.2.2.2.2.1)).bind fun y3 =>
 bif y3 then
 (Q0N (x0.2.2.2.2.2.2.2.2.2.1, x0.2.2.2.2.2.2.2.2.2.2.1, x0.2.2.2.2.2.2.2.2.2.2.2.1) (x1.2.2.2.2.2.2.2.2.2.1, x1.2.2.2.2.2.2.2.2.2.2.1, x1.2.2.2.2.2.2.2.2.2.2.2.1)).bind fun y4 =>
 bif y4 then
 (Q01 x0.2.2.2.2.2.2.2.2.2.2.2.2.1 x1.2.2.2.2.2.2.2.2.2.2.2.2.1).bind fun y5 =>
 bif y5 then
 (Q0j (x0.2.2.2.2.2.2.2.2.2.2.2.2.2.1, x0.2.2.2.2.2.2.2.2.2.2.2.2.2.2.1) (x1.2.2.2.2.2.2.2.2.2.2.2.2.2.1, x1.2.2.2.2.2.2.2.2.2.2.2.2.2.2.1)).bind fun y6 =>
 bif y6 then
 (Q0D (x0.2.2.2.2.2.2.2.2.2.2.2.2.2.2.2.1, x0.2.2.2.2.2.2.2.2.2.2.2.2.2.2.2.2.1, x0.2.2.2.2.2.2.2.2.2.2.2.2.2.2.2.2.2.1, x0.2.2.2.2.2.2.2.2.2.2.2.2.2.2.2.2.2.2.1) (x1.2.2.2.2.2.2.2.2.2.2.2.2.2.2.2.1, x1.2.2.2.2.2.2.2.2.2.2.2.2.2.2.2.2.1, x1.2.2.2.2.2.2.2.2.2.2.2.2.2.2.2.2.2.1, x1.2.2.2.2.2.2.2.2.2.2.2.2.2.2.2.2.2.2.1)).bind fun y7 =>
 bif y7 then
 (Q0D x0.2.2.2.2.2.2.2.2.2.2.2.2.2.2.2.2.2.2.2 x1.2.2.2.2.2.2.2.2.2.2.2.2.2.2.2.2.2.2.2).bind fun y8 =>
 some y8
 else
 some false
 else
 some false
 else
 some false
 else
 some false
 else
 some false
 else
 some false
 else
 some false
 else
 some false
 else
 some false := by kernel_rfl
noncomputable abbrev Q0O.s : Sg := ⟨[.lend, .lend], [.agg [.int .i64, .int .i64, .int .i64, .sl false false 92, .int .i64, .sl false false 92, .int .i64, .sl false false 3, .sl false false 30, .int .i64, .sl false false 3, .sl false false 30, .sl false false 3, .int .i64, .sl false false 92, .int .i64, .int .i64, .int .i64, .sl false false 92, .int .i64, .int .i64, .int .i64, .sl false false 92], .agg [.int .i64, .int .i64, .int .i64, .sl false false 3, .sl false false 30, .sl false false 3, .int .i64, .sl false false 92, .int .i64, .int .i64, .int .i64, .sl false false 92, .int .i64, .int .i64, .int .i64, .sl false false 92]], ⟨[vo 5, vb], [none, none]⟩, Tryz.f17⟩
noncomputable def Q0O.gs (δ : Type) : List (Nat × Callee (GT tab) δ) := [(27, Qc.k), (36, Q0I.k), (37, Q0S.k), (38, Q1w.k), (39, Q12.k), (40, Q1l.k)]
theorem Q0O.gok (δ : Type) : Q4 Tryz.prog tab (Q0O.gs δ) := .cons Qc.con (.cons Q0I.con (.cons Q0S.con (.cons Q1w.con (.cons Q12.con (.cons Q1l.con .nil)))))
noncomputable def Q0O.c := cx Q0O.s [] [] [] false (Q0O.gs _)
noncomputable def Q0O (x0 : Int × Int × Int × (List Int) × Int × (List Int) × Int × (List Int) × (List (Int × (List Int))) × Int × (List Int) × (List (Int × (List Int))) × (List Int) × Int × (List Int) × Int × Int × Int × (List Int) × Int × Int × Int × (List Int)) (x1 : Int × Int × Int × (List Int) × (List (Int × (List Int))) × (List Int) × Int × (List Int) × Int × Int × Int × (List Int) × Int × Int × Int × (List Int)) : Option ((List Int) × Bool) := fnW Q0O.s Q0O.c (x0, x1)
theorem Q0O.fok : FkS Q0O.s 17 := ⟨Tryz.func17, by kernel_rfl, by kernel_rfl⟩
noncomputable def Q0O.fn (x : Args tab Q0O.s.ar) : Option (ResT tab Q0O.s.rs) := Q0O x.1 x.2
noncomputable abbrev Q0O.k {δ : Type} : Callee (GT tab) δ := kS Q0O.s Q0O.fn
theorem Q0O.con {δ : Type} : Con Tryz.prog (KT tab) 17 (Q0O.k (δ := δ)) := Q5 (c := Q0O.c) mixed Q1 (Q0 (Q0O.gok _)) Q0O.fok rfl rfl fun _ => rfl
theorem Q0O.eq (x0 : Int × Int × Int × (List Int) × Int × (List Int) × Int × (List Int) × (List (Int × (List Int))) × Int × (List Int) × (List (Int × (List Int))) × (List Int) × Int × (List Int) × Int × Int × Int × (List Int) × Int × Int × Int × (List Int)) (x1 : Int × Int × Int × (List Int) × (List (Int × (List Int))) × (List Int) × Int × (List Int) × Int × Int × Int × (List Int) × Int × Int × Int × (List Int)) : Q0O x0 x1 =
 (Q0I x1).bind fun y1 =>
 (Qc (x0.2.2.2.2.2.2.2.2.2.1, x0.2.2.2.2.2.2.2.2.2.2.1, x0.2.2.2.2.2.2.2.2.2.2.2.1)).bind fun y2 =>
 bif !y1.2 then
 some (([] : List Int), false)
 else
 bif !y2.2 then
 some (([] : List Int), false)
 else
 (Q0S x0.2.1).bind fun y3 =>
 bif !y3 then
 some (([] : List Int), false)
 else
 (Q1w y1.1 (x0.2.2.1, x0.2.2.2.1) (x0.2.2.2.2.1, x0.2.2.2.2.2.1) y2.1).bind fun y4 =>
 bif y4.2 then
 (Q1l y1.1 y4.1 (x0.2.2.1, x0.2.2.2.1) (x0.2.2.2.2.1, x0.2.2.2.2.2.1) x0.2.1).bind fun y5 =>
 (Q12 y5.1 x0).bind fun y6 =>
 some (y5.2.2, y6)
 else
 some (y4.1, false) := by kernel_rfl
noncomputable abbrev Q13.s : Sg := ⟨[.lend, .lend, .lend, .lend], [.agg [.int .i64, .int .i64, .int .i64, .sl false false 3, .sl false false 30, .sl false false 3, .int .i64, .sl false false 92, .int .i64, .int .i64, .int .i64, .sl false false 92, .int .i64, .int .i64, .int .i64, .sl false false 92], .agg [.int .i64, .int .i64, .int .i64, .sl false false 92, .int .i64, .sl false false 92, .int .i64, .sl false false 3, .sl false false 30, .int .i64, .sl false false 3, .sl false false 30, .sl false false 3, .int .i64, .sl false false 92, .int .i64, .int .i64, .int .i64, .sl false false 92, .int .i64, .int .i64, .int .i64, .sl false false 92], vi, vi], ⟨[vi], [none, none, none, none]⟩, Tryz.f6⟩
noncomputable def Q13.gs (δ : Type) : List (Nat × Callee (GT tab) δ) := [(17, Q0O.k), (18, Qy.k), (19, Qh.k), (20, QB.k)]
theorem Q13.gok (δ : Type) : Q4 Tryz.prog tab (Q13.gs δ) := .cons Q0O.con (.cons Qy.con (.cons Qh.con (.cons QB.con .nil)))
noncomputable def Q13.c := cx Q13.s [] [] [] false (Q13.gs _)
noncomputable def Q13 (x0 : Int × Int × Int × (List Int) × (List (Int × (List Int))) × (List Int) × Int × (List Int) × Int × Int × Int × (List Int) × Int × Int × Int × (List Int)) (x1 : Int × Int × Int × (List Int) × Int × (List Int) × Int × (List Int) × (List (Int × (List Int))) × Int × (List Int) × (List (Int × (List Int))) × (List Int) × Int × (List Int) × Int × Int × Int × (List Int) × Int × Int × Int × (List Int)) (x2 x3 : Int) : Option (Int) := fnW Q13.s Q13.c (x0, x1, x2, x3)
theorem Q13.fok : FkS Q13.s 6 := ⟨Tryz.func6, by kernel_rfl, by kernel_rfl⟩
noncomputable def Q13.fn (x : Args tab Q13.s.ar) : Option (ResT tab Q13.s.rs) := Q13 x.1 x.2.1 x.2.2.1 x.2.2.2
noncomputable abbrev Q13.k {δ : Type} : Callee (GT tab) δ := kS Q13.s Q13.fn
theorem Q13.con {δ : Type} : Con Tryz.prog (KT tab) 6 (Q13.k (δ := δ)) := Q5 (c := Q13.c) mixed Q1 (Q0 (Q13.gok _)) Q13.fok rfl rfl fun _ => rfl
theorem Q13.eq (x0 : Int × Int × Int × (List Int) × (List (Int × (List Int))) × (List Int) × Int × (List Int) × Int × Int × Int × (List Int) × Int × Int × Int × (List Int)) (x1 : Int × Int × Int × (List Int) × Int × (List Int) × Int × (List Int) × (List (Int × (List Int))) × Int × (List Int) × (List (Int × (List Int))) × (List Int) × Int × (List Int) × Int × Int × Int × (List Int) × Int × Int × Int × (List Int)) (x2 x3 : Int) : Q13 x0 x1 x2 x3 =
 (Q0O x1 x0).bind fun y1 =>
 bif !y1.2 then
 some (-1 : Int)
 else
 (Qy x3 (0 : Int) (IntKind.i64.wrap ((y1.1.length : Int) + (1 : Int)))).bind fun y2 =>
 bif !y2 then
 some (-1 : Int)
 else
 (QB y1.1).bind fun y3 =>
 bif decide (0 ≤ x3 ∧ x3 ≤ ((y3.length : Nat) : Int)) then
 (Qh ((y3.drop 0).take (x3.toNat - 0)) x2).bind fun y4 =>
 some y4
 else
 none := by kernel_rfl
noncomputable abbrev QU.s : Sg := ⟨[.lend, .lend, .lend, .lend], [.agg [.int .i64, .int .i64, .int .i64, .sl false false 3, .sl false false 30, .sl false false 3, .int .i64, .sl false false 92, .int .i64, .int .i64, .int .i64, .sl false false 92, .int .i64, .int .i64, .int .i64, .sl false false 92], .agg [.int .i64, .int .i64, .int .i64, .sl false false 92, .int .i64, .sl false false 92, .int .i64, .sl false false 3, .sl false false 30, .int .i64, .sl false false 3, .sl false false 30, .sl false false 3, .int .i64, .sl false false 92, .int .i64, .int .i64, .int .i64, .sl false false 92, .int .i64, .int .i64, .int .i64, .sl false false 92], vi, vi], ⟨[vi], [none, none, none, none]⟩, Tryz.f7⟩
noncomputable def QU.gs (δ : Type) : List (Nat × Callee (GT tab) δ) := [(21, QF.k), (22, Qt.k)]
theorem QU.gok (δ : Type) : Q4 Tryz.prog tab (QU.gs δ) := .cons QF.con (.cons Qt.con .nil)
noncomputable def QU.c := cx QU.s [] [4] [(4, [2, 3, 9]), (7, [2, 3, 11, 12, 13])] false (QU.gs _)
noncomputable def QU (x0 : Int × Int × Int × (List Int) × (List (Int × (List Int))) × (List Int) × Int × (List Int) × Int × Int × Int × (List Int) × Int × Int × Int × (List Int)) (x1 : Int × Int × Int × (List Int) × Int × (List Int) × Int × (List Int) × (List (Int × (List Int))) × Int × (List Int) × (List (Int × (List Int))) × (List Int) × Int × (List Int) × Int × Int × Int × (List Int) × Int × Int × Int × (List Int)) (x2 x3 : Int) : Option (Int) := fnW QU.s QU.c (x0, x1, x2, x3)
theorem QU.fok : FkS QU.s 7 := ⟨Tryz.func7, by kernel_rfl, by kernel_rfl⟩
noncomputable def QU.fn (x : Args tab QU.s.ar) : Option (ResT tab QU.s.rs) := QU x.1 x.2.1 x.2.2.1 x.2.2.2
noncomputable abbrev QU.k {δ : Type} : Callee (GT tab) δ := kS QU.s QU.fn
theorem QU.con {δ : Type} : Con Tryz.prog (KT tab) 7 (QU.k (δ := δ)) := Q5 (c := QU.c) mixed Q1 (Q0 (QU.gok _)) QU.fok rfl rfl fun _ => rfl
noncomputable def QU_l0 (v0 v1 : Int) (v2 : List Int) : Option (Int) := lpW QU.s QU.c 0 (ud 39 [.undef, .undef, .int .i64 v0, .int .i64 v1, .undef, .undef, .undef, .undef, .undef, .sl 0 0]) [.row 0 true 5 v2] 1
noncomputable def QU_l1 (v0 v1 v2 v3 : Int) (v4 : List Int) : Option (Int) := lpW QU.s QU.c 1 (ud 35 [.undef, .undef, .int .i64 v0, .int .i64 v1, .undef, .undef, .undef, .undef, .undef, .undef, .undef, .sl 0 0, .int .i64 v2, .int .i64 v3]) [.row 0 true 3 v4] 1
theorem QU.eq (x0 : Int × Int × Int × (List Int) × (List (Int × (List Int))) × (List Int) × Int × (List Int) × Int × Int × Int × (List Int) × Int × Int × Int × (List Int)) (x1 : Int × Int × Int × (List Int) × Int × (List Int) × Int × (List Int) × (List (Int × (List Int))) × Int × (List Int) × (List (Int × (List Int))) × (List Int) × Int × (List Int) × Int × Int × Int × (List Int) × Int × Int × Int × (List Int)) (x2 x3 : Int) : QU x0 x1 x2 x3 =
 (QF x0 x1).bind fun y1 =>
 bif !y1.2 then
 some (-1 : Int)
 else
 bif decide (x3 < (0 : Int)) then
 some (-1 : Int)
 else
 bif decide (x3 > IntKind.i64.wrap ((y1.1.length : Int) + (1 : Int))) then
 some (-1 : Int)
 else
 QU_l0 x2 x3 y1.1 := by kernel_rfl
theorem QU_l0.eq (v0 v1 : Int) (v2 : List Int) : QU_l0 v0 v1 v2 =
 (Qt v2).bind fun y1 =>
 QU_l1 v0 v1 (0 : Int) (0 : Int) y1 := (Q7 Q1 (Q0 (QU.gok _)) _ _).trans (by kernel_rfl)
theorem QU_l1.eq (v0 v1 v2 v3 : Int) (v4 : List Int) : QU_l1 v0 v1 v2 v3 v4 =
 bif decide (v3 < v1) then
 (at? v4 v3).bind fun y1 =>
 v4[v3.toNat]?.bind fun y2 =>
 bif y2 == v0 then
 QU_l1 v0 v1 (IntKind.i64.wrap (v2 + (1 : Int))) (IntKind.i64.wrap (v3 + (1 : Int))) v4
 else
 QU_l1 v0 v1 v2 (IntKind.i64.wrap (v3 + (1 : Int))) v4
 else
 some v2 := (Q7 Q1 (Q0 (QU.gok _)) _ _).trans (by kernel_rfl)
noncomputable abbrev Q0T.s : Sg := ⟨[.lend], [vi], ⟨[vb], [none]⟩, Tryz.f24⟩
noncomputable def Q0T.gs (δ : Type) : List (Nat × Callee (GT tab) δ) := []
theorem Q0T.gok (δ : Type) : Q4 Tryz.prog tab (Q0T.gs δ) := .nil
noncomputable def Q0T.c := cx Q0T.s [] [] [] false (Q0T.gs _)
noncomputable def Q0T (x0 : Int) : Option (Bool) := fnW Q0T.s Q0T.c x0
theorem Q0T.fok : FkS Q0T.s 24 := ⟨Tryz.func24, by kernel_rfl, by kernel_rfl⟩
noncomputable def Q0T.fn (x : Args tab Q0T.s.ar) : Option (ResT tab Q0T.s.rs) := Q0T x
noncomputable abbrev Q0T.k {δ : Type} : Callee (GT tab) δ := kS Q0T.s Q0T.fn
theorem Q0T.con {δ : Type} : Con Tryz.prog (KT tab) 24 (Q0T.k (δ := δ)) := Q5 (c := Q0T.c) mixed Q1 (Q0 (Q0T.gok _)) Q0T.fok rfl rfl fun _ => rfl
theorem Q0T.eq (x0 : Int) : Q0T x0 =
 bif x0 == (0 : Int) then
 some true
 else
 some (x0 == (1 : Int)) := by kernel_rfl
noncomputable abbrev Q1m.s : Sg := ⟨[.lend, .lend, .lend], [.agg [.int .i64, .sl false false 92], vi, vi], ⟨[vi], [none, none, none]⟩, Tryz.f8⟩
noncomputable def Q1m.gs (δ : Type) : List (Nat × Callee (GT tab) δ) := [(18, Qy.k), (19, Qh.k), (23, Q08.k), (24, Q0T.k), (25, QG.k)]
theorem Q1m.gok (δ : Type) : Q4 Tryz.prog tab (Q1m.gs δ) := .cons Qy.con (.cons Qh.con (.cons Q08.con (.cons Q0T.con (.cons QG.con .nil))))
noncomputable def Q1m.c := cx Q1m.s [] [] [] false (Q1m.gs _)
noncomputable def Q1m (x0 : Int × (List Int)) (x1 x2 : Int) : Option (Int) := fnW Q1m.s Q1m.c (x0, x1, x2)
theorem Q1m.fok : FkS Q1m.s 8 := ⟨Tryz.func8, by kernel_rfl, by kernel_rfl⟩
noncomputable def Q1m.fn (x : Args tab Q1m.s.ar) : Option (ResT tab Q1m.s.rs) := Q1m x.1 x.2.1 x.2.2
noncomputable abbrev Q1m.k {δ : Type} : Callee (GT tab) δ := kS Q1m.s Q1m.fn
theorem Q1m.con {δ : Type} : Con Tryz.prog (KT tab) 8 (Q1m.k (δ := δ)) := Q5 (c := Q1m.c) mixed Q1 (Q0 (Q1m.gok _)) Q1m.fok rfl rfl fun _ => rfl
theorem Q1m.eq (x0 : Int × (List Int)) (x1 x2 : Int) : Q1m x0 x1 x2 =
 (Q08 x0).bind fun y1 =>
 bif !y1 then
 some (-1 : Int)
 else
 (Q0T x1).bind fun y2 =>
 bif !y2 then
 some (-1 : Int)
 else
 (Qy x2 (0 : Int) x0.1).bind fun y3 =>
 bif !y3 then
 some (-1 : Int)
 else
 (QG x0).bind fun y4 =>
 bif decide (0 ≤ x2 ∧ x2 ≤ ((y4.length : Nat) : Int)) then
 (Qh ((y4.drop 0).take (x2.toNat - 0)) x1).bind fun y5 =>
 some y5
 else
 none := by kernel_rfl
noncomputable abbrev Q0o.s : Sg := ⟨[.lend, .lend, .lend], [vl 3, vi, vi], ⟨[vi], [none, none, none]⟩, Tryz.f26⟩
noncomputable def Q0o.gs (δ : Type) : List (Nat × Callee (GT tab) δ) := []
theorem Q0o.gok (δ : Type) : Q4 Tryz.prog tab (Q0o.gs δ) := .nil
noncomputable def Q0o.c := cx Q0o.s [] [] [(2, [1, 2, 9, 10, 11])] false (Q0o.gs _)
noncomputable def Q0o (x0 : List Int) (x1 x2 : Int) : Option (Int) := fnW Q0o.s Q0o.c (x0, x1, x2)
theorem Q0o.fok : FkS Q0o.s 26 := ⟨Tryz.func26, by kernel_rfl, by kernel_rfl⟩
noncomputable def Q0o.fn (x : Args tab Q0o.s.ar) : Option (ResT tab Q0o.s.rs) := Q0o x.1 x.2.1 x.2.2
noncomputable abbrev Q0o.k {δ : Type} : Callee (GT tab) δ := kS Q0o.s Q0o.fn
theorem Q0o.con {δ : Type} : Con Tryz.prog (KT tab) 26 (Q0o.k (δ := δ)) := Q5 (c := Q0o.c) mixed Q1 (Q0 (Q0o.gok _)) Q0o.fok rfl rfl fun _ => rfl
noncomputable def Q0o_l0 (v0 v1 : Int) (v2 : List Int) (v3 v4 : Int) : Option (Int) := lpW Q0o.s Q0o.c 0 (ud 13 [.undef, .int .i64 v0, .int .i64 v1, .undef, .undef, .undef, .undef, .undef, .undef, .vs false 3 v2, .int .i64 v3, .int .i64 v4]) [] 0
theorem Q0o.eq (x0 : List Int) (x1 x2 : Int) : Q0o x0 x1 x2 =
 Q0o_l0 x1 x2 x0 (x0.length : Int) (0 : Int) := by kernel_rfl
theorem Q0o_l0.eq (v0 v1 : Int) (v2 : List Int) (v3 v4 : Int) : Q0o_l0 v0 v1 v2 v3 v4 =
 bif decide (v4 < v3) then
 (at? v2 v4).bind fun y1 =>
 bif y1 == v0 then
 bif v1 == (0 : Int) then
 some v4
 else
 Q0o_l0 v0 (IntKind.i64.wrap (v1 - (1 : Int))) v2 v3 (IntKind.i64.wrap (v4 + (1 : Int)))
 else
 Q0o_l0 v0 v1 v2 v3 (IntKind.i64.wrap (v4 + (1 : Int)))
 else
 some (-1 : Int) := (Q7 Q1 (Q0 (Q0o.gok _)) _ _).trans (by kernel_rfl)
noncomputable abbrev Q1n.s : Sg := ⟨[.lend, .lend, .lend], [.agg [.int .i64, .sl false false 92], vi, vi], ⟨[vi], [none, none, none]⟩, Tryz.f9⟩
noncomputable def Q1n.gs (δ : Type) : List (Nat × Callee (GT tab) δ) := [(23, Q08.k), (24, Q0T.k), (25, QG.k), (26, Q0o.k)]
theorem Q1n.gok (δ : Type) : Q4 Tryz.prog tab (Q1n.gs δ) := .cons Q08.con (.cons Q0T.con (.cons QG.con (.cons Q0o.con .nil)))
noncomputable def Q1n.c := cx Q1n.s [] [] [] false (Q1n.gs _)
noncomputable def Q1n (x0 : Int × (List Int)) (x1 x2 : Int) : Option (Int) := fnW Q1n.s Q1n.c (x0, x1, x2)
theorem Q1n.fok : FkS Q1n.s 9 := ⟨Tryz.func9, by kernel_rfl, by kernel_rfl⟩
noncomputable def Q1n.fn (x : Args tab Q1n.s.ar) : Option (ResT tab Q1n.s.rs) := Q1n x.1 x.2.1 x.2.2
noncomputable abbrev Q1n.k {δ : Type} : Callee (GT tab) δ := kS Q1n.s Q1n.fn
theorem Q1n.con {δ : Type} : Con Tryz.prog (KT tab) 9 (Q1n.k (δ := δ)) := Q5 (c := Q1n.c) mixed Q1 (Q0 (Q1n.gok _)) Q1n.fok rfl rfl fun _ => rfl
theorem Q1n.eq (x0 : Int × (List Int)) (x1 x2 : Int) : Q1n x0 x1 x2 =
 (Q08 x0).bind fun y1 =>
 bif !y1 then
 some (-1 : Int)
 else
 (Q0T x1).bind fun y2 =>
 bif !y2 then
 some (-1 : Int)
 else
 bif decide (x2 < (0 : Int)) then
 some (-1 : Int)
 else
 (QG x0).bind fun y3 =>
 (Q0o y3 x1 x2).bind fun y4 =>
 some y4 := by kernel_rfl
noncomputable abbrev Q0E.s : Sg := ⟨[.lend, .lend, .lend], [.agg [.int .i64, .sl false false 3, .sl false false 30], vi, vi], ⟨[vi], [none, none, none]⟩, Tryz.f10⟩
noncomputable def Q0E.gs (δ : Type) : List (Nat × Callee (GT tab) δ) := [(18, Qy.k), (19, Qh.k), (27, Qc.k)]
theorem Q0E.gok (δ : Type) : Q4 Tryz.prog tab (Q0E.gs δ) := .cons Qy.con (.cons Qh.con (.cons Qc.con .nil))
noncomputable def Q0E.c := cx Q0E.s [] [] [] false (Q0E.gs _)
noncomputable def Q0E (x0 : Int × (List Int) × (List (Int × (List Int)))) (x1 x2 : Int) : Option (Int) := fnW Q0E.s Q0E.c (x0, x1, x2)
theorem Q0E.fok : FkS Q0E.s 10 := ⟨Tryz.func10, by kernel_rfl, by kernel_rfl⟩
noncomputable def Q0E.fn (x : Args tab Q0E.s.ar) : Option (ResT tab Q0E.s.rs) := Q0E x.1 x.2.1 x.2.2
noncomputable abbrev Q0E.k {δ : Type} : Callee (GT tab) δ := kS Q0E.s Q0E.fn
theorem Q0E.con {δ : Type} : Con Tryz.prog (KT tab) 10 (Q0E.k (δ := δ)) := Q5 (c := Q0E.c) mixed Q1 (Q0 (Q0E.gok _)) Q0E.fok rfl rfl fun _ => rfl
theorem Q0E.eq (x0 : Int × (List Int) × (List (Int × (List Int)))) (x1 x2 : Int) : Q0E x0 x1 x2 =
 (Qc x0).bind fun y1 =>
 bif !y1.2 then
 some (-1 : Int)
 else
 (Qy x2 (0 : Int) (y1.1.length : Int)).bind fun y2 =>
 bif !y2 then
 some (-1 : Int)
 else
 bif decide (0 ≤ x2 ∧ x2 ≤ ((y1.1.length : Nat) : Int)) then
 (Qh ((y1.1.drop 0).take (x2.toNat - 0)) x1).bind fun y3 =>
 some y3
 else
 none := by kernel_rfl
end Go.Ev.W
