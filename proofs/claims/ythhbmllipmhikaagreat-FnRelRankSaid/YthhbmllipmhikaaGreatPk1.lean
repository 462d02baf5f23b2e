/- What functions of the program come to. -/
import Derived.Test.YthhbmllipmhikaaGreatPkT
import Derived.Test.YthhbmllipmhikaaGreatEvCmp
import Derived.Test.YthhbmllipmhikaaGreatEvSort
import Derived.Test.YthhbmllipmhikaaGreatEvTable
import Derived.Test.YthhbmllipmhikaaGreatPkI137
import Derived.Test.YthhbmllipmhikaaGreatPkL
namespace Go.Ev.W
open Go.Ev Go.Proofs
set_option maxRecDepth 100000
set_option linter.unusedVariables false
noncomputable abbrev Q14.s : Sg := ⟨[.lend], [vl 5], ⟨[vb], [none]⟩, Tryz.f4⟩
noncomputable def Q14.gs (δ : Type) : List (Nat × Callee (GT tab) δ) := []
theorem Q14.gok (δ : Type) : Q4 Tryz.prog tab (Q14.gs δ) := .nil
noncomputable def Q14.c := cx Q14.s [] [] [] false (Q14.gs _)
noncomputable def Q14 (x0 : List Int) : Option (Bool) := fnW Q14.s Q14.c x0
theorem Q14.fok : FkS Q14.s 4 := ⟨Tryz.func4, by kernel_rfl, by kernel_rfl⟩
noncomputable def Q14.fn (x : Args tab Q14.s.ar) : Option (ResT tab Q14.s.rs) := Q14 x
noncomputable abbrev Q14.k {δ : Type} : Callee (GT tab) δ := kS Q14.s Q14.fn
theorem Q14.con {δ : Type} : Con Tryz.prog (KT tab) 4 (Q14.k (δ := δ)) := Q5 (c := Q14.c) mixed Q1 (Q0 (Q14.gok _)) Q14.fok rfl rfl fun _ => rfl
theorem Q14.eq (x0 : List Int) : Q14 x0 =
 some (decide ((x0.length : Int) > (1048576 : Int))) := by kernel_rfl
noncomputable abbrev Q15.s : Sg := ⟨[.lend], [vl 5], ⟨[.one (.ptr true 62 [.b (.b (.b (.sl false false 5))), .b (.b (.b (.int .i64))), .b (.b (.b (.int .i64)))])], [none]⟩, Tryz.f11⟩
noncomputable def Q15.gs (δ : Type) : List (Nat × Callee (GT tab) δ) := []
theorem Q15.gok (δ : Type) : Q4 Tryz.prog tab (Q15.gs δ) := .nil
noncomputable def Q15.c := cx Q15.s [] [] [] false (Q15.gs _)
noncomputable def Q15 (x0 : List Int) : Option ((List Int) × Int × Int) := fnW Q15.s Q15.c x0
theorem Q15.fok : FkS Q15.s 11 := ⟨Tryz.func11, by kernel_rfl, by kernel_rfl⟩
noncomputable def Q15.fn (x : Args tab Q15.s.ar) : Option (ResT tab Q15.s.rs) := Q15 x
noncomputable abbrev Q15.k {δ : Type} : Callee (GT tab) δ := kS Q15.s Q15.fn
theorem Q15.con {δ : Type} : Con Tryz.prog (KT tab) 11 (Q15.k (δ := δ)) := Q5 (c := Q15.c) mixed Q1 (Q0 (Q15.gok _)) Q15.fok rfl rfl fun _ => rfl
theorem Q15.eq (x0 : List Int) : Q15 x0 =
 some (x0, (0 : Int), IntKind.i64.wrap ((89 : Int) + ((x0.length : Int).tmod (1000 : Int)))) := by kernel_rfl
noncomputable abbrev Q9.s : Sg := ⟨[.keep, .lend], [.one (.ptr true 62 [.b (.b (.b (.sl false false 5))), .b (.b (.b (.int .i64))), .b (.b (.b (.int .i64)))]), vi], ⟨[vi], [some (.one (.ptr true 62 [.b (.b (.b (.sl false false 5))), .b (.b (.b (.int .i64))), .b (.b (.b (.int .i64)))])), none]⟩, Tryz.f14⟩
noncomputable def Q9.gs (δ : Type) : List (Nat × Callee (GT tab) δ) := []
theorem Q9.gok (δ : Type) : Q4 Tryz.prog tab (Q9.gs δ) := .nil
noncomputable def Q9.c := cx Q9.s [] [] [] false (Q9.gs _)
noncomputable def Q9 (x0 : (List Int) × Int × Int) (x1 : Int) : Option (Int × ((List Int) × Int × Int)) := fnW Q9.s Q9.c (x0, x1)
theorem Q9.fok : FkS Q9.s 14 := ⟨Tryz.func14, by kernel_rfl, by kernel_rfl⟩
noncomputable def Q9.fn (x : Args tab Q9.s.ar) : Option (ResT tab Q9.s.rs) := Q9 x.1 x.2
noncomputable abbrev Q9.k {δ : Type} : Callee (GT tab) δ := kS Q9.s Q9.fn
theorem Q9.con {δ : Type} : Con Tryz.prog (KT tab) 14 (Q9.k (δ := δ)) := Q5 (c := Q9.c) mixed Q1 (Q0 (Q9.gok _)) Q9.fok rfl rfl fun _ => rfl
theorem Q9.eq (x0 : (List Int) × Int × Int) (x1 : Int) : Q9 x0 x1 =
 bif decide (x1 < (2 : Int)) then
 some ((0 : Int), x0)
 else
 bif decide (x0.2.1 < (x0.1.length : Int)) then
 (at? x0.1 x0.2.1).bind fun y1 =>
 bif decide (x1 = (0 : Int)) then
 none
 else
 some ((IntKind.i64.wrap y1).tmod x1, (x0.1, IntKind.i64.wrap (x0.2.1 + (1 : Int)), x0.2.2))
 else
 bif decide ((x0.1.length : Int) > (0 : Int)) then
 bif decide ((x0.1.length : Int) = (0 : Int)) then
 none
 else
 (at? x0.1 (x0.2.1.tmod (x0.1.length : Int))).bind fun y2 =>
 bif decide (x1 = (0 : Int)) then
 none
 else
 some ((IntKind.i64.wrap ((IntKind.i64.wrap (((IntKind.i64.wrap ((IntKind.i64.wrap (x0.2.2 * (1103 : Int))) + (12345 : Int))).tmod (65521 : Int)).tdiv (7 : Int))) + (IntKind.i64.wrap y2))).tmod x1, (x0.1, IntKind.i64.wrap (x0.2.1 + (1 : Int)), (IntKind.i64.wrap ((IntKind.i64.wrap (x0.2.2 * (1103 : Int))) + (12345 : Int))).tmod (65521 : Int)))
 else
 bif decide (x1 = (0 : Int)) then
 none
 else
 some ((0 : Int).tmod x1, (x0.1, IntKind.i64.wrap (x0.2.1 + (1 : Int)), (IntKind.i64.wrap ((IntKind.i64.wrap (x0.2.2 * (1103 : Int))) + (12345 : Int))).tmod (65521 : Int))) := by kernel_rfl
noncomputable abbrev Q0P.s : Sg := ⟨[.keep, .lend], [.one (.ptr true 62 [.b (.b (.b (.sl false false 5))), .b (.b (.b (.int .i64))), .b (.b (.b (.int .i64)))]), vi], ⟨[vi], [some (.one (.ptr true 62 [.b (.b (.b (.sl false false 5))), .b (.b (.b (.int .i64))), .b (.b (.b (.int .i64)))])), none]⟩, Tryz.f94⟩
noncomputable def Q0P.gs (δ : Type) : List (Nat × Callee (GT tab) δ) := [(14, Q9.k)]
theorem Q0P.gok (δ : Type) : Q4 Tryz.prog tab (Q0P.gs δ) := .cons Q9.con .nil
noncomputable def Q0P.c := cx Q0P.s [] [] [] false (Q0P.gs _)
noncomputable def Q0P (x0 : (List Int) × Int × Int) (x1 : Int) : Option (Int × ((List Int) × Int × Int)) := fnW Q0P.s Q0P.c (x0, x1)
theorem Q0P.fok : FkS Q0P.s 94 := ⟨Tryz.func94, by kernel_rfl, by kernel_rfl⟩
noncomputable def Q0P.fn (x : Args tab Q0P.s.ar) : Option (ResT tab Q0P.s.rs) := Q0P x.1 x.2
noncomputable abbrev Q0P.k {δ : Type} : Callee (GT tab) δ := kS Q0P.s Q0P.fn
theorem Q0P.con {δ : Type} : Con Tryz.prog (KT tab) 94 (Q0P.k (δ := δ)) := Q5 (c := Q0P.c) mixed Q1 (Q0 (Q0P.gok _)) Q0P.fok rfl rfl fun _ => rfl
theorem Q0P.eq (x0 : (List Int) × Int × Int) (x1 : Int) : Q0P x0 x1 =
 (Q9 x0 (IntKind.i64.wrap ((if IntKind.i64.wrap ((1 : Int) + (IntKind.i64.wrap ((x0.1.length : Int).tdiv (8 : Int)))) < x1 then IntKind.i64.wrap ((1 : Int) + (IntKind.i64.wrap ((x0.1.length : Int).tdiv (8 : Int)))) else x1) + (1 : Int)))).bind fun y1 =>
 some (y1.1, y1.2) := by kernel_rfl
noncomputable abbrev Q0p.s : Sg := ⟨[.keep, .lend], [.one (.ptr true 62 [.b (.b (.b (.sl false false 5))), .b (.b (.b (.int .i64))), .b (.b (.b (.int .i64)))]), vi], ⟨[vb], [some (.one (.ptr true 62 [.b (.b (.b (.sl false false 5))), .b (.b (.b (.int .i64))), .b (.b (.b (.int .i64)))])), none]⟩, Tryz.f60⟩
noncomputable def Q0p.gs (δ : Type) : List (Nat × Callee (GT tab) δ) := [(14, Q9.k)]
theorem Q0p.gok (δ : Type) : Q4 Tryz.prog tab (Q0p.gs δ) := .cons Q9.con .nil
noncomputable def Q0p.c := cx Q0p.s [] [] [] false (Q0p.gs _)
noncomputable def Q0p (x0 : (List Int) × Int × Int) (x1 : Int) : Option (Bool × ((List Int) × Int × Int)) := fnW Q0p.s Q0p.c (x0, x1)
theorem Q0p.fok : FkS Q0p.s 60 := ⟨Tryz.func60, by kernel_rfl, by kernel_rfl⟩
noncomputable def Q0p.fn (x : Args tab Q0p.s.ar) : Option (ResT tab Q0p.s.rs) := Q0p x.1 x.2
noncomputable abbrev Q0p.k {δ : Type} : Callee (GT tab) δ := kS Q0p.s Q0p.fn
theorem Q0p.con {δ : Type} : Con Tryz.prog (KT tab) 60 (Q0p.k (δ := δ)) := Q5 (c := Q0p.c) mixed Q1 (Q0 (Q0p.gok _)) Q0p.fok rfl rfl fun _ => rfl
theorem Q0p.eq (x0 : (List Int) × Int × Int) (x1 : Int) : Q0p x0 x1 =
 (Q9 x0 x1).bind fun y1 =>
 some (y1.1 == IntKind.i64.wrap (x1 - (1 : Int)), y1.2) := by kernel_rfl
noncomputable abbrev QK.s : Sg := ⟨[.keep, .lend], [.one (.ptr true 62 [.b (.b (.b (.sl false false 5))), .b (.b (.b (.int .i64))), .b (.b (.b (.int .i64)))]), vi], ⟨[vo 5], [some (.one (.ptr true 62 [.b (.b (.b (.sl false false 5))), .b (.b (.b (.int .i64))), .b (.b (.b (.int .i64)))])), none]⟩, Tryz.f59⟩
noncomputable def QK.gs (δ : Type) : List (Nat × Callee (GT tab) δ) := [(14, Q9.k), (60, Q0p.k), (94, Q0P.k)]
theorem QK.gok (δ : Type) : Q4 Tryz.prog tab (QK.gs δ) := .cons Q9.con (.cons Q0p.con (.cons Q0P.con .nil))
noncomputable def QK.c := cx QK.s [] [] [(4, [0, 1, 5, 6, 7])] false (QK.gs _)
noncomputable def QK (x0 : (List Int) × Int × Int) (x1 : Int) : Option ((List Int) × ((List Int) × Int × Int)) := fnW QK.s QK.c (x0, x1)
theorem QK.fok : FkS QK.s 59 := ⟨Tryz.func59, by kernel_rfl, by kernel_rfl⟩
noncomputable def QK.fn (x : Args tab QK.s.ar) : Option (ResT tab QK.s.rs) := QK x.1 x.2
noncomputable abbrev QK.k {δ : Type} : Callee (GT tab) δ := kS QK.s QK.fn
theorem QK.con {δ : Type} : Con Tryz.prog (KT tab) 59 (QK.k (δ := δ)) := Q5 (c := QK.c) mixed Q1 (Q0 (QK.gok _)) QK.fok rfl rfl fun _ => rfl
noncomputable def QK_l0 (v0 : Int) (v1 : ByteArray) (v2 : Int) (v3 : List Int) (v4 v5 : Int) (v6 : List Int) : Option ((List Int) × ((List Int) × Int × Int)) := lpW QK.s QK.c 0 (ud 55 [.ptr 0 0, .int .i64 v0, .undef, .undef, .undef, .sl 1 0, .str v1, .int .i64 v2]) [.box 62 [.vs false 5 v3, .int .i64 v4, .int .i64 v5], .row 0 true 5 v6] 2
theorem QK.eq (x0 : (List Int) × Int × Int) (x1 : Int) : QK x0 x1 =
 (Q9 x0 (5 : Int)).bind fun y1 =>
 (at? ([(⟨#[97]⟩ : ByteArray), (⟨#[97, 98]⟩ : ByteArray), (⟨#[97, 98, 99]⟩ : ByteArray), (⟨#[97, 99, 103, 116]⟩ : ByteArray), (⟨#[0, 255]⟩ : ByteArray)] : List ByteArray) y1.1).bind fun y2 =>
 ([(⟨#[97]⟩ : ByteArray), (⟨#[97, 98]⟩ : ByteArray), (⟨#[97, 98, 99]⟩ : ByteArray), (⟨#[97, 99, 103, 116]⟩ : ByteArray), (⟨#[0, 255]⟩ : ByteArray)] : List ByteArray)[y1.1.toNat]?.bind fun y3 =>
 (Q0P y1.2 x1).bind fun y4 =>
 QK_l0 x1 y3 y4.1 y4.2.1 y4.2.2.1 y4.2.2.2 ([] : List Int) := by kernel_rfl
theorem QK_l0.eq (v0 : Int) (v1 : ByteArray) (v2 : Int) (v3 : List Int) (v4 v5 : Int) (v6 : List Int) : QK_l0 v0 v1 v2 v3 v4 v5 v6 =
 bif decide (v2 > (0 : Int)) then
 bif decide ((v6.length : Int) > (3 : Int)) then
 (Q0p (v3, v4, v5) (6 : Int)).bind fun y1 =>
 bif y1.1 then
 (Q9 y1.2 (v6.length : Int)).bind fun y2 =>
 (Q9 y2.2 (6 : Int)).bind fun y3 =>
 bif decide (0 ≤ (if IntKind.i64.wrap ((IntKind.i64.wrap (y2.1 + (1 : Int))) + y3.1) < (v6.length : Int) then IntKind.i64.wrap ((IntKind.i64.wrap (y2.1 + (1 : Int))) + y3.1) else (v6.length : Int)) ∧ (if IntKind.i64.wrap ((IntKind.i64.wrap (y2.1 + (1 : Int))) + y3.1) < (v6.length : Int) then IntKind.i64.wrap ((IntKind.i64.wrap (y2.1 + (1 : Int))) + y3.1) else (v6.length : Int)) ≤ ((v6.length : Nat) : Int)) then
 bif decide (0 ≤ y2.1 ∧ y2.1 ≤ (((if IntKind.i64.wrap ((IntKind.i64.wrap (y2.1 + (1 : Int))) + y3.1) < (v6.length : Int) then IntKind.i64.wrap ((IntKind.i64.wrap (y2.1 + (1 : Int))) + y3.1) else (v6.length : Int)).toNat : Nat) : Int)) then
 bif decide ((v6.length + ((v6.drop y2.1.toNat).take (((if IntKind.i64.wrap ((IntKind.i64.wrap (y2.1 + (1 : Int))) + y3.1) < (v6.length : Int) then IntKind.i64.wrap ((IntKind.i64.wrap (y2.1 + (1 : Int))) + y3.1) else (v6.length : Int)).toNat) - y2.1.toNat)).length) * 1 ≤ 140737488355328) then
 QK_l0 v0 v1 (IntKind.i64.wrap (v2 - (1 : Int))) y3.2.1 y3.2.2.1 y3.2.2.2 (v6 ++ ((v6.drop y2.1.toNat).take (((if IntKind.i64.wrap ((IntKind.i64.wrap (y2.1 + (1 : Int))) + y3.1) < (v6.length : Int) then IntKind.i64.wrap ((IntKind.i64.wrap (y2.1 + (1 : Int))) + y3.1) else (v6.length : Int)).toNat) - y2.1.toNat)))
 else
 none
 else
 none
 else
 none
 else
 (Q9 y1.2 (v1.size : Int)).bind fun y4 =>
 (at? v1.data.toList y4.1).bind fun y5 =>
 bif decide ((v6.length + ([(y5.toNat : Int)] : List Int).length) * 1 ≤ 140737488355328) then
 QK_l0 v0 v1 (IntKind.i64.wrap (v2 - (1 : Int))) y4.2.1 y4.2.2.1 y4.2.2.2 (v6 ++ ([(y5.toNat : Int)] : List Int))
 else
 none
 else
 (Q9 (v3, v4, v5) (v1.size : Int)).bind fun y6 =>
 (at? v1.data.toList y6.1).bind fun y7 =>
 bif decide ((v6.length + ([(y7.toNat : Int)] : List Int).length) * 1 ≤ 140737488355328) then
 QK_l0 v0 v1 (IntKind.i64.wrap (v2 - (1 : Int))) y6.2.1 y6.2.2.1 y6.2.2.2 (v6 ++ ([(y7.toNat : Int)] : List Int))
 else
 none
 else
 bif decide ((v6.length : Int) > v0) then
 bif decide (0 ≤ v0 ∧ v0 ≤ ((v6.length : Nat) : Int)) then
 some (v6.take (v0.toNat - 0), (v3, v4, v5))
 else
 none
 else
 some (v6, (v3, v4, v5)) := (Q7 Q1 (Q0 (QK.gok _)) _ _).trans (by kernel_rfl)
noncomputable abbrev QX.s : Sg := ⟨[.keep, .lend], [.one (.ptr true 62 [.b (.b (.b (.sl false false 5))), .b (.b (.b (.int .i64))), .b (.b (.b (.int .i64)))]), vi], ⟨[vo 5, vo 5], [some (.one (.ptr true 62 [.b (.b (.b (.sl false false 5))), .b (.b (.b (.int .i64))), .b (.b (.b (.int .i64)))])), none]⟩, Tryz.f28⟩
noncomputable def QX.gs (δ : Type) : List (Nat × Callee (GT tab) δ) := [(14, Q9.k), (59, QK.k), (60, Q0p.k)]
theorem QX.gok (δ : Type) : Q4 Tryz.prog tab (QX.gs δ) := .cons Q9.con (.cons QK.con (.cons Q0p.con .nil))
noncomputable def QX.c := cx QX.s [] [11] [(4, [0, 1, 6, 7, 8]), (11, [0, 1, 6, 7])] false (QX.gs _)
noncomputable def QX (x0 : (List Int) × Int × Int) (x1 : Int) : Option ((List Int) × (List Int) × ((List Int) × Int × Int)) := fnW QX.s QX.c (x0, x1)
theorem QX.fok : FkS QX.s 28 := ⟨Tryz.func28, by kernel_rfl, by kernel_rfl⟩
noncomputable def QX.fn (x : Args tab QX.s.ar) : Option (ResT tab QX.s.rs) := QX x.1 x.2
noncomputable abbrev QX.k {δ : Type} : Callee (GT tab) δ := kS QX.s QX.fn
theorem QX.con {δ : Type} : Con Tryz.prog (KT tab) 28 (QX.k (δ := δ)) := Q5 (c := QX.c) mixed Q1 (Q0 (QX.gok _)) QX.fok rfl rfl fun _ => rfl
noncomputable def QX_l0 (v0 v1 : Int) (v2 : List Int) (v3 v4 : Int) (v5 v6 : List Int) : Option ((List Int) × (List Int) × ((List Int) × Int × Int)) := lpW QX.s QX.c 0 (ud 56 [.ptr 0 0, .int .i64 v0, .undef, .undef, .undef, .undef, .sl 1 0, .sl 2 0, .int .i64 v1]) [.box 62 [.vs false 5 v2, .int .i64 v3, .int .i64 v4], .row 0 true 5 v5, .row 0 true 5 v6] 3
noncomputable def QX_l1 (v0 : Int) (v1 : List Int) (v2 v3 : Int) (v4 v5 : List Int) : Option ((List Int) × (List Int) × ((List Int) × Int × Int)) := lpW QX.s QX.c 1 (ud 57 [.ptr 0 0, .int .i64 v0, .undef, .undef, .undef, .undef, .sl 1 0, .sl 2 0]) [.box 62 [.vs false 5 v1, .int .i64 v2, .int .i64 v3], .row 0 true 5 v4, .row 0 true 5 v5] 3
theorem QX.eq (x0 : (List Int) × Int × Int) (x1 : Int) : QX x0 x1 =
 (QK x0 x1).bind fun y1 =>
 bif decide ((([] : List Int).length + y1.1.length) * 1 ≤ 140737488355328) then
 (Q9 y1.2 (4 : Int)).bind fun y2 =>
 QX_l0 x1 y2.1 y2.2.1 y2.2.2.1 y2.2.2.2 y1.1 (([] : List Int) ++ y1.1)
 else
 none := by kernel_rfl
theorem QX_l0.eq (v0 v1 : Int) (v2 : List Int) (v3 v4 : Int) (v5 v6 : List Int) : QX_l0 v0 v1 v2 v3 v4 v5 v6 =
 bif decide (v1 > (0 : Int)) then
 (Q9 (v2, v3, v4) (IntKind.i64.wrap ((v6.length : Int) + (1 : Int)))).bind fun y1 =>
 (Q9 y1.2 (4 : Int)).bind fun y2 =>
 (at? ([(⟨#[]⟩ : ByteArray), (⟨#[97]⟩ : ByteArray), (⟨#[98]⟩ : ByteArray), (⟨#[122, 122]⟩ : ByteArray)] : List ByteArray) y2.1).bind fun y3 =>
 ([(⟨#[]⟩ : ByteArray), (⟨#[97]⟩ : ByteArray), (⟨#[98]⟩ : ByteArray), (⟨#[122, 122]⟩ : ByteArray)] : List ByteArray)[y2.1.toNat]?.bind fun y4 =>
 bif decide (0 ≤ y1.1 ∧ y1.1 ≤ ((v6.length : Nat) : Int)) then
 bif decide ((([] : List Int).length + ((v6.drop 0).take (y1.1.toNat - 0)).length) * 1 ≤ 140737488355328) then
 bif decide (((([] : List Int) ++ ((v6.drop 0).take (y1.1.toNat - 0))).length + (y4.data.toList.map fun b => (b.toNat : Int)).length) * 1 ≤ 140737488355328) then
 (Q9 y2.2 (3 : Int)).bind fun y5 =>
 bif decide (0 ≤ (if IntKind.i64.wrap (y1.1 + y5.1) < (v6.length : Int) then IntKind.i64.wrap (y1.1 + y5.1) else (v6.length : Int)) ∧ (if IntKind.i64.wrap (y1.1 + y5.1) < (v6.length : Int) then IntKind.i64.wrap (y1.1 + y5.1) else (v6.length : Int)) ≤ ((v6.length : Nat) : Int)) then
 bif decide ((((([] : List Int) ++ ((v6.drop 0).take (y1.1.toNat - 0))) ++ (y4.data.toList.map fun b => (b.toNat : Int))).length + ((v6.drop ((if IntKind.i64.wrap (y1.1 + y5.1) < (v6.length : Int) then IntKind.i64.wrap (y1.1 + y5.1) else (v6.length : Int)).toNat)).take (v6.length - ((if IntKind.i64.wrap (y1.1 + y5.1) < (v6.length : Int) then IntKind.i64.wrap (y1.1 + y5.1) else (v6.length : Int)).toNat))).length) * 1 ≤ 140737488355328) then
 QX_l0 v0 (IntKind.i64.wrap (v1 - (1 : Int))) y5.2.1 y5.2.2.1 y5.2.2.2 v5 (((([] : List Int) ++ ((v6.drop 0).take (y1.1.toNat - 0))) ++ (y4.data.toList.map fun b => (b.toNat : Int))) ++ ((v6.drop ((if IntKind.i64.wrap (y1.1 + y5.1) < (v6.length : Int) then IntKind.i64.wrap (y1.1 + y5.1) else (v6.length : Int)).toNat)).take (v6.length - ((if IntKind.i64.wrap (y1.1 + y5.1) < (v6.length : Int) then IntKind.i64.wrap (y1.1 + y5.1) else (v6.length : Int)).toNat))))
 else
 none
 else
 none
 else
 none
 else
 none
 else
 none
 else
 (Q0p (v2, v3, v4) (6 : Int)).bind fun y6 =>
 bif y6.1 then
 (QK y6.2 v0).bind fun y7 =>
 QX_l1 v0 y7.2.1 y7.2.2.1 y7.2.2.2 v5 y7.1
 else
 QX_l1 v0 y6.2.1 y6.2.2.1 y6.2.2.2 v5 v6 := (Q7 Q1 (Q0 (QX.gok _)) _ _).trans (by kernel_rfl)
theorem QX_l1.eq (v0 : Int) (v1 : List Int) (v2 v3 : Int) (v4 v5 : List Int) : QX_l1 v0 v1 v2 v3 v4 v5 =
 bif decide ((v5.length : Int) > v0) then
 bif decide (0 ≤ v0 ∧ v0 ≤ ((v5.length : Nat) : Int)) then
 some (v4, v5.take (v0.toNat - 0), (v1, v2, v3))
 else
 none
 else
 some (v4, v5, (v1, v2, v3)) := (Q7 Q1 (Q0 (QX.gok _)) _ _).trans (by kernel_rfl)
noncomputable abbrev Q0K.s : Sg := ⟨[.keep], [.one (.ptr true 62 [.b (.b (.b (.sl false false 5))), .b (.b (.b (.int .i64))), .b (.b (.b (.int .i64)))])], ⟨[vi], [some (.one (.ptr true 62 [.b (.b (.b (.sl false false 5))), .b (.b (.b (.int .i64))), .b (.b (.b (.int .i64)))]))]⟩, Tryz.f30⟩
noncomputable def Q0K.gs (δ : Type) : List (Nat × Callee (GT tab) δ) := [(14, Q9.k)]
theorem Q0K.gok (δ : Type) : Q4 Tryz.prog tab (Q0K.gs δ) := .cons Q9.con .nil
noncomputable def Q0K.c := cx Q0K.s [] [] [] false (Q0K.gs _)
noncomputable def Q0K (x0 : (List Int) × Int × Int) : Option (Int × ((List Int) × Int × Int)) := fnW Q0K.s Q0K.c x0
theorem Q0K.fok : FkS Q0K.s 30 := ⟨Tryz.func30, by kernel_rfl, by kernel_rfl⟩
noncomputable def Q0K.fn (x : Args tab Q0K.s.ar) : Option (ResT tab Q0K.s.rs) := Q0K x
noncomputable abbrev Q0K.k {δ : Type} : Callee (GT tab) δ := kS Q0K.s Q0K.fn
theorem Q0K.con {δ : Type} : Con Tryz.prog (KT tab) 30 (Q0K.k (δ := δ)) := Q5 (c := Q0K.c) mixed Q1 (Q0 (Q0K.gok _)) Q0K.fok rfl rfl fun _ => rfl
theorem Q0K.eq (x0 : (List Int) × Int × Int) : Q0K x0 =
 (Q9 x0 (5 : Int)).bind fun y1 =>
 (at? ([(1 : Int), (2 : Int), (3 : Int), (8 : Int), (64 : Int)] : List Int) y1.1).bind fun y2 =>
 ([(1 : Int), (2 : Int), (3 : Int), (8 : Int), (64 : Int)] : List Int)[y1.1.toNat]?.bind fun y3 =>
 some (y3, y1.2) := by kernel_rfl
noncomputable abbrev Q0B.s : Sg := ⟨[.lend], [vl 5], ⟨[vb], [none]⟩, Tryz.f61⟩
noncomputable def Q0B.gs (δ : Type) : List (Nat × Callee (GT tab) δ) := []
theorem Q0B.gok (δ : Type) : Q4 Tryz.prog tab (Q0B.gs δ) := .nil
noncomputable def Q0B.c := cx Q0B.s [] [] [] false (Q0B.gs _)
noncomputable def Q0B (x0 : List Int) : Option (Bool) := fnW Q0B.s Q0B.c x0
theorem Q0B.fok : FkS Q0B.s 61 := ⟨Tryz.func61, by kernel_rfl, by kernel_rfl⟩
noncomputable def Q0B.fn (x : Args tab Q0B.s.ar) : Option (ResT tab Q0B.s.rs) := Q0B x
noncomputable abbrev Q0B.k {δ : Type} : Callee (GT tab) δ := kS Q0B.s Q0B.fn
theorem Q0B.con {δ : Type} : Con Tryz.prog (KT tab) 61 (Q0B.k (δ := δ)) := Q5 (c := Q0B.c) mixed Q1 (Q0 (Q0B.gok _)) Q0B.fok rfl rfl fun _ => rfl
theorem Q0B.eq (x0 : List Int) : Q0B x0 =
 some (decide ((x0.length : Int) ≤ (300 : Int))) := by kernel_rfl
noncomputable abbrev Q0t.s : Sg := ⟨[.lend], [vi], ⟨[vb], [none]⟩, Tryz.f43⟩
noncomputable def Q0t.gs (δ : Type) : List (Nat × Callee (GT tab) δ) := []
theorem Q0t.gok (δ : Type) : Q4 Tryz.prog tab (Q0t.gs δ) := .nil
noncomputable def Q0t.c := cx Q0t.s [] [] [] false (Q0t.gs _)
noncomputable def Q0t (x0 : Int) : Option (Bool) := fnW Q0t.s Q0t.c x0
theorem Q0t.fok : FkS Q0t.s 43 := ⟨Tryz.func43, by kernel_rfl, by kernel_rfl⟩
noncomputable def Q0t.fn (x : Args tab Q0t.s.ar) : Option (ResT tab Q0t.s.rs) := Q0t x
noncomputable abbrev Q0t.k {δ : Type} : Callee (GT tab) δ := kS Q0t.s Q0t.fn
theorem Q0t.con {δ : Type} : Con Tryz.prog (KT tab) 43 (Q0t.k (δ := δ)) := Q5 (c := Q0t.c) mixed Q1 (Q0 (Q0t.gok _)) Q0t.fok rfl rfl fun _ => rfl
theorem Q0t.eq (x0 : Int) : Q0t x0 =
 bif decide (x0 ≥ (1 : Int)) then
 some (decide (x0 ≤ (64 : Int)))
 else
 some false := by kernel_rfl
noncomputable abbrev QD.s : Sg := ⟨[.lend, .lend], [vl 5, vl 5], ⟨[vi], [none, none]⟩, Tryz.f93⟩
noncomputable def QD.gs (δ : Type) : List (Nat × Callee (GT tab) δ) := []
theorem QD.gok (δ : Type) : Q4 Tryz.prog tab (QD.gs δ) := .nil
noncomputable def QD.c := cx QD.s [] [4] [(2, [0, 1, 5]), (4, [0, 1, 5])] false (QD.gs _)
noncomputable def QD (x0 x1 : List Int) : Option (Int) := fnW QD.s QD.c (x0, x1)
theorem QD.fok : FkS QD.s 93 := ⟨Tryz.func93, by kernel_rfl, by kernel_rfl⟩
noncomputable def QD.fn (x : Args tab QD.s.ar) : Option (ResT tab QD.s.rs) := QD x.1 x.2
noncomputable abbrev QD.k {δ : Type} : Callee (GT tab) δ := kS QD.s QD.fn
theorem QD.con {δ : Type} : Con Tryz.prog (KT tab) 93 (QD.k (δ := δ)) := Q5 (c := QD.c) mixed Q1 (Q0 (QD.gok _)) QD.fok rfl rfl fun _ => rfl
noncomputable def QD_l0 (v0 v1 : List Int) (v2 : Int) : Option (Int) := lpW QD.s QD.c 0 (ud 40 [.vs false 5 v0, .vs false 5 v1, .undef, .undef, .undef, .int .i64 v2]) [] 0
noncomputable def QD_l1 (v0 v1 : List Int) (v2 : Int) : Option (Int) := lpW QD.s QD.c 1 (ud 40 [.vs false 5 v0, .vs false 5 v1, .undef, .undef, .undef, .int .i64 v2]) [] 0
theorem QD.eq (x0 x1 : List Int) : QD x0 x1 =
 QD_l0 x0 x1 (0 : Int) := by kernel_rfl
theorem QD_l0.eq (v0 v1 : List Int) (v2 : Int) : QD_l0 v0 v1 v2 =
 bif decide (v2 < (v0.length : Int)) then
 bif decide (v2 < (v1.length : Int)) then
 QD_l1 v0 v1 v2
 else
 bif decide ((v0.length : Int) < (v1.length : Int)) then
 some (-1 : Int)
 else
 bif decide ((v0.length : Int) > (v1.length : Int)) then
 some (1 : Int)
 else
 some (0 : Int)
 else
 bif decide ((v0.length : Int) < (v1.length : Int)) then
 some (-1 : Int)
 else
 bif decide ((v0.length : Int) > (v1.length : Int)) then
 some (1 : Int)
 else
 some (0 : Int) := (Q7 Q1 (Q0 (QD.gok _)) _ _).trans (by kernel_rfl)
theorem QD_l1.eq (v0 v1 : List Int) (v2 : Int) : QD_l1 v0 v1 v2 =
 (at? v0 v2).bind fun y1 =>
 (at? v1 v2).bind fun y2 =>
 bif decide (y1 < y2) then
 some (-1 : Int)
 else
 (at? v0 v2).bind fun y3 =>
 (at? v1 v2).bind fun y4 =>
 bif decide (y3 > y4) then
 some (1 : Int)
 else
 QD_l0 v0 v1 (IntKind.i64.wrap (v2 + (1 : Int))) := (Q7 Q1 (Q0 (QD.gok _)) _ _).trans (by kernel_rfl)
noncomputable abbrev Qz.s : Sg := ⟨[.lend], [vl 5], ⟨[vo 3], [none]⟩, Tryz.f56⟩
noncomputable def Qz.gs (δ : Type) : List (Nat × Callee (GT tab) δ) := [(61, Q0B.k), (93, QD.k)]
theorem Qz.gok (δ : Type) : Q4 Tryz.prog tab (Qz.gs δ) := .cons Q0B.con (.cons QD.con .nil)
noncomputable def Qz.c := cx Qz.s [] [] [(5, [0, 3, 4]), (9, [0, 3, 4, 5, 6])] false (Qz.gs _)
noncomputable def Qz (x0 : List Int) : Option (List Int) := fnW Qz.s Qz.c x0
theorem Qz.fok : FkS Qz.s 56 := ⟨Tryz.func56, by kernel_rfl, by kernel_rfl⟩
noncomputable def Qz.fn (x : Args tab Qz.s.ar) : Option (ResT tab Qz.s.rs) := Qz x
noncomputable abbrev Qz.k {δ : Type} : Callee (GT tab) δ := kS Qz.s Qz.fn
theorem Qz.con {δ : Type} : Con Tryz.prog (KT tab) 56 (Qz.k (δ := δ)) := Q5 (c := Qz.c) mixed Q1 (Q0 (Qz.gok _)) Qz.fok rfl rfl fun _ => rfl
noncomputable def Qz_l0 (v0 : List Int) (v1 : Int) (v2 : List Int) : Option (List Int) := lpW Qz.s Qz.c 0 (ud 51 [.vs false 5 v0, .undef, .undef, .sl 0 0, .int .i64 v1]) [.row 0 true 3 v2] 1
noncomputable def Qz_l1 (v0 : List Int) (v1 v2 v3 : Int) (v4 : List Int) : Option (List Int) := lpW Qz.s Qz.c 1 (ud 49 [.vs false 5 v0, .undef, .undef, .sl 0 0, .int .i64 v1, .int .i64 v2, .int .i64 v3]) [.row 0 true 3 v4] 1
theorem Qz.eq (x0 : List Int) : Qz x0 =
 (Q0B x0).bind fun y1 =>
 bif !y1 then
 some ([] : List Int)
 else
 Qz_l0 x0 (x0.length : Int) ([] : List Int) := by kernel_rfl
theorem Qz_l0.eq (v0 : List Int) (v1 : Int) (v2 : List Int) : Qz_l0 v0 v1 v2 =
 bif decide (v1 ≥ (0 : Int)) then
 Qz_l1 v0 v1 (0 : Int) (v2.length : Int) v2
 else
 some v2 := (Q7 Q1 (Q0 (Qz.gok _)) _ _).trans (by kernel_rfl)
theorem Qz_l1.eq (v0 : List Int) (v1 v2 v3 : Int) (v4 : List Int) : Qz_l1 v0 v1 v2 v3 v4 =
 bif decide (v2 < v3) then
 (at? v4 (IntKind.i64.wrap ((IntKind.i64.wrap (v2 + v3)).tdiv (2 : Int)))).bind fun y1 =>
 v4[(IntKind.i64.wrap ((IntKind.i64.wrap (v2 + v3)).tdiv (2 : Int))).toNat]?.bind fun y2 =>
 bif decide (0 ≤ y2 ∧ y2 ≤ ((v0.length : Nat) : Int)) then
 bif decide (0 ≤ v1 ∧ v1 ≤ ((v0.length : Nat) : Int)) then
 (QD ((v0.take v0.length).drop y2.toNat) ((v0.take v0.length).drop v1.toNat)).bind fun y3 =>
 bif decide (y3 < (0 : Int)) then
 Qz_l1 v0 v1 (IntKind.i64.wrap ((IntKind.i64.wrap ((IntKind.i64.wrap (v2 + v3)).tdiv (2 : Int))) + (1 : Int))) v3 v4
 else
 Qz_l1 v0 v1 v2 (IntKind.i64.wrap ((IntKind.i64.wrap (v2 + v3)).tdiv (2 : Int))) v4
 else
 none
 else
 none
 else
 bif decide (0 ≤ v2 ∧ v2 ≤ ((v4.length : Nat) : Int)) then
 bif decide ((([v1] : List Int).length + ((v4.drop v2.toNat).take (v4.length - v2.toNat)).length) * 8 ≤ 140737488355328) then
 bif decide (0 ≤ v2 ∧ v2 ≤ ((v4.length : Nat) : Int)) then
 bif decide ((([] : List Int).length + ((v4.drop 0).take (v2.toNat - 0)).length) * 8 ≤ 140737488355328) then
 bif decide (((([] : List Int) ++ ((v4.drop 0).take (v2.toNat - 0))).length + (([v1] : List Int) ++ ((v4.drop v2.toNat).take (v4.length - v2.toNat))).length) * 8 ≤ 140737488355328) then
 Qz_l0 v0 (IntKind.i64.wrap (v1 - (1 : Int))) ((([] : List Int) ++ ((v4.drop 0).take (v2.toNat - 0))) ++ (([v1] : List Int) ++ ((v4.drop v2.toNat).take (v4.length - v2.toNat))))
 else
 none
 else
 none
 else
 none
 else
 none
 else
 none := (Q7 Q1 (Q0 (Qz.gok _)) _ _).trans (by kernel_rfl)
noncomputable abbrev QL.s : Sg := ⟨[.lend], [vl 3], ⟨[vo 3, vb], [none]⟩, Tryz.f62⟩
noncomputable def QL.gs (δ : Type) : List (Nat × Callee (GT tab) δ) := []
theorem QL.gok (δ : Type) : Q4 Tryz.prog tab (QL.gs δ) := .nil
noncomputable def QL.c := cx QL.s [] [] [(5, [0, 4, 5]), (9, [0, 4, 5, 6, 7])] false (QL.gs _)
noncomputable def QL (x0 : List Int) : Option ((List Int) × Bool) := fnW QL.s QL.c x0
theorem QL.fok : FkS QL.s 62 := ⟨Tryz.func62, by kernel_rfl, by kernel_rfl⟩
noncomputable def QL.fn (x : Args tab QL.s.ar) : Option (ResT tab QL.s.rs) := QL x
noncomputable abbrev QL.k {δ : Type} : Callee (GT tab) δ := kS QL.s QL.fn
theorem QL.con {δ : Type} : Con Tryz.prog (KT tab) 62 (QL.k (δ := δ)) := Q5 (c := QL.c) mixed Q1 (Q0 (QL.gok _)) QL.fok rfl rfl fun _ => rfl
noncomputable def QL_l0 (v0 : List Int) (v1 : Int) (v2 : List Int) : Option ((List Int) × Bool) := lpW QL.s QL.c 0 (ud 32 [.vs false 3 v0, .undef, .undef, .undef, .sl 0 0, .int .i64 v1]) [.row 0 true 3 v2] 1
noncomputable def QL_l1 (v0 : List Int) (v1 v2 v3 : Int) (v4 : List Int) : Option ((List Int) × Bool) := lpW QL.s QL.c 1 (ud 30 [.vs false 3 v0, .undef, .undef, .undef, .sl 0 0, .int .i64 v1, .int .i64 v2, .int .i64 v3]) [.row 0 true 3 v4] 1
theorem QL.eq (x0 : List Int) : QL x0 =
 bif decide ((x0.length : Int) > (301 : Int)) then
 some (([] : List Int), false)
 else
 QL_l0 x0 (0 : Int) ([] : List Int) := by kernel_rfl
theorem QL_l0.eq (v0 : List Int) (v1 : Int) (v2 : List Int) : QL_l0 v0 v1 v2 =
 bif decide (v1 < (v0.length : Int)) then
 QL_l1 v0 v1 (-1 : Int) (0 : Int) v2
 else
 some (v2, true) := (Q7 Q1 (Q0 (QL.gok _)) _ _).trans (by kernel_rfl)
theorem QL_l1.eq (v0 : List Int) (v1 v2 v3 : Int) (v4 : List Int) : QL_l1 v0 v1 v2 v3 v4 =
 bif decide (v3 < (v0.length : Int)) then
 (at? v0 v3).bind fun y1 =>
 bif y1 == v1 then
 QL_l1 v0 v1 v3 (IntKind.i64.wrap (v3 + (1 : Int))) v4
 else
 QL_l1 v0 v1 v2 (IntKind.i64.wrap (v3 + (1 : Int))) v4
 else
 bif decide (v2 < (0 : Int)) then
 some (([] : List Int), false)
 else
 bif decide ((v4.length + ([v2] : List Int).length) * 8 ≤ 140737488355328) then
 QL_l0 v0 (IntKind.i64.wrap (v1 + (1 : Int))) (v4 ++ ([v2] : List Int))
 else
 none := (Q7 Q1 (Q0 (QL.gok _)) _ _).trans (by kernel_rfl)
noncomputable abbrev Qt.s : Sg := ⟨[.lend], [vl 5], ⟨[vo 3], [none]⟩, Tryz.f22⟩
noncomputable def Qt.gs (δ : Type) : List (Nat × Callee (GT tab) δ) := [(56, Qz.k)]
theorem Qt.gok (δ : Type) : Q4 Tryz.prog tab (Qt.gs δ) := .cons Qz.con .nil
noncomputable def Qt.c := cx Qt.s [] [] [(4, [0, 3, 4, 5])] false (Qt.gs _)
noncomputable def Qt (x0 : List Int) : Option (List Int) := fnW Qt.s Qt.c x0
theorem Qt.fok : FkS Qt.s 22 := ⟨Tryz.func22, by kernel_rfl, by kernel_rfl⟩
noncomputable def Qt.fn (x : Args tab Qt.s.ar) : Option (ResT tab Qt.s.rs) := Qt x
noncomputable abbrev Qt.k {δ : Type} : Callee (GT tab) δ := kS Qt.s Qt.fn
theorem Qt.con {δ : Type} : Con Tryz.prog (KT tab) 22 (Qt.k (δ := δ)) := Q5 (c := Qt.c) mixed Q1 (Q0 (Qt.gok _)) Qt.fok rfl rfl fun _ => rfl
noncomputable def Qt_l0 (v0 : List Int) (v1 : Int) (v2 v3 : List Int) : Option (List Int) := lpW Qt.s Qt.c 0 (ud 31 [.vs false 5 v0, .undef, .undef, .sl 0 0, .sl 1 0, .int .i64 v1]) [.row 0 true 3 v2, .row 0 true 3 v3] 2
theorem Qt.eq (x0 : List Int) : Qt x0 =
 (Qz x0).bind fun y1 =>
 Qt_l0 x0 (0 : Int) y1 ([] : List Int) := by kernel_rfl
theorem Qt_l0.eq (v0 : List Int) (v1 : Int) (v2 v3 : List Int) : Qt_l0 v0 v1 v2 v3 =
 bif decide (v1 < (v2.length : Int)) then
 (at? v2 v1).bind fun y1 =>
 v2[v1.toNat]?.bind fun y2 =>
 bif y2 == (0 : Int) then
 bif decide ((v3.length + ([(0 : Int)] : List Int).length) * 8 ≤ 140737488355328) then
 Qt_l0 v0 (IntKind.i64.wrap (v1 + (1 : Int))) v2 (v3 ++ ([(0 : Int)] : List Int))
 else
 none
 else
 (at? v2 v1).bind fun y3 =>
 v2[v1.toNat]?.bind fun y4 =>
 (at? v0 (IntKind.i64.wrap (y4 - (1 : Int)))).bind fun y5 =>
 bif decide ((v3.length + ([IntKind.i64.wrap ((IntKind.i64.wrap y5) + (1 : Int))] : List Int).length) * 8 ≤ 140737488355328) then
 Qt_l0 v0 (IntKind.i64.wrap (v1 + (1 : Int))) v2 (v3 ++ ([IntKind.i64.wrap ((IntKind.i64.wrap y5) + (1 : Int))] : List Int))
 else
 none
 else
 some v3 := (Q7 Q1 (Q0 (Qt.gok _)) _ _).trans (by kernel_rfl)
noncomputable abbrev Q04.s : Sg := ⟨[.lend], [vl 3], ⟨[vb], [none]⟩, Tryz.f90⟩
noncomputable def Q04.gs (δ : Type) : List (Nat × Callee (GT tab) δ) := []
theorem Q04.gok (δ : Type) : Q4 Tryz.prog tab (Q04.gs δ) := .nil
noncomputable def Q04.c := cx Q04.s [] [] [(4, [0, 3])] false (Q04.gs _)
noncomputable def Q04 (x0 : List Int) : Option (Bool) := fnW Q04.s Q04.c x0
theorem Q04.fok : FkS Q04.s 90 := ⟨Tryz.func90, by kernel_rfl, by kernel_rfl⟩
noncomputable def Q04.fn (x : Args tab Q04.s.ar) : Option (ResT tab Q04.s.rs) := Q04 x
noncomputable abbrev Q04.k {δ : Type} : Callee (GT tab) δ := kS Q04.s Q04.fn
theorem Q04.con {δ : Type} : Con Tryz.prog (KT tab) 90 (Q04.k (δ := δ)) := Q5 (c := Q04.c) mixed Q1 (Q0 (Q04.gok _)) Q04.fok rfl rfl fun _ => rfl
noncomputable def Q04_l0 (v0 : List Int) (v1 : Int) : Option (Bool) := lpW Q04.s Q04.c 0 (ud 21 [.vs false 3 v0, .undef, .undef, .int .i64 v1]) [] 0
theorem Q04.eq (x0 : List Int) : Q04 x0 =
 bif decide ((x0.length : Int) > (301 : Int)) then
 some false
 else
 Q04_l0 x0 (0 : Int) := by kernel_rfl
theorem Q04_l0.eq (v0 : List Int) (v1 : Int) : Q04_l0 v0 v1 =
 bif decide (v1 < (v0.length : Int)) then
 (at? v0 v1).bind fun y1 =>
 bif decide (y1 < (0 : Int)) then
 some false
 else
 (at? v0 v1).bind fun y2 =>
 bif decide (y2 > (256 : Int)) then
 some false
 else
 Q04_l0 v0 (IntKind.i64.wrap (v1 + (1 : Int)))
 else
 some true := (Q7 Q1 (Q0 (Q04.gok _)) _ _).trans (by kernel_rfl)
noncomputable abbrev QM.s : Sg := ⟨[.lend], [vl 3], ⟨[vo 3], [none]⟩, Tryz.f63⟩
noncomputable def QM.gs (δ : Type) : List (Nat × Callee (GT tab) δ) := [(90, Q04.k)]
theorem QM.gok (δ : Type) : Q4 Tryz.prog tab (QM.gs δ) := .cons Q04.con .nil
noncomputable def QM.c := cx QM.s [] [] [(5, [0, 3, 4]), (9, [0, 3, 4, 5, 6])] false (QM.gs _)
noncomputable def QM (x0 : List Int) : Option (List Int) := fnW QM.s QM.c x0
theorem QM.fok : FkS QM.s 63 := ⟨Tryz.func63, by kernel_rfl, by kernel_rfl⟩
noncomputable def QM.fn (x : Args tab QM.s.ar) : Option (ResT tab QM.s.rs) := QM x
noncomputable abbrev QM.k {δ : Type} : Callee (GT tab) δ := kS QM.s QM.fn
theorem QM.con {δ : Type} : Con Tryz.prog (KT tab) 63 (QM.k (δ := δ)) := Q5 (c := QM.c) mixed Q1 (Q0 (QM.gok _)) QM.fok rfl rfl fun _ => rfl
noncomputable def QM_l0 (v0 : List Int) (v1 : Int) (v2 : List Int) : Option (List Int) := lpW QM.s QM.c 0 (ud 29 [.vs false 3 v0, .undef, .undef, .sl 0 0, .int .i64 v1]) [.row 0 true 3 v2] 1
noncomputable def QM_l1 (v0 : List Int) (v1 v2 v3 : Int) (v4 : List Int) : Option (List Int) := lpW QM.s QM.c 1 (ud 27 [.vs false 3 v0, .undef, .undef, .sl 0 0, .int .i64 v1, .int .i64 v2, .int .i64 v3]) [.row 0 true 3 v4] 1
theorem QM.eq (x0 : List Int) : QM x0 =
 (Q04 x0).bind fun y1 =>
 bif !y1 then
 some ([] : List Int)
 else
 QM_l0 x0 (0 : Int) ([] : List Int) := by kernel_rfl
theorem QM_l0.eq (v0 : List Int) (v1 : Int) (v2 : List Int) : QM_l0 v0 v1 v2 =
 bif decide (v1 ≤ (257 : Int)) then
 QM_l1 v0 v1 (0 : Int) (0 : Int) v2
 else
 some v2 := (Q7 Q1 (Q0 (QM.gok _)) _ _).trans (by kernel_rfl)
theorem QM_l1.eq (v0 : List Int) (v1 v2 v3 : Int) (v4 : List Int) : QM_l1 v0 v1 v2 v3 v4 =
 bif decide (v3 < (v0.length : Int)) then
 (at? v0 v3).bind fun y1 =>
 bif decide (y1 < v1) then
 QM_l1 v0 v1 (IntKind.i64.wrap (v2 + (1 : Int))) (IntKind.i64.wrap (v3 + (1 : Int))) v4
 else
 QM_l1 v0 v1 v2 (IntKind.i64.wrap (v3 + (1 : Int))) v4
 else
 bif decide ((v4.length + ([v2] : List Int).length) * 8 ≤ 140737488355328) then
 QM_l0 v0 (IntKind.i64.wrap (v1 + (1 : Int))) (v4 ++ ([v2] : List Int))
 else
 none := (Q7 Q1 (Q0 (QM.gok _)) _ _).trans (by kernel_rfl)
noncomputable abbrev Q05.s : Sg := ⟨[.lend], [vi], ⟨[vi], [none]⟩, Tryz.f92⟩
noncomputable def Q05.gs (δ : Type) : List (Nat × Callee (GT tab) δ) := []
theorem Q05.gok (δ : Type) : Q4 Tryz.prog tab (Q05.gs δ) := .nil
noncomputable def Q05.c := cx Q05.s [] [] [(2, [0, 3])] false (Q05.gs _)
noncomputable def Q05 (x0 : Int) : Option (Int) := fnW Q05.s Q05.c x0
theorem Q05.fok : FkS Q05.s 92 := ⟨Tryz.func92, by kernel_rfl, by kernel_rfl⟩
noncomputable def Q05.fn (x : Args tab Q05.s.ar) : Option (ResT tab Q05.s.rs) := Q05 x
noncomputable abbrev Q05.k {δ : Type} : Callee (GT tab) δ := kS Q05.s Q05.fn
theorem Q05.con {δ : Type} : Con Tryz.prog (KT tab) 92 (Q05.k (δ := δ)) := Q5 (c := Q05.c) mixed Q1 (Q0 (Q05.gok _)) Q05.fok rfl rfl fun _ => rfl
noncomputable def Q05_l0 (v0 v1 : Int) : Option (Int) := lpW Q05.s Q05.c 0 (ud 7 [.int .i64 v0, .undef, .undef, .int .i64 v1]) [] 0
theorem Q05.eq (x0 : Int) : Q05 x0 =
 Q05_l0 x0 (1 : Int) := by kernel_rfl
theorem Q05_l0.eq (v0 v1 : Int) : Q05_l0 v0 v1 =
 bif decide (v0 > (0 : Int)) then
 Q05_l0 (IntKind.i64.wrap (v0 - (1 : Int))) (IntKind.i64.wrap ((2 : Int) * v1))
 else
 some v1 := (Q7 Q1 (Q0 (Q05.gok _)) _ _).trans (by kernel_rfl)
noncomputable abbrev Q0g.s : Sg := ⟨[.lend], [vi], ⟨[.one (.b (.b (.b (.b (.int .u64)))))], [none]⟩, Tryz.f95⟩
noncomputable def Q0g.gs (δ : Type) : List (Nat × Callee (GT tab) δ) := []
theorem Q0g.gok (δ : Type) : Q4 Tryz.prog tab (Q0g.gs δ) := .nil
noncomputable def Q0g.c := cx Q0g.s [] [] [(2, [0, 3])] false (Q0g.gs _)
noncomputable def Q0g (x0 : Int) : Option (Int) := fnW Q0g.s Q0g.c x0
theorem Q0g.fok : FkS Q0g.s 95 := ⟨Tryz.func95, by kernel_rfl, by kernel_rfl⟩
noncomputable def Q0g.fn (x : Args tab Q0g.s.ar) : Option (ResT tab Q0g.s.rs) := Q0g x
noncomputable abbrev Q0g.k {δ : Type} : Callee (GT tab) δ := kS Q0g.s Q0g.fn
theorem Q0g.con {δ : Type} : Con Tryz.prog (KT tab) 95 (Q0g.k (δ := δ)) := Q5 (c := Q0g.c) mixed Q1 (Q0 (Q0g.gok _)) Q0g.fok rfl rfl fun _ => rfl
noncomputable def Q0g_l0 (v0 v1 : Int) : Option (Int) := lpW Q0g.s Q0g.c 0 (ud 7 [.int .i64 v0, .undef, .undef, .int .u64 v1]) [] 0
theorem Q0g.eq (x0 : Int) : Q0g x0 =
 Q0g_l0 x0 (1 : Int) := by kernel_rfl
theorem Q0g_l0.eq (v0 v1 : Int) : Q0g_l0 v0 v1 =
 bif decide (v0 > (0 : Int)) then
 Q0g_l0 (IntKind.i64.wrap (v0 - (1 : Int))) (IntKind.u64.wrap ((2 : Int) * v1))
 else
 some v1 := (Q7 Q1 (Q0 (Q0g.gok _)) _ _).trans (by kernel_rfl)
noncomputable abbrev Qo.s : Sg := ⟨[.lend], [vl 3], ⟨[.agg [.int .i64, .sl true true 92], vb], [none]⟩, Tryz.f65⟩
noncomputable def Qo.gs (δ : Type) : List (Nat × Callee (GT tab) δ) := [(95, Q0g.k)]
theorem Qo.gok (δ : Type) : Q4 Tryz.prog tab (Qo.gs δ) := .cons Q0g.con .nil
noncomputable def Qo.c := cx Qo.s [] [9] [(5, [0, 2, 4, 5]), (9, [0, 2, 4, 5])] false (Qo.gs _)
noncomputable def Qo (x0 : List Int) : Option ((Int × (List Int)) × Bool) := fnW Qo.s Qo.c x0
theorem Qo.fok : FkS Qo.s 65 := ⟨Tryz.func65, by kernel_rfl, by kernel_rfl⟩
noncomputable def Qo.fn (x : Args tab Qo.s.ar) : Option (ResT tab Qo.s.rs) := Qo x
noncomputable abbrev Qo.k {δ : Type} : Callee (GT tab) δ := kS Qo.s Qo.fn
theorem Qo.con {δ : Type} : Con Tryz.prog (KT tab) 65 (Qo.k (δ := δ)) := Q5 (c := Qo.c) mixed Q1 (Q0 (Qo.gok _)) Qo.fok rfl rfl fun _ => rfl
noncomputable def Qo_l0 (v0 : List Int) (v1 v2 : Int) (v3 : List Int) (v4 : Int) (v5 : List Int) : Option ((Int × (List Int)) × Bool) := lpW Qo.s Qo.c 0 (ud 55 [.vs false 3 v0, .undef, .ptr 0 0, .undef, .ptr 2 0, .int .i64 v1]) [.box 30 [.int .i64 v2, .sl 1 0], .row 0 true 92 v3, .box 30 [.int .i64 v4, .sl 3 0], .row 0 true 92 v5] 4
noncomputable def Qo_l1 (v0 : List Int) (v1 v2 : Int) (v3 : List Int) (v4 : Int) (v5 : List Int) : Option ((Int × (List Int)) × Bool) := lpW Qo.s Qo.c 1 (ud 55 [.vs false 3 v0, .undef, .ptr 0 0, .undef, .ptr 2 0, .int .i64 v1]) [.box 30 [.int .i64 v2, .sl 1 0], .row 0 true 92 v3, .box 30 [.int .i64 v4, .sl 3 0], .row 0 true 92 v5] 4
theorem Qo.eq (x0 : List Int) : Qo x0 =
 bif decide ((x0.length : Int) > (5000 : Int)) then
 some (((0 : Int), ([] : List Int)), false)
 else
 Qo_l0 x0 (0 : Int) (0 : Int) ([] : List Int) (x0.length : Int) ([] : List Int) := by kernel_rfl
theorem Qo_l0.eq (v0 : List Int) (v1 v2 : Int) (v3 : List Int) (v4 : Int) (v5 : List Int) : Qo_l0 v0 v1 v2 v3 v4 v5 =
 bif decide (v1 < (v0.length : Int)) then
 (at? v0 v1).bind fun y1 =>
 bif y1 != (0 : Int) then
 (at? v0 v1).bind fun y2 =>
 bif y2 != (1 : Int) then
 some (((0 : Int), ([] : List Int)), false)
 else
 Qo_l1 v0 v1 v2 v3 v4 v5
 else
 Qo_l1 v0 v1 v2 v3 v4 v5
 else
 some ((v4, v5), true) := (Q7 Q1 (Q0 (Qo.gok _)) _ _).trans (by kernel_rfl)
theorem Qo_l1.eq (v0 : List Int) (v1 v2 : Int) (v3 : List Int) (v4 : Int) (v5 : List Int) : Qo_l1 v0 v1 v2 v3 v4 v5 =
 bif v1.tmod (64 : Int) == (0 : Int) then
 bif decide ((v5.length + ([(0 : Int)] : List Int).length) * 8 ≤ 140737488355328) then
 (at? v0 v1).bind fun y1 =>
 bif y1 == (1 : Int) then
 (at? (v5 ++ ([(0 : Int)] : List Int)) (IntKind.i64.wrap (v1.tdiv (64 : Int)))).bind fun y2 =>
 (v5 ++ ([(0 : Int)] : List Int))[(IntKind.i64.wrap (v1.tdiv (64 : Int))).toNat]?.bind fun y3 =>
 (Q0g (v1.tmod (64 : Int))).bind fun y4 =>
 (at? (v5 ++ ([(0 : Int)] : List Int)) (IntKind.i64.wrap (v1.tdiv (64 : Int)))).bind fun y5 =>
 (v5 ++ ([(0 : Int)] : List Int))[(IntKind.i64.wrap (v1.tdiv (64 : Int))).toNat]?.bind fun y6 =>
 Qo_l0 v0 (IntKind.i64.wrap (v1 + (1 : Int))) v2 v3 v4 ((v5 ++ ([(0 : Int)] : List Int)).set ((IntKind.i64.wrap (v1.tdiv (64 : Int))).toNat) (IntKind.u64.wrap (y3 + y4)))
 else
 Qo_l0 v0 (IntKind.i64.wrap (v1 + (1 : Int))) v2 v3 v4 (v5 ++ ([(0 : Int)] : List Int))
 else
 none
 else
 (at? v0 v1).bind fun y7 =>
 bif y7 == (1 : Int) then
 (at? v5 (IntKind.i64.wrap (v1.tdiv (64 : Int)))).bind fun y8 =>
 v5[(IntKind.i64.wrap (v1.tdiv (64 : Int))).toNat]?.bind fun y9 =>
 (Q0g (v1.tmod (64 : Int))).bind fun y10 =>
 (at? v5 (IntKind.i64.wrap (v1.tdiv (64 : Int)))).bind fun y11 =>
 v5[(IntKind.i64.wrap (v1.tdiv (64 : Int))).toNat]?.bind fun y12 =>
 Qo_l0 v0 (IntKind.i64.wrap (v1 + (1 : Int))) v2 v3 v4 (v5.set ((IntKind.i64.wrap (v1.tdiv (64 : Int))).toNat) (IntKind.u64.wrap (y9 + y10)))
 else
 Qo_l0 v0 (IntKind.i64.wrap (v1 + (1 : Int))) v2 v3 v4 v5 := (Q7 Q1 (Q0 (Qo.gok _)) _ _).trans (by kernel_rfl)
noncomputable abbrev Qj.s : Sg := ⟨[.lend], [vl 3], ⟨[.agg [.int .i64, .sl true true 3, .sl true true 30], vb], [none]⟩, Tryz.f49⟩
noncomputable def Qj.gs (δ : Type) : List (Nat × Callee (GT tab) δ) := [(65, Qo.k), (92, Q05.k)]
theorem Qj.gok (δ : Type) : Q4 Tryz.prog tab (Qj.gs δ) := .cons Qo.con (.cons Q05.con .nil)
noncomputable def Qj.c := cx Qj.s [] [] [(4, [0, 2, 4]), (11, [2, 5, 6, 7]), (17, [2, 5, 6, 7, 8, 9, 10, 11])] false (Qj.gs _)
noncomputable def Qj (x0 : List Int) : Option ((Int × (List Int) × (List (Int × (List Int)))) × Bool) := fnW Qj.s Qj.c x0
theorem Qj.fok : FkS Qj.s 49 := ⟨Tryz.func49, by kernel_rfl, by kernel_rfl⟩
noncomputable def Qj.fn (x : Args tab Qj.s.ar) : Option (ResT tab Qj.s.rs) := Qj x
noncomputable abbrev Qj.k {δ : Type} : Callee (GT tab) δ := kS Qj.s Qj.fn
theorem Qj.con {δ : Type} : Con Tryz.prog (KT tab) 49 (Qj.k (δ := δ)) := Q5 (c := Qj.c) mixed Q1 (Q0 (Qj.gok _)) Qj.fok rfl rfl fun _ => rfl
noncomputable def Qj_l0 (v0 : List Int) (v1 v2 : Int) (v3 : List Int) (v4 : List (Int × (List Int))) : Option ((Int × (List Int) × (List (Int × (List Int)))) × Bool) := lpW Qj.s Qj.c 0 (ud 103 [.vs false 3 v0, .undef, .ptr 0 0, .undef, .int .i64 v1]) [.box 27 [.int .i64 v2, .sl 1 0, .sl 2 0], .row 0 true 3 v3, .row 0 true 30 v4] 3
noncomputable def Qj_l1 (v0 v1 : Int) (v2 : List Int) (v3 : List (Int × (List Int))) (v4 : Int) (v5 : List Int) (v6 : List (Int × (List Int))) (v7 : List Int) : Option ((Int × (List Int) × (List (Int × (List Int)))) × Bool) := lpW Qj.s Qj.c 1 (ud 100 [.undef, .undef, .ptr 0 0, .undef, .undef, .ptr 3 0, .sl 6 0, .int .i64 v0]) [.box 27 [.int .i64 v1, .sl 1 0, .sl 2 0], .row 0 true 3 v2, .row 0 true 30 v3, .box 27 [.int .i64 v4, .sl 4 0, .sl 5 0], .row 0 true 3 v5, .row 0 true 30 v6, .row 0 true 3 v7] 7
noncomputable def Qj_l2 (v0 v1 v2 : Int) (v3 : List Int) (v4 : List (Int × (List Int))) (v5 : Int) (v6 : List Int) (v7 : List (Int × (List Int))) (v8 v9 v10 v11 : List Int) : Option ((Int × (List Int) × (List (Int × (List Int)))) × Bool) := lpW Qj.s Qj.c 2 (ud 96 [.undef, .undef, .ptr 0 0, .undef, .undef, .ptr 3 0, .sl 6 0, .int .i64 v0, .sl 7 0, .sl 8 0, .sl 9 0, .int .i64 v1]) [.box 27 [.int .i64 v2, .sl 1 0, .sl 2 0], .row 0 true 3 v3, .row 0 true 30 v4, .box 27 [.int .i64 v5, .sl 4 0, .sl 5 0], .row 0 true 3 v6, .row 0 true 30 v7, .row 0 true 3 v8, .row 0 true 3 v9, .row 0 true 3 v10, .row 0 true 3 v11] 10
theorem Qj.eq (x0 : List Int) : Qj x0 =
 bif decide ((x0.length : Int) > (1000 : Int)) then
 some (((0 : Int), ([] : List Int), ([] : List (Int × (List Int)))), false)
 else
 Qj_l0 x0 (0 : Int) (0 : Int) ([] : List Int) ([] : List (Int × (List Int))) := by kernel_rfl
theorem Qj_l0.eq (v0 : List Int) (v1 v2 : Int) (v3 : List Int) (v4 : List (Int × (List Int))) : Qj_l0 v0 v1 v2 v3 v4 =
 bif decide (v1 < (v0.length : Int)) then
 (at? v0 v1).bind fun y1 =>
 bif decide (y1 < (0 : Int)) then
 some (((0 : Int), ([] : List Int), ([] : List (Int × (List Int)))), false)
 else
 (at? v0 v1).bind fun y2 =>
 bif decide (y2 > (511 : Int)) then
 some (((0 : Int), ([] : List Int), ([] : List (Int × (List Int)))), false)
 else
 Qj_l0 v0 (IntKind.i64.wrap (v1 + (1 : Int))) v2 v3 v4
 else
 bif decide ((([] : List Int).length + v0.length) * 8 ≤ 140737488355328) then
 Qj_l1 (0 : Int) v2 v3 v4 (v0.length : Int) ([] : List Int) ([] : List (Int × (List Int))) (([] : List Int) ++ v0)
 else
 none := (Q7 Q1 (Q0 (Qj.gok _)) _ _).trans (by kernel_rfl)
theorem Qj_l1.eq (v0 v1 : Int) (v2 : List Int) (v3 : List (Int × (List Int))) (v4 : Int) (v5 : List Int) (v6 : List (Int × (List Int))) (v7 : List Int) : Qj_l1 v0 v1 v2 v3 v4 v5 v6 v7 =
 bif decide (v0 < (9 : Int)) then
 Qj_l2 v0 (0 : Int) v1 v2 v3 v4 v5 v6 v7 ([] : List Int) ([] : List Int) ([] : List Int)
 else
 some ((v4, v5, v6), true) := (Q7 Q1 (Q0 (Qj.gok _)) _ _).trans (by kernel_rfl)
theorem Qj_l2.eq (v0 v1 v2 : Int) (v3 : List Int) (v4 : List (Int × (List Int))) (v5 : Int) (v6 : List Int) (v7 : List (Int × (List Int))) (v8 v9 v10 v11 : List Int) : Qj_l2 v0 v1 v2 v3 v4 v5 v6 v7 v8 v9 v10 v11 =
 bif decide (v1 < (v8.length : Int)) then
 (at? v8 v1).bind fun y1 =>
 v8[v1.toNat]?.bind fun y2 =>
 (Q05 (IntKind.i64.wrap ((8 : Int) - v0))).bind fun y3 =>
 bif decide (y3 = (0 : Int)) then
 none
 else
 bif decide ((v9.length + ([(IntKind.i64.wrap (y2.tdiv y3)).tmod (2 : Int)] : List Int).length) * 8 ≤ 140737488355328) then
 bif (IntKind.i64.wrap (y2.tdiv y3)).tmod (2 : Int) == (0 : Int) then
 (at? v8 v1).bind fun y4 =>
 v8[v1.toNat]?.bind fun y5 =>
 bif decide ((v10.length + ([y5] : List Int).length) * 8 ≤ 140737488355328) then
 Qj_l2 v0 (IntKind.i64.wrap (v1 + (1 : Int))) v2 v3 v4 v5 v6 v7 v8 (v9 ++ ([(IntKind.i64.wrap (y2.tdiv y3)).tmod (2 : Int)] : List Int)) (v10 ++ ([y5] : List Int)) v11
 else
 none
 else
 (at? v8 v1).bind fun y6 =>
 v8[v1.toNat]?.bind fun y7 =>
 bif decide ((v11.length + ([y7] : List Int).length) * 8 ≤ 140737488355328) then
 Qj_l2 v0 (IntKind.i64.wrap (v1 + (1 : Int))) v2 v3 v4 v5 v6 v7 v8 (v9 ++ ([(IntKind.i64.wrap (y2.tdiv y3)).tmod (2 : Int)] : List Int)) v10 (v11 ++ ([y7] : List Int))
 else
 none
 else
 none
 else
 (Qo v9).bind fun y8 =>
 bif decide ((v7.length + ([(y8.1.1, y8.1.2)] : List (Int × (List Int))).length) * 32 ≤ 140737488355328) then
 bif decide ((v6.length + ([(v10.length : Int)] : List Int).length) * 8 ≤ 140737488355328) then
 bif decide ((v10.length + v11.length) * 8 ≤ 140737488355328) then
 Qj_l1 (IntKind.i64.wrap (v0 + (1 : Int))) v2 v3 v4 v5 (v6 ++ ([(v10.length : Int)] : List Int)) (v7 ++ ([(y8.1.1, y8.1.2)] : List (Int × (List Int)))) (v10 ++ v11)
 else
 none
 else
 none
 else
 none := (Q7 Q1 (Q0 (Qj.gok _)) _ _).trans (by kernel_rfl)
noncomputable abbrev Q0F.s : Sg := ⟨[.lend], [vb], ⟨[vi], [none]⟩, Tryz.f64⟩
noncomputable def Q0F.gs (δ : Type) : List (Nat × Callee (GT tab) δ) := []
theorem Q0F.gok (δ : Type) : Q4 Tryz.prog tab (Q0F.gs δ) := .nil
noncomputable def Q0F.c := cx Q0F.s [] [] [] false (Q0F.gs _)
noncomputable def Q0F (x0 : Bool) : Option (Int) := fnW Q0F.s Q0F.c x0
theorem Q0F.fok : FkS Q0F.s 64 := ⟨Tryz.func64, by kernel_rfl, by kernel_rfl⟩
noncomputable def Q0F.fn (x : Args tab Q0F.s.ar) : Option (ResT tab Q0F.s.rs) := Q0F x
noncomputable abbrev Q0F.k {δ : Type} : Callee (GT tab) δ := kS Q0F.s Q0F.fn
theorem Q0F.con {δ : Type} : Con Tryz.prog (KT tab) 64 (Q0F.k (δ := δ)) := Q5 (c := Q0F.c) mixed Q1 (Q0 (Q0F.gok _)) Q0F.fok rfl rfl fun _ => rfl
theorem Q0F.eq (x0 : Bool) : Q0F x0 =
 bif x0 then
 some (1 : Int)
 else
 some (0 : Int) := by kernel_rfl
noncomputable abbrev Q0h.s : Sg := ⟨[.lend], [vi], ⟨[vi], [none]⟩, Tryz.f67⟩
noncomputable def Q0h.gs (δ : Type) : List (Nat × Callee (GT tab) δ) := []
theorem Q0h.gok (δ : Type) : Q4 Tryz.prog tab (Q0h.gs δ) := .nil
noncomputable def Q0h.c := cx Q0h.s [] [] [(4, [0, 3])] false (Q0h.gs _)
noncomputable def Q0h (x0 : Int) : Option (Int) := fnW Q0h.s Q0h.c x0
theorem Q0h.fok : FkS Q0h.s 67 := ⟨Tryz.func67, by kernel_rfl, by kernel_rfl⟩
noncomputable def Q0h.fn (x : Args tab Q0h.s.ar) : Option (ResT tab Q0h.s.rs) := Q0h x
noncomputable abbrev Q0h.k {δ : Type} : Callee (GT tab) δ := kS Q0h.s Q0h.fn
theorem Q0h.con {δ : Type} : Con Tryz.prog (KT tab) 67 (Q0h.k (δ := δ)) := Q5 (c := Q0h.c) mixed Q1 (Q0 (Q0h.gok _)) Q0h.fok rfl rfl fun _ => rfl
noncomputable def Q0h_l0 (v0 v1 : Int) : Option (Int) := lpW Q0h.s Q0h.c 0 (ud 9 [.int .i64 v0, .undef, .undef, .int .i64 v1]) [] 0
theorem Q0h.eq (x0 : Int) : Q0h x0 =
 bif decide (x0 < (0 : Int)) then
 some (-1 : Int)
 else
 Q0h_l0 x0 (0 : Int) := by kernel_rfl
theorem Q0h_l0.eq (v0 v1 : Int) : Q0h_l0 v0 v1 =
 bif decide (v0 > (0 : Int)) then
 Q0h_l0 (IntKind.i64.wrap (v0.tdiv (2 : Int))) (IntKind.i64.wrap (v1 + (1 : Int)))
 else
 some v1 := (Q7 Q1 (Q0 (Q0h.gok _)) _ _).trans (by kernel_rfl)
noncomputable abbrev Qm.s : Sg := ⟨[.lend, .lend], [vl 3, vi], ⟨[.agg [.int .i64, .int .i64, .int .i64, .sl true true 92], vb], [none, none]⟩, Tryz.f66⟩
noncomputable def Qm.gs (δ : Type) : List (Nat × Callee (GT tab) δ) := [(65, Qo.k), (92, Q05.k)]
theorem Qm.gok (δ : Type) : Q4 Tryz.prog tab (Qm.gs δ) := .cons Qo.con (.cons Q05.con .nil)
noncomputable def Qm.c := cx Qm.s [] [3, 10] [(3, [0, 1, 4]), (5, [0, 1, 4, 6, 7]), (10, [0, 1, 4, 6, 7, 8]), (11, [0, 1, 4, 6, 7, 8, 9])] false (Qm.gs _)
noncomputable def Qm (x0 : List Int) (x1 : Int) : Option ((Int × Int × Int × (List Int)) × Bool) := fnW Qm.s Qm.c (x0, x1)
theorem Qm.fok : FkS Qm.s 66 := ⟨Tryz.func66, by kernel_rfl, by kernel_rfl⟩
noncomputable def Qm.fn (x : Args tab Qm.s.ar) : Option (ResT tab Qm.s.rs) := Qm x.1 x.2
noncomputable abbrev Qm.k {δ : Type} : Callee (GT tab) δ := kS Qm.s Qm.fn
theorem Qm.con {δ : Type} : Con Tryz.prog (KT tab) 66 (Qm.k (δ := δ)) := Q5 (c := Qm.c) mixed Q1 (Q0 (Qm.gok _)) Qm.fok rfl rfl fun _ => rfl
noncomputable def Qm_l0 (v0 : List Int) (v1 v2 v3 v4 : Int) (v5 : List Int) : Option ((Int × Int × Int × (List Int)) × Bool) := lpW Qm.s Qm.c 0 (ud 68 [.vs false 3 v0, .int .i64 v1, .undef, .undef, .ptr 0 0]) [.box 32 [.int .i64 v2, .int .i64 v3, .int .i64 v4, .sl 1 0], .row 0 true 92 v5] 2
noncomputable def Qm_l1 (v0 : List Int) (v1 v2 v3 v4 v5 : Int) (v6 v7 : List Int) : Option ((Int × Int × Int × (List Int)) × Bool) := lpW Qm.s Qm.c 1 (ud 65 [.vs false 3 v0, .int .i64 v1, .undef, .undef, .ptr 0 0, .undef, .sl 2 0, .int .i64 v2]) [.box 32 [.int .i64 v3, .int .i64 v4, .int .i64 v5, .sl 1 0], .row 0 true 92 v6, .row 0 true 3 v7] 3
noncomputable def Qm_l2 (v0 : List Int) (v1 v2 v3 v4 v5 v6 : Int) (v7 v8 : List Int) : Option ((Int × Int × Int × (List Int)) × Bool) := lpW Qm.s Qm.c 2 (ud 64 [.vs false 3 v0, .int .i64 v1, .undef, .undef, .ptr 0 0, .undef, .sl 2 0, .int .i64 v2, .int .i64 v3]) [.box 32 [.int .i64 v4, .int .i64 v5, .int .i64 v6, .sl 1 0], .row 0 true 92 v7, .row 0 true 3 v8] 3
noncomputable def Qm_l3 (v0 : List Int) (v1 v2 v3 v4 v5 v6 v7 : Int) (v8 v9 : List Int) : Option ((Int × Int × Int × (List Int)) × Bool) := lpW Qm.s Qm.c 3 (ud 63 [.vs false 3 v0, .int .i64 v1, .undef, .undef, .ptr 0 0, .undef, .sl 2 0, .int .i64 v2, .int .i64 v3, .int .i64 v4]) [.box 32 [.int .i64 v5, .int .i64 v6, .int .i64 v7, .sl 1 0], .row 0 true 92 v8, .row 0 true 3 v9] 3
theorem Qm.eq (x0 : List Int) (x1 : Int) : Qm x0 x1 =
 bif decide (x1 < (0 : Int)) then
 some (((0 : Int), (0 : Int), (0 : Int), ([] : List Int)), false)
 else
 bif decide (x1 > (32 : Int)) then
 some (((0 : Int), (0 : Int), (0 : Int), ([] : List Int)), false)
 else
 bif decide ((x0.length : Int) > (5000 : Int)) then
 some (((0 : Int), (0 : Int), (0 : Int), ([] : List Int)), false)
 else
 bif decide (IntKind.i64.wrap ((x0.length : Int) * x1) > (5000 : Int)) then
 some (((0 : Int), (0 : Int), (0 : Int), ([] : List Int)), false)
 else
 Qm_l0 x0 x1 (0 : Int) (0 : Int) (0 : Int) ([] : List Int) := by kernel_rfl
theorem Qm_l0.eq (v0 : List Int) (v1 v2 v3 v4 : Int) (v5 : List Int) : Qm_l0 v0 v1 v2 v3 v4 v5 =
 Qm_l1 v0 v1 (0 : Int) v2 v3 v4 v5 ([] : List Int) := (Q7 Q1 (Q0 (Qm.gok _)) _ _).trans (by kernel_rfl)
theorem Qm_l1.eq (v0 : List Int) (v1 v2 v3 v4 v5 : Int) (v6 v7 : List Int) : Qm_l1 v0 v1 v2 v3 v4 v5 v6 v7 =
 bif decide (v2 < (v0.length : Int)) then
 (at? v0 v2).bind fun y1 =>
 bif decide (y1 < (0 : Int)) then
 some (((0 : Int), (0 : Int), (0 : Int), ([] : List Int)), false)
 else
 (Q05 v1).bind fun y2 =>
 bif decide (y1 ≥ y2) then
 some (((0 : Int), (0 : Int), (0 : Int), ([] : List Int)), false)
 else
 Qm_l2 v0 v1 v2 y1 v3 v4 v5 v6 v7
 else
 (Qo v7).bind fun y3 =>
 some ((v1, (v0.length : Int), y3.1.1, y3.1.2), true) := (Q7 Q1 (Q0 (Qm.gok _)) _ _).trans (by kernel_rfl)
theorem Qm_l2.eq (v0 : List Int) (v1 v2 v3 v4 v5 v6 : Int) (v7 v8 : List Int) : Qm_l2 v0 v1 v2 v3 v4 v5 v6 v7 v8 =
 Qm_l3 v0 v1 v2 v3 (0 : Int) v4 v5 v6 v7 v8 := (Q7 Q1 (Q0 (Qm.gok _)) _ _).trans (by kernel_rfl)
theorem Qm_l3.eq (v0 : List Int) (v1 v2 v3 v4 v5 v6 v7 : Int) (v8 v9 : List Int) : Qm_l3 v0 v1 v2 v3 v4 v5 v6 v7 v8 v9 =
 bif decide (v4 < v1) then
 bif decide ((v9.length + ([v3.tmod (2 : Int)] : List Int).length) * 8 ≤ 140737488355328) then
 Qm_l3 v0 v1 v2 (IntKind.i64.wrap (v3.tdiv (2 : Int))) (IntKind.i64.wrap (v4 + (1 : Int))) v5 v6 v7 v8 (v9 ++ ([v3.tmod (2 : Int)] : List Int))
 else
 none
 else
 Qm_l1 v0 v1 (IntKind.i64.wrap (v2 + (1 : Int))) v5 v6 v7 v8 v9 := (Q7 Q1 (Q0 (Qm.gok _)) _ _).trans (by kernel_rfl)
noncomputable abbrev Qn.s : Sg := ⟨[.lend, .lend], [vl 5, vi], ⟨[.agg [.int .i64, .int .i64, .int .i64, .sl true true 3, .sl true true 30, .sl true true 3, .int .i64, .sl true true 92, .int .i64, .int .i64, .int .i64, .sl true true 92, .int .i64, .int .i64, .int .i64, .sl true true 92], vb], [none, none]⟩, Tryz.f29⟩
noncomputable def Qn.gs (δ : Type) : List (Nat × Callee (GT tab) δ) := [(22, Qt.k), (43, Q0t.k), (49, Qj.k), (56, Qz.k), (61, Q0B.k), (62, QL.k), (63, QM.k), (64, Q0F.k), (65, Qo.k), (66, Qm.k), (67, Q0h.k)]
theorem Qn.gok (δ : Type) : Q4 Tryz.prog tab (Qn.gs δ) := .cons Qt.con (.cons Q0t.con (.cons Qj.con (.cons Qz.con (.cons Q0B.con (.cons QL.con (.cons QM.con (.cons Q0F.con (.cons Qo.con (.cons Qm.con (.cons Q0h.con .nil))))))))))
noncomputable def Qn.c := cx Qn.s [] [3] [(3, [0, 1, 4]), (11, [0, 1, 4, 6, 7, 10, 11, 12, 13]), (18, [0, 1, 4, 7, 10, 11, 12, 14, 15])] false (Qn.gs _)
noncomputable def Qn (x0 : List Int) (x1 : Int) : Option ((Int × Int × Int × (List Int) × (List (Int × (List Int))) × (List Int) × Int × (List Int) × Int × Int × Int × (List Int) × Int × Int × Int × (List Int)) × Bool) := fnW Qn.s Qn.c (x0, x1)
theorem Qn.fok : FkS Qn.s 29 := ⟨Tryz.func29, by kernel_rfl, by kernel_rfl⟩
noncomputable def Qn.fn (x : Args tab Qn.s.ar) : Option (ResT tab Qn.s.rs) := Qn x.1 x.2
noncomputable abbrev Qn.k {δ : Type} : Callee (GT tab) δ := kS Qn.s Qn.fn
theorem Qn.con {δ : Type} : Con Tryz.prog (KT tab) 29 (Qn.k (δ := δ)) := Q5 (c := Qn.c) mixed Q1 (Q0 (Qn.gok _)) Qn.fok rfl rfl fun _ => rfl
noncomputable def Qn_l0 (v0 : List Int) (v1 v2 v3 v4 v5 v6 v7 v8 v9 v10 v11 : Int) (v12 : List Int) (v13 : List (Int × (List Int))) (v14 v15 v16 v17 : List Int) : Option ((Int × Int × Int × (List Int) × (List (Int × (List Int))) × (List Int) × Int × (List Int) × Int × Int × Int × (List Int) × Int × Int × Int × (List Int)) × Bool) := lpW Qn.s Qn.c 0 (ud 116 [.vs false 5 v0, .int .i64 v1, .undef, .undef, .ptr 0 0]) [.box 34 [.int .i64 v2, .int .i64 v3, .int .i64 v4, .sl 1 0, .sl 2 0, .sl 3 0, .int .i64 v5, .sl 4 0, .int .i64 v6, .int .i64 v7, .int .i64 v8, .sl 5 0, .int .i64 v9, .int .i64 v10, .int .i64 v11, .sl 6 0], .row 0 true 3 v12, .row 0 true 30 v13, .row 0 true 3 v14, .row 0 true 92 v15, .row 0 true 92 v16, .row 0 true 92 v17] 7
noncomputable def Qn_l1 (v0 : List Int) (v1 v2 v3 v4 v5 v6 v7 v8 v9 v10 v11 v12 : Int) (v13 : List Int) (v14 : List (Int × (List Int))) (v15 v16 v17 v18 v19 v20 : List Int) (v21 v22 v23 v24 v25 v26 v27 v28 v29 v30 : Int) (v31 : List Int) (v32 : List (Int × (List Int))) (v33 v34 v35 v36 v37 v38 : List Int) : Option ((Int × Int × Int × (List Int) × (List (Int × (List Int))) × (List Int) × Int × (List Int) × Int × Int × Int × (List Int) × Int × Int × Int × (List Int)) × Bool) := lpW Qn.s Qn.c 1 (ud 107 [.vs false 5 v0, .int .i64 v1, .undef, .undef, .ptr 0 0, .undef, .sl 7 0, .sl 8 0, .undef, .undef, .ptr 9 0, .sl 16 0, .sl 17 0, .int .i64 v2]) [.box 34 [.int .i64 v3, .int .i64 v4, .int .i64 v5, .sl 1 0, .sl 2 0, .sl 3 0, .int .i64 v6, .sl 4 0, .int .i64 v7, .int .i64 v8, .int .i64 v9, .sl 5 0, .int .i64 v10, .int .i64 v11, .int .i64 v12, .sl 6 0], .row 0 true 3 v13, .row 0 true 30 v14, .row 0 true 3 v15, .row 0 true 92 v16, .row 0 true 92 v17, .row 0 true 92 v18, .row 0 true 3 v19, .row 0 true 3 v20, .box 34 [.int .i64 v21, .int .i64 v22, .int .i64 v23, .sl 10 0, .sl 11 0, .sl 12 0, .int .i64 v24, .sl 13 0, .int .i64 v25, .int .i64 v26, .int .i64 v27, .sl 14 0, .int .i64 v28, .int .i64 v29, .int .i64 v30, .sl 15 0], .row 0 true 3 v31, .row 0 true 30 v32, .row 0 true 3 v33, .row 0 true 92 v34, .row 0 true 92 v35, .row 0 true 92 v36, .row 0 true 3 v37, .row 0 true 3 v38] 18
noncomputable def Qn_l2 (v0 : List Int) (v1 v2 v3 v4 v5 v6 v7 v8 v9 v10 v11 v12 : Int) (v13 : List Int) (v14 : List (Int × (List Int))) (v15 v16 v17 v18 v19 : List Int) (v20 v21 v22 v23 v24 v25 v26 v27 v28 v29 : Int) (v30 : List Int) (v31 : List (Int × (List Int))) (v32 v33 v34 v35 v36 v37 v38 : List Int) : Option ((Int × Int × Int × (List Int) × (List (Int × (List Int))) × (List Int) × Int × (List Int) × Int × Int × Int × (List Int) × Int × Int × Int × (List Int)) × Bool) := lpW Qn.s Qn.c 2 (ud 105 [.vs false 5 v0, .int .i64 v1, .undef, .undef, .ptr 0 0, .undef, .undef, .sl 7 0, .undef, .undef, .ptr 8 0, .sl 15 0, .sl 16 0, .undef, .sl 17 0, .int .i64 v2]) [.box 34 [.int .i64 v3, .int .i64 v4, .int .i64 v5, .sl 1 0, .sl 2 0, .sl 3 0, .int .i64 v6, .sl 4 0, .int .i64 v7, .int .i64 v8, .int .i64 v9, .sl 5 0, .int .i64 v10, .int .i64 v11, .int .i64 v12, .sl 6 0], .row 0 true 3 v13, .row 0 true 30 v14, .row 0 true 3 v15, .row 0 true 92 v16, .row 0 true 92 v17, .row 0 true 92 v18, .row 0 true 3 v19, .box 34 [.int .i64 v20, .int .i64 v21, .int .i64 v22, .sl 9 0, .sl 10 0, .sl 11 0, .int .i64 v23, .sl 12 0, .int .i64 v24, .int .i64 v25, .int .i64 v26, .sl 13 0, .int .i64 v27, .int .i64 v28, .int .i64 v29, .sl 14 0], .row 0 true 3 v30, .row 0 true 30 v31, .row 0 true 3 v32, .row 0 true 92 v33, .row 0 true 92 v34, .row 0 true 92 v35, .row 0 true 3 v36, .row 0 true 3 v37, .row 0 true 3 v38] 18
theorem Qn.eq (x0 : List Int) (x1 : Int) : Qn x0 x1 =
 (Q0B x0).bind fun y1 =>
 bif !y1 then
 some (((0 : Int), (0 : Int), (0 : Int), ([] : List Int), ([] : List (Int × (List Int))), ([] : List Int), (0 : Int), ([] : List Int), (0 : Int), (0 : Int), (0 : Int), ([] : List Int), (0 : Int), (0 : Int), (0 : Int), ([] : List Int)), false)
 else
 (Q0t x1).bind fun y2 =>
 bif !y2 then
 some (((0 : Int), (0 : Int), (0 : Int), ([] : List Int), ([] : List (Int × (List Int))), ([] : List Int), (0 : Int), ([] : List Int), (0 : Int), (0 : Int), (0 : Int), ([] : List Int), (0 : Int), (0 : Int), (0 : Int), ([] : List Int)), false)
 else
 Qn_l0 x0 x1 (0 : Int) (0 : Int) (0 : Int) (0 : Int) (0 : Int) (0 : Int) (0 : Int) (0 : Int) (0 : Int) (0 : Int) ([] : List Int) ([] : List (Int × (List Int))) ([] : List Int) ([] : List Int) ([] : List Int) ([] : List Int) := by kernel_rfl
theorem Qn_l0.eq (v0 : List Int) (v1 v2 v3 v4 v5 v6 v7 v8 v9 v10 v11 : Int) (v12 : List Int) (v13 : List (Int × (List Int))) (v14 v15 v16 v17 : List Int) : Qn_l0 v0 v1 v2 v3 v4 v5 v6 v7 v8 v9 v10 v11 v12 v13 v14 v15 v16 v17 =
 (Qz v0).bind fun y1 =>
 (QL y1).bind fun y2 =>
 (Qt v0).bind fun y3 =>
 (QM y3).bind fun y4 =>
 (Qj y3).bind fun y5 =>
 Qn_l1 v0 v1 (0 : Int) v2 v3 v4 v5 v6 v7 v8 v9 v10 v11 v12 v13 v14 v15 v16 v17 y1 y2.1 (v0.length : Int) v1 y5.1.1 (0 : Int) (0 : Int) (0 : Int) (0 : Int) (0 : Int) (0 : Int) (0 : Int) y5.1.2.1 y5.1.2.2 y4 ([] : List Int) ([] : List Int) ([] : List Int) ([] : List Int) ([] : List Int) := (Q7 Q1 (Q0 (Qn.gok _)) _ _).trans (by kernel_rfl)
theorem Qn_l1.eq (v0 : List Int) (v1 v2 v3 v4 v5 v6 v7 v8 v9 v10 v11 v12 : Int) (v13 : List Int) (v14 : List (Int × (List Int))) (v15 v16 v17 v18 v19 v20 : List Int) (v21 v22 v23 v24 v25 v26 v27 v28 v29 v30 : Int) (v31 : List Int) (v32 : List (Int × (List Int))) (v33 v34 v35 v36 v37 v38 : List Int) : Qn_l1 v0 v1 v2 v3 v4 v5 v6 v7 v8 v9 v10 v11 v12 v13 v14 v15 v16 v17 v18 v19 v20 v21 v22 v23 v24 v25 v26 v27 v28 v29 v30 v31 v32 v33 v34 v35 v36 v37 v38 =
 bif decide (v2 < (v19.length : Int)) then
 (at? v19 v2).bind fun y1 =>
 v19[v2.toNat]?.bind fun y2 =>
 bif decide (v1 = (0 : Int)) then
 none
 else
 (Q0F (y2.tmod v1 == (0 : Int))).bind fun y3 =>
 bif decide ((v37.length + ([y3] : List Int).length) * 8 ≤ 140737488355328) then
 (at? v19 v2).bind fun y4 =>
 v19[v2.toNat]?.bind fun y5 =>
 bif decide (v1 = (0 : Int)) then
 none
 else
 bif y5.tmod v1 == (0 : Int) then
 (at? v19 v2).bind fun y6 =>
 v19[v2.toNat]?.bind fun y7 =>
 bif decide (v1 = (0 : Int)) then
 none
 else
 bif decide ((v38.length + ([IntKind.i64.wrap (y7.tdiv v1)] : List Int).length) * 8 ≤ 140737488355328) then
 Qn_l1 v0 v1 (IntKind.i64.wrap (v2 + (1 : Int))) v3 v4 v5 v6 v7 v8 v9 v10 v11 v12 v13 v14 v15 v16 v17 v18 v19 v20 v21 v22 v23 v24 v25 v26 v27 v28 v29 v30 v31 v32 v33 v34 v35 v36 (v37 ++ ([y3] : List Int)) (v38 ++ ([IntKind.i64.wrap (y7.tdiv v1)] : List Int))
 else
 none
 else
 Qn_l1 v0 v1 (IntKind.i64.wrap (v2 + (1 : Int))) v3 v4 v5 v6 v7 v8 v9 v10 v11 v12 v13 v14 v15 v16 v17 v18 v19 v20 v21 v22 v23 v24 v25 v26 v27 v28 v29 v30 v31 v32 v33 v34 v35 v36 (v37 ++ ([y3] : List Int)) v38
 else
 none
 else
 Qn_l2 v0 v1 (0 : Int) v3 v4 v5 v6 v7 v8 v9 v10 v11 v12 v13 v14 v15 v16 v17 v18 v20 v21 v22 v23 v24 v25 v26 v27 v28 v29 v30 v31 v32 v33 v34 v35 v36 v37 v38 ([] : List Int) := (Q7 Q1 (Q0 (Qn.gok _)) _ _).trans (by kernel_rfl)
theorem Qn_l2.eq (v0 : List Int) (v1 v2 v3 v4 v5 v6 v7 v8 v9 v10 v11 v12 : Int) (v13 : List Int) (v14 : List (Int × (List Int))) (v15 v16 v17 v18 v19 : List Int) (v20 v21 v22 v23 v24 v25 v26 v27 v28 v29 : Int) (v30 : List Int) (v31 : List (Int × (List Int))) (v32 v33 v34 v35 v36 v37 v38 : List Int) : Qn_l2 v0 v1 v2 v3 v4 v5 v6 v7 v8 v9 v10 v11 v12 v13 v14 v15 v16 v17 v18 v19 v20 v21 v22 v23 v24 v25 v26 v27 v28 v29 v30 v31 v32 v33 v34 v35 v36 v37 v38 =
 bif decide (v2 ≤ (v0.length : Int)) then
 (at? v19 v2).bind fun y1 =>
 v19[v2.toNat]?.bind fun y2 =>
 bif decide ((v38.length + ([y2] : List Int).length) * 8 ≤ 140737488355328) then
 Qn_l2 v0 v1 (IntKind.i64.wrap (v2 + v1)) v3 v4 v5 v6 v7 v8 v9 v10 v11 v12 v13 v14 v15 v16 v17 v18 v19 v20 v21 v22 v23 v24 v25 v26 v27 v28 v29 v30 v31 v32 v33 v34 v35 v36 v37 (v38 ++ ([y2] : List Int))
 else
 none
 else
 (Qo v36).bind fun y3 =>
 (Q0h (v0.length : Int)).bind fun y4 =>
 (Qm v37 y4).bind fun y5 =>
 (Q0h (v0.length : Int)).bind fun y6 =>
 (Qm v38 y6).bind fun y7 =>
 some ((v20, v21, v22, v30, v31, v32, y3.1.1, y3.1.2, y5.1.1, y5.1.2.1, y5.1.2.2.1, y5.1.2.2.2, y7.1.1, y7.1.2.1, y7.1.2.2.1, y7.1.2.2.2), true) := (Q7 Q1 (Q0 (Qn.gok _)) _ _).trans (by kernel_rfl)
noncomputable abbrev Qp.s : Sg := ⟨[.lend], [.agg [.int .i64, .sl false false 92]], ⟨[vo 3], [none]⟩, Tryz.f51⟩
noncomputable def Qp.gs (δ : Type) : List (Nat × Callee (GT tab) δ) := []
theorem Qp.gok (δ : Type) : Q4 Tryz.prog tab (Qp.gs δ) := .nil
noncomputable def Qp.c := cx Qp.s [] [] [(3, [1, 3, 4]), (7, [1, 3, 4, 5, 6])] false (Qp.gs _)
noncomputable def Qp (x0 : Int × (List Int)) : Option (List Int) := fnW Qp.s Qp.c x0
theorem Qp.fok : FkS Qp.s 51 := ⟨Tryz.func51, by kernel_rfl, by kernel_rfl⟩
noncomputable def Qp.fn (x : Args tab Qp.s.ar) : Option (ResT tab Qp.s.rs) := Qp x
noncomputable abbrev Qp.k {δ : Type} : Callee (GT tab) δ := kS Qp.s Qp.fn
theorem Qp.con {δ : Type} : Con Tryz.prog (KT tab) 51 (Qp.k (δ := δ)) := Q5 (c := Qp.c) mixed Q1 (Q0 (Qp.gok _)) Qp.fok rfl rfl fun _ => rfl
noncomputable def Qp_l0 (v0 v1 : Int) (v2 v3 : List Int) : Option (List Int) := lpW Qp.s Qp.c 0 (ud 30 [.undef, .ptr 0 0, .undef, .sl 1 0, .int .i64 v0]) [.box 30 [.int .i64 v1, .vs false 92 v2], .row 0 true 3 v3] 2
noncomputable def Qp_l1 (v0 v1 v2 v3 : Int) (v4 v5 : List Int) : Option (List Int) := lpW Qp.s Qp.c 1 (ud 28 [.undef, .ptr 0 0, .undef, .sl 1 0, .int .i64 v0, .int .u64 v1, .int .i64 v2]) [.box 30 [.int .i64 v3, .vs false 92 v4], .row 0 true 3 v5] 2
theorem Qp.eq (x0 : Int × (List Int)) : Qp x0 =
 Qp_l0 (0 : Int) x0.1 x0.2 ([] : List Int) := by kernel_rfl
theorem Qp_l0.eq (v0 v1 : Int) (v2 v3 : List Int) : Qp_l0 v0 v1 v2 v3 =
 bif decide (v0 < v1) then
 (at? v2 (IntKind.i64.wrap (v0.tdiv (64 : Int)))).bind fun y1 =>
 Qp_l1 v0 y1 (v0.tmod (64 : Int)) v1 v2 v3
 else
 some v3 := (Q7 Q1 (Q0 (Qp.gok _)) _ _).trans (by kernel_rfl)
theorem Qp_l1.eq (v0 v1 v2 v3 : Int) (v4 v5 : List Int) : Qp_l1 v0 v1 v2 v3 v4 v5 =
 bif decide (v2 > (0 : Int)) then
 Qp_l1 v0 (IntKind.u64.wrap (v1.tdiv (2 : Int))) (IntKind.i64.wrap (v2 - (1 : Int))) v3 v4 v5
 else
 bif decide ((v5.length + ([IntKind.i64.wrap (v1.tmod (2 : Int))] : List Int).length) * 8 ≤ 140737488355328) then
 Qp_l0 (IntKind.i64.wrap (v0 + (1 : Int))) v3 v4 (v5 ++ ([IntKind.i64.wrap (v1.tmod (2 : Int))] : List Int))
 else
 none := (Q7 Q1 (Q0 (Qp.gok _)) _ _).trans (by kernel_rfl)
noncomputable abbrev Qx.s : Sg := ⟨[.lend], [.agg [.int .i64, .sl false false 92]], ⟨[vb], [none]⟩, Tryz.f45⟩
noncomputable def Qx.gs (δ : Type) : List (Nat × Callee (GT tab) δ) := [(51, Qp.k), (65, Qo.k)]
theorem Qx.gok (δ : Type) : Q4 Tryz.prog tab (Qx.gs δ) := .cons Qp.con (.cons Qo.con .nil)
noncomputable def Qx.c := cx Qx.s [] [3] [(3, [1]), (5, [1, 3, 5])] false (Qx.gs _)
noncomputable def Qx (x0 : Int × (List Int)) : Option (Bool) := fnW Qx.s Qx.c x0
theorem Qx.fok : FkS Qx.s 45 := ⟨Tryz.func45, by kernel_rfl, by kernel_rfl⟩
noncomputable def Qx.fn (x : Args tab Qx.s.ar) : Option (ResT tab Qx.s.rs) := Qx x
noncomputable abbrev Qx.k {δ : Type} : Callee (GT tab) δ := kS Qx.s Qx.fn
theorem Qx.con {δ : Type} : Con Tryz.prog (KT tab) 45 (Qx.k (δ := δ)) := Q5 (c := Qx.c) mixed Q1 (Q0 (Qx.gok _)) Qx.fok rfl rfl fun _ => rfl
noncomputable def Qx_l0 (v0 : Int) (v1 : List Int) : Option (Bool) := lpW Qx.s Qx.c 0 (ud 46 [.undef, .ptr 0 0]) [.box 30 [.int .i64 v0, .vs false 92 v1]] 1
noncomputable def Qx_l1 (v0 v1 : Int) (v2 : List Int) (v3 : Int) (v4 : List Int) : Option (Bool) := lpW Qx.s Qx.c 1 (ud 42 [.undef, .ptr 0 0, .undef, .ptr 1 0, .undef, .int .i64 v0]) [.box 30 [.int .i64 v1, .vs false 92 v2], .box 30 [.int .i64 v3, .sl 2 0], .row 0 true 92 v4] 3
theorem Qx.eq (x0 : Int × (List Int)) : Qx x0 =
 bif decide (x0.1 < (0 : Int)) then
 some false
 else
 bif decide (x0.1 > (5000 : Int)) then
 some false
 else
 bif (x0.2.length : Int) != IntKind.i64.wrap ((IntKind.i64.wrap (x0.1 + (63 : Int))).tdiv (64 : Int)) then
 some false
 else
 Qx_l0 x0.1 x0.2 := by kernel_rfl
theorem Qx_l0.eq (v0 : Int) (v1 : List Int) : Qx_l0 v0 v1 =
 (Qp (v0, v1)).bind fun y1 =>
 (Qo y1).bind fun y2 =>
 Qx_l1 (0 : Int) v0 v1 y2.1.1 y2.1.2 := (Q7 Q1 (Q0 (Qx.gok _)) _ _).trans (by kernel_rfl)
theorem Qx_l1.eq (v0 v1 : Int) (v2 : List Int) (v3 : Int) (v4 : List Int) : Qx_l1 v0 v1 v2 v3 v4 =
 bif decide (v0 < (v2.length : Int)) then
 (at? v2 v0).bind fun y1 =>
 (at? v4 v0).bind fun y2 =>
 v4[v0.toNat]?.bind fun y3 =>
 bif y1 != y3 then
 some false
 else
 Qx_l1 (IntKind.i64.wrap (v0 + (1 : Int))) v1 v2 v3 v4
 else
 some true := (Q7 Q1 (Q0 (Qx.gok _)) _ _).trans (by kernel_rfl)
noncomputable abbrev Q0U.s : Sg := ⟨[.lend], [vi], ⟨[vb], [none]⟩, Tryz.f115⟩
noncomputable def Q0U.gs (δ : Type) : List (Nat × Callee (GT tab) δ) := []
theorem Q0U.gok (δ : Type) : Q4 Tryz.prog tab (Q0U.gs δ) := .nil
noncomputable def Q0U.c := cx Q0U.s [] [] [] false (Q0U.gs _)
noncomputable def Q0U (x0 : Int) : Option (Bool) := fnW Q0U.s Q0U.c x0
theorem Q0U.fok : FkS Q0U.s 115 := ⟨Tryz.func115, by kernel_rfl, by kernel_rfl⟩
noncomputable def Q0U.fn (x : Args tab Q0U.s.ar) : Option (ResT tab Q0U.s.rs) := Q0U x
noncomputable abbrev Q0U.k {δ : Type} : Callee (GT tab) δ := kS Q0U.s Q0U.fn
theorem Q0U.con {δ : Type} : Con Tryz.prog (KT tab) 115 (Q0U.k (δ := δ)) := Q5 (c := Q0U.c) mixed Q1 (Q0 (Q0U.gok _)) Q0U.fok rfl rfl fun _ => rfl
theorem Q0U.eq (x0 : Int) : Q0U x0 =
 bif x0 == (0 : Int) then
 some true
 else
 some (x0 == (1 : Int)) := by kernel_rfl
noncomputable abbrev Qv.s : Sg := ⟨[.lend, .lend, .lend], [.agg [.int .i64, .sl false false 92], vi, vi], ⟨[vi], [none, none, none]⟩, Tryz.f87⟩
noncomputable def Qv.gs (δ : Type) : List (Nat × Callee (GT tab) δ) := [(45, Qx.k), (51, Qp.k), (115, Q0U.k)]
theorem Qv.gok (δ : Type) : Q4 Tryz.prog tab (Qv.gs δ) := .cons Qx.con (.cons Qp.con (.cons Q0U.con .nil))
noncomputable def Qv.c := cx Qv.s [] [3] [(3, [1, 2, 3]), (6, [1, 2, 7, 8, 9])] false (Qv.gs _)
noncomputable def Qv (x0 : Int × (List Int)) (x1 x2 : Int) : Option (Int) := fnW Qv.s Qv.c (x0, x1, x2)
theorem Qv.fok : FkS Qv.s 87 := ⟨Tryz.func87, by kernel_rfl, by kernel_rfl⟩
noncomputable def Qv.fn (x : Args tab Qv.s.ar) : Option (ResT tab Qv.s.rs) := Qv x.1 x.2.1 x.2.2
noncomputable abbrev Qv.k {δ : Type} : Callee (GT tab) δ := kS Qv.s Qv.fn
theorem Qv.con {δ : Type} : Con Tryz.prog (KT tab) 87 (Qv.k (δ := δ)) := Q5 (c := Qv.c) mixed Q1 (Q0 (Qv.gok _)) Qv.fok rfl rfl fun _ => rfl
noncomputable def Qv_l0 (v0 v1 v2 : Int) (v3 : List Int) : Option (Int) := lpW Qv.s Qv.c 0 (ud 40 [.undef, .int .i64 v0, .int .i64 v1, .ptr 0 0]) [.box 30 [.int .i64 v2, .vs false 92 v3]] 1
noncomputable def Qv_l1 (v0 v1 v2 v3 : Int) (v4 : List Int) : Option (Int) := lpW Qv.s Qv.c 1 (ud 34 [.undef, .int .i64 v0, .int .i64 v1, .undef, .undef, .undef, .undef, .sl 0 0, .int .i64 v2, .int .i64 v3]) [.row 0 true 3 v4] 1
theorem Qv.eq (x0 : Int × (List Int)) (x1 x2 : Int) : Qv x0 x1 x2 =
 (Qx x0).bind fun y1 =>
 bif !y1 then
 some (-1 : Int)
 else
 (Q0U x1).bind fun y2 =>
 bif !y2 then
 some (-1 : Int)
 else
 bif decide (x2 < (0 : Int)) then
 some (-1 : Int)
 else
 bif decide (x2 > x0.1) then
 some (-1 : Int)
 else
 Qv_l0 x1 x2 x0.1 x0.2 := by kernel_rfl
theorem Qv_l0.eq (v0 v1 v2 : Int) (v3 : List Int) : Qv_l0 v0 v1 v2 v3 =
 (Qp (v2, v3)).bind fun y1 =>
 Qv_l1 v0 v1 (0 : Int) (0 : Int) y1 := (Q7 Q1 (Q0 (Qv.gok _)) _ _).trans (by kernel_rfl)
theorem Qv_l1.eq (v0 v1 v2 v3 : Int) (v4 : List Int) : Qv_l1 v0 v1 v2 v3 v4 =
 bif decide (v3 < v1) then
 (at? v4 v3).bind fun y1 =>
 v4[v3.toNat]?.bind fun y2 =>
 bif y2 == v0 then
 Qv_l1 v0 v1 (IntKind.i64.wrap (v2 + (1 : Int))) (IntKind.i64.wrap (v3 + (1 : Int))) v4
 else
 Qv_l1 v0 v1 v2 (IntKind.i64.wrap (v3 + (1 : Int))) v4
 else
 some v2 := (Q7 Q1 (Q0 (Qv.gok _)) _ _).trans (by kernel_rfl)
noncomputable abbrev QA.s : Sg := ⟨[.lend], [.agg [.int .i64, .sl false false 3, .sl false false 30]], ⟨[vb], [none]⟩, Tryz.f44⟩
noncomputable def QA.gs (δ : Type) : List (Nat × Callee (GT tab) δ) := [(45, Qx.k), (87, Qv.k)]
theorem QA.gok (δ : Type) : Q4 Tryz.prog tab (QA.gs δ) := .cons Qx.con (.cons Qv.con .nil)
noncomputable def QA.c := cx QA.s [] [3] [(3, [1]), (4, [1, 3])] false (QA.gs _)
noncomputable def QA (x0 : Int × (List Int) × (List (Int × (List Int)))) : Option (Bool) := fnW QA.s QA.c x0
theorem QA.fok : FkS QA.s 44 := ⟨Tryz.func44, by kernel_rfl, by kernel_rfl⟩
noncomputable def QA.fn (x : Args tab QA.s.ar) : Option (ResT tab QA.s.rs) := QA x
noncomputable abbrev QA.k {δ : Type} : Callee (GT tab) δ := kS QA.s QA.fn
theorem QA.con {δ : Type} : Con Tryz.prog (KT tab) 44 (QA.k (δ := δ)) := Q5 (c := QA.c) mixed Q1 (Q0 (QA.gok _)) QA.fok rfl rfl fun _ => rfl
noncomputable def QA_l0 (v0 : Int) (v1 : List Int) (v2 : List (Int × (List Int))) : Option (Bool) := lpW QA.s QA.c 0 (ud 60 [.undef, .ptr 0 0]) [.box 27 [.int .i64 v0, .vs false 3 v1, .vs false 30 v2]] 1
noncomputable def QA_l1 (v0 v1 : Int) (v2 : List Int) (v3 : List (Int × (List Int))) : Option (Bool) := lpW QA.s QA.c 1 (ud 58 [.undef, .ptr 0 0, .undef, .int .i64 v0]) [.box 27 [.int .i64 v1, .vs false 3 v2, .vs false 30 v3]] 1
theorem QA.eq (x0 : Int × (List Int) × (List (Int × (List Int)))) : QA x0 =
 bif decide (x0.1 < (0 : Int)) then
 some false
 else
 bif decide (x0.1 > (1000 : Int)) then
 some false
 else
 bif (x0.2.2.length : Int) != (9 : Int) then
 some false
 else
 bif (x0.2.1.length : Int) != (9 : Int) then
 some false
 else
 QA_l0 x0.1 x0.2.1 x0.2.2 := by kernel_rfl
theorem QA_l0.eq (v0 : Int) (v1 : List Int) (v2 : List (Int × (List Int))) : QA_l0 v0 v1 v2 =
 QA_l1 (0 : Int) v0 v1 v2 := (Q7 Q1 (Q0 (QA.gok _)) _ _).trans (by kernel_rfl)
theorem QA_l1.eq (v0 v1 : Int) (v2 : List Int) (v3 : List (Int × (List Int))) : QA_l1 v0 v1 v2 v3 =
 bif decide (v0 < (9 : Int)) then
 (at? v3 v0).bind fun y1 =>
 bif y1.1 != v1 then
 some false
 else
 (at? v3 v0).bind fun y2 =>
 (Qx y2).bind fun y3 =>
 bif !y3 then
 some false
 else
 (at? v3 v0).bind fun y4 =>
 (Qv y4 (0 : Int) v1).bind fun y5 =>
 (at? v2 v0).bind fun y6 =>
 bif y5 != y6 then
 some false
 else
 QA_l1 (IntKind.i64.wrap (v0 + (1 : Int))) v1 v2 v3
 else
 some true := (Q7 Q1 (Q0 (QA.gok _)) _ _).trans (by kernel_rfl)
noncomputable abbrev Qf.s : Sg := ⟨[.lend], [.agg [.int .i64, .sl false false 3, .sl false false 30]], ⟨[vo 3], [none]⟩, Tryz.f89⟩
noncomputable def Qf.gs (δ : Type) : List (Nat × Callee (GT tab) δ) := [(51, Qp.k)]
theorem Qf.gok (δ : Type) : Q4 Tryz.prog tab (Qf.gs δ) := .cons Qp.con .nil
noncomputable def Qf.c := cx Qf.s [] [] [(4, [1, 3, 4, 5]), (8, [1, 3, 4, 6]), (13, [1, 3, 4, 6, 7, 8, 9]), (19, [1, 3, 4, 6, 7, 8, 9, 10, 11, 12, 13])] false (Qf.gs _)
noncomputable def Qf (x0 : Int × (List Int) × (List (Int × (List Int)))) : Option (List Int) := fnW Qf.s Qf.c x0
theorem Qf.fok : FkS Qf.s 89 := ⟨Tryz.func89, by kernel_rfl, by kernel_rfl⟩
noncomputable def Qf.fn (x : Args tab Qf.s.ar) : Option (ResT tab Qf.s.rs) := Qf x
noncomputable abbrev Qf.k {δ : Type} : Callee (GT tab) δ := kS Qf.s Qf.fn
theorem Qf.con {δ : Type} : Con Tryz.prog (KT tab) 89 (Qf.k (δ := δ)) := Q5 (c := Qf.c) mixed Q1 (Q0 (Qf.gok _)) Qf.fok rfl rfl fun _ => rfl
noncomputable def Qf_l0 (v0 v1 : Int) (v2 : List Int) (v3 : List (Int × (List Int))) (v4 : List Int) (v5 : List (List Int)) : Option (List Int) := lpW Qf.s Qf.c 0 (ud 88 [.undef, .ptr 0 0, .undef, .sl 1 0, .sl 2 0, .int .i64 v0]) [.box 27 [.int .i64 v1, .vs false 3 v2, .vs false 30 v3], .row 0 true 3 v4, .row 0 true 24 v5] 3
noncomputable def Qf_l1 (v0 v1 : Int) (v2 : List Int) (v3 : List (Int × (List Int))) (v4 : List Int) (v5 : List (List Int)) : Option (List Int) := lpW Qf.s Qf.c 1 (ud 87 [.undef, .ptr 0 0, .undef, .sl 1 0, .sl 2 0, .undef, .int .i64 v0]) [.box 27 [.int .i64 v1, .vs false 3 v2, .vs false 30 v3], .row 0 true 3 v4, .row 0 true 24 v5] 3
noncomputable def Qf_l2 (v0 v1 v2 v3 v4 : Int) (v5 : List Int) (v6 : List (Int × (List Int))) (v7 : List Int) (v8 : List (List Int)) : Option (List Int) := lpW Qf.s Qf.c 2 (ud 84 [.undef, .ptr 0 0, .undef, .sl 1 0, .sl 2 0, .undef, .int .i64 v0, .int .i64 v1, .int .i64 v2, .int .i64 v3]) [.box 27 [.int .i64 v4, .vs false 3 v5, .vs false 30 v6], .row 0 true 3 v7, .row 0 true 24 v8] 3
noncomputable def Qf_l3 (v0 v1 v2 v3 v4 v5 v6 v7 v8 : Int) (v9 : List Int) (v10 : List (Int × (List Int))) (v11 : List Int) (v12 : List (List Int)) : Option (List Int) := lpW Qf.s Qf.c 3 (ud 80 [.undef, .ptr 0 0, .undef, .sl 1 0, .sl 2 0, .undef, .int .i64 v0, .int .i64 v1, .int .i64 v2, .int .i64 v3, .int .i64 v4, .int .i64 v5, .int .i64 v6, .int .i64 v7]) [.box 27 [.int .i64 v8, .vs false 3 v9, .vs false 30 v10], .row 0 true 3 v11, .row 0 true 24 v12] 3
theorem Qf.eq (x0 : Int × (List Int) × (List (Int × (List Int)))) : Qf x0 =
 Qf_l0 (0 : Int) x0.1 x0.2.1 x0.2.2 ([] : List Int) ([] : List (List Int)) := by kernel_rfl
theorem Qf_l0.eq (v0 v1 : Int) (v2 : List Int) (v3 : List (Int × (List Int))) (v4 : List Int) (v5 : List (List Int)) : Qf_l0 v0 v1 v2 v3 v4 v5 =
 bif decide (v0 < (9 : Int)) then
 (at? v3 v0).bind fun y1 =>
 (Qp y1).bind fun y2 =>
 bif decide ((v5.length + ([y2] : List (List Int)).length) * 24 ≤ 140737488355328) then
 Qf_l0 (IntKind.i64.wrap (v0 + (1 : Int))) v1 v2 v3 v4 (v5 ++ ([y2] : List (List Int)))
 else
 none
 else
 Qf_l1 (0 : Int) v1 v2 v3 v4 v5 := (Q7 Q1 (Q0 (Qf.gok _)) _ _).trans (by kernel_rfl)
theorem Qf_l1.eq (v0 v1 : Int) (v2 : List Int) (v3 : List (Int × (List Int))) (v4 : List Int) (v5 : List (List Int)) : Qf_l1 v0 v1 v2 v3 v4 v5 =
 bif decide (v0 < v1) then
 Qf_l2 v0 v0 (0 : Int) (0 : Int) v1 v2 v3 v4 v5
 else
 some v4 := (Q7 Q1 (Q0 (Qf.gok _)) _ _).trans (by kernel_rfl)
theorem Qf_l2.eq (v0 v1 v2 v3 v4 : Int) (v5 : List Int) (v6 : List (Int × (List Int))) (v7 : List Int) (v8 : List (List Int)) : Qf_l2 v0 v1 v2 v3 v4 v5 v6 v7 v8 =
 bif decide (v3 < (9 : Int)) then
 (at? v8 v3).bind fun y1 =>
 v8[v3.toNat]?.bind fun y2 =>
 (at? y2 v1).bind fun y3 =>
 y2[v1.toNat]?.bind fun y4 =>
 Qf_l3 v0 v1 v2 v3 y4 (0 : Int) (0 : Int) (0 : Int) v4 v5 v6 v7 (v8.set v3.toNat y2)
 else
 bif decide ((v7.length + ([v2] : List Int).length) * 8 ≤ 140737488355328) then
 Qf_l1 (IntKind.i64.wrap (v0 + (1 : Int))) v4 v5 v6 (v7 ++ ([v2] : List Int)) v8
 else
 none := (Q7 Q1 (Q0 (Qf.gok _)) _ _).trans (by kernel_rfl)
theorem Qf_l3.eq (v0 v1 v2 v3 v4 v5 v6 v7 v8 : Int) (v9 : List Int) (v10 : List (Int × (List Int))) (v11 : List Int) (v12 : List (List Int)) : Qf_l3 v0 v1 v2 v3 v4 v5 v6 v7 v8 v9 v10 v11 v12 =
 bif decide (v7 < v8) then
 (at? v12 v3).bind fun y1 =>
 v12[v3.toNat]?.bind fun y2 =>
 (at? y2 v7).bind fun y3 =>
 y2[v7.toNat]?.bind fun y4 =>
 bif y4 == (0 : Int) then
 bif decide (v7 < v1) then
 (at? (v12.set v3.toNat y2) v3).bind fun y5 =>
 (v12.set v3.toNat y2)[v3.toNat]?.bind fun y6 =>
 (at? y6 v7).bind fun y7 =>
 y6[v7.toNat]?.bind fun y8 =>
 bif y8 == v4 then
 Qf_l3 v0 v1 v2 v3 v4 (IntKind.i64.wrap (v5 + (1 : Int))) (IntKind.i64.wrap (v6 + (1 : Int))) (IntKind.i64.wrap (v7 + (1 : Int))) v8 v9 v10 v11 ((v12.set v3.toNat y2).set v3.toNat y6)
 else
 Qf_l3 v0 v1 v2 v3 v4 v5 (IntKind.i64.wrap (v6 + (1 : Int))) (IntKind.i64.wrap (v7 + (1 : Int))) v8 v9 v10 v11 ((v12.set v3.toNat y2).set v3.toNat y6)
 else
 Qf_l3 v0 v1 v2 v3 v4 v5 (IntKind.i64.wrap (v6 + (1 : Int))) (IntKind.i64.wrap (v7 + (1 : Int))) v8 v9 v10 v11 (v12.set v3.toNat y2)
 else
 bif decide (v7 < v1) then
 (at? (v12.set v3.toNat y2) v3).bind fun y9 =>
 (v12.set v3.toNat y2)[v3.toNat]?.bind fun y10 =>
 (at? y10 v7).bind fun y11 =>
 y10[v7.toNat]?.bind fun y12 =>
 bif y12 == v4 then
 Qf_l3 v0 v1 v2 v3 v4 (IntKind.i64.wrap (v5 + (1 : Int))) v6 (IntKind.i64.wrap (v7 + (1 : Int))) v8 v9 v10 v11 ((v12.set v3.toNat y2).set v3.toNat y10)
 else
 Qf_l3 v0 v1 v2 v3 v4 v5 v6 (IntKind.i64.wrap (v7 + (1 : Int))) v8 v9 v10 v11 ((v12.set v3.toNat y2).set v3.toNat y10)
 else
 Qf_l3 v0 v1 v2 v3 v4 v5 v6 (IntKind.i64.wrap (v7 + (1 : Int))) v8 v9 v10 v11 (v12.set v3.toNat y2)
 else
 bif v4 == (1 : Int) then
 Qf_l2 v0 (IntKind.i64.wrap (v6 + v5)) (IntKind.i64.wrap ((IntKind.i64.wrap ((2 : Int) * v2)) + v4)) (IntKind.i64.wrap (v3 + (1 : Int))) v8 v9 v10 v11 v12
 else
 Qf_l2 v0 v5 (IntKind.i64.wrap ((IntKind.i64.wrap ((2 : Int) * v2)) + v4)) (IntKind.i64.wrap (v3 + (1 : Int))) v8 v9 v10 v11 v12 := (Q7 Q1 (Q0 (Qf.gok _)) _ _).trans (by kernel_rfl)
noncomputable abbrev Q0L.s : Sg := ⟨[.lend], [.agg [.int .i64, .sl false false 3, .sl false false 30]], ⟨[vo 3], [none]⟩, Tryz.f47⟩
noncomputable def Q0L.gs (δ : Type) : List (Nat × Callee (GT tab) δ) := [(44, QA.k), (89, Qf.k)]
theorem Q0L.gok (δ : Type) : Q4 Tryz.prog tab (Q0L.gs δ) := .cons QA.con (.cons Qf.con .nil)
noncomputable def Q0L.c := cx Q0L.s [] [] [] false (Q0L.gs _)
noncomputable def Q0L (x0 : Int × (List Int) × (List (Int × (List Int)))) : Option (List Int) := fnW Q0L.s Q0L.c x0
theorem Q0L.fok : FkS Q0L.s 47 := ⟨Tryz.func47, by kernel_rfl, by kernel_rfl⟩
noncomputable def Q0L.fn (x : Args tab Q0L.s.ar) : Option (ResT tab Q0L.s.rs) := Q0L x
noncomputable abbrev Q0L.k {δ : Type} : Callee (GT tab) δ := kS Q0L.s Q0L.fn
theorem Q0L.con {δ : Type} : Con Tryz.prog (KT tab) 47 (Q0L.k (δ := δ)) := Q5 (c := Q0L.c) mixed Q1 (Q0 (Q0L.gok _)) Q0L.fok rfl rfl fun _ => rfl
theorem Q0L.eq (x0 : Int × (List Int) × (List (Int × (List Int)))) : Q0L x0 =
 (QA x0).bind fun y1 =>
 bif !y1 then
 some ([] : List Int)
 else
 (Qf x0).bind fun y2 =>
 some y2 := by kernel_rfl
noncomputable abbrev QE.s : Sg := ⟨[.lend], [vl 3], ⟨[vo 3], [none]⟩, Tryz.f91⟩
noncomputable def QE.gs (δ : Type) : List (Nat × Callee (GT tab) δ) := [(90, Q04.k)]
theorem QE.gok (δ : Type) : Q4 Tryz.prog tab (QE.gs δ) := .cons Q04.con .nil
noncomputable def QE.c := cx QE.s [] [] [(5, [0, 3, 4]), (9, [0, 3, 4, 5, 6])] false (QE.gs _)
noncomputable def QE (x0 : List Int) : Option (List Int) := fnW QE.s QE.c x0
theorem QE.fok : FkS QE.s 91 := ⟨Tryz.func91, by kernel_rfl, by kernel_rfl⟩
noncomputable def QE.fn (x : Args tab QE.s.ar) : Option (ResT tab QE.s.rs) := QE x
noncomputable abbrev QE.k {δ : Type} : Callee (GT tab) δ := kS QE.s QE.fn
theorem QE.con {δ : Type} : Con Tryz.prog (KT tab) 91 (QE.k (δ := δ)) := Q5 (c := QE.c) mixed Q1 (Q0 (QE.gok _)) QE.fok rfl rfl fun _ => rfl
noncomputable def QE_l0 (v0 : List Int) (v1 : Int) (v2 : List Int) : Option (List Int) := lpW QE.s QE.c 0 (ud 50 [.vs false 3 v0, .undef, .undef, .sl 0 0, .int .i64 v1]) [.row 0 true 3 v2] 1
noncomputable def QE_l1 (v0 : List Int) (v1 v2 v3 : Int) (v4 : List Int) : Option (List Int) := lpW QE.s QE.c 1 (ud 48 [.vs false 3 v0, .undef, .undef, .sl 0 0, .int .i64 v1, .int .i64 v2, .int .i64 v3]) [.row 0 true 3 v4] 1
theorem QE.eq (x0 : List Int) : QE x0 =
 (Q04 x0).bind fun y1 =>
 bif !y1 then
 some ([] : List Int)
 else
 QE_l0 x0 (0 : Int) ([] : List Int) := by kernel_rfl
theorem QE_l0.eq (v0 : List Int) (v1 : Int) (v2 : List Int) : QE_l0 v0 v1 v2 =
 bif decide (v1 < (v0.length : Int)) then
 QE_l1 v0 v1 (0 : Int) (0 : Int) v2
 else
 some v2 := (Q7 Q1 (Q0 (QE.gok _)) _ _).trans (by kernel_rfl)
theorem QE_l1.eq (v0 : List Int) (v1 v2 v3 : Int) (v4 : List Int) : QE_l1 v0 v1 v2 v3 v4 =
 bif decide (v3 < (v0.length : Int)) then
 (at? v0 v3).bind fun y1 =>
 (at? v0 v1).bind fun y2 =>
 bif decide (y1 < y2) then
 QE_l1 v0 v1 (IntKind.i64.wrap (v2 + (1 : Int))) (IntKind.i64.wrap (v3 + (1 : Int))) v4
 else
 bif decide (v3 < v1) then
 (at? v0 v3).bind fun y3 =>
 (at? v0 v1).bind fun y4 =>
 bif y3 == y4 then
 QE_l1 v0 v1 (IntKind.i64.wrap (v2 + (1 : Int))) (IntKind.i64.wrap (v3 + (1 : Int))) v4
 else
 QE_l1 v0 v1 v2 (IntKind.i64.wrap (v3 + (1 : Int))) v4
 else
 QE_l1 v0 v1 v2 (IntKind.i64.wrap (v3 + (1 : Int))) v4
 else
 bif decide ((v4.length + ([v2] : List Int).length) * 8 ≤ 140737488355328) then
 QE_l0 v0 (IntKind.i64.wrap (v1 + (1 : Int))) (v4 ++ ([v2] : List Int))
 else
 none := (Q7 Q1 (Q0 (QE.gok _)) _ _).trans (by kernel_rfl)
noncomputable abbrev QT.s : Sg := ⟨[.lend, .lend], [vl 3, vl 3], ⟨[vb], [none, none]⟩, Tryz.f52⟩
noncomputable def QT.gs (δ : Type) : List (Nat × Callee (GT tab) δ) := []
theorem QT.gok (δ : Type) : Q4 Tryz.prog tab (QT.gs δ) := .nil
noncomputable def QT.c := cx QT.s [] [] [(4, [0, 1, 5])] false (QT.gs _)
noncomputable def QT (x0 x1 : List Int) : Option (Bool) := fnW QT.s QT.c (x0, x1)
theorem QT.fok : FkS QT.s 52 := ⟨Tryz.func52, by kernel_rfl, by kernel_rfl⟩
noncomputable def QT.fn (x : Args tab QT.s.ar) : Option (ResT tab QT.s.rs) := QT x.1 x.2
noncomputable abbrev QT.k {δ : Type} : Callee (GT tab) δ := kS QT.s QT.fn
theorem QT.con {δ : Type} : Con Tryz.prog (KT tab) 52 (QT.k (δ := δ)) := Q5 (c := QT.c) mixed Q1 (Q0 (QT.gok _)) QT.fok rfl rfl fun _ => rfl
noncomputable def QT_l0 (v0 v1 : List Int) (v2 : Int) : Option (Bool) := lpW QT.s QT.c 0 (ud 20 [.vs false 3 v0, .vs false 3 v1, .undef, .undef, .undef, .int .i64 v2]) [] 0
theorem QT.eq (x0 x1 : List Int) : QT x0 x1 =
 bif (x0.length : Int) != (x1.length : Int) then
 some false
 else
 QT_l0 x0 x1 (0 : Int) := by kernel_rfl
theorem QT_l0.eq (v0 v1 : List Int) (v2 : Int) : QT_l0 v0 v1 v2 =
 bif decide (v2 < (v0.length : Int)) then
 (at? v0 v2).bind fun y1 =>
 (at? v1 v2).bind fun y2 =>
 bif y1 != y2 then
 some false
 else
 QT_l0 v0 v1 (IntKind.i64.wrap (v2 + (1 : Int)))
 else
 some true := (Q7 Q1 (Q0 (QT.gok _)) _ _).trans (by kernel_rfl)
noncomputable abbrev Qw.s : Sg := ⟨[.lend], [vl 3], ⟨[vo 5, vb], [none]⟩, Tryz.f48⟩
noncomputable def Qw.gs (δ : Type) : List (Nat × Callee (GT tab) δ) := [(22, Qt.k), (52, QT.k), (90, Q04.k), (91, QE.k)]
theorem Qw.gok (δ : Type) : Q4 Tryz.prog tab (Qw.gs δ) := .cons Qt.con (.cons QT.con (.cons Q04.con (.cons QE.con .nil)))
noncomputable def Qw.c := cx Qw.s [] [3, 9] [(3, [0]), (7, [0, 4, 5, 6, 7]), (9, [0, 4, 5, 6, 7])] false (Qw.gs _)
noncomputable def Qw (x0 : List Int) : Option ((List Int) × Bool) := fnW Qw.s Qw.c x0
theorem Qw.fok : FkS Qw.s 48 := ⟨Tryz.func48, by kernel_rfl, by kernel_rfl⟩
noncomputable def Qw.fn (x : Args tab Qw.s.ar) : Option (ResT tab Qw.s.rs) := Qw x
noncomputable abbrev Qw.k {δ : Type} : Callee (GT tab) δ := kS Qw.s Qw.fn
theorem Qw.con {δ : Type} : Con Tryz.prog (KT tab) 48 (Qw.k (δ := δ)) := Q5 (c := Qw.c) mixed Q1 (Q0 (Qw.gok _)) Qw.fok rfl rfl fun _ => rfl
noncomputable def Qw_l0 (v0 : List Int) : Option ((List Int) × Bool) := lpW Qw.s Qw.c 0 (ud 51 [.vs false 3 v0]) [] 0
noncomputable def Qw_l1 (v0 : List Int) (v1 v2 : Int) (v3 v4 : List Int) : Option ((List Int) × Bool) := lpW Qw.s Qw.c 1 (ud 44 [.vs false 3 v0, .undef, .undef, .undef, .sl 0 0, .sl 1 0, .int .i64 v1, .int .i64 v2]) [.row 0 true 3 v3, .row 0 true 5 v4] 2
noncomputable def Qw_l2 (v0 : List Int) (v1 v2 : Int) (v3 v4 : List Int) : Option ((List Int) × Bool) := lpW Qw.s Qw.c 2 (ud 44 [.vs false 3 v0, .undef, .undef, .undef, .sl 0 0, .sl 1 0, .int .i64 v1, .int .i64 v2]) [.row 0 true 3 v3, .row 0 true 5 v4] 2
theorem Qw.eq (x0 : List Int) : Qw x0 =
 (Q04 x0).bind fun y1 =>
 bif !y1 then
 some (([] : List Int), false)
 else
 bif (x0.length : Int) == (0 : Int) then
 some (([] : List Int), false)
 else
 Qw_l0 x0 := by kernel_rfl
theorem Qw_l0.eq (v0 : List Int) : Qw_l0 v0 =
 (QE v0).bind fun y1 =>
 Qw_l1 v0 (0 : Int) (0 : Int) y1 ([] : List Int) := (Q7 Q1 (Q0 (Qw.gok _)) _ _).trans (by kernel_rfl)
theorem Qw_l1.eq (v0 : List Int) (v1 v2 : Int) (v3 v4 : List Int) : Qw_l1 v0 v1 v2 v3 v4 =
 bif decide (v2 < IntKind.i64.wrap ((v0.length : Int) - (1 : Int))) then
 (at? v0 v1).bind fun y1 =>
 bif decide (y1 > (0 : Int)) then
 Qw_l2 v0 v1 v2 v3 v4
 else
 (Qt v4).bind fun y2 =>
 (QT y2 v0).bind fun y3 =>
 bif !y3 then
 some (([] : List Int), false)
 else
 some (v4, true)
 else
 (Qt v4).bind fun y4 =>
 (QT y4 v0).bind fun y5 =>
 bif !y5 then
 some (([] : List Int), false)
 else
 some (v4, true) := (Q7 Q1 (Q0 (Qw.gok _)) _ _).trans (by kernel_rfl)
theorem Qw_l2.eq (v0 : List Int) (v1 v2 : Int) (v3 v4 : List Int) : Qw_l2 v0 v1 v2 v3 v4 =
 (at? v0 v1).bind fun y1 =>
 bif decide ((([IntKind.u8.wrap (IntKind.i64.wrap (y1 - (1 : Int)))] : List Int).length + v4.length) * 1 ≤ 140737488355328) then
 (at? v3 v1).bind fun y2 =>
 v3[v1.toNat]?.bind fun y3 =>
 Qw_l1 v0 y3 (IntKind.i64.wrap (v2 + (1 : Int))) v3 (([IntKind.u8.wrap (IntKind.i64.wrap (y1 - (1 : Int)))] : List Int) ++ v4)
 else
 none := (Q7 Q1 (Q0 (Qw.gok _)) _ _).trans (by kernel_rfl)
noncomputable abbrev QI.s : Sg := ⟨[.lend, .lend], [.agg [.int .i64, .sl false false 92], .agg [.int .i64, .sl false false 92]], ⟨[vb], [none, none]⟩, Tryz.f53⟩
noncomputable def QI.gs (δ : Type) : List (Nat × Callee (GT tab) δ) := []
theorem QI.gok (δ : Type) : Q4 Tryz.prog tab (QI.gs δ) := .nil
noncomputable def QI.c := cx QI.s [] [3] [(3, [2, 3]), (4, [2, 3, 5])] false (QI.gs _)
noncomputable def QI (x0 x1 : Int × (List Int)) : Option (Bool) := fnW QI.s QI.c (x0, x1)
theorem QI.fok : FkS QI.s 53 := ⟨Tryz.func53, by kernel_rfl, by kernel_rfl⟩
noncomputable def QI.fn (x : Args tab QI.s.ar) : Option (ResT tab QI.s.rs) := QI x.1 x.2
noncomputable abbrev QI.k {δ : Type} : Callee (GT tab) δ := kS QI.s QI.fn
theorem QI.con {δ : Type} : Con Tryz.prog (KT tab) 53 (QI.k (δ := δ)) := Q5 (c := QI.c) mixed Q1 (Q0 (QI.gok _)) QI.fok rfl rfl fun _ => rfl
noncomputable def QI_l0 (v0 : Int) (v1 : List Int) (v2 : Int) (v3 : List Int) : Option (Bool) := lpW QI.s QI.c 0 (ud 34 [.undef, .undef, .ptr 0 0, .ptr 1 0]) [.box 30 [.int .i64 v0, .vs false 92 v1], .box 30 [.int .i64 v2, .vs false 92 v3]] 2
noncomputable def QI_l1 (v0 v1 : Int) (v2 : List Int) (v3 : Int) (v4 : List Int) : Option (Bool) := lpW QI.s QI.c 1 (ud 32 [.undef, .undef, .ptr 0 0, .ptr 1 0, .undef, .int .i64 v0]) [.box 30 [.int .i64 v1, .vs false 92 v2], .box 30 [.int .i64 v3, .vs false 92 v4]] 2
theorem QI.eq (x0 x1 : Int × (List Int)) : QI x0 x1 =
 bif x0.1 != x1.1 then
 some false
 else
 bif (x0.2.length : Int) != (x1.2.length : Int) then
 some false
 else
 QI_l0 x0.1 x0.2 x1.1 x1.2 := by kernel_rfl
theorem QI_l0.eq (v0 : Int) (v1 : List Int) (v2 : Int) (v3 : List Int) : QI_l0 v0 v1 v2 v3 =
 QI_l1 (0 : Int) v0 v1 v2 v3 := (Q7 Q1 (Q0 (QI.gok _)) _ _).trans (by kernel_rfl)
theorem QI_l1.eq (v0 v1 : Int) (v2 : List Int) (v3 : Int) (v4 : List Int) : QI_l1 v0 v1 v2 v3 v4 =
 bif decide (v0 < (v2.length : Int)) then
 (at? v2 v0).bind fun y1 =>
 (at? v4 v0).bind fun y2 =>
 bif y1 != y2 then
 some false
 else
 QI_l1 (IntKind.i64.wrap (v0 + (1 : Int))) v1 v2 v3 v4
 else
 some true := (Q7 Q1 (Q0 (QI.gok _)) _ _).trans (by kernel_rfl)
noncomputable abbrev Q0G.s : Sg := ⟨[.lend, .lend], [.agg [.int .i64, .int .i64, .int .i64, .sl false false 92], .agg [.int .i64, .int .i64, .int .i64, .sl false false 92]], ⟨[vb], [none, none]⟩, Tryz.f54⟩
noncomputable def Q0G.gs (δ : Type) : List (Nat × Callee (GT tab) δ) := [(53, QI.k)]
theorem Q0G.gok (δ : Type) : Q4 Tryz.prog tab (Q0G.gs δ) := .cons QI.con .nil
noncomputable def Q0G.c := cx Q0G.s [] [] [] false (Q0G.gs _)
noncomputable def Q0G (x0 x1 : Int × Int × Int × (List Int)) : Option (Bool) := fnW Q0G.s Q0G.c (x0, x1)
theorem Q0G.fok : FkS Q0G.s 54 := ⟨Tryz.func54, by kernel_rfl, by kernel_rfl⟩
noncomputable def Q0G.fn (x : Args tab Q0G.s.ar) : Option (ResT tab Q0G.s.rs) := Q0G x.1 x.2
noncomputable abbrev Q0G.k {δ : Type} : Callee (GT tab) δ := kS Q0G.s Q0G.fn
theorem Q0G.con {δ : Type} : Con Tryz.prog (KT tab) 54 (Q0G.k (δ := δ)) := Q5 (c := Q0G.c) mixed Q1 (Q0 (Q0G.gok _)) Q0G.fok rfl rfl fun _ => rfl
theorem Q0G.eq (x0 x1 : Int × Int × Int × (List Int)) : Q0G x0 x1 =
 bif x0.1 == x1.1 then
 bif x0.2.1 == x1.2.1 then
 (QI x0.2.2 x1.2.2).bind fun y1 =>
 some y1
 else
 some false
 else
 some false := by kernel_rfl
noncomputable abbrev QY.s : Sg := ⟨[.lend], [.agg [.int .i64, .int .i64, .int .i64, .sl false false 3, .sl false false 30, .sl false false 3, .int .i64, .sl false false 92, .int .i64, .int .i64, .int .i64, .sl false false 92, .int .i64, .int .i64, .int .i64, .sl false false 92]], ⟨[vo 5, vb], [none]⟩, Tryz.f42⟩
noncomputable def QY.gs (δ : Type) : List (Nat × Callee (GT tab) δ) := [(29, Qn.k), (43, Q0t.k), (47, Q0L.k), (48, Qw.k), (52, QT.k), (53, QI.k), (54, Q0G.k)]
theorem QY.gok (δ : Type) : Q4 Tryz.prog tab (QY.gs δ) := .cons Qn.con (.cons Q0t.con (.cons Q0L.con (.cons Qw.con (.cons QT.con (.cons QI.con (.cons Q0G.con .nil))))))
noncomputable def QY.c := cx QY.s [] [3] [(3, [1])] false (QY.gs _)
noncomputable def QY (x0 : Int × Int × Int × (List Int) × (List (Int × (List Int))) × (List Int) × Int × (List Int) × Int × Int × Int × (List Int) × Int × Int × Int × (List Int)) : Option ((List Int) × Bool) := fnW QY.s QY.c x0
theorem QY.fok : FkS QY.s 42 := ⟨Tryz.func42, by kernel_rfl, by kernel_rfl⟩
noncomputable def QY.fn (x : Args tab QY.s.ar) : Option (ResT tab QY.s.rs) := QY x
noncomputable abbrev QY.k {δ : Type} : Callee (GT tab) δ := kS QY.s QY.fn
theorem QY.con {δ : Type} : Con Tryz.prog (KT tab) 42 (QY.k (δ := δ)) := Q5 (c := QY.c) mixed Q1 (Q0 (QY.gok _)) QY.fok rfl rfl fun _ => rfl
noncomputable def QY_l0 (v0 v1 v2 : Int) (v3 : List Int) (v4 : List (Int × (List Int))) (v5 : List Int) (v6 : Int) (v7 : List Int) (v8 v9 v10 : Int) (v11 : List Int) (v12 v13 v14 : Int) (v15 : List Int) : Option ((List Int) × Bool) := lpW QY.s QY.c 0 (ud 70 [.undef, .ptr 0 0]) [.box 34 [.int .i64 v0, .int .i64 v1, .int .i64 v2, .vs false 3 v3, .vs false 30 v4, .vs false 3 v5, .int .i64 v6, .vs false 92 v7, .int .i64 v8, .int .i64 v9, .int .i64 v10, .vs false 92 v11, .int .i64 v12, .int .i64 v13, .int .i64 v14, .vs false 92 v15]] 1
theorem QY.eq (x0 : Int × Int × Int × (List Int) × (List (Int × (List Int))) × (List Int) × Int × (List Int) × Int × Int × Int × (List Int) × Int × Int × Int × (List Int)) : QY x0 =
 (Q0t x0.2.1).bind fun y1 =>
 bif !y1 then
 some (([] : List Int), false)
 else
 bif decide (x0.2.2.1 > (301 : Int)) then
 some (([] : List Int), false)
 else
 QY_l0 x0.1 x0.2.1 x0.2.2.1 x0.2.2.2.1 x0.2.2.2.2.1 x0.2.2.2.2.2.1 x0.2.2.2.2.2.2.1 x0.2.2.2.2.2.2.2.1 x0.2.2.2.2.2.2.2.2.1 x0.2.2.2.2.2.2.2.2.2.1 x0.2.2.2.2.2.2.2.2.2.2.1 x0.2.2.2.2.2.2.2.2.2.2.2.1 x0.2.2.2.2.2.2.2.2.2.2.2.2.1 x0.2.2.2.2.2.2.2.2.2.2.2.2.2.1 x0.2.2.2.2.2.2.2.2.2.2.2.2.2.2.1 x0.2.2.2.2.2.2.2.2.2.2.2.2.2.2.2 := by kernel_rfl
theorem QY_l0.eq (v0 v1 v2 : Int) (v3 : List Int) (v4 : List (Int × (List Int))) (v5 : List Int) (v6 : Int) (v7 : List Int) (v8 v9 v10 : Int) (v11 : List Int) (v12 v13 v14 : Int) (v15 : List Int) : QY_l0 v0 v1 v2 v3 v4 v5 v6 v7 v8 v9 v10 v11 v12 v13 v14 v15 =
 (Q0L (v2, v3, v4)).bind fun y1 =>
 (Qw y1).bind fun y2 =>
 bif !y2.2 then
 some (([] : List Int), false)
 else
 (Qn y2.1 v1).bind fun y3 =>
 bif v0 != y3.1.1 then
 some (([] : List Int), false)
 else
 (QT v5 y3.1.2.2.2.2.2.1).bind fun y4 =>
 bif !y4 then
 some (([] : List Int), false)
 else
 (QI (v6, v7) (y3.1.2.2.2.2.2.2.1, y3.1.2.2.2.2.2.2.2.1)).bind fun y5 =>
 bif !y5 then
 some (([] : List Int), false)
 else
 (Q0G (v8, v9, v10, v11) (y3.1.2.2.2.2.2.2.2.2.1, y3.1.2.2.2.2.2.2.2.2.2.1, y3.1.2.2.2.2.2.2.2.2.2.2.1, y3.1.2.2.2.2.2.2.2.2.2.2.2.1)).bind fun y6 =>
 bif !y6 then
 some (([] : List Int), false)
 else
 (Q0G (v12, v13, v14, v15) y3.1.2.2.2.2.2.2.2.2.2.2.2.2).bind fun y7 =>
 bif !y7 then
 some (([] : List Int), false)
 else
 some (y2.1, true) := (Q7 Q1 (Q0 (QY.gok _)) _ _).trans (by kernel_rfl)
noncomputable abbrev Q0Q.s : Sg := ⟨[.lend, .lend, .lend], [vl 5, vl 5, vi], ⟨[vb], [none, none, none]⟩, Tryz.f68⟩
noncomputable def Q0Q.gs (δ : Type) : List (Nat × Callee (GT tab) δ) := [(61, Q0B.k)]
theorem Q0Q.gok (δ : Type) : Q4 Tryz.prog tab (Q0Q.gs δ) := .cons Q0B.con .nil
noncomputable def Q0Q.c := cx Q0Q.s [] [] [] false (Q0Q.gs _)
noncomputable def Q0Q (x0 x1 : List Int) (x2 : Int) : Option (Bool) := fnW Q0Q.s Q0Q.c (x0, x1, x2)
theorem Q0Q.fok : FkS Q0Q.s 68 := ⟨Tryz.func68, by kernel_rfl, by kernel_rfl⟩
noncomputable def Q0Q.fn (x : Args tab Q0Q.s.ar) : Option (ResT tab Q0Q.s.rs) := Q0Q x.1 x.2.1 x.2.2
noncomputable abbrev Q0Q.k {δ : Type} : Callee (GT tab) δ := kS Q0Q.s Q0Q.fn
theorem Q0Q.con {δ : Type} : Con Tryz.prog (KT tab) 68 (Q0Q.k (δ := δ)) := Q5 (c := Q0Q.c) mixed Q1 (Q0 (Q0Q.gok _)) Q0Q.fok rfl rfl fun _ => rfl
theorem Q0Q.eq (x0 x1 : List Int) (x2 : Int) : Q0Q x0 x1 x2 =
 (Q0B x0).bind fun y1 =>
 bif y1 then
 (Q0B x1).bind fun y2 =>
 bif y2 then
 bif decide (x2 ≥ (0 : Int)) then
 some (decide (x2 ≤ (8 : Int)))
 else
 some false
 else
 some false
 else
 some false := by kernel_rfl
noncomputable abbrev Q16.s : Sg := ⟨[.lend, .lend, .lend], [vl 5, vi, vi], ⟨[vl 5], [none, none, none]⟩, Tryz.f136⟩
noncomputable def Q16.gs (δ : Type) : List (Nat × Callee (GT tab) δ) := []
theorem Q16.gok (δ : Type) : Q4 Tryz.prog tab (Q16.gs δ) := .nil
noncomputable def Q16.c := cx Q16.s [] [] [] false (Q16.gs _)
noncomputable def Q16 (x0 : List Int) (x1 x2 : Int) : Option (List Int) := fnW Q16.s Q16.c (x0, x1, x2)
theorem Q16.fok : FkS Q16.s 136 := ⟨Tryz.func136, by kernel_rfl, by kernel_rfl⟩
noncomputable def Q16.fn (x : Args tab Q16.s.ar) : Option (ResT tab Q16.s.rs) := Q16 x.1 x.2.1 x.2.2
noncomputable abbrev Q16.k {δ : Type} : Callee (GT tab) δ := kS Q16.s Q16.fn
theorem Q16.con {δ : Type} : Con Tryz.prog (KT tab) 136 (Q16.k (δ := δ)) := Q5 (c := Q16.c) mixed Q1 (Q0 (Q16.gok _)) Q16.fok rfl rfl fun _ => rfl
theorem Q16.eq (x0 : List Int) (x1 x2 : Int) : Q16 x0 x1 x2 =
 bif decide (0 ≤ (if IntKind.i64.wrap (x1 + x2) < (x0.length : Int) then IntKind.i64.wrap (x1 + x2) else (x0.length : Int)) ∧ (if IntKind.i64.wrap (x1 + x2) < (x0.length : Int) then IntKind.i64.wrap (x1 + x2) else (x0.length : Int)) ≤ ((x0.length : Nat) : Int)) then
 bif decide (0 ≤ x1 ∧ x1 ≤ (((if IntKind.i64.wrap (x1 + x2) < (x0.length : Int) then IntKind.i64.wrap (x1 + x2) else (x0.length : Int)).toNat : Nat) : Int)) then
 some ((x0.take ((if IntKind.i64.wrap (x1 + x2) < (x0.length : Int) then IntKind.i64.wrap (x1 + x2) else (x0.length : Int)).toNat)).drop x1.toNat)
 else
 none
 else
 none := by kernel_rfl
noncomputable abbrev Q0i.s : Sg := ⟨[.lend, .lend], [vl 5, vi], ⟨[.one (.b (.b (.b (.b (.sl true false 22)))))], [none, none]⟩, Tryz.f116⟩
noncomputable def Q0i.gs (δ : Type) : List (Nat × Callee (GT tab) δ) := [(56, Qz.k), (136, Q16.k)]
theorem Q0i.gok (δ : Type) : Q4 Tryz.prog tab (Q0i.gs δ) := .cons Qz.con (.cons Q16.con .nil)
noncomputable def Q0i.c := cx Q0i.s [22] [] [(4, [0, 1, 5, 6, 7])] false (Q0i.gs _)
noncomputable def Q0i (x0 : List Int) (x1 : Int) : Option (List (List Int)) := fnW Q0i.s Q0i.c (x0, x1)
theorem Q0i.fok : FkS Q0i.s 116 := ⟨Tryz.func116, by kernel_rfl, by kernel_rfl⟩
noncomputable def Q0i.fn (x : Args tab Q0i.s.ar) : Option (ResT tab Q0i.s.rs) := Q0i x.1 x.2
noncomputable abbrev Q0i.k {δ : Type} : Callee (GT tab) δ := kS Q0i.s Q0i.fn
theorem Q0i.con {δ : Type} : Con Tryz.prog (KT tab) 116 (Q0i.k (δ := δ)) := Q5 (c := Q0i.c) mixed Q1 (Q0 (Q0i.gok _)) Q0i.fok rfl rfl fun _ => rfl
noncomputable def Q0i_l0 (v0 : List Int) (v1 v2 : Int) (v3 : List Int) (v4 : List (List Int)) : Option (List (List Int)) := lpW Q0i.s Q0i.c 0 (ud 20 [.vs false 5 v0, .int .i64 v1, .undef, .undef, .undef, .sl 0 0, .sl 1 0, .int .i64 v2]) [.row 0 true 3 v3, .row 0 false 22 v4] 2
theorem Q0i.eq (x0 : List Int) (x1 : Int) : Q0i x0 x1 =
 (Qz x0).bind fun y1 =>
 Q0i_l0 x0 x1 (0 : Int) y1 ([] : List (List Int)) := by kernel_rfl
theorem Q0i_l0.eq (v0 : List Int) (v1 v2 : Int) (v3 : List Int) (v4 : List (List Int)) : Q0i_l0 v0 v1 v2 v3 v4 =
 bif decide (v2 < (v3.length : Int)) then
 (at? v3 v2).bind fun y1 =>
 v3[v2.toNat]?.bind fun y2 =>
 (Q16 v0 y2 v1).bind fun y3 =>
 bif decide ((v4.length + ([y3] : List (List Int)).length) * 24 ≤ 140737488355328) then
 Q0i_l0 v0 v1 (IntKind.i64.wrap (v2 + (1 : Int))) v3 (v4 ++ ([y3] : List (List Int)))
 else
 none
 else
 some v4 := (Q7 Q1 (Q0 (Q0i.gok _)) _ _).trans (by kernel_rfl)
noncomputable abbrev Q0b.s : Sg := ⟨[.lend, .lend], [vl 22, vl 5], ⟨[vi, vi], [none, none]⟩, Tryz.f117⟩
noncomputable def Q0b.gs (δ : Type) : List (Nat × Callee (GT tab) δ) := [(93, QD.k)]
theorem Q0b.gok (δ : Type) : Q4 Tryz.prog tab (Q0b.gs δ) := .cons QD.con .nil
noncomputable def Q0b.c := cx Q0b.s [] [] [(4, [0, 1, 6, 7, 8])] false (Q0b.gs _)
noncomputable def Q0b (x0 : List (List Int)) (x1 : List Int) : Option (Int × Int) := fnW Q0b.s Q0b.c (x0, x1)
theorem Q0b.fok : FkS Q0b.s 117 := ⟨Tryz.func117, by kernel_rfl, by kernel_rfl⟩
noncomputable def Q0b.fn (x : Args tab Q0b.s.ar) : Option (ResT tab Q0b.s.rs) := Q0b x.1 x.2
noncomputable abbrev Q0b.k {δ : Type} : Callee (GT tab) δ := kS Q0b.s Q0b.fn
theorem Q0b.con {δ : Type} : Con Tryz.prog (KT tab) 117 (Q0b.k (δ := δ)) := Q5 (c := Q0b.c) mixed Q1 (Q0 (Q0b.gok _)) Q0b.fok rfl rfl fun _ => rfl
noncomputable def Q0b_l0 (v0 : List (List Int)) (v1 : List Int) (v2 v3 v4 : Int) : Option (Int × Int) := lpW Q0b.s Q0b.c 0 (ud 23 [.vs false 22 v0, .vs false 5 v1, .undef, .undef, .undef, .undef, .int .i64 v2, .int .i64 v3, .int .i64 v4]) [] 0
theorem Q0b.eq (x0 : List (List Int)) (x1 : List Int) : Q0b x0 x1 =
 Q0b_l0 x0 x1 (0 : Int) (0 : Int) (0 : Int) := by kernel_rfl
theorem Q0b_l0.eq (v0 : List (List Int)) (v1 : List Int) (v2 v3 v4 : Int) : Q0b_l0 v0 v1 v2 v3 v4 =
 bif decide (v4 < (v0.length : Int)) then
 (at? v0 v4).bind fun y1 =>
 (QD y1 v1).bind fun y2 =>
 bif decide (y2 < (0 : Int)) then
 bif decide (y2 ≤ (0 : Int)) then
 Q0b_l0 v0 v1 (IntKind.i64.wrap (v2 + (1 : Int))) (IntKind.i64.wrap (v3 + (1 : Int))) (IntKind.i64.wrap (v4 + (1 : Int)))
 else
 Q0b_l0 v0 v1 (IntKind.i64.wrap (v2 + (1 : Int))) v3 (IntKind.i64.wrap (v4 + (1 : Int)))
 else
 bif decide (y2 ≤ (0 : Int)) then
 Q0b_l0 v0 v1 v2 (IntKind.i64.wrap (v3 + (1 : Int))) (IntKind.i64.wrap (v4 + (1 : Int)))
 else
 Q0b_l0 v0 v1 v2 v3 (IntKind.i64.wrap (v4 + (1 : Int)))
 else
 some (v2, v3) := (Q7 Q1 (Q0 (Q0b.gok _)) _ _).trans (by kernel_rfl)
noncomputable abbrev Ql.s : Sg := ⟨[.lend, .lend, .lend], [vl 5, vl 5, vi], ⟨[vl 119], [none, none, none]⟩, Tryz.f96⟩
noncomputable def Ql.gs (δ : Type) : List (Nat × Callee (GT tab) δ) := [(68, Q0Q.k), (93, QD.k), (116, Q0i.k), (117, Q0b.k)]
theorem Ql.gok (δ : Type) : Q4 Tryz.prog tab (Ql.gs δ) := .cons Q0Q.con (.cons QD.con (.cons Q0i.con (.cons Q0b.con .nil)))
noncomputable def Ql.c := cx Ql.s [22] [] [(8, [7, 8, 9, 10, 11]), (12, [7, 8, 9, 10, 11, 12, 13]), (20, [7, 8, 10, 15, 16])] false (Ql.gs _)
noncomputable def Ql (x0 x1 : List Int) (x2 : Int) : Option (List ((List Int) × Int × Int × Int × Int)) := fnW Ql.s Ql.c (x0, x1, x2)
theorem Ql.fok : FkS Ql.s 96 := ⟨Tryz.func96, by kernel_rfl, by kernel_rfl⟩
noncomputable def Ql.fn (x : Args tab Ql.s.ar) : Option (ResT tab Ql.s.rs) := Ql x.1 x.2.1 x.2.2
noncomputable abbrev Ql.k {δ : Type} : Callee (GT tab) δ := kS Ql.s Ql.fn
theorem Ql.con {δ : Type} : Con Tryz.prog (KT tab) 96 (Ql.k (δ := δ)) := Q5 (c := Ql.c) mixed Q1 (Q0 (Ql.gok _)) Ql.fok rfl rfl fun _ => rfl
noncomputable def Ql_l0 (v0 : Int) (v1 v2 v3 v4 : List (List Int)) : Option (List ((List Int) × Int × Int × Int × Int)) := lpW Ql.s Ql.c 0 (ud 119 [.undef, .undef, .undef, .undef, .undef, .undef, .undef, .sl 0 0, .sl 1 0, .sl 2 0, .sl 3 0, .int .i64 v0]) [.row 0 false 22 v1, .row 0 false 22 v2, .row 0 false 22 v3, .row 0 false 22 v4] 4
noncomputable def Ql_l1 (v0 v1 : Int) (v2 : Bool) (v3 v4 v5 v6 : List (List Int)) : Option (List ((List Int) × Int × Int × Int × Int)) := lpW Ql.s Ql.c 1 (ud 117 [.undef, .undef, .undef, .undef, .undef, .undef, .undef, .sl 0 0, .sl 1 0, .sl 2 0, .sl 3 0, .int .i64 v0, .int .i64 v1, .bool v2]) [.row 0 false 22 v3, .row 0 false 22 v4, .row 0 false 22 v5, .row 0 false 22 v6] 4
noncomputable def Ql_l2 (v0 : Int) (v1 v2 v3 : List (List Int)) (v4 : List ((List Int) × Int × Int × Int × Int)) : Option (List ((List Int) × Int × Int × Int × Int)) := lpW Ql.s Ql.c 2 (ud 114 [.undef, .undef, .undef, .undef, .undef, .undef, .undef, .sl 0 0, .sl 1 0, .undef, .sl 2 0, .undef, .undef, .undef, .undef, .sl 3 0, .int .i64 v0]) [.row 0 false 22 v1, .row 0 false 22 v2, .row 0 false 22 v3, .row 0 true 119 v4] 4
theorem Ql.eq (x0 x1 : List Int) (x2 : Int) : Ql x0 x1 x2 =
 (Q0Q x0 x1 x2).bind fun y1 =>
 bif !y1 then
 some ([] : List ((List Int) × Int × Int × Int × Int))
 else
 (Q0i x0 x2).bind fun y2 =>
 (Q0i x1 x2).bind fun y3 =>
 bif decide ((([] : List (List Int)).length + y2.length) * 24 ≤ 140737488355328) then
 bif decide (((([] : List (List Int)) ++ y2).length + y3.length) * 24 ≤ 140737488355328) then
 Ql_l0 (0 : Int) y2 y3 ((([] : List (List Int)) ++ y2) ++ y3) ([] : List (List Int))
 else
 none
 else
 none := by kernel_rfl
theorem Ql_l0.eq (v0 : Int) (v1 v2 v3 v4 : List (List Int)) : Ql_l0 v0 v1 v2 v3 v4 =
 bif decide (v0 < (v3.length : Int)) then
 Ql_l1 v0 (0 : Int) false v1 v2 v3 v4
 else
 Ql_l2 (0 : Int) v1 v2 v4 ([] : List ((List Int) × Int × Int × Int × Int)) := (Q7 Q1 (Q0 (Ql.gok _)) _ _).trans (by kernel_rfl)
theorem Ql_l1.eq (v0 v1 : Int) (v2 : Bool) (v3 v4 v5 v6 : List (List Int)) : Ql_l1 v0 v1 v2 v3 v4 v5 v6 =
 bif decide (v1 < (v6.length : Int)) then
 (at? v6 v1).bind fun y1 =>
 v6[v1.toNat]?.bind fun y2 =>
 (at? v5 v0).bind fun y3 =>
 v5[v0.toNat]?.bind fun y4 =>
 (QD y2 y4).bind fun y5 =>
 bif decide (y5 ≤ (0 : Int)) then
 bif v2 then
 Ql_l1 v0 (IntKind.i64.wrap (v1 + (1 : Int))) true v3 v4 v5 v6
 else
 (at? v6 v1).bind fun y6 =>
 v6[v1.toNat]?.bind fun y7 =>
 (at? v5 v0).bind fun y8 =>
 v5[v0.toNat]?.bind fun y9 =>
 (QD y7 y9).bind fun y10 =>
 Ql_l1 v0 (IntKind.i64.wrap (v1 + (1 : Int))) (y10 == (0 : Int)) v3 v4 v5 v6
 else
 bif !v2 then
 (at? v5 v0).bind fun y11 =>
 v5[v0.toNat]?.bind fun y12 =>
 bif decide (0 ≤ v1 ∧ v1 ≤ ((v6.length : Nat) : Int)) then
 bif decide ((([y12] : List (List Int)).length + ((v6.drop v1.toNat).take (v6.length - v1.toNat)).length) * 24 ≤ 140737488355328) then
 bif decide (0 ≤ v1 ∧ v1 ≤ ((v6.length : Nat) : Int)) then
 bif decide ((([] : List (List Int)).length + ((v6.drop 0).take (v1.toNat - 0)).length) * 24 ≤ 140737488355328) then
 bif decide (((([] : List (List Int)) ++ ((v6.drop 0).take (v1.toNat - 0))).length + (([y12] : List (List Int)) ++ ((v6.drop v1.toNat).take (v6.length - v1.toNat))).length) * 24 ≤ 140737488355328) then
 Ql_l0 (IntKind.i64.wrap (v0 + (1 : Int))) v3 v4 v5 ((([] : List (List Int)) ++ ((v6.drop 0).take (v1.toNat - 0))) ++ (([y12] : List (List Int)) ++ ((v6.drop v1.toNat).take (v6.length - v1.toNat))))
 else
 none
 else
 none
 else
 none
 else
 none
 else
 none
 else
 Ql_l0 (IntKind.i64.wrap (v0 + (1 : Int))) v3 v4 v5 v6
 else
 bif !v2 then
 (at? v5 v0).bind fun y13 =>
 v5[v0.toNat]?.bind fun y14 =>
 bif decide (0 ≤ v1 ∧ v1 ≤ ((v6.length : Nat) : Int)) then
 bif decide ((([y14] : List (List Int)).length + ((v6.drop v1.toNat).take (v6.length - v1.toNat)).length) * 24 ≤ 140737488355328) then
 bif decide (0 ≤ v1 ∧ v1 ≤ ((v6.length : Nat) : Int)) then
 bif decide ((([] : List (List Int)).length + ((v6.drop 0).take (v1.toNat - 0)).length) * 24 ≤ 140737488355328) then
 bif decide (((([] : List (List Int)) ++ ((v6.drop 0).take (v1.toNat - 0))).length + (([y14] : List (List Int)) ++ ((v6.drop v1.toNat).take (v6.length - v1.toNat))).length) * 24 ≤ 140737488355328) then
 Ql_l0 (IntKind.i64.wrap (v0 + (1 : Int))) v3 v4 v5 ((([] : List (List Int)) ++ ((v6.drop 0).take (v1.toNat - 0))) ++ (([y14] : List (List Int)) ++ ((v6.drop v1.toNat).take (v6.length - v1.toNat))))
 else
 none
 else
 none
 else
 none
 else
 none
 else
 none
 else
 Ql_l0 (IntKind.i64.wrap (v0 + (1 : Int))) v3 v4 v5 v6 := (Q7 Q1 (Q0 (Ql.gok _)) _ _).trans (by kernel_rfl)
theorem Ql_l2.eq (v0 : Int) (v1 v2 v3 : List (List Int)) (v4 : List ((List Int) × Int × Int × Int × Int)) : Ql_l2 v0 v1 v2 v3 v4 =
 bif decide (v0 < (v3.length : Int)) then
 (at? v3 v0).bind fun y1 =>
 v3[v0.toNat]?.bind fun y2 =>
 bif decide ((([] : List Int).length + y2.length) * 1 ≤ 140737488355328) then
 (at? v3 v0).bind fun y3 =>
 v3[v0.toNat]?.bind fun y4 =>
 (Q0b v1 y4).bind fun y5 =>
 (at? v3 v0).bind fun y6 =>
 v3[v0.toNat]?.bind fun y7 =>
 (Q0b v2 y7).bind fun y8 =>
 bif decide ((v4.length + ([(([] : List Int) ++ y2, y5.1, y5.2, y8.1, y8.2)] : List ((List Int) × Int × Int × Int × Int)).length) * 56 ≤ 140737488355328) then
 Ql_l2 (IntKind.i64.wrap (v0 + (1 : Int))) v1 v2 v3 (v4 ++ ([(([] : List Int) ++ y2, y5.1, y5.2, y8.1, y8.2)] : List ((List Int) × Int × Int × Int × Int)))
 else
 none
 else
 none
 else
 some v4 := (Q7 Q1 (Q0 (Ql.gok _)) _ _).trans (by kernel_rfl)
noncomputable abbrev Q0u.s : Sg := ⟨[.lend], [vl 3], ⟨[vb], [none]⟩, Tryz.f88⟩
noncomputable def Q0u.gs (δ : Type) : List (Nat × Callee (GT tab) δ) := []
theorem Q0u.gok (δ : Type) : Q4 Tryz.prog tab (Q0u.gs δ) := .nil
noncomputable def Q0u.c := cx Q0u.s [] [] [] false (Q0u.gs _)
noncomputable def Q0u (x0 : List Int) : Option (Bool) := fnW Q0u.s Q0u.c x0
theorem Q0u.fok : FkS Q0u.s 88 := ⟨Tryz.func88, by kernel_rfl, by kernel_rfl⟩
noncomputable def Q0u.fn (x : Args tab Q0u.s.ar) : Option (ResT tab Q0u.s.rs) := Q0u x
noncomputable abbrev Q0u.k {δ : Type} : Callee (GT tab) δ := kS Q0u.s Q0u.fn
theorem Q0u.con {δ : Type} : Con Tryz.prog (KT tab) 88 (Q0u.k (δ := δ)) := Q5 (c := Q0u.c) mixed Q1 (Q0 (Q0u.gok _)) Q0u.fok rfl rfl fun _ => rfl
theorem Q0u.eq (x0 : List Int) : Q0u x0 =
 some (decide ((x0.length : Int) ≤ (301 : Int))) := by kernel_rfl
def Q1I.ms : List Mode := [.lend, .lend]
def Q1I.as : List VSh := [.one (.b (.b (.b (.b (.sl false false 3))))), .one (.b (.b (.b (.b (.sl false false 3)))))]
def Q1I.rs : RSh := ⟨[.one (.b (.b (.b (.b (.sl false false 24)))))], [none, none]⟩
noncomputable def Q1I (x0 : List Int) (x1 : List Int) : Option (List (List Int)) := (tableC fS (List.map (fun x => x) x0) (List.map (fun x => x) x1)).map (List.map fun x => x)
noncomputable def Q1I.fn : Args tab Q1I.as → Option (ResT tab Q1I.rs) := fun x => Q1I x.1 x.2
noncomputable abbrev Q1I.k {δ : Type} : Callee (GT tab) δ := Q21 tab Q1I.ms Q1I.as Q1I.rs Q1I.fn
theorem Q1I.con {δ : Type} : Con Tryz.prog (KT tab) 137 (Q1I.k (δ := δ)) := con_table (l := tab) Tryz.func137 (by kernel_rfl) rfl It.T137.tableOk (e := 24) (e3 := 3) (g := fun x => x) (g' := fun x => x) (h := fun x => x) rfl (fun _ => rfl) (fun ys => Eq.trans rfl (congrArg (fun z => [T.sl false false 3 z]) (List.map_id ys).symm))
noncomputable abbrev Q17.s : Sg := ⟨[.lend, .lend], [vl 3, vl 3], ⟨[vi], [none, none]⟩, Tryz.f118⟩
noncomputable def Q17.gs (δ : Type) : List (Nat × Callee (GT tab) δ) := [(88, Q0u.k), (137, Q1I.k)]
theorem Q17.gok (δ : Type) : Q4 Tryz.prog tab (Q17.gs δ) := .cons Q0u.con (.cons Q1I.con .nil)
noncomputable def Q17.c := cx Q17.s [] [] [] false (Q17.gs _)
noncomputable def Q17 (x0 x1 : List Int) : Option (Int) := fnW Q17.s Q17.c (x0, x1)
theorem Q17.fok : FkS Q17.s 118 := ⟨Tryz.func118, by kernel_rfl, by kernel_rfl⟩
noncomputable def Q17.fn (x : Args tab Q17.s.ar) : Option (ResT tab Q17.s.rs) := Q17 x.1 x.2
noncomputable abbrev Q17.k {δ : Type} : Callee (GT tab) δ := kS Q17.s Q17.fn
theorem Q17.con {δ : Type} : Con Tryz.prog (KT tab) 118 (Q17.k (δ := δ)) := Q5 (c := Q17.c) mixed Q1 (Q0 (Q17.gok _)) Q17.fok rfl rfl fun _ => rfl
theorem Q17.eq (x0 x1 : List Int) : Q17 x0 x1 =
 (Q0u x0).bind fun y1 =>
 bif !y1 then
 some (-1 : Int)
 else
 (Q0u x1).bind fun y2 =>
 bif !y2 then
 some (-1 : Int)
 else
 (Q1I x0 x1).bind fun y3 =>
 (at? y3 (0 : Int)).bind fun y4 =>
 (at? y4 (0 : Int)).bind fun y5 =>
 some y5 := by kernel_rfl
noncomputable abbrev Qk.s : Sg := ⟨[.lend, .lend], [vl 3, vl 3], ⟨[vo 122], [none, none]⟩, Tryz.f119⟩
noncomputable def Qk.gs (δ : Type) : List (Nat × Callee (GT tab) δ) := [(88, Q0u.k), (137, Q1I.k)]
theorem Qk.gok (δ : Type) : Q4 Tryz.prog tab (Qk.gs δ) := .cons Q0u.con (.cons Q1I.con .nil)
noncomputable def Qk.c := cx Qk.s [] [3] [(3, [0, 1]), (7, [0, 1, 5, 6, 7, 8]), (10, [0, 1, 5, 6, 7, 8, 9, 10]), (12, [0, 1, 5, 6, 7, 8, 9, 10, 11])] false (Qk.gs _)
noncomputable def Qk (x0 x1 : List Int) : Option (List (Int × Int)) := fnW Qk.s Qk.c (x0, x1)
theorem Qk.fok : FkS Qk.s 119 := ⟨Tryz.func119, by kernel_rfl, by kernel_rfl⟩
noncomputable def Qk.fn (x : Args tab Qk.s.ar) : Option (ResT tab Qk.s.rs) := Qk x.1 x.2
noncomputable abbrev Qk.k {δ : Type} : Callee (GT tab) δ := kS Qk.s Qk.fn
theorem Qk.con {δ : Type} : Con Tryz.prog (KT tab) 119 (Qk.k (δ := δ)) := Q5 (c := Qk.c) mixed Q1 (Q0 (Qk.gok _)) Qk.fok rfl rfl fun _ => rfl
noncomputable def Qk_l0 (v0 v1 : List Int) : Option (List (Int × Int)) := lpW Qk.s Qk.c 0 (ud 84 [.vs false 3 v0, .vs false 3 v1]) [] 0
noncomputable def Qk_l1 (v0 v1 : List Int) (v2 : List (List Int)) (v3 v4 : Int) (v5 : List (Int × Int)) : Option (List (Int × Int)) := lpW Qk.s Qk.c 1 (ud 77 [.vs false 3 v0, .vs false 3 v1, .undef, .undef, .undef, .vs false 24 v2, .sl 0 0, .int .i64 v3, .int .i64 v4]) [.row 0 true 122 v5] 1
noncomputable def Qk_l2 (v0 v1 : List Int) (v2 : List (List Int)) (v3 v4 v5 v6 : Int) (v7 : List (Int × Int)) : Option (List (Int × Int)) := lpW Qk.s Qk.c 2 (ud 75 [.vs false 3 v0, .vs false 3 v1, .undef, .undef, .undef, .vs false 24 v2, .sl 0 0, .int .i64 v3, .int .i64 v4, .int .i64 v5, .int .i64 v6]) [.row 0 true 122 v7] 1
noncomputable def Qk_l3 (v0 v1 : List Int) (v2 : List (List Int)) (v3 v4 v5 v6 v7 : Int) (v8 : List (Int × Int)) : Option (List (Int × Int)) := lpW Qk.s Qk.c 3 (ud 74 [.vs false 3 v0, .vs false 3 v1, .undef, .undef, .undef, .vs false 24 v2, .sl 0 0, .int .i64 v3, .int .i64 v4, .int .i64 v5, .int .i64 v6, .int .i64 v7]) [.row 0 true 122 v8] 1
theorem Qk.eq (x0 x1 : List Int) : Qk x0 x1 =
 (Q0u x0).bind fun y1 =>
 bif !y1 then
 some ([] : List (Int × Int))
 else
 (Q0u x1).bind fun y2 =>
 bif !y2 then
 some ([] : List (Int × Int))
 else
 Qk_l0 x0 x1 := by kernel_rfl
theorem Qk_l0.eq (v0 v1 : List Int) : Qk_l0 v0 v1 =
 (Q1I v0 v1).bind fun y1 =>
 Qk_l1 v0 v1 y1 (0 : Int) (0 : Int) ([] : List (Int × Int)) := (Q7 Q1 (Q0 (Qk.gok _)) _ _).trans (by kernel_rfl)
theorem Qk_l1.eq (v0 v1 : List Int) (v2 : List (List Int)) (v3 v4 : Int) (v5 : List (Int × Int)) : Qk_l1 v0 v1 v2 v3 v4 v5 =
 (at? v2 v3).bind fun y1 =>
 (at? y1 v4).bind fun y2 =>
 bif decide (y2 > (0 : Int)) then
 Qk_l2 v0 v1 v2 v3 v4 v3 (-1 : Int) v5
 else
 some v5 := (Q7 Q1 (Q0 (Qk.gok _)) _ _).trans (by kernel_rfl)
theorem Qk_l2.eq (v0 v1 : List Int) (v2 : List (List Int)) (v3 v4 v5 v6 : Int) (v7 : List (Int × Int)) : Qk_l2 v0 v1 v2 v3 v4 v5 v6 v7 =
 bif decide (v6 < (0 : Int)) then
 Qk_l3 v0 v1 v2 v3 v4 v5 v6 (IntKind.i64.wrap ((v1.length : Int) - (1 : Int))) v7
 else
 bif decide ((v7.length + ([(IntKind.i64.wrap (v5 - (1 : Int)), v6)] : List (Int × Int)).length) * 16 ≤ 140737488355328) then
 Qk_l1 v0 v1 v2 v5 (IntKind.i64.wrap (v6 + (1 : Int))) (v7 ++ ([(IntKind.i64.wrap (v5 - (1 : Int)), v6)] : List (Int × Int)))
 else
 none := (Q7 Q1 (Q0 (Qk.gok _)) _ _).trans (by kernel_rfl)
theorem Qk_l3.eq (v0 v1 : List Int) (v2 : List (List Int)) (v3 v4 v5 v6 v7 : Int) (v8 : List (Int × Int)) : Qk_l3 v0 v1 v2 v3 v4 v5 v6 v7 v8 =
 bif decide (v7 ≥ v4) then
 (at? v0 v5).bind fun y1 =>
 (at? v1 v7).bind fun y2 =>
 bif y1 == y2 then
 (at? v2 (IntKind.i64.wrap (v5 + (1 : Int)))).bind fun y3 =>
 (at? y3 (IntKind.i64.wrap (v7 + (1 : Int)))).bind fun y4 =>
 (at? v2 v3).bind fun y5 =>
 (at? y5 v4).bind fun y6 =>
 bif IntKind.i64.wrap ((1 : Int) + y4) == y6 then
 Qk_l3 v0 v1 v2 v3 v4 v5 v7 (IntKind.i64.wrap (v7 - (1 : Int))) v8
 else
 Qk_l3 v0 v1 v2 v3 v4 v5 v6 (IntKind.i64.wrap (v7 - (1 : Int))) v8
 else
 Qk_l3 v0 v1 v2 v3 v4 v5 v6 (IntKind.i64.wrap (v7 - (1 : Int))) v8
 else
 Qk_l2 v0 v1 v2 v3 v4 (IntKind.i64.wrap (v5 + (1 : Int))) v6 v8 := (Q7 Q1 (Q0 (Qk.gok _)) _ _).trans (by kernel_rfl)
noncomputable abbrev Q0V.s : Sg := ⟨[.lend, .lend, .lend], [vl 3, vl 3, vi], ⟨[vo 122], [none, none, none]⟩, Tryz.f97⟩
noncomputable def Q0V.gs (δ : Type) : List (Nat × Callee (GT tab) δ) := [(118, Q17.k), (119, Qk.k)]
theorem Q0V.gok (δ : Type) : Q4 Tryz.prog tab (Q0V.gs δ) := .cons Q17.con (.cons Qk.con .nil)
noncomputable def Q0V.c := cx Q0V.s [] [] [] false (Q0V.gs _)
noncomputable def Q0V (x0 x1 : List Int) (x2 : Int) : Option (List (Int × Int)) := fnW Q0V.s Q0V.c (x0, x1, x2)
theorem Q0V.fok : FkS Q0V.s 97 := ⟨Tryz.func97, by kernel_rfl, by kernel_rfl⟩
noncomputable def Q0V.fn (x : Args tab Q0V.s.ar) : Option (ResT tab Q0V.s.rs) := Q0V x.1 x.2.1 x.2.2
noncomputable abbrev Q0V.k {δ : Type} : Callee (GT tab) δ := kS Q0V.s Q0V.fn
theorem Q0V.con {δ : Type} : Con Tryz.prog (KT tab) 97 (Q0V.k (δ := δ)) := Q5 (c := Q0V.c) mixed Q1 (Q0 (Q0V.gok _)) Q0V.fok rfl rfl fun _ => rfl
theorem Q0V.eq (x0 x1 : List Int) (x2 : Int) : Q0V x0 x1 x2 =
 (Q17 x0 x1).bind fun y1 =>
 bif decide (y1 < (0 : Int)) then
 some ([] : List (Int × Int))
 else
 bif decide (IntKind.i64.wrap ((IntKind.i64.wrap ((x0.length : Int) + (x1.length : Int))) - (IntKind.i64.wrap ((2 : Int) * y1))) > x2) then
 some ([] : List (Int × Int))
 else
 (Qk x0 x1).bind fun y2 =>
 some y2 := by kernel_rfl
noncomputable abbrev QO.s : Sg := ⟨[.lend, .lend, .lend, .lend], [vl 5, vl 5, vi, vi], ⟨[vo 122], [none, none, none, none]⟩, Tryz.f69⟩
noncomputable def QO.gs (δ : Type) : List (Nat × Callee (GT tab) δ) := [(22, Qt.k), (96, Ql.k), (97, Q0V.k)]
theorem QO.gok (δ : Type) : Q4 Tryz.prog tab (QO.gs δ) := .cons Qt.con (.cons Ql.con (.cons Q0V.con .nil))
noncomputable def QO.c := cx QO.s [] [] [(6, [3, 9, 10, 11, 12, 13]), (11, [3, 9, 10, 11, 12, 13, 14, 15, 16])] false (QO.gs _)
noncomputable def QO (x0 x1 : List Int) (x2 x3 : Int) : Option (List (Int × Int)) := fnW QO.s QO.c (x0, x1, x2, x3)
theorem QO.fok : FkS QO.s 69 := ⟨Tryz.func69, by kernel_rfl, by kernel_rfl⟩
noncomputable def QO.fn (x : Args tab QO.s.ar) : Option (ResT tab QO.s.rs) := QO x.1 x.2.1 x.2.2.1 x.2.2.2
noncomputable abbrev QO.k {δ : Type} : Callee (GT tab) δ := kS QO.s QO.fn
theorem QO.con {δ : Type} : Con Tryz.prog (KT tab) 69 (QO.k (δ := δ)) := Q5 (c := QO.c) mixed Q1 (Q0 (QO.gok _)) QO.fok rfl rfl fun _ => rfl
noncomputable def QO_l0 (v0 : Int) (v1 : List ((List Int) × Int × Int × Int × Int)) (v2 : Int) (v3 : List (Int × Int)) (v4 v5 : List Int) : Option (List (Int × Int)) := lpW QO.s QO.c 0 (ud 63 [.undef, .undef, .undef, .int .i64 v0, .undef, .undef, .undef, .undef, .undef, .sl 0 0, .vs false 119 v1, .sl 1 0, .sl 2 0, .int .i64 v2]) [.row 0 true 122 v3, .row 0 true 3 v4, .row 0 true 3 v5] 3
noncomputable def QO_l1 (v0 : Int) (v1 : List ((List Int) × Int × Int × Int × Int)) (v2 v3 : Int) (v4 : List (Int × Int)) (v5 v6 v7 : List Int) (v8 v9 v10 v11 : Int) (v12 : List (Int × Int)) : Option (List (Int × Int)) := lpW QO.s QO.c 1 (ud 60 [.undef, .undef, .undef, .int .i64 v0, .undef, .undef, .undef, .undef, .undef, .sl 0 0, .vs false 119 v1, .sl 1 0, .sl 2 0, .int .i64 v2, .ptr 3 0, .sl 4 0, .int .i64 v3]) [.row 0 true 122 v4, .row 0 true 3 v5, .row 0 true 3 v6, .box 119 [.vs false 5 v7, .int .i64 v8, .int .i64 v9, .int .i64 v10, .int .i64 v11], .row 0 true 122 v12] 5
theorem QO.eq (x0 x1 : List Int) (x2 x3 : Int) : QO x0 x1 x2 x3 =
 (Ql x0 x1 x2).bind fun y1 =>
 (Qt x0).bind fun y2 =>
 (Qt x1).bind fun y3 =>
 QO_l0 x3 y1 (0 : Int) ([] : List (Int × Int)) y2 y3 := by kernel_rfl
theorem QO_l0.eq (v0 : Int) (v1 : List ((List Int) × Int × Int × Int × Int)) (v2 : Int) (v3 : List (Int × Int)) (v4 v5 : List Int) : QO_l0 v0 v1 v2 v3 v4 v5 =
 bif decide (v2 < (v1.length : Int)) then
 (at? v1 v2).bind fun y1 =>
 bif decide (0 ≤ y1.2.2.1 ∧ y1.2.2.1 ≤ ((v4.length : Nat) : Int)) then
 bif decide (0 ≤ y1.2.1 ∧ y1.2.1 ≤ ((y1.2.2.1.toNat : Nat) : Int)) then
 bif decide (0 ≤ y1.2.2.2.2 ∧ y1.2.2.2.2 ≤ ((v5.length : Nat) : Int)) then
 bif decide (0 ≤ y1.2.2.2.1 ∧ y1.2.2.2.1 ≤ ((y1.2.2.2.2.toNat : Nat) : Int)) then
 (Q0V ((v4.drop y1.2.1.toNat).take (y1.2.2.1.toNat - y1.2.1.toNat)) ((v5.drop y1.2.2.2.1.toNat).take (y1.2.2.2.2.toNat - y1.2.2.2.1.toNat)) v0).bind fun y2 =>
 QO_l1 v0 v1 v2 (0 : Int) v3 v4 v5 y1.1 y1.2.1 y1.2.2.1 y1.2.2.2.1 y1.2.2.2.2 y2
 else
 none
 else
 none
 else
 none
 else
 none
 else
 some v3 := (Q7 Q1 (Q0 (QO.gok _)) _ _).trans (by kernel_rfl)
theorem QO_l1.eq (v0 : Int) (v1 : List ((List Int) × Int × Int × Int × Int)) (v2 v3 : Int) (v4 : List (Int × Int)) (v5 v6 v7 : List Int) (v8 v9 v10 v11 : Int) (v12 : List (Int × Int)) : QO_l1 v0 v1 v2 v3 v4 v5 v6 v7 v8 v9 v10 v11 v12 =
 bif decide (v3 < (v12.length : Int)) then
 (at? v12 v3).bind fun y1 =>
 v12[v3.toNat]?.bind fun y2 =>
 (at? v12 v3).bind fun y3 =>
 v12[v3.toNat]?.bind fun y4 =>
 bif decide ((v4.length + ([(IntKind.i64.wrap (y2.1 + v8), IntKind.i64.wrap (y4.2 + v10))] : List (Int × Int)).length) * 16 ≤ 140737488355328) then
 QO_l1 v0 v1 v2 (IntKind.i64.wrap (v3 + (1 : Int))) (v4 ++ ([(IntKind.i64.wrap (y2.1 + v8), IntKind.i64.wrap (y4.2 + v10))] : List (Int × Int))) v5 v6 v7 v8 v9 v10 v11 v12
 else
 none
 else
 QO_l0 v0 v1 (IntKind.i64.wrap (v2 + (1 : Int))) v4 v5 v6 := (Q7 Q1 (Q0 (QO.gok _)) _ _).trans (by kernel_rfl)
noncomputable abbrev QP.s : Sg := ⟨[.lend, .lend, .lend], [vi, vl 3, vl 122], ⟨[.agg [.int .i64, .sl true true 92, .int .i64, .sl true true 92, .sl true true 3]], [none, none, none]⟩, Tryz.f73⟩
noncomputable def QP.gs (δ : Type) : List (Nat × Callee (GT tab) δ) := [(65, Qo.k)]
theorem QP.gok (δ : Type) : Q4 Tryz.prog tab (QP.gs δ) := .cons Qo.con .nil
noncomputable def QP.c := cx QP.s [] [] [(4, [1, 2, 6, 7, 8, 9]), (12, [1, 6, 8, 10, 11])] false (QP.gs _)
noncomputable def QP (x0 : Int) (x1 : List Int) (x2 : List (Int × Int)) : Option (Int × (List Int) × Int × (List Int) × (List Int)) := fnW QP.s QP.c (x0, x1, x2)
theorem QP.fok : FkS QP.s 73 := ⟨Tryz.func73, by kernel_rfl, by kernel_rfl⟩
noncomputable def QP.fn (x : Args tab QP.s.ar) : Option (ResT tab QP.s.rs) := QP x.1 x.2.1 x.2.2
noncomputable abbrev QP.k {δ : Type} : Callee (GT tab) δ := kS QP.s QP.fn
theorem QP.con {δ : Type} : Con Tryz.prog (KT tab) 73 (QP.k (δ := δ)) := Q5 (c := QP.c) mixed Q1 (Q0 (QP.gok _)) QP.fok rfl rfl fun _ => rfl
noncomputable def QP_l0 (v0 : List Int) (v1 : List (Int × Int)) (v2 v3 v4 : Int) (v5 v6 v7 v8 v9 : List Int) : Option (Int × (List Int) × Int × (List Int) × (List Int)) := lpW QP.s QP.c 0 (ud 61 [.undef, .vs false 3 v0, .vs false 122 v1, .undef, .undef, .undef, .ptr 0 0, .sl 4 0, .sl 5 0, .int .i64 v2]) [.box 82 [.int .i64 v3, .sl 1 0, .int .i64 v4, .sl 2 0, .sl 3 0], .row 0 true 92 v5, .row 0 true 92 v6, .row 0 true 3 v7, .row 0 true 3 v8, .row 0 true 3 v9] 6
noncomputable def QP_l1 (v0 : List Int) (v1 v2 v3 : Int) (v4 v5 v6 v7 : List Int) (v8 v9 : Int) (v10 v11 v12 : List Int) : Option (Int × (List Int) × Int × (List Int) × (List Int)) := lpW QP.s QP.c 1 (ud 59 [.undef, .vs false 3 v0, .undef, .undef, .undef, .undef, .ptr 0 0, .undef, .sl 4 0, .undef, .ptr 5 0, .int .i64 v1]) [.box 82 [.int .i64 v2, .sl 1 0, .int .i64 v3, .sl 2 0, .sl 3 0], .row 0 true 92 v4, .row 0 true 92 v5, .row 0 true 3 v6, .row 0 true 3 v7, .box 82 [.int .i64 v8, .sl 6 0, .int .i64 v9, .sl 7 0, .sl 8 0], .row 0 true 92 v10, .row 0 true 92 v11, .row 0 true 3 v12] 9
theorem QP.eq (x0 : Int) (x1 : List Int) (x2 : List (Int × Int)) : QP x0 x1 x2 =
 bif decide ((0 : Int) ≤ x0) && decide (x0.toNat * 8 ≤ 140737488355328) then
 bif decide ((0 : Int) ≤ (x1.length : Int)) && decide (((x1.length : Int).toNat) * 8 ≤ 140737488355328) then
 QP_l0 x1 x2 (0 : Int) (0 : Int) (0 : Int) ([] : List Int) ([] : List Int) ([] : List Int) (List.replicate x0.toNat (0 : Int)) (List.replicate ((x1.length : Int).toNat) (0 : Int))
 else
 none
 else
 none := by kernel_rfl
theorem QP_l0.eq (v0 : List Int) (v1 : List (Int × Int)) (v2 v3 v4 : Int) (v5 v6 v7 v8 v9 : List Int) : QP_l0 v0 v1 v2 v3 v4 v5 v6 v7 v8 v9 =
 bif decide (v2 < (v1.length : Int)) then
 (at? v1 v2).bind fun y1 =>
 (at? v8 y1.1).bind fun y2 =>
 v8[y1.1.toNat]?.bind fun y3 =>
 (at? v1 v2).bind fun y4 =>
 (at? v9 y4.2).bind fun y5 =>
 v9[y4.2.toNat]?.bind fun y6 =>
 QP_l0 v0 v1 (IntKind.i64.wrap (v2 + (1 : Int))) v3 v4 v5 v6 v7 (v8.set y1.1.toNat (1 : Int)) (v9.set y4.2.toNat (1 : Int))
 else
 (Qo v8).bind fun y7 =>
 (Qo v9).bind fun y8 =>
 QP_l1 v0 (0 : Int) v3 v4 v5 v6 v7 v9 y7.1.1 y8.1.1 y7.1.2 y8.1.2 ([] : List Int) := (Q7 Q1 (Q0 (QP.gok _)) _ _).trans (by kernel_rfl)
theorem QP_l1.eq (v0 : List Int) (v1 v2 v3 : Int) (v4 v5 v6 v7 : List Int) (v8 v9 : Int) (v10 v11 v12 : List Int) : QP_l1 v0 v1 v2 v3 v4 v5 v6 v7 v8 v9 v10 v11 v12 =
 bif decide (v1 < (v0.length : Int)) then
 (at? v7 v1).bind fun y1 =>
 v7[v1.toNat]?.bind fun y2 =>
 bif y2 == (0 : Int) then
 (at? v0 v1).bind fun y3 =>
 bif decide ((v12.length + ([y3] : List Int).length) * 8 ≤ 140737488355328) then
 QP_l1 v0 (IntKind.i64.wrap (v1 + (1 : Int))) v2 v3 v4 v5 v6 v7 v8 v9 v10 v11 (v12 ++ ([y3] : List Int))
 else
 none
 else
 QP_l1 v0 (IntKind.i64.wrap (v1 + (1 : Int))) v2 v3 v4 v5 v6 v7 v8 v9 v10 v11 v12
 else
 some (v8, v10, v9, v11, v12) := (Q7 Q1 (Q0 (QP.gok _)) _ _).trans (by kernel_rfl)
noncomputable abbrev Q0c.s : Sg := ⟨[.lend, .lend], [vl 3, vl 3], ⟨[vo 3], [none, none]⟩, Tryz.f50⟩
noncomputable def Q0c.gs (δ : Type) : List (Nat × Callee (GT tab) δ) := []
theorem Q0c.gok (δ : Type) : Q4 Tryz.prog tab (Q0c.gs δ) := .nil
noncomputable def Q0c.c := cx Q0c.s [] [] [(3, [0, 1, 5, 6])] false (Q0c.gs _)
noncomputable def Q0c (x0 x1 : List Int) : Option (List Int) := fnW Q0c.s Q0c.c (x0, x1)
theorem Q0c.fok : FkS Q0c.s 50 := ⟨Tryz.func50, by kernel_rfl, by kernel_rfl⟩
noncomputable def Q0c.fn (x : Args tab Q0c.s.ar) : Option (ResT tab Q0c.s.rs) := Q0c x.1 x.2
noncomputable abbrev Q0c.k {δ : Type} : Callee (GT tab) δ := kS Q0c.s Q0c.fn
theorem Q0c.con {δ : Type} : Con Tryz.prog (KT tab) 50 (Q0c.k (δ := δ)) := Q5 (c := Q0c.c) mixed Q1 (Q0 (Q0c.gok _)) Q0c.fok rfl rfl fun _ => rfl
noncomputable def Q0c_l0 (v0 v1 : List Int) (v2 : Int) (v3 : List Int) : Option (List Int) := lpW Q0c.s Q0c.c 0 (ud 20 [.vs false 3 v0, .vs false 3 v1, .undef, .undef, .undef, .sl 0 0, .int .i64 v2]) [.row 0 true 3 v3] 1
theorem Q0c.eq (x0 x1 : List Int) : Q0c x0 x1 =
 Q0c_l0 x0 x1 (0 : Int) ([] : List Int) := by kernel_rfl
theorem Q0c_l0.eq (v0 v1 : List Int) (v2 : Int) (v3 : List Int) : Q0c_l0 v0 v1 v2 v3 =
 bif decide (v2 < (v0.length : Int)) then
 (at? v1 v2).bind fun y1 =>
 bif y1 == (0 : Int) then
 (at? v0 v2).bind fun y2 =>
 bif decide ((v3.length + ([y2] : List Int).length) * 8 ≤ 140737488355328) then
 Q0c_l0 v0 v1 (IntKind.i64.wrap (v2 + (1 : Int))) (v3 ++ ([y2] : List Int))
 else
 none
 else
 Q0c_l0 v0 v1 (IntKind.i64.wrap (v2 + (1 : Int))) v3
 else
 some v3 := (Q7 Q1 (Q0 (Q0c.gok _)) _ _).trans (by kernel_rfl)
noncomputable abbrev Q0M.s : Sg := ⟨[.lend, .lend, .lend, .lend], [vl 5, vl 5, vl 122, vi], ⟨[.agg [.int .i64, .int .i64, .int .i64, .sl true true 92, .int .i64, .sl true true 92, .int .i64, .sl true true 3, .sl true true 30, .int .i64, .sl true true 3, .sl true true 30, .sl true true 3, .int .i64, .sl true true 92, .int .i64, .int .i64, .int .i64, .sl true true 92, .int .i64, .int .i64, .int .i64, .sl true true 92]], [none, none, none, none]⟩, Tryz.f35⟩
noncomputable def Q0M.gs (δ : Type) : List (Nat × Callee (GT tab) δ) := [(22, Qt.k), (29, Qn.k), (49, Qj.k), (50, Q0c.k), (51, Qp.k), (73, QP.k)]
theorem Q0M.gok (δ : Type) : Q4 Tryz.prog tab (Q0M.gs δ) := .cons Qt.con (.cons Qn.con (.cons Qj.con (.cons Q0c.con (.cons Qp.con (.cons QP.con .nil)))))
noncomputable def Q0M.c := cx Q0M.s [] [] [] false (Q0M.gs _)
noncomputable def Q0M (x0 x1 : List Int) (x2 : List (Int × Int)) (x3 : Int) : Option (Int × Int × Int × (List Int) × Int × (List Int) × Int × (List Int) × (List (Int × (List Int))) × Int × (List Int) × (List (Int × (List Int))) × (List Int) × Int × (List Int) × Int × Int × Int × (List Int) × Int × Int × Int × (List Int)) := fnW Q0M.s Q0M.c (x0, x1, x2, x3)
theorem Q0M.fok : FkS Q0M.s 35 := ⟨Tryz.func35, by kernel_rfl, by kernel_rfl⟩
noncomputable def Q0M.fn (x : Args tab Q0M.s.ar) : Option (ResT tab Q0M.s.rs) := Q0M x.1 x.2.1 x.2.2.1 x.2.2.2
noncomputable abbrev Q0M.k {δ : Type} : Callee (GT tab) δ := kS Q0M.s Q0M.fn
theorem Q0M.con {δ : Type} : Con Tryz.prog (KT tab) 35 (Q0M.k (δ := δ)) := Q5 (c := Q0M.c) mixed Q1 (Q0 (Q0M.gok _)) Q0M.fok rfl rfl fun _ => rfl
theorem Q0M.eq (x0 x1 : List Int) (x2 : List (Int × Int)) (x3 : Int) : Q0M x0 x1 x2 x3 =
 (Qn x1 x3).bind fun y1 =>
 (Qt x1).bind fun y2 =>
 (QP (IntKind.i64.wrap ((x0.length : Int) + (1 : Int))) y2 x2).bind fun y3 =>
 (Qt x0).bind fun y4 =>
 (Qp (y3.1, y3.2.1)).bind fun y5 =>
 (Q0c y4 y5).bind fun y6 =>
 (Qj y6).bind fun y7 =>
 (Qj y3.2.2.2.2).bind fun y8 =>
 some (y1.1.1, x3, y3.1, y3.2.1, y3.2.2.1, y3.2.2.2.1, y7.1.1, y7.1.2.1, y7.1.2.2, y8.1.1, y8.1.2.1, y8.1.2.2, y1.1.2.2.2.2.2.1, y1.1.2.2.2.2.2.2.1, y1.1.2.2.2.2.2.2.2.1, y1.1.2.2.2.2.2.2.2.2.1, y1.1.2.2.2.2.2.2.2.2.2.1, y1.1.2.2.2.2.2.2.2.2.2.2.1, y1.1.2.2.2.2.2.2.2.2.2.2.2.1, y1.1.2.2.2.2.2.2.2.2.2.2.2.2.1, y1.1.2.2.2.2.2.2.2.2.2.2.2.2.2.1, y1.1.2.2.2.2.2.2.2.2.2.2.2.2.2.2.1, y1.1.2.2.2.2.2.2.2.2.2.2.2.2.2.2.2) := by kernel_rfl
noncomputable abbrev Q18.s : Sg := ⟨[.lend, .lend, .lend, .lend, .lend], [.agg [.int .i64, .int .i64, .int .i64, .sl false false 3, .sl false false 30, .sl false false 3, .int .i64, .sl false false 92, .int .i64, .int .i64, .int .i64, .sl false false 92, .int .i64, .int .i64, .int .i64, .sl false false 92], vl 5, vi, vi, vi], ⟨[.agg [.int .i64, .int .i64, .int .i64, .sl true true 92, .int .i64, .sl true true 92, .int .i64, .sl true true 3, .sl true true 30, .int .i64, .sl true true 3, .sl true true 30, .sl true true 3, .int .i64, .sl true true 92, .int .i64, .int .i64, .int .i64, .sl true true 92, .int .i64, .int .i64, .int .i64, .sl true true 92], vb], [none, none, none, none, none]⟩, Tryz.f31⟩
noncomputable def Q18.gs (δ : Type) : List (Nat × Callee (GT tab) δ) := [(35, Q0M.k), (42, QY.k), (43, Q0t.k), (68, Q0Q.k), (69, QO.k)]
theorem Q18.gok (δ : Type) : Q4 Tryz.prog tab (Q18.gs δ) := .cons Q0M.con (.cons QY.con (.cons Q0t.con (.cons Q0Q.con (.cons QO.con .nil))))
noncomputable def Q18.c := cx Q18.s [] [] [] false (Q18.gs _)
noncomputable def Q18 (x0 : Int × Int × Int × (List Int) × (List (Int × (List Int))) × (List Int) × Int × (List Int) × Int × Int × Int × (List Int) × Int × Int × Int × (List Int)) (x1 : List Int) (x2 x3 x4 : Int) : Option ((Int × Int × Int × (List Int) × Int × (List Int) × Int × (List Int) × (List (Int × (List Int))) × Int × (List Int) × (List (Int × (List Int))) × (List Int) × Int × (List Int) × Int × Int × Int × (List Int) × Int × Int × Int × (List Int)) × Bool) := fnW Q18.s Q18.c (x0, x1, x2, x3, x4)
theorem Q18.fok : FkS Q18.s 31 := ⟨Tryz.func31, by kernel_rfl, by kernel_rfl⟩
noncomputable def Q18.fn (x : Args tab Q18.s.ar) : Option (ResT tab Q18.s.rs) := Q18 x.1 x.2.1 x.2.2.1 x.2.2.2.1 x.2.2.2.2
noncomputable abbrev Q18.k {δ : Type} : Callee (GT tab) δ := kS Q18.s Q18.fn
theorem Q18.con {δ : Type} : Con Tryz.prog (KT tab) 31 (Q18.k (δ := δ)) := Q5 (c := Q18.c) mixed Q1 (Q0 (Q18.gok _)) Q18.fok rfl rfl fun _ => rfl
theorem Q18.eq (x0 : Int × Int × Int × (List Int) × (List (Int × (List Int))) × (List Int) × Int × (List Int) × Int × Int × Int × (List Int) × Int × Int × Int × (List Int)) (x1 : List Int) (x2 x3 x4 : Int) : Q18 x0 x1 x2 x3 x4 =
 (QY x0).bind fun y1 =>
 bif !y1.2 then
 some (((0 : Int), (0 : Int), (0 : Int), ([] : List Int), (0 : Int), ([] : List Int), (0 : Int), ([] : List Int), ([] : List (Int × (List Int))), (0 : Int), ([] : List Int), ([] : List (Int × (List Int))), ([] : List Int), (0 : Int), ([] : List Int), (0 : Int), (0 : Int), (0 : Int), ([] : List Int), (0 : Int), (0 : Int), (0 : Int), ([] : List Int)), false)
 else
 (Q0Q y1.1 x1 x2).bind fun y2 =>
 bif !y2 then
 some (((0 : Int), (0 : Int), (0 : Int), ([] : List Int), (0 : Int), ([] : List Int), (0 : Int), ([] : List Int), ([] : List (Int × (List Int))), (0 : Int), ([] : List Int), ([] : List (Int × (List Int))), ([] : List Int), (0 : Int), ([] : List Int), (0 : Int), (0 : Int), (0 : Int), ([] : List Int), (0 : Int), (0 : Int), (0 : Int), ([] : List Int)), false)
 else
 (Q0t x4).bind fun y3 =>
 bif !y3 then
 some (((0 : Int), (0 : Int), (0 : Int), ([] : List Int), (0 : Int), ([] : List Int), (0 : Int), ([] : List Int), ([] : List (Int × (List Int))), (0 : Int), ([] : List Int), ([] : List (Int × (List Int))), ([] : List Int), (0 : Int), ([] : List Int), (0 : Int), (0 : Int), (0 : Int), ([] : List Int), (0 : Int), (0 : Int), (0 : Int), ([] : List Int)), false)
 else
 (QO y1.1 x1 x2 x3).bind fun y4 =>
 (Q0M y1.1 x1 y4 x4).bind fun y5 =>
 some (y5, true) := by kernel_rfl
noncomputable abbrev Q00.s : Sg := ⟨[.keep], [.one (.ptr true 62 [.b (.b (.b (.sl false false 5))), .b (.b (.b (.int .i64))), .b (.b (.b (.int .i64)))])], ⟨[vi], [some (.one (.ptr true 62 [.b (.b (.b (.sl false false 5))), .b (.b (.b (.int .i64))), .b (.b (.b (.int .i64)))]))]⟩, Tryz.f15⟩
noncomputable def Q00.gs (δ : Type) : List (Nat × Callee (GT tab) δ) := [(14, Q9.k)]
theorem Q00.gok (δ : Type) : Q4 Tryz.prog tab (Q00.gs δ) := .cons Q9.con .nil
noncomputable def Q00.c := cx Q00.s [] [] [] false (Q00.gs _)
noncomputable def Q00 (x0 : (List Int) × Int × Int) : Option (Int × ((List Int) × Int × Int)) := fnW Q00.s Q00.c x0
theorem Q00.fok : FkS Q00.s 15 := ⟨Tryz.func15, by kernel_rfl, by kernel_rfl⟩
noncomputable def Q00.fn (x : Args tab Q00.s.ar) : Option (ResT tab Q00.s.rs) := Q00 x
noncomputable abbrev Q00.k {δ : Type} : Callee (GT tab) δ := kS Q00.s Q00.fn
theorem Q00.con {δ : Type} : Con Tryz.prog (KT tab) 15 (Q00.k (δ := δ)) := Q5 (c := Q00.c) mixed Q1 (Q0 (Q00.gok _)) Q00.fok rfl rfl fun _ => rfl
theorem Q00.eq (x0 : (List Int) × Int × Int) : Q00 x0 =
 (Q9 x0 (8 : Int)).bind fun y1 =>
 bif y1.1 == (0 : Int) then
 (Q9 y1.2 (256 : Int)).bind fun y2 =>
 some (IntKind.i64.wrap (y2.1 - (128 : Int)), y2.2)
 else
 bif y1.1 == (1 : Int) then
 (Q9 y1.2 (8 : Int)).bind fun y3 =>
 (at? ([(9223372036854775807 : Int), (-9223372036854775808 : Int), (4611686018427387904 : Int), (4294967295 : Int), (4294967296 : Int), (-1000 : Int), (1000 : Int), (257 : Int)] : List Int) y3.1).bind fun y4 =>
 ([(9223372036854775807 : Int), (-9223372036854775808 : Int), (4611686018427387904 : Int), (4294967295 : Int), (4294967296 : Int), (-1000 : Int), (1000 : Int), (257 : Int)] : List Int)[y3.1.toNat]?.bind fun y5 =>
 some (y5, y3.2)
 else
 (Q9 y1.2 (14 : Int)).bind fun y6 =>
 some (IntKind.i64.wrap (y6.1 - (3 : Int)), y6.2) := by kernel_rfl
noncomputable abbrev Q19.s : Sg := ⟨[.keep, .lend], [.one (.ptr true 62 [.b (.b (.b (.sl false false 5))), .b (.b (.b (.int .i64))), .b (.b (.b (.int .i64)))]), vi], ⟨[vi], [some (.one (.ptr true 62 [.b (.b (.b (.sl false false 5))), .b (.b (.b (.int .i64))), .b (.b (.b (.int .i64)))])), none]⟩, Tryz.f98⟩
noncomputable def Q19.gs (δ : Type) : List (Nat × Callee (GT tab) δ) := [(14, Q9.k)]
theorem Q19.gok (δ : Type) : Q4 Tryz.prog tab (Q19.gs δ) := .cons Q9.con .nil
noncomputable def Q19.c := cx Q19.s [] [] [] false (Q19.gs _)
noncomputable def Q19 (x0 : (List Int) × Int × Int) (x1 : Int) : Option (Int × ((List Int) × Int × Int)) := fnW Q19.s Q19.c (x0, x1)
theorem Q19.fok : FkS Q19.s 98 := ⟨Tryz.func98, by kernel_rfl, by kernel_rfl⟩
noncomputable def Q19.fn (x : Args tab Q19.s.ar) : Option (ResT tab Q19.s.rs) := Q19 x.1 x.2
noncomputable abbrev Q19.k {δ : Type} : Callee (GT tab) δ := kS Q19.s Q19.fn
theorem Q19.con {δ : Type} : Con Tryz.prog (KT tab) 98 (Q19.k (δ := δ)) := Q5 (c := Q19.c) mixed Q1 (Q0 (Q19.gok _)) Q19.fok rfl rfl fun _ => rfl
theorem Q19.eq (x0 : (List Int) × Int × Int) (x1 : Int) : Q19 x0 x1 =
 (Q9 x0 (256 : Int)).bind fun y1 =>
 (Q9 y1.2 (256 : Int)).bind fun y2 =>
 (Q9 y2.2 (256 : Int)).bind fun y3 =>
 bif decide (x1 = (0 : Int)) then
 none
 else
 some ((IntKind.i64.wrap ((IntKind.i64.wrap ((IntKind.i64.wrap ((65536 : Int) * y1.1)) + (IntKind.i64.wrap ((256 : Int) * y2.1)))) + y3.1)).tmod x1, y3.2) := by kernel_rfl
noncomputable abbrev Q06.s : Sg := ⟨[.keep, .lend, .lend], [.one (.ptr true 62 [.b (.b (.b (.sl false false 5))), .b (.b (.b (.int .i64))), .b (.b (.b (.int .i64)))]), vi, vi], ⟨[vo 3], [some (.one (.ptr true 62 [.b (.b (.b (.sl false false 5))), .b (.b (.b (.int .i64))), .b (.b (.b (.int .i64)))])), none, none]⟩, Tryz.f72⟩
noncomputable def Q06.gs (δ : Type) : List (Nat × Callee (GT tab) δ) := [(94, Q0P.k), (98, Q19.k)]
theorem Q06.gok (δ : Type) : Q4 Tryz.prog tab (Q06.gs δ) := .cons Q0P.con (.cons Q19.con .nil)
noncomputable def Q06.c := cx Q06.s [] [] [(3, [0, 2, 7, 8])] false (Q06.gs _)
noncomputable def Q06 (x0 : (List Int) × Int × Int) (x1 x2 : Int) : Option ((List Int) × ((List Int) × Int × Int)) := fnW Q06.s Q06.c (x0, x1, x2)
theorem Q06.fok : FkS Q06.s 72 := ⟨Tryz.func72, by kernel_rfl, by kernel_rfl⟩
noncomputable def Q06.fn (x : Args tab Q06.s.ar) : Option (ResT tab Q06.s.rs) := Q06 x.1 x.2.1 x.2.2
noncomputable abbrev Q06.k {δ : Type} : Callee (GT tab) δ := kS Q06.s Q06.fn
theorem Q06.con {δ : Type} : Con Tryz.prog (KT tab) 72 (Q06.k (δ := δ)) := Q5 (c := Q06.c) mixed Q1 (Q0 (Q06.gok _)) Q06.fok rfl rfl fun _ => rfl
noncomputable def Q06_l0 (v0 v1 : Int) (v2 : List Int) (v3 v4 : Int) (v5 : List Int) : Option ((List Int) × ((List Int) × Int × Int)) := lpW Q06.s Q06.c 0 (ud 16 [.ptr 0 0, .undef, .int .i64 v0, .undef, .undef, .undef, .undef, .sl 1 0, .int .i64 v1]) [.box 62 [.vs false 5 v2, .int .i64 v3, .int .i64 v4], .row 0 true 3 v5] 2
theorem Q06.eq (x0 : (List Int) × Int × Int) (x1 x2 : Int) : Q06 x0 x1 x2 =
 (Q0P x0 x1).bind fun y1 =>
 Q06_l0 x2 y1.1 y1.2.1 y1.2.2.1 y1.2.2.2 ([] : List Int) := by kernel_rfl
theorem Q06_l0.eq (v0 v1 : Int) (v2 : List Int) (v3 v4 : Int) (v5 : List Int) : Q06_l0 v0 v1 v2 v3 v4 v5 =
 bif decide (v1 > (0 : Int)) then
 (Q19 (v2, v3, v4) (if v0 > (1 : Int) then v0 else (1 : Int))).bind fun y1 =>
 bif decide ((v5.length + ([y1.1] : List Int).length) * 8 ≤ 140737488355328) then
 Q06_l0 v0 (IntKind.i64.wrap (v1 - (1 : Int))) y1.2.1 y1.2.2.1 y1.2.2.2 (v5 ++ ([y1.1] : List Int))
 else
 none
 else
 some (v5, (v2, v3, v4)) := (Q7 Q1 (Q0 (Q06.gok _)) _ _).trans (by kernel_rfl)
noncomputable abbrev QQ.s : Sg := ⟨[.keep], [.one (.ptr true 62 [.b (.b (.b (.sl false false 5))), .b (.b (.b (.int .i64))), .b (.b (.b (.int .i64)))])], ⟨[vo 3], [some (.one (.ptr true 62 [.b (.b (.b (.sl false false 5))), .b (.b (.b (.int .i64))), .b (.b (.b (.int .i64)))]))]⟩, Tryz.f71⟩
noncomputable def QQ.gs (δ : Type) : List (Nat × Callee (GT tab) δ) := [(14, Q9.k), (60, Q0p.k), (64, Q0F.k)]
theorem QQ.gok (δ : Type) : Q4 Tryz.prog tab (QQ.gs δ) := .cons Q9.con (.cons Q0p.con (.cons Q0F.con .nil))
noncomputable def QQ.c := cx QQ.s [] [] [(4, [0, 3, 4, 5]), (11, [0, 3])] false (QQ.gs _)
noncomputable def QQ (x0 : (List Int) × Int × Int) : Option ((List Int) × ((List Int) × Int × Int)) := fnW QQ.s QQ.c x0
theorem QQ.fok : FkS QQ.s 71 := ⟨Tryz.func71, by kernel_rfl, by kernel_rfl⟩
noncomputable def QQ.fn (x : Args tab QQ.s.ar) : Option (ResT tab QQ.s.rs) := QQ x
noncomputable abbrev QQ.k {δ : Type} : Callee (GT tab) δ := kS QQ.s QQ.fn
theorem QQ.con {δ : Type} : Con Tryz.prog (KT tab) 71 (QQ.k (δ := δ)) := Q5 (c := QQ.c) mixed Q1 (Q0 (QQ.gok _)) QQ.fok rfl rfl fun _ => rfl
noncomputable def QQ_l0 (v0 v1 : Int) (v2 : List Int) (v3 v4 : Int) (v5 : List Int) : Option ((List Int) × ((List Int) × Int × Int)) := lpW QQ.s QQ.c 0 (ud 42 [.ptr 0 0, .undef, .undef, .sl 1 0, .int .i64 v0, .int .i64 v1]) [.box 62 [.vs false 5 v2, .int .i64 v3, .int .i64 v4], .row 0 true 3 v5] 2
noncomputable def QQ_l1 (v0 : List Int) (v1 v2 : Int) (v3 : List Int) : Option ((List Int) × ((List Int) × Int × Int)) := lpW QQ.s QQ.c 1 (ud 44 [.ptr 0 0, .undef, .undef, .sl 1 0]) [.box 62 [.vs false 5 v0, .int .i64 v1, .int .i64 v2], .row 0 true 3 v3] 2
theorem QQ.eq (x0 : (List Int) × Int × Int) : QQ x0 =
 (Q9 x0 (4 : Int)).bind fun y1 =>
 (Q9 y1.2 (3 : Int)).bind fun y2 =>
 (at? ([(5 : Int), (40 : Int), (140 : Int)] : List Int) y2.1).bind fun y3 =>
 ([(5 : Int), (40 : Int), (140 : Int)] : List Int)[y2.1.toNat]?.bind fun y4 =>
 (Q9 y2.2 y4).bind fun y5 =>
 QQ_l0 y1.1 y5.1 y5.2.1 y5.2.2.1 y5.2.2.2 ([] : List Int) := by kernel_rfl
theorem QQ_l0.eq (v0 v1 : Int) (v2 : List Int) (v3 v4 : Int) (v5 : List Int) : QQ_l0 v0 v1 v2 v3 v4 v5 =
 bif decide (v1 > (0 : Int)) then
 (Q9 (v2, v3, v4) (2 : Int)).bind fun y1 =>
 bif v0 == (0 : Int) then
 (Q0p y1.2 (9 : Int)).bind fun y2 =>
 (Q0F y2.1).bind fun y3 =>
 bif decide ((v5.length + ([y3] : List Int).length) * 8 ≤ 140737488355328) then
 QQ_l0 v0 (IntKind.i64.wrap (v1 - (1 : Int))) y2.2.1 y2.2.2.1 y2.2.2.2 (v5 ++ ([y3] : List Int))
 else
 none
 else
 bif decide ((v5.length + ([y1.1] : List Int).length) * 8 ≤ 140737488355328) then
 QQ_l0 v0 (IntKind.i64.wrap (v1 - (1 : Int))) y1.2.1 y1.2.2.1 y1.2.2.2 (v5 ++ ([y1.1] : List Int))
 else
 none
 else
 (Q0p (v2, v3, v4) (60 : Int)).bind fun y4 =>
 bif y4.1 then
 QQ_l1 y4.2.1 y4.2.2.1 y4.2.2.2 v5
 else
 some (v5, y4.2) := (Q7 Q1 (Q0 (QQ.gok _)) _ _).trans (by kernel_rfl)
theorem QQ_l1.eq (v0 : List Int) (v1 v2 : Int) (v3 : List Int) : QQ_l1 v0 v1 v2 v3 =
 (Q9 (v0, v1, v2) (2 : Int)).bind fun y1 =>
 bif decide ((v3.length : Int) < IntKind.i64.wrap ((5000 : Int) + y1.1)) then
 bif decide ((v3.length + ([IntKind.i64.wrap (((v3.length : Int).tmod (3 : Int)).tdiv (2 : Int))] : List Int).length) * 8 ≤ 140737488355328) then
 QQ_l1 y1.2.1 y1.2.2.1 y1.2.2.2 (v3 ++ ([IntKind.i64.wrap (((v3.length : Int).tmod (3 : Int)).tdiv (2 : Int))] : List Int))
 else
 none
 else
 some (v3, y1.2) := (Q7 Q1 (Q0 (QQ.gok _)) _ _).trans (by kernel_rfl)
noncomputable abbrev Q0v.s : Sg := ⟨[.keep], [.one (.ptr true 62 [.b (.b (.b (.sl false false 5))), .b (.b (.b (.int .i64))), .b (.b (.b (.int .i64)))])], ⟨[.agg [.int .i64, .sl true true 92]], [some (.one (.ptr true 62 [.b (.b (.b (.sl false false 5))), .b (.b (.b (.int .i64))), .b (.b (.b (.int .i64)))]))]⟩, Tryz.f33⟩
noncomputable def Q0v.gs (δ : Type) : List (Nat × Callee (GT tab) δ) := [(14, Q9.k), (15, Q00.k), (65, Qo.k), (71, QQ.k)]
theorem Q0v.gok (δ : Type) : Q4 Tryz.prog tab (Q0v.gs δ) := .cons Q9.con (.cons Q00.con (.cons Qo.con (.cons QQ.con .nil)))
noncomputable def Q0v.c := cx Q0v.s [] [] [] false (Q0v.gs _)
noncomputable def Q0v (x0 : (List Int) × Int × Int) : Option ((Int × (List Int)) × ((List Int) × Int × Int)) := fnW Q0v.s Q0v.c x0
theorem Q0v.fok : FkS Q0v.s 33 := ⟨Tryz.func33, by kernel_rfl, by kernel_rfl⟩
noncomputable def Q0v.fn (x : Args tab Q0v.s.ar) : Option (ResT tab Q0v.s.rs) := Q0v x
noncomputable abbrev Q0v.k {δ : Type} : Callee (GT tab) δ := kS Q0v.s Q0v.fn
theorem Q0v.con {δ : Type} : Con Tryz.prog (KT tab) 33 (Q0v.k (δ := δ)) := Q5 (c := Q0v.c) mixed Q1 (Q0 (Q0v.gok _)) Q0v.fok rfl rfl fun _ => rfl
theorem Q0v.eq (x0 : (List Int) × Int × Int) : Q0v x0 =
 (QQ x0).bind fun y1 =>
 (Qo y1.1).bind fun y2 =>
 (Q9 y1.2 (14 : Int)).bind fun y3 =>
 bif y3.1 == (0 : Int) then
 (Q00 y3.2).bind fun y4 =>
 (Q9 y4.2 (3 : Int)).bind fun y5 =>
 (at? ([y4.1, IntKind.i64.wrap (y2.1.1 + (1 : Int)), IntKind.i64.wrap (y2.1.1 - (1 : Int))] : List Int) y5.1).bind fun y6 =>
 ([y4.1, IntKind.i64.wrap (y2.1.1 + (1 : Int)), IntKind.i64.wrap (y2.1.1 - (1 : Int))] : List Int)[y5.1.toNat]?.bind fun y7 =>
 some ((y7, y2.1.2), y5.2)
 else
 bif y3.1 == (1 : Int) then
 (Q9 y3.2 (2 : Int)).bind fun y8 =>
 bif decide ((y2.1.2.length + ([IntKind.u64.wrap y8.1] : List Int).length) * 8 ≤ 140737488355328) then
 some ((y2.1.1, y2.1.2 ++ ([IntKind.u64.wrap y8.1] : List Int)), y8.2)
 else
 none
 else
 bif y3.1 == (2 : Int) then
 bif decide ((y2.1.2.length : Int) > (0 : Int)) then
 (Q9 y3.2 (y2.1.2.length : Int)).bind fun y9 =>
 (at? y2.1.2 y9.1).bind fun y10 =>
 y2.1.2[y9.1.toNat]?.bind fun y11 =>
 some ((y2.1.1, y2.1.2.set y9.1.toNat (18446744073709551615 : Int)), y9.2)
 else
 some (y2.1, y3.2)
 else
 some (y2.1, y3.2) := by kernel_rfl
noncomputable abbrev Q0f.s : Sg := ⟨[.keep], [.one (.ptr true 62 [.b (.b (.b (.sl false false 5))), .b (.b (.b (.int .i64))), .b (.b (.b (.int .i64)))])], ⟨[.agg [.int .i64, .sl true true 3, .sl true true 30]], [some (.one (.ptr true 62 [.b (.b (.b (.sl false false 5))), .b (.b (.b (.int .i64))), .b (.b (.b (.int .i64)))]))]⟩, Tryz.f34⟩
noncomputable def Q0f.gs (δ : Type) : List (Nat × Callee (GT tab) δ) := [(14, Q9.k), (15, Q00.k), (22, Qt.k), (33, Q0v.k), (49, Qj.k), (59, QK.k), (60, Q0p.k), (72, Q06.k)]
theorem Q0f.gok (δ : Type) : Q4 Tryz.prog tab (Q0f.gs δ) := .cons Q9.con (.cons Q00.con (.cons Qt.con (.cons Q0v.con (.cons Qj.con (.cons QK.con (.cons Q0p.con (.cons Q06.con .nil)))))))
noncomputable def Q0f.c := cx Q0f.s [] [4] [(4, [0, 2, 3])] false (Q0f.gs _)
noncomputable def Q0f (x0 : (List Int) × Int × Int) : Option ((Int × (List Int) × (List (Int × (List Int)))) × ((List Int) × Int × Int)) := fnW Q0f.s Q0f.c x0
theorem Q0f.fok : FkS Q0f.s 34 := ⟨Tryz.func34, by kernel_rfl, by kernel_rfl⟩
noncomputable def Q0f.fn (x : Args tab Q0f.s.ar) : Option (ResT tab Q0f.s.rs) := Q0f x
noncomputable abbrev Q0f.k {δ : Type} : Callee (GT tab) δ := kS Q0f.s Q0f.fn
theorem Q0f.con {δ : Type} : Con Tryz.prog (KT tab) 34 (Q0f.k (δ := δ)) := Q5 (c := Q0f.c) mixed Q1 (Q0 (Q0f.gok _)) Q0f.fok rfl rfl fun _ => rfl
noncomputable def Q0f_l0 (v0 : List Int) (v1 v2 v3 : Int) (v4 : List Int) (v5 : List (Int × (List Int))) (v6 : List Int) : Option ((Int × (List Int) × (List (Int × (List Int)))) × ((List Int) × Int × Int)) := lpW Q0f.s Q0f.c 0 (ud 64 [.ptr 0 0, .undef, .ptr 1 0, .sl 4 0]) [.box 62 [.vs false 5 v0, .int .i64 v1, .int .i64 v2], .box 27 [.int .i64 v3, .sl 2 0, .sl 3 0], .row 0 true 3 v4, .row 0 true 30 v5, .row 0 true 3 v6] 5
theorem Q0f.eq (x0 : (List Int) × Int × Int) : Q0f x0 =
 (Q9 x0 (3 : Int)).bind fun y1 =>
 (at? ([(3 : Int), (100 : Int), (512 : Int)] : List Int) y1.1).bind fun y2 =>
 ([(3 : Int), (100 : Int), (512 : Int)] : List Int)[y1.1.toNat]?.bind fun y3 =>
 (Q06 y1.2 (24 : Int) y3).bind fun y4 =>
 (Q0p y4.2 (3 : Int)).bind fun y5 =>
 bif y5.1 then
 (QK y5.2 (24 : Int)).bind fun y6 =>
 (Qt y6.1).bind fun y7 =>
 Q0f_l0 y6.2.1 y6.2.2.1 y6.2.2.2 (0 : Int) ([] : List Int) ([] : List (Int × (List Int))) y7
 else
 Q0f_l0 y5.2.1 y5.2.2.1 y5.2.2.2 (0 : Int) ([] : List Int) ([] : List (Int × (List Int))) y4.1 := by kernel_rfl
theorem Q0f_l0.eq (v0 : List Int) (v1 v2 v3 : Int) (v4 : List Int) (v5 : List (Int × (List Int))) (v6 : List Int) : Q0f_l0 v0 v1 v2 v3 v4 v5 v6 =
 (Qj v6).bind fun y1 =>
 (Q9 (v0, v1, v2) (14 : Int)).bind fun y2 =>
 bif y2.1 == (0 : Int) then
 (Q9 y2.2 (3 : Int)).bind fun y3 =>
 some ((IntKind.i64.wrap ((IntKind.i64.wrap (y1.1.1 + y3.1)) - (1 : Int)), y1.1.2.1, y1.1.2.2), y3.2)
 else
 bif y2.1 == (1 : Int) then
 (Q9 y2.2 (9 : Int)).bind fun y4 =>
 (Q00 y4.2).bind fun y5 =>
 (at? y1.1.2.1 y4.1).bind fun y6 =>
 y1.1.2.1[y4.1.toNat]?.bind fun y7 =>
 some ((y1.1.1, y1.1.2.1.set y4.1.toNat y5.1, y1.1.2.2), y5.2)
 else
 bif y2.1 == (2 : Int) then
 (Q9 y2.2 (9 : Int)).bind fun y8 =>
 (Q0v y8.2).bind fun y9 =>
 (at? y1.1.2.2 y8.1).bind fun y10 =>
 y1.1.2.2[y8.1.toNat]?.bind fun y11 =>
 some ((y1.1.1, y1.1.2.1, y1.1.2.2.set y8.1.toNat (y9.1.1, y9.1.2)), y9.2)
 else
 bif y2.1 == (3 : Int) then
 (Q9 y2.2 (9 : Int)).bind fun y12 =>
 bif decide (0 ≤ y12.1 ∧ y12.1 ≤ ((y1.1.2.2.length : Nat) : Int)) then
 some ((y1.1.1, y1.1.2.1, y1.1.2.2.take (y12.1.toNat - 0)), y12.2)
 else
 none
 else
 bif y2.1 == (4 : Int) then
 bif decide ((y1.1.2.1.length + ([(0 : Int)] : List Int).length) * 8 ≤ 140737488355328) then
 some ((y1.1.1, y1.1.2.1 ++ ([(0 : Int)] : List Int), y1.1.2.2), y2.2)
 else
 none
 else
 some (y1.1, y2.2) := (Q7 Q1 (Q0 (Q0f.gok _)) _ _).trans (by kernel_rfl)
noncomputable abbrev Q1a.s : Sg := ⟨[.keep], [.one (.ptr true 62 [.b (.b (.b (.sl false false 5))), .b (.b (.b (.int .i64))), .b (.b (.b (.int .i64)))])], ⟨[.agg [.int .i64, .int .i64, .int .i64, .sl true true 92]], [some (.one (.ptr true 62 [.b (.b (.b (.sl false false 5))), .b (.b (.b (.int .i64))), .b (.b (.b (.int .i64)))]))]⟩, Tryz.f70⟩
noncomputable def Q1a.gs (δ : Type) : List (Nat × Callee (GT tab) δ) := [(14, Q9.k), (15, Q00.k), (33, Q0v.k), (66, Qm.k), (72, Q06.k), (92, Q05.k)]
theorem Q1a.gok (δ : Type) : Q4 Tryz.prog tab (Q1a.gs δ) := .cons Q9.con (.cons Q00.con (.cons Q0v.con (.cons Qm.con (.cons Q06.con (.cons Q05.con .nil)))))
noncomputable def Q1a.c := cx Q1a.s [] [] [] false (Q1a.gs _)
noncomputable def Q1a (x0 : (List Int) × Int × Int) : Option ((Int × Int × Int × (List Int)) × ((List Int) × Int × Int)) := fnW Q1a.s Q1a.c x0
theorem Q1a.fok : FkS Q1a.s 70 := ⟨Tryz.func70, by kernel_rfl, by kernel_rfl⟩
noncomputable def Q1a.fn (x : Args tab Q1a.s.ar) : Option (ResT tab Q1a.s.rs) := Q1a x
noncomputable abbrev Q1a.k {δ : Type} : Callee (GT tab) δ := kS Q1a.s Q1a.fn
theorem Q1a.con {δ : Type} : Con Tryz.prog (KT tab) 70 (Q1a.k (δ := δ)) := Q5 (c := Q1a.c) mixed Q1 (Q0 (Q1a.gok _)) Q1a.fok rfl rfl fun _ => rfl
theorem Q1a.eq (x0 : (List Int) × Int × Int) : Q1a x0 =
 (Q9 x0 (5 : Int)).bind fun y1 =>
 (at? ([(0 : Int), (1 : Int), (3 : Int), (7 : Int), (24 : Int)] : List Int) y1.1).bind fun y2 =>
 ([(0 : Int), (1 : Int), (3 : Int), (7 : Int), (24 : Int)] : List Int)[y1.1.toNat]?.bind fun y3 =>
 (Q05 y3).bind fun y4 =>
 (Q06 y1.2 (20 : Int) y4).bind fun y5 =>
 (Qm y5.1 y3).bind fun y6 =>
 (Q9 y5.2 (12 : Int)).bind fun y7 =>
 bif y7.1 == (0 : Int) then
 (Q00 y7.2).bind fun y8 =>
 (Q9 y8.2 (3 : Int)).bind fun y9 =>
 (at? ([y8.1, (32 : Int), (33 : Int)] : List Int) y9.1).bind fun y10 =>
 ([y8.1, (32 : Int), (33 : Int)] : List Int)[y9.1.toNat]?.bind fun y11 =>
 some ((y11, y6.1.2.1, y6.1.2.2.1, y6.1.2.2.2), y9.2)
 else
 bif y7.1 == (1 : Int) then
 (Q00 y7.2).bind fun y12 =>
 (Q9 y12.2 (2 : Int)).bind fun y13 =>
 (at? ([y12.1, IntKind.i64.wrap (y6.1.2.1 + (1 : Int))] : List Int) y13.1).bind fun y14 =>
 ([y12.1, IntKind.i64.wrap (y6.1.2.1 + (1 : Int))] : List Int)[y13.1.toNat]?.bind fun y15 =>
 some ((y6.1.1, y15, y6.1.2.2.1, y6.1.2.2.2), y13.2)
 else
 bif y7.1 == (2 : Int) then
 (Q0v y7.2).bind fun y16 =>
 some ((y6.1.1, y6.1.2.1, y16.1.1, y16.1.2), y16.2)
 else
 some (y6.1, y7.2) := by kernel_rfl
noncomputable abbrev Q1b.s : Sg := ⟨[.keep], [.one (.ptr true 62 [.b (.b (.b (.sl false false 5))), .b (.b (.b (.int .i64))), .b (.b (.b (.int .i64)))])], ⟨[.agg [.int .i64, .int .i64, .int .i64, .sl false false 3, .sl false false 30, .sl false false 3, .int .i64, .sl false false 92, .int .i64, .int .i64, .int .i64, .sl false false 92, .int .i64, .int .i64, .int .i64, .sl false false 92]], [some (.one (.ptr true 62 [.b (.b (.b (.sl false false 5))), .b (.b (.b (.int .i64))), .b (.b (.b (.int .i64)))]))]⟩, Tryz.f32⟩
noncomputable def Q1b.gs (δ : Type) : List (Nat × Callee (GT tab) δ) := [(14, Q9.k), (15, Q00.k), (29, Qn.k), (30, Q0K.k), (33, Q0v.k), (34, Q0f.k), (59, QK.k), (70, Q1a.k)]
theorem Q1b.gok (δ : Type) : Q4 Tryz.prog tab (Q1b.gs δ) := .cons Q9.con (.cons Q00.con (.cons Qn.con (.cons Q0K.con (.cons Q0v.con (.cons Q0f.con (.cons QK.con (.cons Q1a.con .nil)))))))
noncomputable def Q1b.c := cx Q1b.s [] [] [] false (Q1b.gs _)
noncomputable def Q1b (x0 : (List Int) × Int × Int) : Option ((Int × Int × Int × (List Int) × (List (Int × (List Int))) × (List Int) × Int × (List Int) × Int × Int × Int × (List Int) × Int × Int × Int × (List Int)) × ((List Int) × Int × Int)) := fnW Q1b.s Q1b.c x0
theorem Q1b.fok : FkS Q1b.s 32 := ⟨Tryz.func32, by kernel_rfl, by kernel_rfl⟩
noncomputable def Q1b.fn (x : Args tab Q1b.s.ar) : Option (ResT tab Q1b.s.rs) := Q1b x
noncomputable abbrev Q1b.k {δ : Type} : Callee (GT tab) δ := kS Q1b.s Q1b.fn
theorem Q1b.con {δ : Type} : Con Tryz.prog (KT tab) 32 (Q1b.k (δ := δ)) := Q5 (c := Q1b.c) mixed Q1 (Q0 (Q1b.gok _)) Q1b.fok rfl rfl fun _ => rfl
theorem Q1b.eq (x0 : (List Int) × Int × Int) : Q1b x0 =
 (QK x0 (24 : Int)).bind fun y1 =>
 (Q0K y1.2).bind fun y2 =>
 (Qn y1.1 y2.1).bind fun y3 =>
 (Q9 y2.2 (16 : Int)).bind fun y4 =>
 bif y4.1 == (0 : Int) then
 (Q9 y4.2 (3 : Int)).bind fun y5 =>
 some ((IntKind.i64.wrap ((IntKind.i64.wrap (y3.1.1 + y5.1)) - (1 : Int)), y3.1.2.1, y3.1.2.2.1, y3.1.2.2.2.1, y3.1.2.2.2.2.1, y3.1.2.2.2.2.2.1, y3.1.2.2.2.2.2.2.1, y3.1.2.2.2.2.2.2.2.1, y3.1.2.2.2.2.2.2.2.2.1, y3.1.2.2.2.2.2.2.2.2.2.1, y3.1.2.2.2.2.2.2.2.2.2.2.1, y3.1.2.2.2.2.2.2.2.2.2.2.2.1, y3.1.2.2.2.2.2.2.2.2.2.2.2.2.1, y3.1.2.2.2.2.2.2.2.2.2.2.2.2.2.1, y3.1.2.2.2.2.2.2.2.2.2.2.2.2.2.2.1, y3.1.2.2.2.2.2.2.2.2.2.2.2.2.2.2.2), y5.2)
 else
 bif y4.1 == (1 : Int) then
 (Q00 y4.2).bind fun y6 =>
 (Q9 y6.2 (4 : Int)).bind fun y7 =>
 (at? ([y6.1, (64 : Int), (65 : Int), (2 : Int)] : List Int) y7.1).bind fun y8 =>
 ([y6.1, (64 : Int), (65 : Int), (2 : Int)] : List Int)[y7.1.toNat]?.bind fun y9 =>
 some ((y3.1.1, y9, y3.1.2.2.1, y3.1.2.2.2.1, y3.1.2.2.2.2.1, y3.1.2.2.2.2.2.1, y3.1.2.2.2.2.2.2.1, y3.1.2.2.2.2.2.2.2.1, y3.1.2.2.2.2.2.2.2.2.1, y3.1.2.2.2.2.2.2.2.2.2.1, y3.1.2.2.2.2.2.2.2.2.2.2.1, y3.1.2.2.2.2.2.2.2.2.2.2.2.1, y3.1.2.2.2.2.2.2.2.2.2.2.2.2.1, y3.1.2.2.2.2.2.2.2.2.2.2.2.2.2.1, y3.1.2.2.2.2.2.2.2.2.2.2.2.2.2.2.1, y3.1.2.2.2.2.2.2.2.2.2.2.2.2.2.2.2), y7.2)
 else
 bif y4.1 == (2 : Int) then
 (Q0f y4.2).bind fun y10 =>
 some ((y3.1.1, y3.1.2.1, y10.1.1, y10.1.2.1, y10.1.2.2, y3.1.2.2.2.2.2.1, y3.1.2.2.2.2.2.2.1, y3.1.2.2.2.2.2.2.2.1, y3.1.2.2.2.2.2.2.2.2.1, y3.1.2.2.2.2.2.2.2.2.2.1, y3.1.2.2.2.2.2.2.2.2.2.2.1, y3.1.2.2.2.2.2.2.2.2.2.2.2.1, y3.1.2.2.2.2.2.2.2.2.2.2.2.2.1, y3.1.2.2.2.2.2.2.2.2.2.2.2.2.2.1, y3.1.2.2.2.2.2.2.2.2.2.2.2.2.2.2.1, y3.1.2.2.2.2.2.2.2.2.2.2.2.2.2.2.2), y10.2)
 else
 bif y4.1 == (3 : Int) then
 (Q9 y4.2 (250 : Int)).bind fun y11 =>
 (Q00 y11.2).bind fun y12 =>
 (at? y3.1.2.2.2.2.2.1 y11.1).bind fun y13 =>
 y3.1.2.2.2.2.2.1[y11.1.toNat]?.bind fun y14 =>
 some ((y3.1.1, y3.1.2.1, y3.1.2.2.1, y3.1.2.2.2.1, y3.1.2.2.2.2.1, y3.1.2.2.2.2.2.1.set y11.1.toNat y12.1, y3.1.2.2.2.2.2.2.1, y3.1.2.2.2.2.2.2.2.1, y3.1.2.2.2.2.2.2.2.2.1, y3.1.2.2.2.2.2.2.2.2.2.1, y3.1.2.2.2.2.2.2.2.2.2.2.1, y3.1.2.2.2.2.2.2.2.2.2.2.2.1, y3.1.2.2.2.2.2.2.2.2.2.2.2.2.1, y3.1.2.2.2.2.2.2.2.2.2.2.2.2.2.1, y3.1.2.2.2.2.2.2.2.2.2.2.2.2.2.2.1, y3.1.2.2.2.2.2.2.2.2.2.2.2.2.2.2.2), y12.2)
 else
 bif y4.1 == (4 : Int) then
 (Q0v y4.2).bind fun y15 =>
 some ((y3.1.1, y3.1.2.1, y3.1.2.2.1, y3.1.2.2.2.1, y3.1.2.2.2.2.1, y3.1.2.2.2.2.2.1, y15.1.1, y15.1.2, y3.1.2.2.2.2.2.2.2.2.1, y3.1.2.2.2.2.2.2.2.2.2.1, y3.1.2.2.2.2.2.2.2.2.2.2.1, y3.1.2.2.2.2.2.2.2.2.2.2.2.1, y3.1.2.2.2.2.2.2.2.2.2.2.2.2.1, y3.1.2.2.2.2.2.2.2.2.2.2.2.2.2.1, y3.1.2.2.2.2.2.2.2.2.2.2.2.2.2.2.1, y3.1.2.2.2.2.2.2.2.2.2.2.2.2.2.2.2), y15.2)
 else
 bif y4.1 == (5 : Int) then
 (Q1a y4.2).bind fun y16 =>
 some ((y3.1.1, y3.1.2.1, y3.1.2.2.1, y3.1.2.2.2.1, y3.1.2.2.2.2.1, y3.1.2.2.2.2.2.1, y3.1.2.2.2.2.2.2.1, y3.1.2.2.2.2.2.2.2.1, y16.1.1, y16.1.2.1, y16.1.2.2.1, y16.1.2.2.2, y3.1.2.2.2.2.2.2.2.2.2.2.2.2.1, y3.1.2.2.2.2.2.2.2.2.2.2.2.2.2.1, y3.1.2.2.2.2.2.2.2.2.2.2.2.2.2.2.1, y3.1.2.2.2.2.2.2.2.2.2.2.2.2.2.2.2), y16.2)
 else
 bif y4.1 == (6 : Int) then
 some ((y3.1.1, y3.1.2.1, y3.1.2.2.1, y3.1.2.2.2.1, y3.1.2.2.2.2.1, y3.1.2.2.2.2.2.1, y3.1.2.2.2.2.2.2.1, y3.1.2.2.2.2.2.2.2.1, y3.1.2.2.2.2.2.2.2.2.1, y3.1.2.2.2.2.2.2.2.2.2.1, y3.1.2.2.2.2.2.2.2.2.2.2.1, y3.1.2.2.2.2.2.2.2.2.2.2.2.1, y3.1.2.2.2.2.2.2.2.2.1, y3.1.2.2.2.2.2.2.2.2.2.1, y3.1.2.2.2.2.2.2.2.2.2.2.1, y3.1.2.2.2.2.2.2.2.2.2.2.2.1), y4.2)
 else
 some (y3.1, y4.2) := by kernel_rfl
noncomputable abbrev Q1c.s : Sg := ⟨[.keep], [.one (.ptr true 62 [.b (.b (.b (.sl false false 5))), .b (.b (.b (.int .i64))), .b (.b (.b (.int .i64)))])], ⟨[.agg [.int .i64, .int .i64, .int .i64, .sl false false 3, .sl false false 30, .sl false false 3, .int .i64, .sl false false 92, .int .i64, .int .i64, .int .i64, .sl false false 92, .int .i64, .int .i64, .int .i64, .sl false false 92], .agg [.int .i64, .int .i64, .int .i64, .sl false false 92, .int .i64, .sl false false 92, .int .i64, .sl false false 3, .sl false false 30, .int .i64, .sl false false 3, .sl false false 30, .sl false false 3, .int .i64, .sl false false 92, .int .i64, .int .i64, .int .i64, .sl false false 92, .int .i64, .int .i64, .int .i64, .sl false false 92]], [some (.one (.ptr true 62 [.b (.b (.b (.sl false false 5))), .b (.b (.b (.int .i64))), .b (.b (.b (.int .i64)))]))]⟩, Tryz.f12⟩
noncomputable def Q1c.gs (δ : Type) : List (Nat × Callee (GT tab) δ) := [(14, Q9.k), (15, Q00.k), (28, QX.k), (29, Qn.k), (30, Q0K.k), (31, Q18.k), (32, Q1b.k), (33, Q0v.k), (34, Q0f.k), (35, Q0M.k)]
theorem Q1c.gok (δ : Type) : Q4 Tryz.prog tab (Q1c.gs δ) := .cons Q9.con (.cons Q00.con (.cons QX.con (.cons Qn.con (.cons Q0K.con (.cons Q18.con (.cons Q1b.con (.cons Q0v.con (.cons Q0f.con (.cons Q0M.con .nil)))))))))
noncomputable def Q1c.c := cx Q1c.s [] [] [] false (Q1c.gs _)
noncomputable def Q1c (x0 : (List Int) × Int × Int) : Option ((Int × Int × Int × (List Int) × (List (Int × (List Int))) × (List Int) × Int × (List Int) × Int × Int × Int × (List Int) × Int × Int × Int × (List Int)) × (Int × Int × Int × (List Int) × Int × (List Int) × Int × (List Int) × (List (Int × (List Int))) × Int × (List Int) × (List (Int × (List Int))) × (List Int) × Int × (List Int) × Int × Int × Int × (List Int) × Int × Int × Int × (List Int)) × ((List Int) × Int × Int)) := fnW Q1c.s Q1c.c x0
theorem Q1c.fok : FkS Q1c.s 12 := ⟨Tryz.func12, by kernel_rfl, by kernel_rfl⟩
noncomputable def Q1c.fn (x : Args tab Q1c.s.ar) : Option (ResT tab Q1c.s.rs) := Q1c x
noncomputable abbrev Q1c.k {δ : Type} : Callee (GT tab) δ := kS Q1c.s Q1c.fn
theorem Q1c.con {δ : Type} : Con Tryz.prog (KT tab) 12 (Q1c.k (δ := δ)) := Q5 (c := Q1c.c) mixed Q1 (Q0 (Q1c.gok _)) Q1c.fok rfl rfl fun _ => rfl
theorem Q1c.eq (x0 : (List Int) × Int × Int) : Q1c x0 =
 (QX x0 (20 : Int)).bind fun y1 =>
 (Q0K y1.2.2).bind fun y2 =>
 (Qn y1.1 y2.1).bind fun y3 =>
 (Q9 y2.2 (4 : Int)).bind fun y4 =>
 (Q9 y4.2 (3 : Int)).bind fun y5 =>
 (at? ([(0 : Int), (2 : Int), (100 : Int)] : List Int) y5.1).bind fun y6 =>
 ([(0 : Int), (2 : Int), (100 : Int)] : List Int)[y5.1.toNat]?.bind fun y7 =>
 (Q0K y5.2).bind fun y8 =>
 (Q18 y3.1 y1.2.1 y4.1 y7 y8.1).bind fun y9 =>
 (Q9 y8.2 (18 : Int)).bind fun y10 =>
 bif y10.1 == (0 : Int) then
 (Q1b y10.2).bind fun y11 =>
 some (y11.1, y9.1, y11.2)
 else
 bif y10.1 == (1 : Int) then
 (Q0v y10.2).bind fun y12 =>
 some (y3.1, (y9.1.1, y9.1.2.1, y9.1.2.2.1, y9.1.2.2.2.1, y12.1.1, y12.1.2, y9.1.2.2.2.2.2.2.1, y9.1.2.2.2.2.2.2.2.1, y9.1.2.2.2.2.2.2.2.2.1, y9.1.2.2.2.2.2.2.2.2.2.1, y9.1.2.2.2.2.2.2.2.2.2.2.1, y9.1.2.2.2.2.2.2.2.2.2.2.2.1, y9.1.2.2.2.2.2.2.2.2.2.2.2.2.1, y9.1.2.2.2.2.2.2.2.2.2.2.2.2.2.1, y9.1.2.2.2.2.2.2.2.2.2.2.2.2.2.2.1, y9.1.2.2.2.2.2.2.2.2.2.2.2.2.2.2.2.1, y9.1.2.2.2.2.2.2.2.2.2.2.2.2.2.2.2.2.1, y9.1.2.2.2.2.2.2.2.2.2.2.2.2.2.2.2.2.2.1, y9.1.2.2.2.2.2.2.2.2.2.2.2.2.2.2.2.2.2.2.1, y9.1.2.2.2.2.2.2.2.2.2.2.2.2.2.2.2.2.2.2.2.1, y9.1.2.2.2.2.2.2.2.2.2.2.2.2.2.2.2.2.2.2.2.2.1, y9.1.2.2.2.2.2.2.2.2.2.2.2.2.2.2.2.2.2.2.2.2.2.1, y9.1.2.2.2.2.2.2.2.2.2.2.2.2.2.2.2.2.2.2.2.2.2.2), y12.2)
 else
 bif y10.1 == (2 : Int) then
 some (y3.1, (y9.1.1, y9.1.2.1, y9.1.2.2.2.2.1, y9.1.2.2.2.2.2.1, y9.1.2.2.2.2.1, y9.1.2.2.2.2.2.1, y9.1.2.2.2.2.2.2.1, y9.1.2.2.2.2.2.2.2.1, y9.1.2.2.2.2.2.2.2.2.1, y9.1.2.2.2.2.2.2.2.2.2.1, y9.1.2.2.2.2.2.2.2.2.2.2.1, y9.1.2.2.2.2.2.2.2.2.2.2.2.1, y9.1.2.2.2.2.2.2.2.2.2.2.2.2.1, y9.1.2.2.2.2.2.2.2.2.2.2.2.2.2.1, y9.1.2.2.2.2.2.2.2.2.2.2.2.2.2.2.1, y9.1.2.2.2.2.2.2.2.2.2.2.2.2.2.2.2.1, y9.1.2.2.2.2.2.2.2.2.2.2.2.2.2.2.2.2.1, y9.1.2.2.2.2.2.2.2.2.2.2.2.2.2.2.2.2.2.1, y9.1.2.2.2.2.2.2.2.2.2.2.2.2.2.2.2.2.2.2.1, y9.1.2.2.2.2.2.2.2.2.2.2.2.2.2.2.2.2.2.2.2.1, y9.1.2.2.2.2.2.2.2.2.2.2.2.2.2.2.2.2.2.2.2.2.1, y9.1.2.2.2.2.2.2.2.2.2.2.2.2.2.2.2.2.2.2.2.2.2.1, y9.1.2.2.2.2.2.2.2.2.2.2.2.2.2.2.2.2.2.2.2.2.2.2), y10.2)
 else
 bif y10.1 == (3 : Int) then
 (Q0f y10.2).bind fun y13 =>
 some (y3.1, (y9.1.1, y9.1.2.1, y9.1.2.2.1, y9.1.2.2.2.1, y9.1.2.2.2.2.1, y9.1.2.2.2.2.2.1, y9.1.2.2.2.2.2.2.1, y9.1.2.2.2.2.2.2.2.1, y9.1.2.2.2.2.2.2.2.2.1, y13.1.1, y13.1.2.1, y13.1.2.2, y9.1.2.2.2.2.2.2.2.2.2.2.2.2.1, y9.1.2.2.2.2.2.2.2.2.2.2.2.2.2.1, y9.1.2.2.2.2.2.2.2.2.2.2.2.2.2.2.1, y9.1.2.2.2.2.2.2.2.2.2.2.2.2.2.2.2.1, y9.1.2.2.2.2.2.2.2.2.2.2.2.2.2.2.2.2.1, y9.1.2.2.2.2.2.2.2.2.2.2.2.2.2.2.2.2.2.1, y9.1.2.2.2.2.2.2.2.2.2.2.2.2.2.2.2.2.2.2.1, y9.1.2.2.2.2.2.2.2.2.2.2.2.2.2.2.2.2.2.2.2.1, y9.1.2.2.2.2.2.2.2.2.2.2.2.2.2.2.2.2.2.2.2.2.1, y9.1.2.2.2.2.2.2.2.2.2.2.2.2.2.2.2.2.2.2.2.2.2.1, y9.1.2.2.2.2.2.2.2.2.2.2.2.2.2.2.2.2.2.2.2.2.2.2), y13.2)
 else
 bif y10.1 == (4 : Int) then
 some (y3.1, (y9.1.1, y9.1.2.1, y9.1.2.2.1, y9.1.2.2.2.1, y9.1.2.2.2.2.1, y9.1.2.2.2.2.2.1, y9.1.2.2.2.2.2.2.2.2.2.1, y9.1.2.2.2.2.2.2.2.2.2.2.1, y9.1.2.2.2.2.2.2.2.2.2.2.2.1, y9.1.2.2.2.2.2.2.2.2.2.1, y9.1.2.2.2.2.2.2.2.2.2.2.1, y9.1.2.2.2.2.2.2.2.2.2.2.2.1, y9.1.2.2.2.2.2.2.2.2.2.2.2.2.1, y9.1.2.2.2.2.2.2.2.2.2.2.2.2.2.1, y9.1.2.2.2.2.2.2.2.2.2.2.2.2.2.2.1, y9.1.2.2.2.2.2.2.2.2.2.2.2.2.2.2.2.1, y9.1.2.2.2.2.2.2.2.2.2.2.2.2.2.2.2.2.1, y9.1.2.2.2.2.2.2.2.2.2.2.2.2.2.2.2.2.2.1, y9.1.2.2.2.2.2.2.2.2.2.2.2.2.2.2.2.2.2.2.1, y9.1.2.2.2.2.2.2.2.2.2.2.2.2.2.2.2.2.2.2.2.1, y9.1.2.2.2.2.2.2.2.2.2.2.2.2.2.2.2.2.2.2.2.2.1, y9.1.2.2.2.2.2.2.2.2.2.2.2.2.2.2.2.2.2.2.2.2.2.1, y9.1.2.2.2.2.2.2.2.2.2.2.2.2.2.2.2.2.2.2.2.2.2.2), y10.2)
 else
 bif y10.1 == (5 : Int) then
 (Q00 y10.2).bind fun y14 =>
 (Q9 y14.2 (2 : Int)).bind fun y15 =>
 (at? ([y14.1, (2 : Int)] : List Int) y15.1).bind fun y16 =>
 ([y14.1, (2 : Int)] : List Int)[y15.1.toNat]?.bind fun y17 =>
 some (y3.1, (y9.1.1, y17, y9.1.2.2.1, y9.1.2.2.2.1, y9.1.2.2.2.2.1, y9.1.2.2.2.2.2.1, y9.1.2.2.2.2.2.2.1, y9.1.2.2.2.2.2.2.2.1, y9.1.2.2.2.2.2.2.2.2.1, y9.1.2.2.2.2.2.2.2.2.2.1, y9.1.2.2.2.2.2.2.2.2.2.2.1, y9.1.2.2.2.2.2.2.2.2.2.2.2.1, y9.1.2.2.2.2.2.2.2.2.2.2.2.2.1, y9.1.2.2.2.2.2.2.2.2.2.2.2.2.2.1, y9.1.2.2.2.2.2.2.2.2.2.2.2.2.2.2.1, y9.1.2.2.2.2.2.2.2.2.2.2.2.2.2.2.2.1, y9.1.2.2.2.2.2.2.2.2.2.2.2.2.2.2.2.2.1, y9.1.2.2.2.2.2.2.2.2.2.2.2.2.2.2.2.2.2.1, y9.1.2.2.2.2.2.2.2.2.2.2.2.2.2.2.2.2.2.2.1, y9.1.2.2.2.2.2.2.2.2.2.2.2.2.2.2.2.2.2.2.2.1, y9.1.2.2.2.2.2.2.2.2.2.2.2.2.2.2.2.2.2.2.2.2.1, y9.1.2.2.2.2.2.2.2.2.2.2.2.2.2.2.2.2.2.2.2.2.2.1, y9.1.2.2.2.2.2.2.2.2.2.2.2.2.2.2.2.2.2.2.2.2.2.2), y15.2)
 else
 bif y10.1 == (6 : Int) then
 some (y3.1, (IntKind.i64.wrap (y9.1.1 + (1 : Int)), y9.1.2.1, y9.1.2.2.1, y9.1.2.2.2.1, y9.1.2.2.2.2.1, y9.1.2.2.2.2.2.1, y9.1.2.2.2.2.2.2.1, y9.1.2.2.2.2.2.2.2.1, y9.1.2.2.2.2.2.2.2.2.1, y9.1.2.2.2.2.2.2.2.2.2.1, y9.1.2.2.2.2.2.2.2.2.2.2.1, y9.1.2.2.2.2.2.2.2.2.2.2.2.1, y9.1.2.2.2.2.2.2.2.2.2.2.2.2.1, y9.1.2.2.2.2.2.2.2.2.2.2.2.2.2.1, y9.1.2.2.2.2.2.2.2.2.2.2.2.2.2.2.1, y9.1.2.2.2.2.2.2.2.2.2.2.2.2.2.2.2.1, y9.1.2.2.2.2.2.2.2.2.2.2.2.2.2.2.2.2.1, y9.1.2.2.2.2.2.2.2.2.2.2.2.2.2.2.2.2.2.1, y9.1.2.2.2.2.2.2.2.2.2.2.2.2.2.2.2.2.2.2.1, y9.1.2.2.2.2.2.2.2.2.2.2.2.2.2.2.2.2.2.2.2.1, y9.1.2.2.2.2.2.2.2.2.2.2.2.2.2.2.2.2.2.2.2.2.1, y9.1.2.2.2.2.2.2.2.2.2.2.2.2.2.2.2.2.2.2.2.2.2.1, y9.1.2.2.2.2.2.2.2.2.2.2.2.2.2.2.2.2.2.2.2.2.2.2), y10.2)
 else
 bif y10.1 == (7 : Int) then
 some (y3.1, (y9.1.1, y9.1.2.1, y9.1.2.2.1, y9.1.2.2.2.1, y9.1.2.2.2.2.1, y9.1.2.2.2.2.2.1, y9.1.2.2.2.2.2.2.1, y9.1.2.2.2.2.2.2.2.1, y9.1.2.2.2.2.2.2.2.2.1, y9.1.2.2.2.2.2.2.2.2.2.1, y9.1.2.2.2.2.2.2.2.2.2.2.1, y9.1.2.2.2.2.2.2.2.2.2.2.2.1, y9.1.2.2.2.2.2.2.2.2.2.2.2.2.1, y9.1.2.2.2.2.2.2.2.2.2.2.2.2.2.1, y9.1.2.2.2.2.2.2.2.2.2.2.2.2.2.2.1, y9.1.2.2.2.2.2.2.2.2.2.2.2.2.2.2.2.2.2.2.2.1, y9.1.2.2.2.2.2.2.2.2.2.2.2.2.2.2.2.2.2.2.2.2.1, y9.1.2.2.2.2.2.2.2.2.2.2.2.2.2.2.2.2.2.2.2.2.2.1, y9.1.2.2.2.2.2.2.2.2.2.2.2.2.2.2.2.2.2.2.2.2.2.2, y9.1.2.2.2.2.2.2.2.2.2.2.2.2.2.2.2.2.2.2.2.1, y9.1.2.2.2.2.2.2.2.2.2.2.2.2.2.2.2.2.2.2.2.2.1, y9.1.2.2.2.2.2.2.2.2.2.2.2.2.2.2.2.2.2.2.2.2.2.1, y9.1.2.2.2.2.2.2.2.2.2.2.2.2.2.2.2.2.2.2.2.2.2.2), y10.2)
 else
 bif y10.1 == (8 : Int) then
 (Q9 y10.2 (4 : Int)).bind fun y18 =>
 (Q0M y1.1 y1.2.1 ([] : List (Int × Int)) (IntKind.i64.wrap ((1 : Int) + y18.1))).bind fun y19 =>
 some (y3.1, y19, y18.2)
 else
 some (y3.1, y9.1, y10.2) := by kernel_rfl
noncomputable abbrev Qq.s : Sg := ⟨[.lend, .lend], [vl 3, .agg [.int .i64, .sl false false 92, .int .i64, .sl false false 92, .sl false false 3]], ⟨[vo 3, vb], [none, none]⟩, Tryz.f46⟩
noncomputable def Qq.gs (δ : Type) : List (Nat × Callee (GT tab) δ) := [(45, Qx.k), (51, Qp.k), (87, Qv.k), (88, Q0u.k)]
theorem Qq.gok (δ : Type) : Q4 Tryz.prog tab (Qq.gs δ) := .cons Qx.con (.cons Qp.con (.cons Qv.con (.cons Q0u.con .nil)))
noncomputable def Qq.c := cx Qq.s [] [3, 13] [(3, [0, 3]), (7, [0, 3, 6, 7, 8, 9]), (13, [3, 7, 8]), (16, [3, 7, 8, 10, 11, 12])] false (Qq.gs _)
noncomputable def Qq (x0 : List Int) (x1 : Int × (List Int) × Int × (List Int) × (List Int)) : Option ((List Int) × Bool) := fnW Qq.s Qq.c (x0, x1)
theorem Qq.fok : FkS Qq.s 46 := ⟨Tryz.func46, by kernel_rfl, by kernel_rfl⟩
noncomputable def Qq.fn (x : Args tab Qq.s.ar) : Option (ResT tab Qq.s.rs) := Qq x.1 x.2
noncomputable abbrev Qq.k {δ : Type} : Callee (GT tab) δ := kS Qq.s Qq.fn
theorem Qq.con {δ : Type} : Con Tryz.prog (KT tab) 46 (Qq.k (δ := δ)) := Q5 (c := Qq.c) mixed Q1 (Q0 (Qq.gok _)) Qq.fok rfl rfl fun _ => rfl
noncomputable def Qq_l0 (v0 : List Int) (v1 : Int) (v2 : List Int) (v3 : Int) (v4 v5 : List Int) : Option ((List Int) × Bool) := lpW Qq.s Qq.c 0 (ud 116 [.vs false 3 v0, .undef, .undef, .ptr 0 0]) [.box 82 [.int .i64 v1, .vs false 92 v2, .int .i64 v3, .vs false 92 v4, .vs false 3 v5]] 1
noncomputable def Qq_l1 (v0 : List Int) (v1 v2 : Int) (v3 : List Int) (v4 : Int) (v5 v6 v7 v8 v9 : List Int) : Option ((List Int) × Bool) := lpW Qq.s Qq.c 1 (ud 110 [.vs false 3 v0, .undef, .undef, .ptr 0 0, .undef, .undef, .sl 1 0, .sl 2 0, .sl 3 0, .int .i64 v1]) [.box 82 [.int .i64 v2, .vs false 92 v3, .int .i64 v4, .vs false 92 v5, .vs false 3 v6], .row 0 true 3 v7, .row 0 true 3 v8, .row 0 true 3 v9] 4
noncomputable def Qq_l2 (v0 : Int) (v1 : List Int) (v2 : Int) (v3 v4 v5 v6 : List Int) : Option ((List Int) × Bool) := lpW Qq.s Qq.c 2 (ud 111 [.undef, .undef, .undef, .ptr 0 0, .undef, .undef, .undef, .sl 1 0, .sl 2 0]) [.box 82 [.int .i64 v0, .vs false 92 v1, .int .i64 v2, .vs false 92 v3, .vs false 3 v4], .row 0 true 3 v5, .row 0 true 3 v6] 3
noncomputable def Qq_l3 (v0 v1 v2 : Int) (v3 : List Int) (v4 : Int) (v5 v6 v7 v8 v9 : List Int) : Option ((List Int) × Bool) := lpW Qq.s Qq.c 3 (ud 107 [.undef, .undef, .undef, .ptr 0 0, .undef, .undef, .undef, .sl 1 0, .sl 2 0, .undef, .sl 3 0, .int .i64 v0, .int .i64 v1]) [.box 82 [.int .i64 v2, .vs false 92 v3, .int .i64 v4, .vs false 92 v5, .vs false 3 v6], .row 0 true 3 v7, .row 0 true 3 v8, .row 0 true 3 v9] 4
theorem Qq.eq (x0 : List Int) (x1 : Int × (List Int) × Int × (List Int) × (List Int)) : Qq x0 x1 =
 (Q0u x0).bind fun y1 =>
 bif !y1 then
 some (([] : List Int), false)
 else
 (Qx (x1.1, x1.2.1)).bind fun y2 =>
 bif !y2 then
 some (([] : List Int), false)
 else
 (Qx (x1.2.2.1, x1.2.2.2.1)).bind fun y3 =>
 bif !y3 then
 some (([] : List Int), false)
 else
 bif x1.1 != (x0.length : Int) then
 some (([] : List Int), false)
 else
 bif decide (x1.2.2.1 > (301 : Int)) then
 some (([] : List Int), false)
 else
 Qq_l0 x0 x1.1 x1.2.1 x1.2.2.1 x1.2.2.2.1 x1.2.2.2.2 := by kernel_rfl
theorem Qq_l0.eq (v0 : List Int) (v1 : Int) (v2 : List Int) (v3 : Int) (v4 v5 : List Int) : Qq_l0 v0 v1 v2 v3 v4 v5 =
 (Qp (v1, v2)).bind fun y1 =>
 (Qp (v3, v4)).bind fun y2 =>
 Qq_l1 v0 (0 : Int) v1 v2 v3 v4 v5 y1 y2 ([] : List Int) := (Q7 Q1 (Q0 (Qq.gok _)) _ _).trans (by kernel_rfl)
theorem Qq_l1.eq (v0 : List Int) (v1 v2 : Int) (v3 : List Int) (v4 : Int) (v5 v6 v7 v8 v9 : List Int) : Qq_l1 v0 v1 v2 v3 v4 v5 v6 v7 v8 v9 =
 bif decide (v1 < (v7.length : Int)) then
 (at? v7 v1).bind fun y1 =>
 v7[v1.toNat]?.bind fun y2 =>
 bif y2 == (1 : Int) then
 (at? v0 v1).bind fun y3 =>
 bif decide ((v9.length + ([y3] : List Int).length) * 8 ≤ 140737488355328) then
 Qq_l1 v0 (IntKind.i64.wrap (v1 + (1 : Int))) v2 v3 v4 v5 v6 v7 v8 (v9 ++ ([y3] : List Int))
 else
 none
 else
 Qq_l1 v0 (IntKind.i64.wrap (v1 + (1 : Int))) v2 v3 v4 v5 v6 v7 v8 v9
 else
 (Qv (v4, v5) (1 : Int) v4).bind fun y4 =>
 bif y4 != (v9.length : Int) then
 some (([] : List Int), false)
 else
 (Qv (v4, v5) (0 : Int) v4).bind fun y5 =>
 bif y5 != (v6.length : Int) then
 some (([] : List Int), false)
 else
 Qq_l2 v2 v3 v4 v5 v6 v8 v9 := (Q7 Q1 (Q0 (Qq.gok _)) _ _).trans (by kernel_rfl)
theorem Qq_l2.eq (v0 : Int) (v1 : List Int) (v2 : Int) (v3 v4 v5 v6 : List Int) : Qq_l2 v0 v1 v2 v3 v4 v5 v6 =
 Qq_l3 (0 : Int) (0 : Int) v0 v1 v2 v3 v4 v5 v6 ([] : List Int) := (Q7 Q1 (Q0 (Qq.gok _)) _ _).trans (by kernel_rfl)
theorem Qq_l3.eq (v0 v1 v2 : Int) (v3 : List Int) (v4 : Int) (v5 v6 v7 v8 v9 : List Int) : Qq_l3 v0 v1 v2 v3 v4 v5 v6 v7 v8 v9 =
 bif decide (v1 < (v7.length : Int)) then
 (at? v7 v1).bind fun y1 =>
 v7[v1.toNat]?.bind fun y2 =>
 bif y2 == (1 : Int) then
 (at? v8 v0).bind fun y3 =>
 v8[v0.toNat]?.bind fun y4 =>
 bif decide ((v9.length + ([y4] : List Int).length) * 8 ≤ 140737488355328) then
 Qq_l3 (IntKind.i64.wrap (v0 + (1 : Int))) (IntKind.i64.wrap (v1 + (1 : Int))) v2 v3 v4 v5 v6 v7 v8 (v9 ++ ([y4] : List Int))
 else
 none
 else
 (at? v6 (IntKind.i64.wrap (v1 - v0))).bind fun y5 =>
 bif decide ((v9.length + ([y5] : List Int).length) * 8 ≤ 140737488355328) then
 Qq_l3 v0 (IntKind.i64.wrap (v1 + (1 : Int))) v2 v3 v4 v5 v6 v7 v8 (v9 ++ ([y5] : List Int))
 else
 none
 else
 some (v9, true) := (Q7 Q1 (Q0 (Qq.gok _)) _ _).trans (by kernel_rfl)
noncomputable abbrev Q0W.s : Sg := ⟨[.lend, .lend], [.agg [.int .i64, .sl false false 3, .sl false false 30], .agg [.int .i64, .sl false false 3, .sl false false 30]], ⟨[vb], [none, none]⟩, Tryz.f55⟩
noncomputable def Q0W.gs (δ : Type) : List (Nat × Callee (GT tab) δ) := [(44, QA.k), (52, QT.k), (89, Qf.k)]
theorem Q0W.gok (δ : Type) : Q4 Tryz.prog tab (Q0W.gs δ) := .cons QA.con (.cons QT.con (.cons Qf.con .nil))
noncomputable def Q0W.c := cx Q0W.s [] [] [] false (Q0W.gs _)
noncomputable def Q0W (x0 x1 : Int × (List Int) × (List (Int × (List Int)))) : Option (Bool) := fnW Q0W.s Q0W.c (x0, x1)
theorem Q0W.fok : FkS Q0W.s 55 := ⟨Tryz.func55, by kernel_rfl, by kernel_rfl⟩
noncomputable def Q0W.fn (x : Args tab Q0W.s.ar) : Option (ResT tab Q0W.s.rs) := Q0W x.1 x.2
noncomputable abbrev Q0W.k {δ : Type} : Callee (GT tab) δ := kS Q0W.s Q0W.fn
theorem Q0W.con {δ : Type} : Con Tryz.prog (KT tab) 55 (Q0W.k (δ := δ)) := Q5 (c := Q0W.c) mixed Q1 (Q0 (Q0W.gok _)) Q0W.fok rfl rfl fun _ => rfl
theorem Q0W.eq (x0 x1 : Int × (List Int) × (List (Int × (List Int)))) : Q0W x0 x1 =
 (QA x0).bind fun y1 =>
 bif y1 then
 (QA x1).bind fun y2 =>
 bif y2 then
 (Qf x0).bind fun y3 =>
 (Qf x1).bind fun y4 =>
 (QT y3 y4).bind fun y5 =>
 some y5
 else
 some false
 else
 some false := by kernel_rfl
noncomputable abbrev QF.s : Sg := ⟨[.lend, .lend], [.agg [.int .i64, .int .i64, .int .i64, .sl false false 3, .sl false false 30, .sl false false 3, .int .i64, .sl false false 92, .int .i64, .int .i64, .int .i64, .sl false false 92, .int .i64, .int .i64, .int .i64, .sl false false 92], .agg [.int .i64, .int .i64, .int .i64, .sl false false 92, .int .i64, .sl false false 92, .int .i64, .sl false false 3, .sl false false 30, .int .i64, .sl false false 3, .sl false false 30, .sl false false 3, .int .i64, .sl false false 92, .int .i64, .int .i64, .int .i64, .sl false false 92, .int .i64, .int .i64, .int .i64, .sl false false 92]], ⟨[vo 5, vb], [none, none]⟩, Tryz.f21⟩
noncomputable def QF.gs (δ : Type) : List (Nat × Callee (GT tab) δ) := [(22, Qt.k), (29, Qn.k), (42, QY.k), (43, Q0t.k), (44, QA.k), (45, Qx.k), (46, Qq.k), (47, Q0L.k), (48, Qw.k), (49, Qj.k), (50, Q0c.k), (51, Qp.k), (52, QT.k), (53, QI.k), (54, Q0G.k), (55, Q0W.k)]
theorem QF.gok (δ : Type) : Q4 Tryz.prog tab (QF.gs δ) := .cons Qt.con (.cons Qn.con (.cons QY.con (.cons Q0t.con (.cons QA.con (.cons Qx.con (.cons Qq.con (.cons Q0L.con (.cons Qw.con (.cons Qj.con (.cons Q0c.con (.cons Qp.con (.cons QT.con (.cons QI.con (.cons Q0G.con (.cons Q0W.con .nil)))))))))))))))
noncomputable def QF.c := cx QF.s [] [4, 8] [(4, [3, 6]), (8, [3, 6, 10])] false (QF.gs _)
noncomputable def QF (x0 : Int × Int × Int × (List Int) × (List (Int × (List Int))) × (List Int) × Int × (List Int) × Int × Int × Int × (List Int) × Int × Int × Int × (List Int)) (x1 : Int × Int × Int × (List Int) × Int × (List Int) × Int × (List Int) × (List (Int × (List Int))) × Int × (List Int) × (List (Int × (List Int))) × (List Int) × Int × (List Int) × Int × Int × Int × (List Int) × Int × Int × Int × (List Int)) : Option ((List Int) × Bool) := fnW QF.s QF.c (x0, x1)
theorem QF.fok : FkS QF.s 21 := ⟨Tryz.func21, by kernel_rfl, by kernel_rfl⟩
noncomputable def QF.fn (x : Args tab QF.s.ar) : Option (ResT tab QF.s.rs) := QF x.1 x.2
noncomputable abbrev QF.k {δ : Type} : Callee (GT tab) δ := kS QF.s QF.fn
theorem QF.con {δ : Type} : Con Tryz.prog (KT tab) 21 (QF.k (δ := δ)) := Q5 (c := QF.c) mixed Q1 (Q0 (QF.gok _)) QF.fok rfl rfl fun _ => rfl
noncomputable def QF_l0 (v0 v1 v2 : Int) (v3 : List Int) (v4 : Int) (v5 : List Int) (v6 : Int) (v7 : List Int) (v8 : List (Int × (List Int))) (v9 : Int) (v10 : List Int) (v11 : List (Int × (List Int))) (v12 : List Int) (v13 : Int) (v14 : List Int) (v15 v16 v17 : Int) (v18 : List Int) (v19 v20 v21 : Int) (v22 v23 : List Int) : Option ((List Int) × Bool) := lpW QF.s QF.c 0 (ud 130 [.undef, .undef, .undef, .ptr 0 0, .undef, .undef, .sl 1 0]) [.box 36 [.int .i64 v0, .int .i64 v1, .int .i64 v2, .vs false 92 v3, .int .i64 v4, .vs false 92 v5, .int .i64 v6, .vs false 3 v7, .vs false 30 v8, .int .i64 v9, .vs false 3 v10, .vs false 30 v11, .vs false 3 v12, .int .i64 v13, .vs false 92 v14, .int .i64 v15, .int .i64 v16, .int .i64 v17, .vs false 92 v18, .int .i64 v19, .int .i64 v20, .int .i64 v21, .vs false 92 v22], .row 0 true 5 v23] 2
noncomputable def QF_l1 (v0 v1 v2 : Int) (v3 : List Int) (v4 : Int) (v5 : List Int) (v6 : Int) (v7 : List Int) (v8 : List (Int × (List Int))) (v9 : Int) (v10 : List Int) (v11 : List (Int × (List Int))) (v12 : List Int) (v13 : Int) (v14 : List Int) (v15 v16 v17 : Int) (v18 : List Int) (v19 v20 v21 : Int) (v22 v23 v24 : List Int) : Option ((List Int) × Bool) := lpW QF.s QF.c 1 (ud 126 [.undef, .undef, .undef, .ptr 0 0, .undef, .undef, .sl 1 0, .undef, .undef, .undef, .sl 2 0]) [.box 36 [.int .i64 v0, .int .i64 v1, .int .i64 v2, .vs false 92 v3, .int .i64 v4, .vs false 92 v5, .int .i64 v6, .vs false 3 v7, .vs false 30 v8, .int .i64 v9, .vs false 3 v10, .vs false 30 v11, .vs false 3 v12, .int .i64 v13, .vs false 92 v14, .int .i64 v15, .int .i64 v16, .int .i64 v17, .vs false 92 v18, .int .i64 v19, .int .i64 v20, .int .i64 v21, .vs false 92 v22], .row 0 true 5 v23, .row 0 true 5 v24] 3
theorem QF.eq (x0 : Int × Int × Int × (List Int) × (List (Int × (List Int))) × (List Int) × Int × (List Int) × Int × Int × Int × (List Int) × Int × Int × Int × (List Int)) (x1 : Int × Int × Int × (List Int) × Int × (List Int) × Int × (List Int) × (List (Int × (List Int))) × Int × (List Int) × (List (Int × (List Int))) × (List Int) × Int × (List Int) × Int × Int × Int × (List Int) × Int × Int × Int × (List Int)) : QF x0 x1 =
 (QY x0).bind fun y1 =>
 bif !y1.2 then
 some (([] : List Int), false)
 else
 (Q0t x1.2.1).bind fun y2 =>
 bif !y2 then
 some (([] : List Int), false)
 else
 (QA (x1.2.2.2.2.2.2.2.2.2.1, x1.2.2.2.2.2.2.2.2.2.2.1, x1.2.2.2.2.2.2.2.2.2.2.2.1)).bind fun y3 =>
 bif !y3 then
 some (([] : List Int), false)
 else
 (Qx (x1.2.2.1, x1.2.2.2.1)).bind fun y4 =>
 bif !y4 then
 some (([] : List Int), false)
 else
 bif x1.2.2.1 != IntKind.i64.wrap ((y1.1.length : Int) + (1 : Int)) then
 some (([] : List Int), false)
 else
 QF_l0 x1.1 x1.2.1 x1.2.2.1 x1.2.2.2.1 x1.2.2.2.2.1 x1.2.2.2.2.2.1 x1.2.2.2.2.2.2.1 x1.2.2.2.2.2.2.2.1 x1.2.2.2.2.2.2.2.2.1 x1.2.2.2.2.2.2.2.2.2.1 x1.2.2.2.2.2.2.2.2.2.2.1 x1.2.2.2.2.2.2.2.2.2.2.2.1 x1.2.2.2.2.2.2.2.2.2.2.2.2.1 x1.2.2.2.2.2.2.2.2.2.2.2.2.2.1 x1.2.2.2.2.2.2.2.2.2.2.2.2.2.2.1 x1.2.2.2.2.2.2.2.2.2.2.2.2.2.2.2.1 x1.2.2.2.2.2.2.2.2.2.2.2.2.2.2.2.2.1 x1.2.2.2.2.2.2.2.2.2.2.2.2.2.2.2.2.2.1 x1.2.2.2.2.2.2.2.2.2.2.2.2.2.2.2.2.2.2.1 x1.2.2.2.2.2.2.2.2.2.2.2.2.2.2.2.2.2.2.2.1 x1.2.2.2.2.2.2.2.2.2.2.2.2.2.2.2.2.2.2.2.2.1 x1.2.2.2.2.2.2.2.2.2.2.2.2.2.2.2.2.2.2.2.2.2.1 x1.2.2.2.2.2.2.2.2.2.2.2.2.2.2.2.2.2.2.2.2.2.2 y1.1 := by kernel_rfl
theorem QF_l0.eq (v0 v1 v2 : Int) (v3 : List Int) (v4 : Int) (v5 : List Int) (v6 : Int) (v7 : List Int) (v8 : List (Int × (List Int))) (v9 : Int) (v10 : List Int) (v11 : List (Int × (List Int))) (v12 : List Int) (v13 : Int) (v14 : List Int) (v15 v16 v17 : Int) (v18 : List Int) (v19 v20 v21 : Int) (v22 v23 : List Int) : QF_l0 v0 v1 v2 v3 v4 v5 v6 v7 v8 v9 v10 v11 v12 v13 v14 v15 v16 v17 v18 v19 v20 v21 v22 v23 =
 (Qt v23).bind fun y1 =>
 (Q0L (v9, v10, v11)).bind fun y2 =>
 (Qq y1 (v2, v3, v4, v5, y2)).bind fun y3 =>
 (Qw y3.1).bind fun y4 =>
 bif !y3.2 then
 some (([] : List Int), false)
 else
 bif !y4.2 then
 some (([] : List Int), false)
 else
 QF_l1 v0 v1 v2 v3 v4 v5 v6 v7 v8 v9 v10 v11 v12 v13 v14 v15 v16 v17 v18 v19 v20 v21 v22 v23 y4.1 := (Q7 Q1 (Q0 (QF.gok _)) _ _).trans (by kernel_rfl)
theorem QF_l1.eq (v0 v1 v2 : Int) (v3 : List Int) (v4 : Int) (v5 : List Int) (v6 : Int) (v7 : List Int) (v8 : List (Int × (List Int))) (v9 : Int) (v10 : List Int) (v11 : List (Int × (List Int))) (v12 : List Int) (v13 : Int) (v14 : List Int) (v15 v16 v17 : Int) (v18 : List Int) (v19 v20 v21 : Int) (v22 v23 v24 : List Int) : QF_l1 v0 v1 v2 v3 v4 v5 v6 v7 v8 v9 v10 v11 v12 v13 v14 v15 v16 v17 v18 v19 v20 v21 v22 v23 v24 =
 (Qn v24 v1).bind fun y1 =>
 (Qt v23).bind fun y2 =>
 (Qp (v2, v3)).bind fun y3 =>
 (Q0c y2 y3).bind fun y4 =>
 (Qj y4).bind fun y5 =>
 bif v0 != y1.1.1 then
 some (([] : List Int), false)
 else
 (QT v12 y1.1.2.2.2.2.2.1).bind fun y6 =>
 bif !y6 then
 some (([] : List Int), false)
 else
 (QI (v13, v14) (y1.1.2.2.2.2.2.2.1, y1.1.2.2.2.2.2.2.2.1)).bind fun y7 =>
 bif !y7 then
 some (([] : List Int), false)
 else
 (Q0G (v15, v16, v17, v18) (y1.1.2.2.2.2.2.2.2.2.1, y1.1.2.2.2.2.2.2.2.2.2.1, y1.1.2.2.2.2.2.2.2.2.2.2.1, y1.1.2.2.2.2.2.2.2.2.2.2.2.1)).bind fun y8 =>
 bif !y8 then
 some (([] : List Int), false)
 else
 (Q0G (v19, v20, v21, v22) y1.1.2.2.2.2.2.2.2.2.2.2.2.2).bind fun y9 =>
 bif !y9 then
 some (([] : List Int), false)
 else
 (Q0W (v6, v7, v8) y5.1).bind fun y10 =>
 bif !y10 then
 some (([] : List Int), false)
 else
 some (v24, true) := (Q7 Q1 (Q0 (QF.gok _)) _ _).trans (by kernel_rfl)
noncomputable abbrev Q1d.s : Sg := ⟨[.lend, .lend, .lend], [.agg [.int .i64, .int .i64, .int .i64, .sl false false 3, .sl false false 30, .sl false false 3, .int .i64, .sl false false 92, .int .i64, .int .i64, .int .i64, .sl false false 92, .int .i64, .int .i64, .int .i64, .sl false false 92], .agg [.int .i64, .int .i64, .int .i64, .sl false false 92, .int .i64, .sl false false 92, .int .i64, .sl false false 3, .sl false false 30, .int .i64, .sl false false 3, .sl false false 30, .sl false false 3, .int .i64, .sl false false 92, .int .i64, .int .i64, .int .i64, .sl false false 92, .int .i64, .int .i64, .int .i64, .sl false false 92], vi], ⟨[vi], [none, none, none]⟩, Tryz.f13⟩
noncomputable def Q1d.gs (δ : Type) : List (Nat × Callee (GT tab) δ) := [(21, QF.k), (22, Qt.k)]
theorem Q1d.gok (δ : Type) : Q4 Tryz.prog tab (Q1d.gs δ) := .cons QF.con (.cons Qt.con .nil)
noncomputable def Q1d.c := cx Q1d.s [] [] [] false (Q1d.gs _)
noncomputable def Q1d (x0 : Int × Int × Int × (List Int) × (List (Int × (List Int))) × (List Int) × Int × (List Int) × Int × Int × Int × (List Int) × Int × Int × Int × (List Int)) (x1 : Int × Int × Int × (List Int) × Int × (List Int) × Int × (List Int) × (List (Int × (List Int))) × Int × (List Int) × (List (Int × (List Int))) × (List Int) × Int × (List Int) × Int × Int × Int × (List Int) × Int × Int × Int × (List Int)) (x2 : Int) : Option (Int) := fnW Q1d.s Q1d.c (x0, x1, x2)
theorem Q1d.fok : FkS Q1d.s 13 := ⟨Tryz.func13, by kernel_rfl, by kernel_rfl⟩
noncomputable def Q1d.fn (x : Args tab Q1d.s.ar) : Option (ResT tab Q1d.s.rs) := Q1d x.1 x.2.1 x.2.2
noncomputable abbrev Q1d.k {δ : Type} : Callee (GT tab) δ := kS Q1d.s Q1d.fn
theorem Q1d.con {δ : Type} : Con Tryz.prog (KT tab) 13 (Q1d.k (δ := δ)) := Q5 (c := Q1d.c) mixed Q1 (Q0 (Q1d.gok _)) Q1d.fok rfl rfl fun _ => rfl
theorem Q1d.eq (x0 : Int × Int × Int × (List Int) × (List (Int × (List Int))) × (List Int) × Int × (List Int) × Int × Int × Int × (List Int) × Int × Int × Int × (List Int)) (x1 : Int × Int × Int × (List Int) × Int × (List Int) × Int × (List Int) × (List (Int × (List Int))) × Int × (List Int) × (List (Int × (List Int))) × (List Int) × Int × (List Int) × Int × Int × Int × (List Int) × Int × Int × Int × (List Int)) (x2 : Int) : Q1d x0 x1 x2 =
 (QF x0 x1).bind fun y1 =>
 bif !y1.2 then
 some (-1 : Int)
 else
 bif decide (x2 < (0 : Int)) then
 some (-1 : Int)
 else
 bif decide (x2 > (y1.1.length : Int)) then
 some (-1 : Int)
 else
 (Qt y1.1).bind fun y2 =>
 (at? y2 x2).bind fun y3 =>
 y2[x2.toNat]?.bind fun y4 =>
 some y4 := by kernel_rfl
noncomputable abbrev Q1e.s : Sg := ⟨[.keep, .lend], [.one (.ptr true 62 [.b (.b (.b (.sl false false 5))), .b (.b (.b (.int .i64))), .b (.b (.b (.int .i64)))]), vi], ⟨[vi], [some (.one (.ptr true 62 [.b (.b (.b (.sl false false 5))), .b (.b (.b (.int .i64))), .b (.b (.b (.int .i64)))])), none]⟩, Tryz.f16⟩
noncomputable def Q1e.gs (δ : Type) : List (Nat × Callee (GT tab) δ) := [(14, Q9.k), (15, Q00.k)]
theorem Q1e.gok (δ : Type) : Q4 Tryz.prog tab (Q1e.gs δ) := .cons Q9.con (.cons Q00.con .nil)
noncomputable def Q1e.c := cx Q1e.s [] [] [] false (Q1e.gs _)
noncomputable def Q1e (x0 : (List Int) × Int × Int) (x1 : Int) : Option (Int × ((List Int) × Int × Int)) := fnW Q1e.s Q1e.c (x0, x1)
theorem Q1e.fok : FkS Q1e.s 16 := ⟨Tryz.func16, by kernel_rfl, by kernel_rfl⟩
noncomputable def Q1e.fn (x : Args tab Q1e.s.ar) : Option (ResT tab Q1e.s.rs) := Q1e x.1 x.2
noncomputable abbrev Q1e.k {δ : Type} : Callee (GT tab) δ := kS Q1e.s Q1e.fn
theorem Q1e.con {δ : Type} : Con Tryz.prog (KT tab) 16 (Q1e.k (δ := δ)) := Q5 (c := Q1e.c) mixed Q1 (Q0 (Q1e.gok _)) Q1e.fok rfl rfl fun _ => rfl
theorem Q1e.eq (x0 : (List Int) × Int × Int) (x1 : Int) : Q1e x0 x1 =
 (Q9 x0 (if IntKind.i64.wrap (x1 + (2 : Int)) > (1 : Int) then IntKind.i64.wrap (x1 + (2 : Int)) else (1 : Int))).bind fun y1 =>
 (Q00 y1.2).bind fun y2 =>
 (Q9 y2.2 (if x1 > (1 : Int) then x1 else (1 : Int))).bind fun y3 =>
 (Q9 y3.2 (5 : Int)).bind fun y4 =>
 (at? ([y1.1, x1, IntKind.i64.wrap (x1 - (1 : Int)), y2.1, y3.1] : List Int) y4.1).bind fun y5 =>
 ([y1.1, x1, IntKind.i64.wrap (x1 - (1 : Int)), y2.1, y3.1] : List Int)[y4.1.toNat]?.bind fun y6 =>
 some (y6, y4.2) := by kernel_rfl
noncomputable abbrev Q1f.s : Sg := ⟨[.lend], [vl 5], ⟨[.agg [.int .i64, .int .i64, .int .i64, .sl false false 3, .sl false false 30, .sl false false 3, .int .i64, .sl false false 92, .int .i64, .int .i64, .int .i64, .sl false false 92, .int .i64, .int .i64, .int .i64, .sl false false 92], .agg [.int .i64, .int .i64, .int .i64, .sl false false 92, .int .i64, .sl false false 92, .int .i64, .sl false false 3, .sl false false 30, .int .i64, .sl false false 3, .sl false false 30, .sl false false 3, .int .i64, .sl false false 92, .int .i64, .int .i64, .int .i64, .sl false false 92, .int .i64, .int .i64, .int .i64, .sl false false 92], vi, vi], [none]⟩, Tryz.f5⟩
noncomputable def Q1f.gs (δ : Type) : List (Nat × Callee (GT tab) δ) := [(11, Q15.k), (12, Q1c.k), (13, Q1d.k), (14, Q9.k), (15, Q00.k), (16, Q1e.k)]
theorem Q1f.gok (δ : Type) : Q4 Tryz.prog tab (Q1f.gs δ) := .cons Q15.con (.cons Q1c.con (.cons Q1d.con (.cons Q9.con (.cons Q00.con (.cons Q1e.con .nil)))))
noncomputable def Q1f.c := cx Q1f.s [] [] [] false (Q1f.gs _)
noncomputable def Q1f (x0 : List Int) : Option ((Int × Int × Int × (List Int) × (List (Int × (List Int))) × (List Int) × Int × (List Int) × Int × Int × Int × (List Int) × Int × Int × Int × (List Int)) × (Int × Int × Int × (List Int) × Int × (List Int) × Int × (List Int) × (List (Int × (List Int))) × Int × (List Int) × (List (Int × (List Int))) × (List Int) × Int × (List Int) × Int × Int × Int × (List Int) × Int × Int × Int × (List Int)) × Int × Int) := fnW Q1f.s Q1f.c x0
theorem Q1f.fok : FkS Q1f.s 5 := ⟨Tryz.func5, by kernel_rfl, by kernel_rfl⟩
noncomputable def Q1f.fn (x : Args tab Q1f.s.ar) : Option (ResT tab Q1f.s.rs) := Q1f x
noncomputable abbrev Q1f.k {δ : Type} : Callee (GT tab) δ := kS Q1f.s Q1f.fn
theorem Q1f.con {δ : Type} : Con Tryz.prog (KT tab) 5 (Q1f.k (δ := δ)) := Q5 (c := Q1f.c) mixed Q1 (Q0 (Q1f.gok _)) Q1f.fok rfl rfl fun _ => rfl
theorem Q1f.eq (x0 : List Int) : Q1f x0 =
 (Q15 x0).bind fun y1 =>
 (Q1c y1).bind fun y2 =>
 (Q9 y2.2.2 (9 : Int)).bind fun y3 =>
 (Q1d y2.1 y2.2.1 y3.1).bind fun y4 =>
 (Q00 y3.2).bind fun y5 =>
 (Q9 y5.2 (3 : Int)).bind fun y6 =>
 (at? ([y4, y5.1, (98 : Int)] : List Int) y6.1).bind fun y7 =>
 ([y4, y5.1, (98 : Int)] : List Int)[y6.1.toNat]?.bind fun y8 =>
 (Q1e y6.2 (if (if y2.2.1.1 > (0 : Int) then y2.2.1.1 else (0 : Int)) < (30 : Int) then (if y2.2.1.1 > (0 : Int) then y2.2.1.1 else (0 : Int)) else (30 : Int))).bind fun y9 =>
 some (y2.1, y2.2.1, y8, y9.1) := by kernel_rfl
noncomputable abbrev Qy.s : Sg := ⟨[.lend, .lend, .lend], [vi, vi, vi], ⟨[vb], [none, none, none]⟩, Tryz.f18⟩
noncomputable def Qy.gs (δ : Type) : List (Nat × Callee (GT tab) δ) := []
theorem Qy.gok (δ : Type) : Q4 Tryz.prog tab (Qy.gs δ) := .nil
noncomputable def Qy.c := cx Qy.s [] [] [] false (Qy.gs _)
noncomputable def Qy (x0 x1 x2 : Int) : Option (Bool) := fnW Qy.s Qy.c (x0, x1, x2)
theorem Qy.fok : FkS Qy.s 18 := ⟨Tryz.func18, by kernel_rfl, by kernel_rfl⟩
noncomputable def Qy.fn (x : Args tab Qy.s.ar) : Option (ResT tab Qy.s.rs) := Qy x.1 x.2.1 x.2.2
noncomputable abbrev Qy.k {δ : Type} : Callee (GT tab) δ := kS Qy.s Qy.fn
theorem Qy.con {δ : Type} : Con Tryz.prog (KT tab) 18 (Qy.k (δ := δ)) := Q5 (c := Qy.c) mixed Q1 (Q0 (Qy.gok _)) Qy.fok rfl rfl fun _ => rfl
theorem Qy.eq (x0 x1 x2 : Int) : Qy x0 x1 x2 =
 bif decide (x1 ≤ x0) then
 some (decide (x0 ≤ x2))
 else
 some false := by kernel_rfl
noncomputable abbrev Q08.s : Sg := ⟨[.lend], [.agg [.int .i64, .sl false false 92]], ⟨[vb], [none]⟩, Tryz.f23⟩
noncomputable def Q08.gs (δ : Type) : List (Nat × Callee (GT tab) δ) := [(18, Qy.k)]
theorem Q08.gok (δ : Type) : Q4 Tryz.prog tab (Q08.gs δ) := .cons Qy.con .nil
noncomputable def Q08.c := cx Q08.s [] [] [] false (Q08.gs _)
noncomputable def Q08 (x0 : Int × (List Int)) : Option (Bool) := fnW Q08.s Q08.c x0
theorem Q08.fok : FkS Q08.s 23 := ⟨Tryz.func23, by kernel_rfl, by kernel_rfl⟩
noncomputable def Q08.fn (x : Args tab Q08.s.ar) : Option (ResT tab Q08.s.rs) := Q08 x
noncomputable abbrev Q08.k {δ : Type} : Callee (GT tab) δ := kS Q08.s Q08.fn
theorem Q08.con {δ : Type} : Con Tryz.prog (KT tab) 23 (Q08.k (δ := δ)) := Q5 (c := Q08.c) mixed Q1 (Q0 (Q08.gok _)) Q08.fok rfl rfl fun _ => rfl
theorem Q08.eq (x0 : Int × (List Int)) : Q08 x0 =
 (Qy x0.1 (0 : Int) (5000 : Int)).bind fun y1 =>
 bif !y1 then
 some false
 else
 bif (x0.2.length : Int) != IntKind.i64.wrap ((IntKind.i64.wrap ((IntKind.i64.wrap (x0.1 + (64 : Int))) - (1 : Int))).tdiv (64 : Int)) then
 some false
 else
 bif x0.1.tmod (64 : Int) == (0 : Int) then
 some true
 else
 (at? x0.2 (IntKind.i64.wrap ((x0.2.length : Int) - (1 : Int)))).bind fun y2 =>
 bif decide (x0.1.tmod (64 : Int) < (0 : Int)) then
 none
 else
 some (y2.fdiv (2 ^ (min (x0.1.tmod (64 : Int)).toNat 64)) == (0 : Int)) := by kernel_rfl
noncomputable abbrev Q0R.s : Sg := ⟨[.lend, .lend], [.agg [.int .i64, .sl false false 92], vi], ⟨[vi], [none, none]⟩, Tryz.f57⟩
noncomputable def Q0R.gs (δ : Type) : List (Nat × Callee (GT tab) δ) := []
theorem Q0R.gok (δ : Type) : Q4 Tryz.prog tab (Q0R.gs δ) := .nil
noncomputable def Q0R.c := cx Q0R.s [] [] [] false (Q0R.gs _)
noncomputable def Q0R (x0 : Int × (List Int)) (x1 : Int) : Option (Int) := fnW Q0R.s Q0R.c (x0, x1)
theorem Q0R.fok : FkS Q0R.s 57 := ⟨Tryz.func57, by kernel_rfl, by kernel_rfl⟩
noncomputable def Q0R.fn (x : Args tab Q0R.s.ar) : Option (ResT tab Q0R.s.rs) := Q0R x.1 x.2
noncomputable abbrev Q0R.k {δ : Type} : Callee (GT tab) δ := kS Q0R.s Q0R.fn
theorem Q0R.con {δ : Type} : Con Tryz.prog (KT tab) 57 (Q0R.k (δ := δ)) := Q5 (c := Q0R.c) mixed Q1 (Q0 (Q0R.gok _)) Q0R.fok rfl rfl fun _ => rfl
theorem Q0R.eq (x0 : Int × (List Int)) (x1 : Int) : Q0R x0 x1 =
 (at? x0.2 (IntKind.i64.wrap (x1.tdiv (64 : Int)))).bind fun y1 =>
 bif decide (x1.tmod (64 : Int) < (0 : Int)) then
 none
 else
 some (IntKind.i64.wrap (IntKind.u64.wrap (((BitVec.ofInt 64 (y1.fdiv (2 ^ (min (x1.tmod (64 : Int)).toNat 64)))) &&& (BitVec.ofInt 64 (1 : Int))).toNat : Int))) := by kernel_rfl
noncomputable abbrev QG.s : Sg := ⟨[.lend], [.agg [.int .i64, .sl false false 92]], ⟨[vo 3], [none]⟩, Tryz.f25⟩
noncomputable def QG.gs (δ : Type) : List (Nat × Callee (GT tab) δ) := [(57, Q0R.k)]
theorem QG.gok (δ : Type) : Q4 Tryz.prog tab (QG.gs δ) := .cons Q0R.con .nil
noncomputable def QG.c := cx QG.s [] [] [(3, [1, 3, 6, 7])] false (QG.gs _)
noncomputable def QG (x0 : Int × (List Int)) : Option (List Int) := fnW QG.s QG.c x0
theorem QG.fok : FkS QG.s 25 := ⟨Tryz.func25, by kernel_rfl, by kernel_rfl⟩
noncomputable def QG.fn (x : Args tab QG.s.ar) : Option (ResT tab QG.s.rs) := QG x
noncomputable abbrev QG.k {δ : Type} : Callee (GT tab) δ := kS QG.s QG.fn
theorem QG.con {δ : Type} : Con Tryz.prog (KT tab) 25 (QG.k (δ := δ)) := Q5 (c := QG.c) mixed Q1 (Q0 (QG.gok _)) QG.fok rfl rfl fun _ => rfl
noncomputable def QG_l0 (v0 v1 v2 : Int) (v3 v4 : List Int) : Option (List Int) := lpW QG.s QG.c 0 (ud 10 [.undef, .ptr 0 0, .undef, .sl 1 0, .undef, .undef, .int .i64 v0, .int .i64 v1]) [.box 30 [.int .i64 v2, .vs false 92 v3], .row 0 true 3 v4] 2
theorem QG.eq (x0 : Int × (List Int)) : QG x0 =
 QG_l0 x0.1 (0 : Int) x0.1 x0.2 ([] : List Int) := by kernel_rfl
theorem QG_l0.eq (v0 v1 v2 : Int) (v3 v4 : List Int) : QG_l0 v0 v1 v2 v3 v4 =
 bif decide (v1 < v0) then
 (Q0R (v2, v3) v1).bind fun y1 =>
 bif decide ((v4.length + ([y1] : List Int).length) * 8 ≤ 140737488355328) then
 QG_l0 v0 (IntKind.i64.wrap (v1 + (1 : Int))) v2 v3 (v4 ++ ([y1] : List Int))
 else
 none
 else
 some v4 := (Q7 Q1 (Q0 (QG.gok _)) _ _).trans (by kernel_rfl)
noncomputable abbrev Q1g.s : Sg := ⟨[.lend], [.agg [.int .i64, .sl false false 92]], ⟨[vo 3], [none]⟩, Tryz.f58⟩
noncomputable def Q1g.gs (δ : Type) : List (Nat × Callee (GT tab) δ) := [(23, Q08.k), (25, QG.k)]
theorem Q1g.gok (δ : Type) : Q4 Tryz.prog tab (Q1g.gs δ) := .cons Q08.con (.cons QG.con .nil)
noncomputable def Q1g.c := cx Q1g.s [] [] [] false (Q1g.gs _)
noncomputable def Q1g (x0 : Int × (List Int)) : Option (List Int) := fnW Q1g.s Q1g.c x0
theorem Q1g.fok : FkS Q1g.s 58 := ⟨Tryz.func58, by kernel_rfl, by kernel_rfl⟩
noncomputable def Q1g.fn (x : Args tab Q1g.s.ar) : Option (ResT tab Q1g.s.rs) := Q1g x
noncomputable abbrev Q1g.k {δ : Type} : Callee (GT tab) δ := kS Q1g.s Q1g.fn
theorem Q1g.con {δ : Type} : Con Tryz.prog (KT tab) 58 (Q1g.k (δ := δ)) := Q5 (c := Q1g.c) mixed Q1 (Q0 (Q1g.gok _)) Q1g.fok rfl rfl fun _ => rfl
theorem Q1g.eq (x0 : Int × (List Int)) : Q1g x0 =
 (Q08 x0).bind fun y1 =>
 bif !y1 then
 some ([] : List Int)
 else
 (QG x0).bind fun y2 =>
 some y2 := by kernel_rfl
noncomputable abbrev Qh.s : Sg := ⟨[.lend, .lend], [vl 3, vi], ⟨[vi], [none, none]⟩, Tryz.f19⟩
noncomputable def Qh.gs (δ : Type) : List (Nat × Callee (GT tab) δ) := []
theorem Qh.gok (δ : Type) : Q4 Tryz.prog tab (Qh.gs δ) := .nil
noncomputable def Qh.c := cx Qh.s [] [] [(3, [1, 5, 8, 9, 10])] false (Qh.gs _)
noncomputable def Qh (x0 : List Int) (x1 : Int) : Option (Int) := fnW Qh.s Qh.c (x0, x1)
theorem Qh.fok : FkS Qh.s 19 := ⟨Tryz.func19, by kernel_rfl, by kernel_rfl⟩
noncomputable def Qh.fn (x : Args tab Qh.s.ar) : Option (ResT tab Qh.s.rs) := Qh x.1 x.2
noncomputable abbrev Qh.k {δ : Type} : Callee (GT tab) δ := kS Qh.s Qh.fn
theorem Qh.con {δ : Type} : Con Tryz.prog (KT tab) 19 (Qh.k (δ := δ)) := Q5 (c := Qh.c) mixed Q1 (Q0 (Qh.gok _)) Qh.fok rfl rfl fun _ => rfl
noncomputable def Qh_l0 (v0 v1 : Int) (v2 : List Int) (v3 v4 : Int) : Option (Int) := lpW Qh.s Qh.c 0 (ud 10 [.undef, .int .i64 v0, .undef, .undef, .undef, .int .i64 v1, .undef, .undef, .vs false 3 v2, .int .i64 v3, .int .i64 v4]) [] 0
theorem Qh.eq (x0 : List Int) (x1 : Int) : Qh x0 x1 =
 Qh_l0 x1 (0 : Int) x0 (x0.length : Int) (0 : Int) := by kernel_rfl
theorem Qh_l0.eq (v0 v1 : Int) (v2 : List Int) (v3 v4 : Int) : Qh_l0 v0 v1 v2 v3 v4 =
 bif decide (v4 < v3) then
 (at? v2 v4).bind fun y1 =>
 bif y1 == v0 then
 Qh_l0 v0 (IntKind.i64.wrap (v1 + (1 : Int))) v2 v3 (IntKind.i64.wrap (v4 + (1 : Int)))
 else
 Qh_l0 v0 v1 v2 v3 (IntKind.i64.wrap (v4 + (1 : Int)))
 else
 some v1 := (Q7 Q1 (Q0 (Qh.gok _)) _ _).trans (by kernel_rfl)
noncomputable abbrev Qc.s : Sg := ⟨[.lend], [.agg [.int .i64, .sl false false 3, .sl false false 30]], ⟨[vo 3, vb], [none]⟩, Tryz.f27⟩
noncomputable def Qc.gs (δ : Type) : List (Nat × Callee (GT tab) δ) := [(18, Qy.k), (19, Qh.k), (23, Q08.k), (58, Q1g.k)]
theorem Qc.gok (δ : Type) : Q4 Tryz.prog tab (Qc.gs δ) := .cons Qy.con (.cons Qh.con (.cons Q08.con (.cons Q1g.con .nil)))
noncomputable def Qc.c := cx Qc.s [] [3, 15] [(3, [1]), (5, [1, 4, 5, 40, 41]), (10, [1, 4, 5, 50, 51, 52]), (15, [1, 4, 5, 7, 9, 50, 51, 52]), (17, [1, 4, 5, 9, 10, 11, 12, 50, 51, 52, 87, 88, 89]), (24, [1, 4, 5, 9, 10, 50, 51, 52, 109, 110, 111])] false (Qc.gs _)
noncomputable def Qc (x0 : Int × (List Int) × (List (Int × (List Int)))) : Option ((List Int) × Bool) := fnW Qc.s Qc.c x0
theorem Qc.fok : FkS Qc.s 27 := ⟨Tryz.func27, by kernel_rfl, by kernel_rfl⟩
noncomputable def Qc.fn (x : Args tab Qc.s.ar) : Option (ResT tab Qc.s.rs) := Qc x
noncomputable abbrev Qc.k {δ : Type} : Callee (GT tab) δ := kS Qc.s Qc.fn
theorem Qc.con {δ : Type} : Con Tryz.prog (KT tab) 27 (Qc.k (δ := δ)) := Q5 (c := Qc.c) mixed Q1 (Q0 (Qc.gok _)) Qc.fok rfl rfl fun _ => rfl
noncomputable def Qc_l0 (v0 : Int) (v1 : List Int) (v2 : List (Int × (List Int))) : Option ((List Int) × Bool) := lpW Qc.s Qc.c 0 (ud 137 [.undef, .ptr 0 0]) [.box 27 [.int .i64 v0, .vs false 3 v1, .vs false 30 v2]] 1
noncomputable def Qc_l1 (v0 v1 v2 : Int) (v3 : List Int) (v4 : List (Int × (List Int))) (v5 v6 : List Int) : Option ((List Int) × Bool) := lpW Qc.s Qc.c 1 (ud 97 [.undef, .ptr 0 0, .undef, .undef, .sl 1 0, .sl 2 0, .undef, .undef, .undef, .undef, .undef, .undef, .undef, .undef, .undef, .undef, .undef, .undef, .undef, .undef, .undef, .undef, .undef, .undef, .undef, .undef, .undef, .undef, .undef, .undef, .undef, .undef, .undef, .undef, .undef, .undef, .undef, .undef, .undef, .undef, .int .i64 v0, .int .i64 v1]) [.box 27 [.int .i64 v2, .vs false 3 v3, .vs false 30 v4], .row 0 true 3 v5, .row 0 true 3 v6] 3
noncomputable def Qc_l2 (v0 : List (Int × (List Int))) (v1 v2 v3 : Int) (v4 : List Int) (v5 : List (Int × (List Int))) (v6 v7 : List Int) : Option ((List Int) × Bool) := lpW Qc.s Qc.c 2 (ud 86 [.undef, .ptr 0 0, .undef, .undef, .sl 1 0, .sl 2 0, .undef, .undef, .undef, .undef, .undef, .undef, .undef, .undef, .undef, .undef, .undef, .undef, .undef, .undef, .undef, .undef, .undef, .undef, .undef, .undef, .undef, .undef, .undef, .undef, .undef, .undef, .undef, .undef, .undef, .undef, .undef, .undef, .undef, .undef, .undef, .undef, .undef, .undef, .undef, .undef, .undef, .undef, .undef, .undef, .vs false 30 v0, .int .i64 v1, .int .i64 v2]) [.box 27 [.int .i64 v3, .vs false 3 v4, .vs false 30 v5], .row 0 true 3 v6, .row 0 true 3 v7] 3
noncomputable def Qc_l3 (v0 : Int) (v1 : List (Int × (List Int))) (v2 v3 v4 : Int) (v5 : List Int) (v6 : List (Int × (List Int))) (v7 v8 v9 : List Int) : Option ((List Int) × Bool) := lpW Qc.s Qc.c 3 (ud 86 [.undef, .ptr 0 0, .undef, .undef, .sl 1 0, .sl 2 0, .undef, .int .i64 v0, .undef, .sl 3 0, .undef, .undef, .undef, .undef, .undef, .undef, .undef, .undef, .undef, .undef, .undef, .undef, .undef, .undef, .undef, .undef, .undef, .undef, .undef, .undef, .undef, .undef, .undef, .undef, .undef, .undef, .undef, .undef, .undef, .undef, .undef, .undef, .undef, .undef, .undef, .undef, .undef, .undef, .undef, .undef, .vs false 30 v1, .int .i64 v2, .int .i64 v3]) [.box 27 [.int .i64 v4, .vs false 3 v5, .vs false 30 v6], .row 0 true 3 v7, .row 0 true 3 v8, .row 0 true 3 v9] 4
noncomputable def Qc_l4 (v0 v1 : Int) (v2 : List (Int × (List Int))) (v3 v4 v5 v6 v7 : Int) (v8 : List Int) (v9 : List (Int × (List Int))) (v10 v11 v12 v13 : List Int) : Option ((List Int) × Bool) := lpW Qc.s Qc.c 4 (ud 49 [.undef, .ptr 0 0, .undef, .undef, .sl 1 0, .sl 2 0, .undef, .undef, .undef, .sl 3 0, .sl 4 0, .int .i64 v0, .int .i64 v1, .undef, .undef, .undef, .undef, .undef, .undef, .undef, .undef, .undef, .undef, .undef, .undef, .undef, .undef, .undef, .undef, .undef, .undef, .undef, .undef, .undef, .undef, .undef, .undef, .undef, .undef, .undef, .undef, .undef, .undef, .undef, .undef, .undef, .undef, .undef, .undef, .undef, .vs false 30 v2, .int .i64 v3, .int .i64 v4, .undef, .undef, .undef, .undef, .undef, .undef, .undef, .undef, .undef, .undef, .undef, .undef, .undef, .undef, .undef, .undef, .undef, .undef, .undef, .undef, .undef, .undef, .undef, .undef, .undef, .undef, .undef, .undef, .undef, .undef, .undef, .undef, .undef, .undef, .sl 3 0, .int .i64 v5, .int .i64 v6]) [.box 27 [.int .i64 v7, .vs false 3 v8, .vs false 30 v9], .row 0 true 3 v10, .row 0 true 3 v11, .row 0 true 3 v12, .row 0 true 3 v13] 5
noncomputable def Qc_l5 (v0 : List (Int × (List Int))) (v1 v2 v3 v4 v5 : Int) (v6 : List Int) (v7 : List (Int × (List Int))) (v8 v9 v10 v11 : List Int) : Option ((List Int) × Bool) := lpW Qc.s Qc.c 5 (ud 27 [.undef, .ptr 0 0, .undef, .undef, .sl 1 0, .sl 2 0, .undef, .undef, .undef, .sl 3 0, .sl 4 0, .undef, .undef, .undef, .undef, .undef, .undef, .undef, .undef, .undef, .undef, .undef, .undef, .undef, .undef, .undef, .undef, .undef, .undef, .undef, .undef, .undef, .undef, .undef, .undef, .undef, .undef, .undef, .undef, .undef, .undef, .undef, .undef, .undef, .undef, .undef, .undef, .undef, .undef, .undef, .vs false 30 v0, .int .i64 v1, .int .i64 v2, .undef, .undef, .undef, .undef, .undef, .undef, .undef, .undef, .undef, .undef, .undef, .undef, .undef, .undef, .undef, .undef, .undef, .undef, .undef, .undef, .undef, .undef, .undef, .undef, .undef, .undef, .undef, .undef, .undef, .undef, .undef, .undef, .undef, .undef, .undef, .undef, .undef, .undef, .undef, .undef, .undef, .undef, .undef, .undef, .undef, .undef, .undef, .undef, .undef, .undef, .undef, .undef, .undef, .undef, .undef, .undef, .sl 2 0, .int .i64 v3, .int .i64 v4]) [.box 27 [.int .i64 v5, .vs false 3 v6, .vs false 30 v7], .row 0 true 3 v8, .row 0 true 3 v9, .row 0 true 3 v10, .row 0 true 3 v11] 5
theorem Qc.eq (x0 : Int × (List Int) × (List (Int × (List Int)))) : Qc x0 =
 (Qy x0.1 (0 : Int) (1000 : Int)).bind fun y1 =>
 bif !y1 then
 some (([] : List Int), false)
 else
 bif (x0.2.1.length : Int) != (9 : Int) then
 some (([] : List Int), false)
 else
 bif (x0.2.2.length : Int) != (9 : Int) then
 some (([] : List Int), false)
 else
 Qc_l0 x0.1 x0.2.1 x0.2.2 := by kernel_rfl
theorem Qc_l0.eq (v0 : Int) (v1 : List Int) (v2 : List (Int × (List Int))) : Qc_l0 v0 v1 v2 =
 bif decide ((0 : Int) ≤ v0) && decide (v0.toNat * 8 ≤ 140737488355328) then
 bif decide ((0 : Int) ≤ v0) && decide (v0.toNat * 8 ≤ 140737488355328) then
 Qc_l1 ((List.replicate v0.toNat (0 : Int)).length : Int) (0 : Int) v0 v1 v2 (List.replicate v0.toNat (0 : Int)) (List.replicate v0.toNat (0 : Int))
 else
 none
 else
 none := (Q7 Q1 (Q0 (Qc.gok _)) _ _).trans (by kernel_rfl)
theorem Qc_l1.eq (v0 v1 v2 : Int) (v3 : List Int) (v4 : List (Int × (List Int))) (v5 v6 : List Int) : Qc_l1 v0 v1 v2 v3 v4 v5 v6 =
 bif decide (v1 < v0) then
 (at? v6 v1).bind fun y1 =>
 v6[v1.toNat]?.bind fun y2 =>
 Qc_l1 v0 (IntKind.i64.wrap (v1 + (1 : Int))) v2 v3 v4 v5 (v6.set v1.toNat v1)
 else
 Qc_l2 v4 (v4.length : Int) (0 : Int) v2 v3 v4 v5 v6 := (Q7 Q1 (Q0 (Qc.gok _)) _ _).trans (by kernel_rfl)
theorem Qc_l2.eq (v0 : List (Int × (List Int))) (v1 v2 v3 : Int) (v4 : List Int) (v5 : List (Int × (List Int))) (v6 v7 : List Int) : Qc_l2 v0 v1 v2 v3 v4 v5 v6 v7 =
 bif decide (v2 < v1) then
 (at? v0 v2).bind fun y1 =>
 (Q1g y1).bind fun y2 =>
 (Q08 y1).bind fun y3 =>
 bif !y3 then
 some (([] : List Int), false)
 else
 bif y1.1 != v3 then
 some (([] : List Int), false)
 else
 (Qh y2 (0 : Int)).bind fun y4 =>
 (at? v4 v2).bind fun y5 =>
 bif y4 != y5 then
 some (([] : List Int), false)
 else
 Qc_l3 v2 v0 v1 v2 v3 v4 v5 v6 v7 y2
 else
 some (v6, true) := (Q7 Q1 (Q0 (Qc.gok _)) _ _).trans (by kernel_rfl)
theorem Qc_l3.eq (v0 : Int) (v1 : List (Int × (List Int))) (v2 v3 v4 : Int) (v5 : List Int) (v6 : List (Int × (List Int))) (v7 v8 v9 : List Int) : Qc_l3 v0 v1 v2 v3 v4 v5 v6 v7 v8 v9 =
 bif decide ((0 : Int) ≤ v4) && decide (v4.toNat * 8 ≤ 140737488355328) then
 (at? v5 v0).bind fun y1 =>
 Qc_l4 (0 : Int) y1 v1 v2 v3 (v9.length : Int) (0 : Int) v4 v5 v6 v7 v8 v9 (List.replicate v4.toNat (0 : Int))
 else
 none := (Q7 Q1 (Q0 (Qc.gok _)) _ _).trans (by kernel_rfl)
theorem Qc_l4.eq (v0 v1 : Int) (v2 : List (Int × (List Int))) (v3 v4 v5 v6 v7 : Int) (v8 : List Int) (v9 : List (Int × (List Int))) (v10 v11 v12 v13 : List Int) : Qc_l4 v0 v1 v2 v3 v4 v5 v6 v7 v8 v9 v10 v11 v12 v13 =
 bif decide (v6 < v5) then
 (at? v12 v6).bind fun y1 =>
 v12[v6.toNat]?.bind fun y2 =>
 bif y2 == (0 : Int) then
 (at? v13 v6).bind fun y3 =>
 v13[v6.toNat]?.bind fun y4 =>
 Qc_l4 (IntKind.i64.wrap (v0 + (1 : Int))) v1 v2 v3 v4 v5 (IntKind.i64.wrap (v6 + (1 : Int))) v7 v8 v9 v10 v11 v12 (v13.set v6.toNat v0)
 else
 (at? v13 v6).bind fun y5 =>
 v13[v6.toNat]?.bind fun y6 =>
 Qc_l4 v0 (IntKind.i64.wrap (v1 + (1 : Int))) v2 v3 v4 v5 (IntKind.i64.wrap (v6 + (1 : Int))) v7 v8 v9 v10 v11 v12 (v13.set v6.toNat v1)
 else
 Qc_l5 v2 v3 v4 (v11.length : Int) (0 : Int) v7 v8 v9 v10 v11 v12 v13 := (Q7 Q1 (Q0 (Qc.gok _)) _ _).trans (by kernel_rfl)
theorem Qc_l5.eq (v0 : List (Int × (List Int))) (v1 v2 v3 v4 v5 : Int) (v6 : List Int) (v7 : List (Int × (List Int))) (v8 v9 v10 v11 : List Int) : Qc_l5 v0 v1 v2 v3 v4 v5 v6 v7 v8 v9 v10 v11 =
 bif decide (v4 < v3) then
 (at? v9 v4).bind fun y1 =>
 v9[v4.toNat]?.bind fun y2 =>
 (at? v8 v4).bind fun y3 =>
 v8[v4.toNat]?.bind fun y4 =>
 (at? v10 y2).bind fun y5 =>
 v10[y2.toNat]?.bind fun y6 =>
 (at? v8 v4).bind fun y7 =>
 v8[v4.toNat]?.bind fun y8 =>
 (at? v11 y2).bind fun y9 =>
 v11[y2.toNat]?.bind fun y10 =>
 (at? v9 v4).bind fun y11 =>
 v9[v4.toNat]?.bind fun y12 =>
 Qc_l5 v0 v1 v2 v3 (IntKind.i64.wrap (v4 + (1 : Int))) v5 v6 v7 (v8.set v4.toNat (IntKind.i64.wrap (((BitVec.ofInt 64 (IntKind.i64.wrap (y4 * 2 ^ 1))) ||| (BitVec.ofInt 64 y6)).toNat : Int))) (v9.set v4.toNat y10) v10 v11
 else
 Qc_l2 v0 v1 (IntKind.i64.wrap (v2 + (1 : Int))) v5 v6 v7 v8 v9 := (Q7 Q1 (Q0 (Qc.gok _)) _ _).trans (by kernel_rfl)
noncomputable abbrev Q0S.s : Sg := ⟨[.lend], [vi], ⟨[vb], [none]⟩, Tryz.f37⟩
noncomputable def Q0S.gs (δ : Type) : List (Nat × Callee (GT tab) δ) := [(18, Qy.k)]
theorem Q0S.gok (δ : Type) : Q4 Tryz.prog tab (Q0S.gs δ) := .cons Qy.con .nil
noncomputable def Q0S.c := cx Q0S.s [] [] [] false (Q0S.gs _)
noncomputable def Q0S (x0 : Int) : Option (Bool) := fnW Q0S.s Q0S.c x0
theorem Q0S.fok : FkS Q0S.s 37 := ⟨Tryz.func37, by kernel_rfl, by kernel_rfl⟩
noncomputable def Q0S.fn (x : Args tab Q0S.s.ar) : Option (ResT tab Q0S.s.rs) := Q0S x
noncomputable abbrev Q0S.k {δ : Type} : Callee (GT tab) δ := kS Q0S.s Q0S.fn
theorem Q0S.con {δ : Type} : Con Tryz.prog (KT tab) 37 (Q0S.k (δ := δ)) := Q5 (c := Q0S.c) mixed Q1 (Q0 (Q0S.gok _)) Q0S.fok rfl rfl fun _ => rfl
theorem Q0S.eq (x0 : Int) : Q0S x0 =
 (Qy x0 (1 : Int) (64 : Int)).bind fun y1 =>
 some y1 := by kernel_rfl
noncomputable abbrev Q1o.s : Sg := ⟨[.lend], [vi], ⟨[vb], [none]⟩, Tryz.f120⟩
noncomputable def Q1o.gs (δ : Type) : List (Nat × Callee (GT tab) δ) := [(18, Qy.k)]
theorem Q1o.gok (δ : Type) : Q4 Tryz.prog tab (Q1o.gs δ) := .cons Qy.con .nil
noncomputable def Q1o.c := cx Q1o.s [] [] [] false (Q1o.gs _)
noncomputable def Q1o (x0 : Int) : Option (Bool) := fnW Q1o.s Q1o.c x0
theorem Q1o.fok : FkS Q1o.s 120 := ⟨Tryz.func120, by kernel_rfl, by kernel_rfl⟩
noncomputable def Q1o.fn (x : Args tab Q1o.s.ar) : Option (ResT tab Q1o.s.rs) := Q1o x
noncomputable abbrev Q1o.k {δ : Type} : Callee (GT tab) δ := kS Q1o.s Q1o.fn
theorem Q1o.con {δ : Type} : Con Tryz.prog (KT tab) 120 (Q1o.k (δ := δ)) := Q5 (c := Q1o.c) mixed Q1 (Q0 (Q1o.gok _)) Q1o.fok rfl rfl fun _ => rfl
theorem Q1o.eq (x0 : Int) : Q1o x0 =
 (Qy x0 (0 : Int) (256 : Int)).bind fun y1 =>
 some y1 := by kernel_rfl
noncomputable abbrev Q0X.s : Sg := ⟨[.lend, .lend], [vi, .one (.ptr false 0 [.fn 120 []])], ⟨[vb], [none, none]⟩, Tryz.f124⟩
noncomputable def Q0X.gs (δ : Type) : List (Nat × Callee (GT tab) δ) := [(120, Q1o.k)]
theorem Q0X.gok (δ : Type) : Q4 Tryz.prog tab (Q0X.gs δ) := .cons Q1o.con .nil
noncomputable def Q0X.c := cx Q0X.s [] [] [] false (Q0X.gs _)
noncomputable def Q0X (x0 : Int) (x1 : Unit) : Option (Bool) := fnW Q0X.s Q0X.c (x0, x1)
theorem Q0X.fok : FkS Q0X.s 124 := ⟨Tryz.func124, by kernel_rfl, by kernel_rfl⟩
noncomputable def Q0X.fn (x : Args tab Q0X.s.ar) : Option (ResT tab Q0X.s.rs) := Q0X x.1 x.2
noncomputable abbrev Q0X.k {δ : Type} : Callee (GT tab) δ := kS Q0X.s Q0X.fn
theorem Q0X.con {δ : Type} : Con Tryz.prog (KT tab) 124 (Q0X.k (δ := δ)) := Q5 (c := Q0X.c) mixed Q1 (Q0 (Q0X.gok _)) Q0X.fok rfl rfl fun _ => rfl
theorem Q0X.eq (x0 : Int) (x1 : Unit) : Q0X x0 x1 =
 (Q1o x0).bind fun y1 =>
 some (!y1) := by kernel_rfl
noncomputable abbrev Q0w.s : Sg := ⟨[.lend, .lend], [vl 3, .one (.fn 124 [.ptr false 0 [.fn 120 []]])], ⟨[vi], [none, none]⟩, Tryz.f138⟩
noncomputable def Q0w.gs (δ : Type) : List (Nat × Callee (GT tab) δ) := [(124, Q0X.k)]
theorem Q0w.gok (δ : Type) : Q4 Tryz.prog tab (Q0w.gs δ) := .cons Q0X.con .nil
noncomputable def Q0w.c := cx Q0w.s [] [] [(2, [0, 1, 7, 8])] false (Q0w.gs _)
noncomputable def Q0w (x0 : List Int) (x1 : Unit) : Option (Int) := fnW Q0w.s Q0w.c (x0, x1)
theorem Q0w.fok : FkS Q0w.s 138 := ⟨Tryz.func138, by kernel_rfl, by kernel_rfl⟩
noncomputable def Q0w.fn (x : Args tab Q0w.s.ar) : Option (ResT tab Q0w.s.rs) := Q0w x.1 x.2
noncomputable abbrev Q0w.k {δ : Type} : Callee (GT tab) δ := kS Q0w.s Q0w.fn
theorem Q0w.con {δ : Type} : Con Tryz.prog (KT tab) 138 (Q0w.k (δ := δ)) := Q5 (c := Q0w.c) mixed Q1 (Q0 (Q0w.gok _)) Q0w.fok rfl rfl fun _ => rfl
noncomputable def Q0w_l0 (v0 : List Int) (v1 v2 : Int) : Option (Int) := lpW Q0w.s Q0w.c 0 (ud 10 [.vs false 3 v0, .fn 124 [.vp [.fn 120 []]], .undef, .undef, .undef, .undef, .undef, .int .i64 v1, .int .i64 v2]) [] 0
theorem Q0w.eq (x0 : List Int) (x1 : Unit) : Q0w x0 x1 =
 Q0w_l0 x0 (x0.length : Int) (0 : Int) := by kernel_rfl
theorem Q0w_l0.eq (v0 : List Int) (v1 v2 : Int) : Q0w_l0 v0 v1 v2 =
 bif decide (v2 < v1) then
 (at? v0 v2).bind fun y1 =>
 (Q0X y1 ()).bind fun y2 =>
 bif y2 then
 some v2
 else
 Q0w_l0 v0 v1 (IntKind.i64.wrap (v2 + (1 : Int)))
 else
 some (-1 : Int) := (Q7 Q1 (Q0 (Q0w.gok _)) _ _).trans (by kernel_rfl)
noncomputable abbrev Q1p.s : Sg := ⟨[.lend, .lend], [vl 3, .one (.fn 124 [.ptr false 56 [.fn 120 []]])], ⟨[vb], [none, none]⟩, Tryz.f123⟩
noncomputable def Q1p.gs (δ : Type) : List (Nat × Callee (GT tab) δ) := [(138, Q0w.k)]
theorem Q1p.gok (δ : Type) : Q4 Tryz.prog tab (Q1p.gs δ) := .cons Q0w.con .nil
noncomputable def Q1p.c := cx Q1p.s [] [] [] false (Q1p.gs _)
noncomputable def Q1p (x0 : List Int) (x1 : Unit) : Option (Bool) := fnW Q1p.s Q1p.c (x0, x1)
theorem Q1p.fok : FkS Q1p.s 123 := ⟨Tryz.func123, by kernel_rfl, by kernel_rfl⟩
noncomputable def Q1p.fn (x : Args tab Q1p.s.ar) : Option (ResT tab Q1p.s.rs) := Q1p x.1 x.2
noncomputable abbrev Q1p.k {δ : Type} : Callee (GT tab) δ := kS Q1p.s Q1p.fn
theorem Q1p.con {δ : Type} : Con Tryz.prog (KT tab) 123 (Q1p.k (δ := δ)) := Q5 (c := Q1p.c) mixed Q1 (Q0 (Q1p.gok _)) Q1p.fok rfl rfl fun _ => rfl
theorem Q1p.eq (x0 : List Int) (x1 : Unit) : Q1p x0 x1 =
 (Q0w x0 ()).bind fun y1 =>
 some (decide (y1 ≥ (0 : Int))) := by kernel_rfl
noncomputable abbrev Q1h.s : Sg := ⟨[.lend, .lend], [vl 3, .one (.fn 120 [])], ⟨[vb], [none, none]⟩, Tryz.f109⟩
noncomputable def Q1h.gs (δ : Type) : List (Nat × Callee (GT tab) δ) := [(123, Q1p.k)]
theorem Q1h.gok (δ : Type) : Q4 Tryz.prog tab (Q1h.gs δ) := .cons Q1p.con .nil
noncomputable def Q1h.c := cx Q1h.s [] [] [] false (Q1h.gs _)
noncomputable def Q1h (x0 : List Int) (x1 : Unit) : Option (Bool) := fnW Q1h.s Q1h.c (x0, x1)
theorem Q1h.fok : FkS Q1h.s 109 := ⟨Tryz.func109, by kernel_rfl, by kernel_rfl⟩
noncomputable def Q1h.fn (x : Args tab Q1h.s.ar) : Option (ResT tab Q1h.s.rs) := Q1h x.1 x.2
noncomputable abbrev Q1h.k {δ : Type} : Callee (GT tab) δ := kS Q1h.s Q1h.fn
theorem Q1h.con {δ : Type} : Con Tryz.prog (KT tab) 109 (Q1h.k (δ := δ)) := Q5 (c := Q1h.c) mixed Q1 (Q0 (Q1h.gok _)) Q1h.fok rfl rfl fun _ => rfl
theorem Q1h.eq (x0 : List Int) (x1 : Unit) : Q1h x0 x1 =
 (Q1p x0 ()).bind fun y1 =>
 some (!y1) := by kernel_rfl
noncomputable abbrev Q1i.s : Sg := ⟨[.lend], [vl 3], ⟨[vb], [none]⟩, Tryz.f99⟩
noncomputable def Q1i.gs (δ : Type) : List (Nat × Callee (GT tab) δ) := [(109, Q1h.k)]
theorem Q1i.gok (δ : Type) : Q4 Tryz.prog tab (Q1i.gs δ) := .cons Q1h.con .nil
noncomputable def Q1i.c := cx Q1i.s [] [] [] false (Q1i.gs _)
noncomputable def Q1i (x0 : List Int) : Option (Bool) := fnW Q1i.s Q1i.c x0
theorem Q1i.fok : FkS Q1i.s 99 := ⟨Tryz.func99, by kernel_rfl, by kernel_rfl⟩
noncomputable def Q1i.fn (x : Args tab Q1i.s.ar) : Option (ResT tab Q1i.s.rs) := Q1i x
noncomputable abbrev Q1i.k {δ : Type} : Callee (GT tab) δ := kS Q1i.s Q1i.fn
theorem Q1i.con {δ : Type} : Con Tryz.prog (KT tab) 99 (Q1i.k (δ := δ)) := Q5 (c := Q1i.c) mixed Q1 (Q0 (Q1i.gok _)) Q1i.fok rfl rfl fun _ => rfl
theorem Q1i.eq (x0 : List Int) : Q1i x0 =
 bif decide ((x0.length : Int) ≤ (301 : Int)) then
 (Q1h x0 ()).bind fun y1 =>
 some y1
 else
 some false := by kernel_rfl
noncomputable abbrev QJ.s : Sg := ⟨[.lend], [vl 3], ⟨[vo 3], [none]⟩, Tryz.f101⟩
noncomputable def QJ.gs (δ : Type) : List (Nat × Callee (GT tab) δ) := []
theorem QJ.gok (δ : Type) : Q4 Tryz.prog tab (QJ.gs δ) := .nil
noncomputable def QJ.c := cx QJ.s [] [] [(3, [3, 8, 9, 10]), (8, [3, 6])] false (QJ.gs _)
noncomputable def QJ (x0 : List Int) : Option (List Int) := fnW QJ.s QJ.c x0
theorem QJ.fok : FkS QJ.s 101 := ⟨Tryz.func101, by kernel_rfl, by kernel_rfl⟩
noncomputable def QJ.fn (x : Args tab QJ.s.ar) : Option (ResT tab QJ.s.rs) := QJ x
noncomputable abbrev QJ.k {δ : Type} : Callee (GT tab) δ := kS QJ.s QJ.fn
theorem QJ.con {δ : Type} : Con Tryz.prog (KT tab) 101 (QJ.k (δ := δ)) := Q5 (c := QJ.c) mixed Q1 (Q0 (QJ.gok _)) QJ.fok rfl rfl fun _ => rfl
noncomputable def QJ_l0 (v0 : List Int) (v1 v2 : Int) (v3 : List Int) : Option (List Int) := lpW QJ.s QJ.c 0 (ud 27 [.undef, .undef, .undef, .sl 0 0, .undef, .undef, .undef, .undef, .vs false 3 v0, .int .i64 v1, .int .i64 v2]) [.row 0 true 3 v3] 1
noncomputable def QJ_l1 (v0 : Int) (v1 : List Int) : Option (List Int) := lpW QJ.s QJ.c 1 (ud 31 [.undef, .undef, .undef, .sl 0 0, .undef, .undef, .int .i64 v0]) [.row 0 true 3 v1] 1
theorem QJ.eq (x0 : List Int) : QJ x0 =
 QJ_l0 x0 (x0.length : Int) (0 : Int) (List.replicate 258 (0 : Int)) := by kernel_rfl
theorem QJ_l0.eq (v0 : List Int) (v1 v2 : Int) (v3 : List Int) : QJ_l0 v0 v1 v2 v3 =
 bif decide (v2 < v1) then
 (at? v0 v2).bind fun y1 =>
 (at? v3 (IntKind.i64.wrap (y1 + (1 : Int)))).bind fun y2 =>
 v3[(IntKind.i64.wrap (y1 + (1 : Int))).toNat]?.bind fun y3 =>
 (at? v3 (IntKind.i64.wrap (y1 + (1 : Int)))).bind fun y4 =>
 v3[(IntKind.i64.wrap (y1 + (1 : Int))).toNat]?.bind fun y5 =>
 QJ_l0 v0 v1 (IntKind.i64.wrap (v2 + (1 : Int))) (v3.set ((IntKind.i64.wrap (y1 + (1 : Int))).toNat) (IntKind.i64.wrap (y3 + (1 : Int))))
 else
 QJ_l1 (1 : Int) v3 := (Q7 Q1 (Q0 (QJ.gok _)) _ _).trans (by kernel_rfl)
theorem QJ_l1.eq (v0 : Int) (v1 : List Int) : QJ_l1 v0 v1 =
 bif decide (v0 < (258 : Int)) then
 (at? v1 v0).bind fun y1 =>
 v1[v0.toNat]?.bind fun y2 =>
 (at? v1 (IntKind.i64.wrap (v0 - (1 : Int)))).bind fun y3 =>
 v1[(IntKind.i64.wrap (v0 - (1 : Int))).toNat]?.bind fun y4 =>
 (at? v1 v0).bind fun y5 =>
 v1[v0.toNat]?.bind fun y6 =>
 QJ_l1 (IntKind.i64.wrap (v0 + (1 : Int))) (v1.set v0.toNat (IntKind.i64.wrap (y2 + y4)))
 else
 some v1 := (Q7 Q1 (Q0 (QJ.gok _)) _ _).trans (by kernel_rfl)
noncomputable abbrev Q0k.s : Sg := ⟨[.lend], [vl 3], ⟨[vo 3], [none]⟩, Tryz.f100⟩
noncomputable def Q0k.gs (δ : Type) : List (Nat × Callee (GT tab) δ) := [(101, QJ.k)]
theorem Q0k.gok (δ : Type) : Q4 Tryz.prog tab (Q0k.gs δ) := .cons QJ.con .nil
noncomputable def Q0k.c := cx Q0k.s [] [] [(4, [3, 4, 9, 10, 11])] false (Q0k.gs _)
noncomputable def Q0k (x0 : List Int) : Option (List Int) := fnW Q0k.s Q0k.c x0
theorem Q0k.fok : FkS Q0k.s 100 := ⟨Tryz.func100, by kernel_rfl, by kernel_rfl⟩
noncomputable def Q0k.fn (x : Args tab Q0k.s.ar) : Option (ResT tab Q0k.s.rs) := Q0k x
noncomputable abbrev Q0k.k {δ : Type} : Callee (GT tab) δ := kS Q0k.s Q0k.fn
theorem Q0k.con {δ : Type} : Con Tryz.prog (KT tab) 100 (Q0k.k (δ := δ)) := Q5 (c := Q0k.c) mixed Q1 (Q0 (Q0k.gok _)) Q0k.fok rfl rfl fun _ => rfl
noncomputable def Q0k_l0 (v0 : List Int) (v1 v2 : Int) (v3 v4 : List Int) : Option (List Int) := lpW Q0k.s Q0k.c 0 (ud 18 [.undef, .undef, .undef, .sl 0 0, .sl 1 0, .undef, .undef, .undef, .undef, .vs false 3 v0, .int .i64 v1, .int .i64 v2]) [.row 0 true 3 v3, .row 0 true 3 v4] 2
theorem Q0k.eq (x0 : List Int) : Q0k x0 =
 (QJ x0).bind fun y1 =>
 Q0k_l0 x0 (x0.length : Int) (0 : Int) y1 ([] : List Int) := by kernel_rfl
theorem Q0k_l0.eq (v0 : List Int) (v1 v2 : Int) (v3 v4 : List Int) : Q0k_l0 v0 v1 v2 v3 v4 =
 bif decide (v2 < v1) then
 (at? v0 v2).bind fun y1 =>
 (at? v3 y1).bind fun y2 =>
 v3[y1.toNat]?.bind fun y3 =>
 bif decide ((v4.length + ([y3] : List Int).length) * 8 ≤ 140737488355328) then
 (at? v3 y1).bind fun y4 =>
 v3[y1.toNat]?.bind fun y5 =>
 (at? v3 y1).bind fun y6 =>
 v3[y1.toNat]?.bind fun y7 =>
 Q0k_l0 v0 v1 (IntKind.i64.wrap (v2 + (1 : Int))) (v3.set y1.toNat (IntKind.i64.wrap (y5 + (1 : Int)))) (v4 ++ ([y3] : List Int))
 else
 none
 else
 some v4 := (Q7 Q1 (Q0 (Q0k.gok _)) _ _).trans (by kernel_rfl)
def Q1O.ms : List Mode := [.lend, .lend]
def Q1O.as : List VSh := [.one (.b (.b (.b (.b (.sl false false 5))))), .one (.b (.b (.b (.b (.sl false false 5)))))]
def Q1O.rs : RSh := ⟨[.one (.b (.b (.b (.b (.int .i64)))))], [none, none]⟩
noncomputable def Q1O (x0 : List Int) (x1 : List Int) : Option (Int) := some (cmpB (x0.map fun x => x) (x1.map fun x => x))
noncomputable def Q1O.fn : Args tab Q1O.as → Option (ResT tab Q1O.rs) := fun x => Q1O x.1 x.2
noncomputable abbrev Q1O.k {δ : Type} : Callee (GT tab) δ := Q21 tab Q1O.ms Q1O.as Q1O.rs Q1O.fn
theorem Q1O.con {δ : Type} : Con Tryz.prog (KT tab) 114 (Q1O.k (δ := δ)) := con_compare Tryz.func114 (by kernel_rfl) (by kernel_rfl) (by kernel_rfl) (by kernel_rfl) (l := tab) (e := 5) (g := fun x => x) rfl
noncomputable abbrev Q1q.s : Sg := ⟨[.lend, .lend], [vl 5, vl 5], ⟨[vi], [none, none]⟩, Tryz.f86⟩
noncomputable def Q1q.gs (δ : Type) : List (Nat × Callee (GT tab) δ) := [(114, Q1O.k)]
theorem Q1q.gok (δ : Type) : Q4 Tryz.prog tab (Q1q.gs δ) := .cons Q1O.con .nil
noncomputable def Q1q.c := cx Q1q.s [] [] [] false (Q1q.gs _)
noncomputable def Q1q (x0 x1 : List Int) : Option (Int) := fnW Q1q.s Q1q.c (x0, x1)
theorem Q1q.fok : FkS Q1q.s 86 := ⟨Tryz.func86, by kernel_rfl, by kernel_rfl⟩
noncomputable def Q1q.fn (x : Args tab Q1q.s.ar) : Option (ResT tab Q1q.s.rs) := Q1q x.1 x.2
noncomputable abbrev Q1q.k {δ : Type} : Callee (GT tab) δ := kS Q1q.s Q1q.fn
theorem Q1q.con {δ : Type} : Con Tryz.prog (KT tab) 86 (Q1q.k (δ := δ)) := Q5 (c := Q1q.c) mixed Q1 (Q0 (Q1q.gok _)) Q1q.fok rfl rfl fun _ => rfl
theorem Q1q.eq (x0 x1 : List Int) : Q1q x0 x1 =
 (Q1O x0 x1).bind fun y1 =>
 some y1 := by kernel_rfl
noncomputable abbrev Q0H.s : Sg := ⟨[.lend, .lend, .lend], [vi, vi, .one (.ptr false 22 [.b (.b (.b (.sl false false 5)))])], ⟨[vi], [none, none, none]⟩, Tryz.f85⟩
noncomputable def Q0H.gs (δ : Type) : List (Nat × Callee (GT tab) δ) := [(86, Q1q.k)]
theorem Q0H.gok (δ : Type) : Q4 Tryz.prog tab (Q0H.gs δ) := .cons Q1q.con .nil
noncomputable def Q0H.c := cx Q0H.s [] [] [] false (Q0H.gs _)
noncomputable def Q0H (x0 x1 : Int) (x2 : List Int) : Option (Int) := fnW Q0H.s Q0H.c (x0, x1, x2)
theorem Q0H.fok : FkS Q0H.s 85 := ⟨Tryz.func85, by kernel_rfl, by kernel_rfl⟩
noncomputable def Q0H.fn (x : Args tab Q0H.s.ar) : Option (ResT tab Q0H.s.rs) := Q0H x.1 x.2.1 x.2.2
noncomputable abbrev Q0H.k {δ : Type} : Callee (GT tab) δ := kS Q0H.s Q0H.fn
theorem Q0H.con {δ : Type} : Con Tryz.prog (KT tab) 85 (Q0H.k (δ := δ)) := Q5 (c := Q0H.c) mixed Q1 (Q0 (Q0H.gok _)) Q0H.fok rfl rfl fun _ => rfl
theorem Q0H.eq (x0 x1 : Int) (x2 : List Int) : Q0H x0 x1 x2 =
 bif decide (0 ≤ x0 ∧ x0 ≤ ((x2.length : Nat) : Int)) then
 bif decide (0 ≤ x1 ∧ x1 ≤ ((x2.length : Nat) : Int)) then
 (Q1q ((x2.take x2.length).drop x0.toNat) ((x2.take x2.length).drop x1.toNat)).bind fun y1 =>
 some y1
 else
 none
 else
 none := by kernel_rfl
def Q1L.ms : List Mode := [.keep, .lend]
def Q1L.as : List VSh := [.one (.b (.b (.b (.b (.sl true true 3))))), .one (.fn 85 [.ptr false 22 [.b (.b (.sl false false 5))]])]
def Q1L.rs : RSh := ⟨[], [some (.one (.b (.b (.b (.b (.sl true true 3)))))), none]⟩
noncomputable def Q1L (x0 : List Int) (x1 : List Int) : Option (List Int) := sortC (fun a b => Q0H a b x1) x0
noncomputable def Q1L.fn : Args tab Q1L.as → Option (ResT tab Q1L.rs) := fun x => Q1L x.1 x.2
noncomputable abbrev Q1L.k {δ : Type} : Callee (GT tab) δ := Q21 tab Q1L.ms Q1L.as Q1L.rs Q1L.fn
theorem Q1L.con {δ : Type} : Con Tryz.prog (KT tab) 84 (Q1L.k (δ := δ)) := con_sort (l := tab) Tryz.laysSort84 rfl (e := 3) (g := fun x => x) rfl (gf := 85) (fun a w => FnOk.enters Q0H.fok a w) (cv := .one (.fn 85 [.ptr false 22 [.b (.b (.sl false false 5))]])) (capsT := fun y => [.ptr false 22 [.sl false false 5 y]]) (fun _ => by kernel_rfl) (fun y => List.all_eq_true.1 (by kernel_rfl)) (cal := Q0H.k) Q0H.con (ks := [none, none, none]) (F := fun a b y => Q0H a b y) (fun a b y => sem_map (by kernel_rfl))
noncomputable abbrev Q0d.s : Sg := ⟨[.lend], [vl 5], ⟨[vo 3], [none]⟩, Tryz.f41⟩
noncomputable def Q0d.gs (δ : Type) : List (Nat × Callee (GT tab) δ) := [(84, Q1L.k)]
theorem Q0d.gok (δ : Type) : Q4 Tryz.prog tab (Q0d.gs δ) := .cons Q1L.con .nil
noncomputable def Q0d.c := cx Q0d.s [] [] [(3, [1, 3, 7, 8])] false (Q0d.gs _)
noncomputable def Q0d (x0 : List Int) : Option (List Int) := fnW Q0d.s Q0d.c x0
theorem Q0d.fok : FkS Q0d.s 41 := ⟨Tryz.func41, by kernel_rfl, by kernel_rfl⟩
noncomputable def Q0d.fn (x : Args tab Q0d.s.ar) : Option (ResT tab Q0d.s.rs) := Q0d x
noncomputable abbrev Q0d.k {δ : Type} : Callee (GT tab) δ := kS Q0d.s Q0d.fn
theorem Q0d.con {δ : Type} : Con Tryz.prog (KT tab) 41 (Q0d.k (δ := δ)) := Q5 (c := Q0d.c) mixed Q1 (Q0 (Q0d.gok _)) Q0d.fok rfl rfl fun _ => rfl
noncomputable def Q0d_l0 (v0 v1 : Int) (v2 v3 : List Int) : Option (List Int) := lpW Q0d.s Q0d.c 0 (ud 11 [.undef, .ptr 0 0, .undef, .sl 1 0, .undef, .undef, .undef, .int .i64 v0, .int .i64 v1]) [.box 22 [.vs false 5 v2], .row 0 true 3 v3] 2
theorem Q0d.eq (x0 : List Int) : Q0d x0 =
 Q0d_l0 (IntKind.i64.wrap ((x0.length : Int) + (1 : Int))) (0 : Int) x0 ([] : List Int) := by kernel_rfl
theorem Q0d_l0.eq (v0 v1 : Int) (v2 v3 : List Int) : Q0d_l0 v0 v1 v2 v3 =
 bif decide (v1 < v0) then
 bif decide ((v3.length + ([v1] : List Int).length) * 8 ≤ 140737488355328) then
 Q0d_l0 v0 (IntKind.i64.wrap (v1 + (1 : Int))) v2 (v3 ++ ([v1] : List Int))
 else
 none
 else
 (Q1L v3 v2).bind fun y1 =>
 some y1 := (Q7 Q1 (Q0 (Q0d.gok _)) _ _).trans (by kernel_rfl)
noncomputable abbrev QB.s : Sg := ⟨[.lend], [vl 5], ⟨[vo 3], [none]⟩, Tryz.f20⟩
noncomputable def QB.gs (δ : Type) : List (Nat × Callee (GT tab) δ) := [(41, Q0d.k)]
theorem QB.gok (δ : Type) : Q4 Tryz.prog tab (QB.gs δ) := .cons Q0d.con .nil
noncomputable def QB.c := cx QB.s [] [] [(3, [0, 3, 7, 8, 9])] false (QB.gs _)
noncomputable def QB (x0 : List Int) : Option (List Int) := fnW QB.s QB.c x0
theorem QB.fok : FkS QB.s 20 := ⟨Tryz.func20, by kernel_rfl, by kernel_rfl⟩
noncomputable def QB.fn (x : Args tab QB.s.ar) : Option (ResT tab QB.s.rs) := QB x
noncomputable abbrev QB.k {δ : Type} : Callee (GT tab) δ := kS QB.s QB.fn
theorem QB.con {δ : Type} : Con Tryz.prog (KT tab) 20 (QB.k (δ := δ)) := Q5 (c := QB.c) mixed Q1 (Q0 (QB.gok _)) QB.fok rfl rfl fun _ => rfl
noncomputable def QB_l0 (v0 : List Int) (v1 v2 : Int) (v3 v4 : List Int) : Option (List Int) := lpW QB.s QB.c 0 (ud 20 [.vs false 5 v0, .undef, .undef, .sl 0 0, .undef, .undef, .undef, .sl 1 0, .int .i64 v1, .int .i64 v2]) [.row 0 true 3 v3, .row 0 true 3 v4] 2
theorem QB.eq (x0 : List Int) : QB x0 =
 (Q0d x0).bind fun y1 =>
 QB_l0 x0 (y1.length : Int) (0 : Int) ([] : List Int) y1 := by kernel_rfl
theorem QB_l0.eq (v0 : List Int) (v1 v2 : Int) (v3 v4 : List Int) : QB_l0 v0 v1 v2 v3 v4 =
 bif decide (v2 < v1) then
 (at? v4 v2).bind fun y1 =>
 v4[v2.toNat]?.bind fun y2 =>
 bif y2 == (0 : Int) then
 bif decide ((v3.length + ([(0 : Int)] : List Int).length) * 8 ≤ 140737488355328) then
 QB_l0 v0 v1 (IntKind.i64.wrap (v2 + (1 : Int))) (v3 ++ ([(0 : Int)] : List Int)) v4
 else
 none
 else
 (at? v0 (IntKind.i64.wrap (y2 - (1 : Int)))).bind fun y3 =>
 bif decide ((v3.length + ([IntKind.i64.wrap ((IntKind.i64.wrap y3) + (1 : Int))] : List Int).length) * 8 ≤ 140737488355328) then
 QB_l0 v0 v1 (IntKind.i64.wrap (v2 + (1 : Int))) (v3 ++ ([IntKind.i64.wrap ((IntKind.i64.wrap y3) + (1 : Int))] : List Int)) v4
 else
 none
 else
 some v3 := (Q7 Q1 (Q0 (QB.gok _)) _ _).trans (by kernel_rfl)
noncomputable abbrev Q01.s : Sg := ⟨[.lend, .lend], [vl 3, vl 3], ⟨[vb], [none, none]⟩, Tryz.f80⟩
noncomputable def Q01.gs (δ : Type) : List (Nat × Callee (GT tab) δ) := []
theorem Q01.gok (δ : Type) : Q4 Tryz.prog tab (Q01.gs δ) := .nil
noncomputable def Q01.c := cx Q01.s [] [] [(4, [0, 1, 12, 13])] false (Q01.gs _)
noncomputable def Q01 (x0 x1 : List Int) : Option (Bool) := fnW Q01.s Q01.c (x0, x1)
theorem Q01.fok : FkS Q01.s 80 := ⟨Tryz.func80, by kernel_rfl, by kernel_rfl⟩
noncomputable def Q01.fn (x : Args tab Q01.s.ar) : Option (ResT tab Q01.s.rs) := Q01 x.1 x.2
noncomputable abbrev Q01.k {δ : Type} : Callee (GT tab) δ := kS Q01.s Q01.fn
theorem Q01.con {δ : Type} : Con Tryz.prog (KT tab) 80 (Q01.k (δ := δ)) := Q5 (c := Q01.c) mixed Q1 (Q0 (Q01.gok _)) Q01.fok rfl rfl fun _ => rfl
noncomputable def Q01_l0 (v0 v1 : List Int) (v2 v3 : Int) : Option (Bool) := lpW Q01.s Q01.c 0 (ud 12 [.vs false 3 v0, .vs false 3 v1, .undef, .undef, .undef, .undef, .undef, .undef, .undef, .undef, .undef, .undef, .int .i64 v2, .int .i64 v3]) [] 0
theorem Q01.eq (x0 x1 : List Int) : Q01 x0 x1 =
 bif (x0.length : Int) != (x1.length : Int) then
 some false
 else
 Q01_l0 x0 x1 (x0.length : Int) (0 : Int) := by kernel_rfl
theorem Q01_l0.eq (v0 v1 : List Int) (v2 v3 : Int) : Q01_l0 v0 v1 v2 v3 =
 bif decide (v3 < v2) then
 (at? v0 v3).bind fun y1 =>
 (at? v1 v3).bind fun y2 =>
 bif y1 != y2 then
 some false
 else
 Q01_l0 v0 v1 v2 (IntKind.i64.wrap (v3 + (1 : Int)))
 else
 some true := (Q7 Q1 (Q0 (Q01.gok _)) _ _).trans (by kernel_rfl)
noncomputable abbrev QN.s : Sg := ⟨[.lend], [vl 3], ⟨[vo 5, vb], [none]⟩, Tryz.f74⟩
noncomputable def QN.gs (δ : Type) : List (Nat × Callee (GT tab) δ) := [(19, Qh.k), (20, QB.k), (80, Q01.k), (99, Q1i.k), (100, Q0k.k)]
theorem QN.gok (δ : Type) : Q4 Tryz.prog tab (QN.gs δ) := .cons Qh.con (.cons QB.con (.cons Q01.con (.cons Q1i.con (.cons Q0k.con .nil))))
noncomputable def QN.c := cx QN.s [] [3] [(3, [0]), (7, [0, 4, 5, 6, 7])] false (QN.gs _)
noncomputable def QN (x0 : List Int) : Option ((List Int) × Bool) := fnW QN.s QN.c x0
theorem QN.fok : FkS QN.s 74 := ⟨Tryz.func74, by kernel_rfl, by kernel_rfl⟩
noncomputable def QN.fn (x : Args tab QN.s.ar) : Option (ResT tab QN.s.rs) := QN x
noncomputable abbrev QN.k {δ : Type} : Callee (GT tab) δ := kS QN.s QN.fn
theorem QN.con {δ : Type} : Con Tryz.prog (KT tab) 74 (QN.k (δ := δ)) := Q5 (c := QN.c) mixed Q1 (Q0 (QN.gok _)) QN.fok rfl rfl fun _ => rfl
noncomputable def QN_l0 (v0 : List Int) : Option ((List Int) × Bool) := lpW QN.s QN.c 0 (ud 52 [.vs false 3 v0]) [] 0
noncomputable def QN_l1 (v0 : List Int) (v1 v2 : Int) (v3 v4 : List Int) : Option ((List Int) × Bool) := lpW QN.s QN.c 1 (ud 45 [.vs false 3 v0, .undef, .undef, .undef, .sl 0 0, .sl 1 0, .int .i64 v1, .int .i64 v2]) [.row 0 true 3 v3, .row 0 true 5 v4] 2
theorem QN.eq (x0 : List Int) : QN x0 =
 (Q1i x0).bind fun y1 =>
 bif !y1 then
 some (([] : List Int), false)
 else
 (Qh x0 (0 : Int)).bind fun y2 =>
 bif y2 != (1 : Int) then
 some (([] : List Int), false)
 else
 QN_l0 x0 := by kernel_rfl
theorem QN_l0.eq (v0 : List Int) : QN_l0 v0 =
 (Q0k v0).bind fun y1 =>
 bif decide ((0 : Int) ≤ IntKind.i64.wrap ((v0.length : Int) - (1 : Int))) && decide (((IntKind.i64.wrap ((v0.length : Int) - (1 : Int))).toNat) * 1 ≤ 140737488355328) then
 QN_l1 v0 (0 : Int) (IntKind.i64.wrap (((List.replicate ((IntKind.i64.wrap ((v0.length : Int) - (1 : Int))).toNat) (0 : Int)).length : Int) - (1 : Int))) y1 (List.replicate ((IntKind.i64.wrap ((v0.length : Int) - (1 : Int))).toNat) (0 : Int))
 else
 none := (Q7 Q1 (Q0 (QN.gok _)) _ _).trans (by kernel_rfl)
theorem QN_l1.eq (v0 : List Int) (v1 v2 : Int) (v3 v4 : List Int) : QN_l1 v0 v1 v2 v3 v4 =
 bif decide (v2 ≥ (0 : Int)) then
 (at? v0 v1).bind fun y1 =>
 bif y1 == (0 : Int) then
 some (([] : List Int), false)
 else
 (at? v0 v1).bind fun y2 =>
 (at? v4 v2).bind fun y3 =>
 v4[v2.toNat]?.bind fun y4 =>
 (at? v3 v1).bind fun y5 =>
 v3[v1.toNat]?.bind fun y6 =>
 QN_l1 v0 y6 (IntKind.i64.wrap (v2 - (1 : Int))) v3 (v4.set v2.toNat (IntKind.u8.wrap (IntKind.i64.wrap (y2 - (1 : Int)))))
 else
 (QB v4).bind fun y7 =>
 (Q01 y7 v0).bind fun y8 =>
 bif !y8 then
 some (([] : List Int), false)
 else
 some (v4, true) := (Q7 Q1 (Q0 (QN.gok _)) _ _).trans (by kernel_rfl)
end Go.Ev.W
