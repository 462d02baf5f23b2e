/- What functions of the program come to. -/
import Derived.Test.YtmdkpcneakoagaaGreatPhT
import Derived.Test.YtmdkpcneakoagaaGreatPh2
import Derived.Test.YtmdkpcneakoagaaGreatPh3
namespace Go.Ev.W
open Go.Ev Go.Proofs
set_option maxRecDepth 100000
set_option linter.unusedVariables false
noncomputable abbrev Q1p.s : Sg := ⟨[.lend], [vl 5], ⟨[vb], [none]⟩, Tryz.f6⟩
noncomputable def Q1p.gs (δ : Type) : List (Nat × KC δ) := []
theorem Q1p.gok (δ : Type) : Q4 Tryz.prog tab (Q1p.gs δ) := .nil
noncomputable def Q1p.c := cx Q1p.s [] [] [] false (Q1p.gs _)
noncomputable def Q1p (x0 : List Int) : Option (Bool) := fnW Q1p.s Q1p.c x0
theorem Q1p.fok : FkS Q1p.s 6 := ⟨Tryz.func6, by kernel_rfl, by kernel_rfl⟩
noncomputable def Q1p.fn (x : Args tab Q1p.s.ar) : Option (ResT tab Q1p.s.rs) := Q1p x
noncomputable abbrev Q1p.k {δ : Type} : KC δ := kS Q1p.s Q1p.fn
theorem Q1p.con {δ : Type} : Con Tryz.prog (KT tab) 6 (Q1p.k (δ := δ)) := Q5 (c := Q1p.c) mixed Q0 (Q1 (Q1p.gok _)) Q1p.fok rfl rfl fun _ => rfl
theorem Q1p.eq (x0 : List Int) : Q1p x0 =
 some (decide ((x0.length : Int) > 1048576)) := by kernel_rfl
noncomputable abbrev Q1q.s : Sg := ⟨[.lend], [vl 5], ⟨[.one (.ptr true 111 [.b (.b (.b (.sl false false 5))), .b (.b (.b (.int .i64))), .b (.b (.b (.int .i64)))])], [none]⟩, Tryz.f32⟩
noncomputable def Q1q.gs (δ : Type) : List (Nat × KC δ) := []
theorem Q1q.gok (δ : Type) : Q4 Tryz.prog tab (Q1q.gs δ) := .nil
noncomputable def Q1q.c := cx Q1q.s [] [] [] false (Q1q.gs _)
noncomputable def Q1q (x0 : List Int) : Option ((List Int) × Int × Int) := fnW Q1q.s Q1q.c x0
theorem Q1q.fok : FkS Q1q.s 32 := ⟨Tryz.func32, by kernel_rfl, by kernel_rfl⟩
noncomputable def Q1q.fn (x : Args tab Q1q.s.ar) : Option (ResT tab Q1q.s.rs) := Q1q x
noncomputable abbrev Q1q.k {δ : Type} : KC δ := kS Q1q.s Q1q.fn
theorem Q1q.con {δ : Type} : Con Tryz.prog (KT tab) 32 (Q1q.k (δ := δ)) := Q5 (c := Q1q.c) mixed Q0 (Q1 (Q1q.gok _)) Q1q.fok rfl rfl fun _ => rfl
theorem Q1q.eq (x0 : List Int) : Q1q x0 =
 some (x0, 0, IntKind.i64.wrap ((89 : Int) + ((x0.length : Int).tmod 1000))) := by kernel_rfl
noncomputable abbrev Qb.s : Sg := ⟨[.keep, .lend], [.one (.ptr true 111 [.b (.b (.b (.sl false false 5))), .b (.b (.b (.int .i64))), .b (.b (.b (.int .i64)))]), vi], ⟨[vi], [some (.one (.ptr true 111 [.b (.b (.b (.sl false false 5))), .b (.b (.b (.int .i64))), .b (.b (.b (.int .i64)))])), none]⟩, Tryz.f84⟩
noncomputable def Qb.gs (δ : Type) : List (Nat × KC δ) := []
theorem Qb.gok (δ : Type) : Q4 Tryz.prog tab (Qb.gs δ) := .nil
noncomputable def Qb.c := cx Qb.s [] [] [] false (Qb.gs _)
noncomputable def Qb (x0 : (List Int) × Int × Int) (x1 : Int) : Option (Int × ((List Int) × Int × Int)) := fnW Qb.s Qb.c (x0, x1)
theorem Qb.fok : FkS Qb.s 84 := ⟨Tryz.func84, by kernel_rfl, by kernel_rfl⟩
noncomputable def Qb.fn (x : Args tab Qb.s.ar) : Option (ResT tab Qb.s.rs) := Qb x.1 x.2
noncomputable abbrev Qb.k {δ : Type} : KC δ := kS Qb.s Qb.fn
theorem Qb.con {δ : Type} : Con Tryz.prog (KT tab) 84 (Qb.k (δ := δ)) := Q5 (c := Qb.c) mixed Q0 (Q1 (Qb.gok _)) Qb.fok rfl rfl fun _ => rfl
theorem Qb.eq (x0 : (List Int) × Int × Int) (x1 : Int) : Qb x0 x1 =
 bif decide (x1 < 2) then
 some (0, x0)
 else
 bif decide (x0.2.1 < (x0.1.length : Int)) then
 (at? x0.1 x0.2.1).bind fun y1 =>
 bif decide (x1 = 0) then
 none
 else
 some ((IntKind.i64.wrap y1).tmod x1, (x0.1, IntKind.i64.wrap (x0.2.1 + 1), x0.2.2))
 else
 bif decide ((x0.1.length : Int) > 0) then
 bif decide ((x0.1.length : Int) = 0) then
 none
 else
 (at? x0.1 (x0.2.1.tmod (x0.1.length : Int))).bind fun y2 =>
 bif decide (x1 = 0) then
 none
 else
 some ((IntKind.i64.wrap ((IntKind.i64.wrap (((IntKind.i64.wrap ((IntKind.i64.wrap (x0.2.2 * 1103)) + 12345)).tmod 65521).tdiv 7)) + (IntKind.i64.wrap y2))).tmod x1, (x0.1, IntKind.i64.wrap (x0.2.1 + 1), (IntKind.i64.wrap ((IntKind.i64.wrap (x0.2.2 * 1103)) + 12345)).tmod 65521))
 else
 bif decide (x1 = 0) then
 none
 else
 some ((0 : Int).tmod x1, (x0.1, IntKind.i64.wrap (x0.2.1 + 1), (IntKind.i64.wrap ((IntKind.i64.wrap (x0.2.2 * 1103)) + 12345)).tmod 65521)) := by kernel_rfl
noncomputable abbrev Q0Z.s : Sg := ⟨[.keep, .lend], [.one (.ptr true 111 [.b (.b (.b (.sl false false 5))), .b (.b (.b (.int .i64))), .b (.b (.b (.int .i64)))]), vi], ⟨[vi], [some (.one (.ptr true 111 [.b (.b (.b (.sl false false 5))), .b (.b (.b (.int .i64))), .b (.b (.b (.int .i64)))])), none]⟩, Tryz.f135⟩
noncomputable def Q0Z.gs (δ : Type) : List (Nat × KC δ) := [(84, Qb.k)]
theorem Q0Z.gok (δ : Type) : Q4 Tryz.prog tab (Q0Z.gs δ) := .cons Qb.con .nil
noncomputable def Q0Z.c := cx Q0Z.s [] [] [] false (Q0Z.gs _)
noncomputable def Q0Z (x0 : (List Int) × Int × Int) (x1 : Int) : Option (Int × ((List Int) × Int × Int)) := fnW Q0Z.s Q0Z.c (x0, x1)
theorem Q0Z.fok : FkS Q0Z.s 135 := ⟨Tryz.func135, by kernel_rfl, by kernel_rfl⟩
noncomputable def Q0Z.fn (x : Args tab Q0Z.s.ar) : Option (ResT tab Q0Z.s.rs) := Q0Z x.1 x.2
noncomputable abbrev Q0Z.k {δ : Type} : KC δ := kS Q0Z.s Q0Z.fn
theorem Q0Z.con {δ : Type} : Con Tryz.prog (KT tab) 135 (Q0Z.k (δ := δ)) := Q5 (c := Q0Z.c) mixed Q0 (Q1 (Q0Z.gok _)) Q0Z.fok rfl rfl fun _ => rfl
theorem Q0Z.eq (x0 : (List Int) × Int × Int) (x1 : Int) : Q0Z x0 x1 =
 (Qb x0 (IntKind.i64.wrap ((if IntKind.i64.wrap ((1 : Int) + (IntKind.i64.wrap ((x0.1.length : Int).tdiv 8))) < x1 then IntKind.i64.wrap ((1 : Int) + (IntKind.i64.wrap ((x0.1.length : Int).tdiv 8))) else x1) + 1))).bind fun y1 =>
 some (y1.1, y1.2) := by kernel_rfl
noncomputable abbrev Q0d.s : Sg := ⟨[.keep, .lend], [.one (.ptr true 111 [.b (.b (.b (.sl false false 5))), .b (.b (.b (.int .i64))), .b (.b (.b (.int .i64)))]), vi], ⟨[vb], [some (.one (.ptr true 111 [.b (.b (.b (.sl false false 5))), .b (.b (.b (.int .i64))), .b (.b (.b (.int .i64)))])), none]⟩, Tryz.f36⟩
noncomputable def Q0d.gs (δ : Type) : List (Nat × KC δ) := [(84, Qb.k)]
theorem Q0d.gok (δ : Type) : Q4 Tryz.prog tab (Q0d.gs δ) := .cons Qb.con .nil
noncomputable def Q0d.c := cx Q0d.s [] [] [] false (Q0d.gs _)
noncomputable def Q0d (x0 : (List Int) × Int × Int) (x1 : Int) : Option (Bool × ((List Int) × Int × Int)) := fnW Q0d.s Q0d.c (x0, x1)
theorem Q0d.fok : FkS Q0d.s 36 := ⟨Tryz.func36, by kernel_rfl, by kernel_rfl⟩
noncomputable def Q0d.fn (x : Args tab Q0d.s.ar) : Option (ResT tab Q0d.s.rs) := Q0d x.1 x.2
noncomputable abbrev Q0d.k {δ : Type} : KC δ := kS Q0d.s Q0d.fn
theorem Q0d.con {δ : Type} : Con Tryz.prog (KT tab) 36 (Q0d.k (δ := δ)) := Q5 (c := Q0d.c) mixed Q0 (Q1 (Q0d.gok _)) Q0d.fok rfl rfl fun _ => rfl
theorem Q0d.eq (x0 : (List Int) × Int × Int) (x1 : Int) : Q0d x0 x1 =
 (Qb x0 x1).bind fun y1 =>
 some (y1.1 == IntKind.i64.wrap (x1 - 1), y1.2) := by kernel_rfl
noncomputable abbrev QI.s : Sg := ⟨[.keep, .lend], [.one (.ptr true 111 [.b (.b (.b (.sl false false 5))), .b (.b (.b (.int .i64))), .b (.b (.b (.int .i64)))]), vi], ⟨[vo 5], [some (.one (.ptr true 111 [.b (.b (.b (.sl false false 5))), .b (.b (.b (.int .i64))), .b (.b (.b (.int .i64)))])), none]⟩, Tryz.f83⟩
noncomputable def QI.gs (δ : Type) : List (Nat × KC δ) := [(36, Q0d.k), (84, Qb.k), (135, Q0Z.k)]
theorem QI.gok (δ : Type) : Q4 Tryz.prog tab (QI.gs δ) := .cons Q0d.con (.cons Qb.con (.cons Q0Z.con .nil))
noncomputable def QI.c := cx QI.s [] [] [(4, [0, 1, 5, 6, 7])] false (QI.gs _)
noncomputable def QI (x0 : (List Int) × Int × Int) (x1 : Int) : Option ((List Int) × ((List Int) × Int × Int)) := fnW QI.s QI.c (x0, x1)
theorem QI.fok : FkS QI.s 83 := ⟨Tryz.func83, by kernel_rfl, by kernel_rfl⟩
noncomputable def QI.fn (x : Args tab QI.s.ar) : Option (ResT tab QI.s.rs) := QI x.1 x.2
noncomputable abbrev QI.k {δ : Type} : KC δ := kS QI.s QI.fn
theorem QI.con {δ : Type} : Con Tryz.prog (KT tab) 83 (QI.k (δ := δ)) := Q5 (c := QI.c) mixed Q0 (Q1 (QI.gok _)) QI.fok rfl rfl fun _ => rfl
noncomputable def QI_l0 (v0 : Int) (v1 : ByteArray) (v2 : Int) (v3 : List Int) (v4 v5 : Int) (v6 : List Int) : Option ((List Int) × ((List Int) × Int × Int)) := lpW QI.s QI.c 0 (ud 55 [.ptr 0 0, .int .i64 v0, .undef, .undef, .undef, .sl 1 0, .str v1, .int .i64 v2]) [.box 111 [.vs false 5 v3, .int .i64 v4, .int .i64 v5], .row 0 true 5 v6] 2
theorem QI.eq (x0 : (List Int) × Int × Int) (x1 : Int) : QI x0 x1 =
 (Qb x0 5).bind fun y1 =>
 (at? ([(⟨#[97]⟩ : ByteArray), (⟨#[97, 98]⟩ : ByteArray), (⟨#[97, 98, 99]⟩ : ByteArray), (⟨#[97, 99, 103, 116]⟩ : ByteArray), (⟨#[0, 255]⟩ : ByteArray)] : List ByteArray) y1.1).bind fun y2 =>
 ([(⟨#[97]⟩ : ByteArray), (⟨#[97, 98]⟩ : ByteArray), (⟨#[97, 98, 99]⟩ : ByteArray), (⟨#[97, 99, 103, 116]⟩ : ByteArray), (⟨#[0, 255]⟩ : ByteArray)] : List ByteArray)[y1.1.toNat]?.bind fun y3 =>
 (Q0Z y1.2 x1).bind fun y4 =>
 QI_l0 x1 y3 y4.1 y4.2.1 y4.2.2.1 y4.2.2.2 ([] : List Int) := by kernel_rfl
theorem QI_l0.eq (v0 : Int) (v1 : ByteArray) (v2 : Int) (v3 : List Int) (v4 v5 : Int) (v6 : List Int) : QI_l0 v0 v1 v2 v3 v4 v5 v6 =
 bif decide (v2 > 0) then
 bif decide ((v6.length : Int) > 3) then
 (Q0d (v3, v4, v5) 6).bind fun y1 =>
 bif y1.1 then
 (Qb y1.2 (v6.length : Int)).bind fun y2 =>
 (Qb y2.2 6).bind fun y3 =>
 bif decide (0 ≤ (if IntKind.i64.wrap ((IntKind.i64.wrap (y2.1 + 1)) + y3.1) < (v6.length : Int) then IntKind.i64.wrap ((IntKind.i64.wrap (y2.1 + 1)) + y3.1) else (v6.length : Int)) ∧ (if IntKind.i64.wrap ((IntKind.i64.wrap (y2.1 + 1)) + y3.1) < (v6.length : Int) then IntKind.i64.wrap ((IntKind.i64.wrap (y2.1 + 1)) + y3.1) else (v6.length : Int)) ≤ ((v6.length : Nat) : Int)) then
 bif decide (0 ≤ y2.1 ∧ y2.1 ≤ (((if IntKind.i64.wrap ((IntKind.i64.wrap (y2.1 + 1)) + y3.1) < (v6.length : Int) then IntKind.i64.wrap ((IntKind.i64.wrap (y2.1 + 1)) + y3.1) else (v6.length : Int)).toNat : Nat) : Int)) then
 bif decide ((v6.length + ((v6.drop y2.1.toNat).take (((if IntKind.i64.wrap ((IntKind.i64.wrap (y2.1 + 1)) + y3.1) < (v6.length : Int) then IntKind.i64.wrap ((IntKind.i64.wrap (y2.1 + 1)) + y3.1) else (v6.length : Int)).toNat) - y2.1.toNat)).length) * 1 ≤ 140737488355328) then
 QI_l0 v0 v1 (IntKind.i64.wrap (v2 - 1)) y3.2.1 y3.2.2.1 y3.2.2.2 (v6 ++ ((v6.drop y2.1.toNat).take (((if IntKind.i64.wrap ((IntKind.i64.wrap (y2.1 + 1)) + y3.1) < (v6.length : Int) then IntKind.i64.wrap ((IntKind.i64.wrap (y2.1 + 1)) + y3.1) else (v6.length : Int)).toNat) - y2.1.toNat)))
 else
 none
 else
 none
 else
 none
 else
 (Qb y1.2 (v1.size : Int)).bind fun y4 =>
 (at? v1.data.toList y4.1).bind fun y5 =>
 bif decide ((v6.length + ([(y5.toNat : Int)] : List Int).length) * 1 ≤ 140737488355328) then
 QI_l0 v0 v1 (IntKind.i64.wrap (v2 - 1)) y4.2.1 y4.2.2.1 y4.2.2.2 (v6 ++ ([(y5.toNat : Int)] : List Int))
 else
 none
 else
 (Qb (v3, v4, v5) (v1.size : Int)).bind fun y6 =>
 (at? v1.data.toList y6.1).bind fun y7 =>
 bif decide ((v6.length + ([(y7.toNat : Int)] : List Int).length) * 1 ≤ 140737488355328) then
 QI_l0 v0 v1 (IntKind.i64.wrap (v2 - 1)) y6.2.1 y6.2.2.1 y6.2.2.2 (v6 ++ ([(y7.toNat : Int)] : List Int))
 else
 none
 else
 bif decide ((v6.length : Int) > v0) then
 bif decide (0 ≤ v0 ∧ v0 ≤ ((v6.length : Nat) : Int)) then
 some (v6.take (v0.toNat - 0), (v3, v4, v5))
 else
 none
 else
 some (v6, (v3, v4, v5)) := (Q7 Q0 (Q1 (QI.gok _)) _ _).trans (by kernel_rfl)
noncomputable abbrev QU.s : Sg := ⟨[.keep, .lend], [.one (.ptr true 111 [.b (.b (.b (.sl false false 5))), .b (.b (.b (.int .i64))), .b (.b (.b (.int .i64)))]), vi], ⟨[vo 5, vo 5], [some (.one (.ptr true 111 [.b (.b (.b (.sl false false 5))), .b (.b (.b (.int .i64))), .b (.b (.b (.int .i64)))])), none]⟩, Tryz.f33⟩
noncomputable def QU.gs (δ : Type) : List (Nat × KC δ) := [(36, Q0d.k), (83, QI.k), (84, Qb.k)]
theorem QU.gok (δ : Type) : Q4 Tryz.prog tab (QU.gs δ) := .cons Q0d.con (.cons QI.con (.cons Qb.con .nil))
noncomputable def QU.c := cx QU.s [] [11] [(4, [0, 1, 6, 7, 8]), (11, [0, 1, 6, 7])] false (QU.gs _)
noncomputable def QU (x0 : (List Int) × Int × Int) (x1 : Int) : Option ((List Int) × (List Int) × ((List Int) × Int × Int)) := fnW QU.s QU.c (x0, x1)
theorem QU.fok : FkS QU.s 33 := ⟨Tryz.func33, by kernel_rfl, by kernel_rfl⟩
noncomputable def QU.fn (x : Args tab QU.s.ar) : Option (ResT tab QU.s.rs) := QU x.1 x.2
noncomputable abbrev QU.k {δ : Type} : KC δ := kS QU.s QU.fn
theorem QU.con {δ : Type} : Con Tryz.prog (KT tab) 33 (QU.k (δ := δ)) := Q5 (c := QU.c) mixed Q0 (Q1 (QU.gok _)) QU.fok rfl rfl fun _ => rfl
noncomputable def QU_l0 (v0 v1 : Int) (v2 : List Int) (v3 v4 : Int) (v5 v6 : List Int) : Option ((List Int) × (List Int) × ((List Int) × Int × Int)) := lpW QU.s QU.c 0 (ud 56 [.ptr 0 0, .int .i64 v0, .undef, .undef, .undef, .undef, .sl 1 0, .sl 2 0, .int .i64 v1]) [.box 111 [.vs false 5 v2, .int .i64 v3, .int .i64 v4], .row 0 true 5 v5, .row 0 true 5 v6] 3
noncomputable def QU_l1 (v0 : Int) (v1 : List Int) (v2 v3 : Int) (v4 v5 : List Int) : Option ((List Int) × (List Int) × ((List Int) × Int × Int)) := lpW QU.s QU.c 1 (ud 57 [.ptr 0 0, .int .i64 v0, .undef, .undef, .undef, .undef, .sl 1 0, .sl 2 0]) [.box 111 [.vs false 5 v1, .int .i64 v2, .int .i64 v3], .row 0 true 5 v4, .row 0 true 5 v5] 3
theorem QU.eq (x0 : (List Int) × Int × Int) (x1 : Int) : QU x0 x1 =
 (QI x0 x1).bind fun y1 =>
 bif decide ((([] : List Int).length + y1.1.length) * 1 ≤ 140737488355328) then
 (Qb y1.2 4).bind fun y2 =>
 QU_l0 x1 y2.1 y2.2.1 y2.2.2.1 y2.2.2.2 y1.1 (([] : List Int) ++ y1.1)
 else
 none := by kernel_rfl
theorem QU_l0.eq (v0 v1 : Int) (v2 : List Int) (v3 v4 : Int) (v5 v6 : List Int) : QU_l0 v0 v1 v2 v3 v4 v5 v6 =
 bif decide (v1 > 0) then
 (Qb (v2, v3, v4) (IntKind.i64.wrap ((v6.length : Int) + 1))).bind fun y1 =>
 (Qb y1.2 4).bind fun y2 =>
 (at? ([(⟨#[]⟩ : ByteArray), (⟨#[97]⟩ : ByteArray), (⟨#[98]⟩ : ByteArray), (⟨#[122, 122]⟩ : ByteArray)] : List ByteArray) y2.1).bind fun y3 =>
 ([(⟨#[]⟩ : ByteArray), (⟨#[97]⟩ : ByteArray), (⟨#[98]⟩ : ByteArray), (⟨#[122, 122]⟩ : ByteArray)] : List ByteArray)[y2.1.toNat]?.bind fun y4 =>
 bif decide (0 ≤ y1.1 ∧ y1.1 ≤ ((v6.length : Nat) : Int)) then
 bif decide ((([] : List Int).length + ((v6.drop 0).take (y1.1.toNat - 0)).length) * 1 ≤ 140737488355328) then
 bif decide (((([] : List Int) ++ ((v6.drop 0).take (y1.1.toNat - 0))).length + (y4.data.toList.map fun b => (b.toNat : Int)).length) * 1 ≤ 140737488355328) then
 (Qb y2.2 3).bind fun y5 =>
 bif decide (0 ≤ (if IntKind.i64.wrap (y1.1 + y5.1) < (v6.length : Int) then IntKind.i64.wrap (y1.1 + y5.1) else (v6.length : Int)) ∧ (if IntKind.i64.wrap (y1.1 + y5.1) < (v6.length : Int) then IntKind.i64.wrap (y1.1 + y5.1) else (v6.length : Int)) ≤ ((v6.length : Nat) : Int)) then
 bif decide ((((([] : List Int) ++ ((v6.drop 0).take (y1.1.toNat - 0))) ++ (y4.data.toList.map fun b => (b.toNat : Int))).length + ((v6.drop ((if IntKind.i64.wrap (y1.1 + y5.1) < (v6.length : Int) then IntKind.i64.wrap (y1.1 + y5.1) else (v6.length : Int)).toNat)).take (v6.length - ((if IntKind.i64.wrap (y1.1 + y5.1) < (v6.length : Int) then IntKind.i64.wrap (y1.1 + y5.1) else (v6.length : Int)).toNat))).length) * 1 ≤ 140737488355328) then
 QU_l0 v0 (IntKind.i64.wrap (v1 - 1)) y5.2.1 y5.2.2.1 y5.2.2.2 v5 (((([] : List Int) ++ ((v6.drop 0).take (y1.1.toNat - 0))) ++ (y4.data.toList.map fun b => (b.toNat : Int))) ++ ((v6.drop ((if IntKind.i64.wrap (y1.1 + y5.1) < (v6.length : Int) then IntKind.i64.wrap (y1.1 + y5.1) else (v6.length : Int)).toNat)).take (v6.length - ((if IntKind.i64.wrap (y1.1 + y5.1) < (v6.length : Int) then IntKind.i64.wrap (y1.1 + y5.1) else (v6.length : Int)).toNat))))
 else
 none
 else
 none
 else
 none
 else
 none
 else
 none
 else
 (Q0d (v2, v3, v4) 6).bind fun y6 =>
 bif y6.1 then
 (QI y6.2 v0).bind fun y7 =>
 QU_l1 v0 y7.2.1 y7.2.2.1 y7.2.2.2 v5 y7.1
 else
 QU_l1 v0 y6.2.1 y6.2.2.1 y6.2.2.2 v5 v6 := (Q7 Q0 (Q1 (QU.gok _)) _ _).trans (by kernel_rfl)
theorem QU_l1.eq (v0 : Int) (v1 : List Int) (v2 v3 : Int) (v4 v5 : List Int) : QU_l1 v0 v1 v2 v3 v4 v5 =
 bif decide ((v5.length : Int) > v0) then
 bif decide (0 ≤ v0 ∧ v0 ≤ ((v5.length : Nat) : Int)) then
 some (v4, v5.take (v0.toNat - 0), (v1, v2, v3))
 else
 none
 else
 some (v4, v5, (v1, v2, v3)) := (Q7 Q0 (Q1 (QU.gok _)) _ _).trans (by kernel_rfl)
noncomputable abbrev Q0R.s : Sg := ⟨[.keep], [.one (.ptr true 111 [.b (.b (.b (.sl false false 5))), .b (.b (.b (.int .i64))), .b (.b (.b (.int .i64)))])], ⟨[vi], [some (.one (.ptr true 111 [.b (.b (.b (.sl false false 5))), .b (.b (.b (.int .i64))), .b (.b (.b (.int .i64)))]))]⟩, Tryz.f35⟩
noncomputable def Q0R.gs (δ : Type) : List (Nat × KC δ) := [(84, Qb.k)]
theorem Q0R.gok (δ : Type) : Q4 Tryz.prog tab (Q0R.gs δ) := .cons Qb.con .nil
noncomputable def Q0R.c := cx Q0R.s [] [] [] false (Q0R.gs _)
noncomputable def Q0R (x0 : (List Int) × Int × Int) : Option (Int × ((List Int) × Int × Int)) := fnW Q0R.s Q0R.c x0
theorem Q0R.fok : FkS Q0R.s 35 := ⟨Tryz.func35, by kernel_rfl, by kernel_rfl⟩
noncomputable def Q0R.fn (x : Args tab Q0R.s.ar) : Option (ResT tab Q0R.s.rs) := Q0R x
noncomputable abbrev Q0R.k {δ : Type} : KC δ := kS Q0R.s Q0R.fn
theorem Q0R.con {δ : Type} : Con Tryz.prog (KT tab) 35 (Q0R.k (δ := δ)) := Q5 (c := Q0R.c) mixed Q0 (Q1 (Q0R.gok _)) Q0R.fok rfl rfl fun _ => rfl
theorem Q0R.eq (x0 : (List Int) × Int × Int) : Q0R x0 =
 (Qb x0 5).bind fun y1 =>
 (at? ([1, 2, 3, 8, 64] : List Int) y1.1).bind fun y2 =>
 ([1, 2, 3, 8, 64] : List Int)[y1.1.toNat]?.bind fun y3 =>
 some (y3, y1.2) := by kernel_rfl
noncomputable abbrev QV.s : Sg := ⟨[.keep], [.one (.ptr true 111 [.b (.b (.b (.sl false false 5))), .b (.b (.b (.int .i64))), .b (.b (.b (.int .i64)))])], ⟨[vi], [some (.one (.ptr true 111 [.b (.b (.b (.sl false false 5))), .b (.b (.b (.int .i64))), .b (.b (.b (.int .i64)))]))]⟩, Tryz.f38⟩
noncomputable def QV.gs (δ : Type) : List (Nat × KC δ) := [(84, Qb.k)]
theorem QV.gok (δ : Type) : Q4 Tryz.prog tab (QV.gs δ) := .cons Qb.con .nil
noncomputable def QV.c := cx QV.s [] [] [] false (QV.gs _)
noncomputable def QV (x0 : (List Int) × Int × Int) : Option (Int × ((List Int) × Int × Int)) := fnW QV.s QV.c x0
theorem QV.fok : FkS QV.s 38 := ⟨Tryz.func38, by kernel_rfl, by kernel_rfl⟩
noncomputable def QV.fn (x : Args tab QV.s.ar) : Option (ResT tab QV.s.rs) := QV x
noncomputable abbrev QV.k {δ : Type} : KC δ := kS QV.s QV.fn
theorem QV.con {δ : Type} : Con Tryz.prog (KT tab) 38 (QV.k (δ := δ)) := Q5 (c := QV.c) mixed Q0 (Q1 (QV.gok _)) QV.fok rfl rfl fun _ => rfl
theorem QV.eq (x0 : (List Int) × Int × Int) : QV x0 =
 (Qb x0 8).bind fun y1 =>
 bif y1.1 == 0 then
 (Qb y1.2 256).bind fun y2 =>
 some (IntKind.i64.wrap (y2.1 - 128), y2.2)
 else
 bif y1.1 == 1 then
 (Qb y1.2 8).bind fun y3 =>
 (at? ([9223372036854775807, (-9223372036854775808 : Int), 4611686018427387904, 4294967295, 4294967296, (-1000 : Int), 1000, 257] : List Int) y3.1).bind fun y4 =>
 ([9223372036854775807, (-9223372036854775808 : Int), 4611686018427387904, 4294967295, 4294967296, (-1000 : Int), 1000, 257] : List Int)[y3.1.toNat]?.bind fun y5 =>
 some (y5, y3.2)
 else
 (Qb y1.2 14).bind fun y6 =>
 some (IntKind.i64.wrap (y6.1 - 3), y6.2) := by kernel_rfl
noncomputable abbrev Q1r.s : Sg := ⟨[.keep, .lend], [.one (.ptr true 111 [.b (.b (.b (.sl false false 5))), .b (.b (.b (.int .i64))), .b (.b (.b (.int .i64)))]), vi], ⟨[vi], [some (.one (.ptr true 111 [.b (.b (.b (.sl false false 5))), .b (.b (.b (.int .i64))), .b (.b (.b (.int .i64)))])), none]⟩, Tryz.f179⟩
noncomputable def Q1r.gs (δ : Type) : List (Nat × KC δ) := [(84, Qb.k)]
theorem Q1r.gok (δ : Type) : Q4 Tryz.prog tab (Q1r.gs δ) := .cons Qb.con .nil
noncomputable def Q1r.c := cx Q1r.s [] [] [] false (Q1r.gs _)
noncomputable def Q1r (x0 : (List Int) × Int × Int) (x1 : Int) : Option (Int × ((List Int) × Int × Int)) := fnW Q1r.s Q1r.c (x0, x1)
theorem Q1r.fok : FkS Q1r.s 179 := ⟨Tryz.func179, by kernel_rfl, by kernel_rfl⟩
noncomputable def Q1r.fn (x : Args tab Q1r.s.ar) : Option (ResT tab Q1r.s.rs) := Q1r x.1 x.2
noncomputable abbrev Q1r.k {δ : Type} : KC δ := kS Q1r.s Q1r.fn
theorem Q1r.con {δ : Type} : Con Tryz.prog (KT tab) 179 (Q1r.k (δ := δ)) := Q5 (c := Q1r.c) mixed Q0 (Q1 (Q1r.gok _)) Q1r.fok rfl rfl fun _ => rfl
theorem Q1r.eq (x0 : (List Int) × Int × Int) (x1 : Int) : Q1r x0 x1 =
 (Qb x0 256).bind fun y1 =>
 (Qb y1.2 256).bind fun y2 =>
 (Qb y2.2 256).bind fun y3 =>
 bif decide (x1 = 0) then
 none
 else
 some ((IntKind.i64.wrap ((IntKind.i64.wrap ((IntKind.i64.wrap ((65536 : Int) * y1.1)) + (IntKind.i64.wrap ((256 : Int) * y2.1)))) + y3.1)).tmod x1, y3.2) := by kernel_rfl
noncomputable abbrev Q07.s : Sg := ⟨[.keep, .lend, .lend], [.one (.ptr true 111 [.b (.b (.b (.sl false false 5))), .b (.b (.b (.int .i64))), .b (.b (.b (.int .i64)))]), vi, vi], ⟨[vo 3], [some (.one (.ptr true 111 [.b (.b (.b (.sl false false 5))), .b (.b (.b (.int .i64))), .b (.b (.b (.int .i64)))])), none, none]⟩, Tryz.f140⟩
noncomputable def Q07.gs (δ : Type) : List (Nat × KC δ) := [(135, Q0Z.k), (179, Q1r.k)]
theorem Q07.gok (δ : Type) : Q4 Tryz.prog tab (Q07.gs δ) := .cons Q0Z.con (.cons Q1r.con .nil)
noncomputable def Q07.c := cx Q07.s [] [] [(3, [0, 2, 7, 8])] false (Q07.gs _)
noncomputable def Q07 (x0 : (List Int) × Int × Int) (x1 x2 : Int) : Option ((List Int) × ((List Int) × Int × Int)) := fnW Q07.s Q07.c (x0, x1, x2)
theorem Q07.fok : FkS Q07.s 140 := ⟨Tryz.func140, by kernel_rfl, by kernel_rfl⟩
noncomputable def Q07.fn (x : Args tab Q07.s.ar) : Option (ResT tab Q07.s.rs) := Q07 x.1 x.2.1 x.2.2
noncomputable abbrev Q07.k {δ : Type} : KC δ := kS Q07.s Q07.fn
theorem Q07.con {δ : Type} : Con Tryz.prog (KT tab) 140 (Q07.k (δ := δ)) := Q5 (c := Q07.c) mixed Q0 (Q1 (Q07.gok _)) Q07.fok rfl rfl fun _ => rfl
noncomputable def Q07_l0 (v0 v1 : Int) (v2 : List Int) (v3 v4 : Int) (v5 : List Int) : Option ((List Int) × ((List Int) × Int × Int)) := lpW Q07.s Q07.c 0 (ud 16 [.ptr 0 0, .undef, .int .i64 v0, .undef, .undef, .undef, .undef, .sl 1 0, .int .i64 v1]) [.box 111 [.vs false 5 v2, .int .i64 v3, .int .i64 v4], .row 0 true 3 v5] 2
theorem Q07.eq (x0 : (List Int) × Int × Int) (x1 x2 : Int) : Q07 x0 x1 x2 =
 (Q0Z x0 x1).bind fun y1 =>
 Q07_l0 x2 y1.1 y1.2.1 y1.2.2.1 y1.2.2.2 ([] : List Int) := by kernel_rfl
theorem Q07_l0.eq (v0 v1 : Int) (v2 : List Int) (v3 v4 : Int) (v5 : List Int) : Q07_l0 v0 v1 v2 v3 v4 v5 =
 bif decide (v1 > 0) then
 (Q1r (v2, v3, v4) (if v0 > 1 then v0 else 1)).bind fun y1 =>
 bif decide ((v5.length + ([y1.1] : List Int).length) * 8 ≤ 140737488355328) then
 Q07_l0 v0 (IntKind.i64.wrap (v1 - 1)) y1.2.1 y1.2.2.1 y1.2.2.2 (v5 ++ ([y1.1] : List Int))
 else
 none
 else
 some (v5, (v2, v3, v4)) := (Q7 Q0 (Q1 (Q07.gok _)) _ _).trans (by kernel_rfl)
noncomputable abbrev QP.s : Sg := ⟨[.keep], [.one (.ptr true 111 [.b (.b (.b (.sl false false 5))), .b (.b (.b (.int .i64))), .b (.b (.b (.int .i64)))])], ⟨[vo 3], [some (.one (.ptr true 111 [.b (.b (.b (.sl false false 5))), .b (.b (.b (.int .i64))), .b (.b (.b (.int .i64)))]))]⟩, Tryz.f141⟩
noncomputable def QP.gs (δ : Type) : List (Nat × KC δ) := [(36, Q0d.k), (84, Qb.k), (91, Q0N.k)]
theorem QP.gok (δ : Type) : Q4 Tryz.prog tab (QP.gs δ) := .cons Q0d.con (.cons Qb.con (.cons Q0N.con .nil))
noncomputable def QP.c := cx QP.s [] [] [(4, [0, 3, 4, 5]), (11, [0, 3])] false (QP.gs _)
noncomputable def QP (x0 : (List Int) × Int × Int) : Option ((List Int) × ((List Int) × Int × Int)) := fnW QP.s QP.c x0
theorem QP.fok : FkS QP.s 141 := ⟨Tryz.func141, by kernel_rfl, by kernel_rfl⟩
noncomputable def QP.fn (x : Args tab QP.s.ar) : Option (ResT tab QP.s.rs) := QP x
noncomputable abbrev QP.k {δ : Type} : KC δ := kS QP.s QP.fn
theorem QP.con {δ : Type} : Con Tryz.prog (KT tab) 141 (QP.k (δ := δ)) := Q5 (c := QP.c) mixed Q0 (Q1 (QP.gok _)) QP.fok rfl rfl fun _ => rfl
noncomputable def QP_l0 (v0 v1 : Int) (v2 : List Int) (v3 v4 : Int) (v5 : List Int) : Option ((List Int) × ((List Int) × Int × Int)) := lpW QP.s QP.c 0 (ud 42 [.ptr 0 0, .undef, .undef, .sl 1 0, .int .i64 v0, .int .i64 v1]) [.box 111 [.vs false 5 v2, .int .i64 v3, .int .i64 v4], .row 0 true 3 v5] 2
noncomputable def QP_l1 (v0 : List Int) (v1 v2 : Int) (v3 : List Int) : Option ((List Int) × ((List Int) × Int × Int)) := lpW QP.s QP.c 1 (ud 44 [.ptr 0 0, .undef, .undef, .sl 1 0]) [.box 111 [.vs false 5 v0, .int .i64 v1, .int .i64 v2], .row 0 true 3 v3] 2
theorem QP.eq (x0 : (List Int) × Int × Int) : QP x0 =
 (Qb x0 4).bind fun y1 =>
 (Qb y1.2 3).bind fun y2 =>
 (at? ([5, 40, 140] : List Int) y2.1).bind fun y3 =>
 ([5, 40, 140] : List Int)[y2.1.toNat]?.bind fun y4 =>
 (Qb y2.2 y4).bind fun y5 =>
 QP_l0 y1.1 y5.1 y5.2.1 y5.2.2.1 y5.2.2.2 ([] : List Int) := by kernel_rfl
theorem QP_l0.eq (v0 v1 : Int) (v2 : List Int) (v3 v4 : Int) (v5 : List Int) : QP_l0 v0 v1 v2 v3 v4 v5 =
 bif decide (v1 > 0) then
 (Qb (v2, v3, v4) 2).bind fun y1 =>
 bif v0 == 0 then
 (Q0d y1.2 9).bind fun y2 =>
 (Q0N y2.1).bind fun y3 =>
 bif decide ((v5.length + ([y3] : List Int).length) * 8 ≤ 140737488355328) then
 QP_l0 v0 (IntKind.i64.wrap (v1 - 1)) y2.2.1 y2.2.2.1 y2.2.2.2 (v5 ++ ([y3] : List Int))
 else
 none
 else
 bif decide ((v5.length + ([y1.1] : List Int).length) * 8 ≤ 140737488355328) then
 QP_l0 v0 (IntKind.i64.wrap (v1 - 1)) y1.2.1 y1.2.2.1 y1.2.2.2 (v5 ++ ([y1.1] : List Int))
 else
 none
 else
 (Q0d (v2, v3, v4) 60).bind fun y4 =>
 bif y4.1 then
 QP_l1 y4.2.1 y4.2.2.1 y4.2.2.2 v5
 else
 some (v5, y4.2) := (Q7 Q0 (Q1 (QP.gok _)) _ _).trans (by kernel_rfl)
theorem QP_l1.eq (v0 : List Int) (v1 v2 : Int) (v3 : List Int) : QP_l1 v0 v1 v2 v3 =
 (Qb (v0, v1, v2) 2).bind fun y1 =>
 bif decide ((v3.length : Int) < IntKind.i64.wrap ((5000 : Int) + y1.1)) then
 bif decide ((v3.length + ([IntKind.i64.wrap (((v3.length : Int).tmod 3).tdiv 2)] : List Int).length) * 8 ≤ 140737488355328) then
 QP_l1 y1.2.1 y1.2.2.1 y1.2.2.2 (v3 ++ ([IntKind.i64.wrap (((v3.length : Int).tmod 3).tdiv 2)] : List Int))
 else
 none
 else
 some (v3, y1.2) := (Q7 Q0 (Q1 (QP.gok _)) _ _).trans (by kernel_rfl)
noncomputable abbrev Q0L.s : Sg := ⟨[.keep], [.one (.ptr true 111 [.b (.b (.b (.sl false false 5))), .b (.b (.b (.int .i64))), .b (.b (.b (.int .i64)))])], ⟨[ag0], [some (.one (.ptr true 111 [.b (.b (.b (.sl false false 5))), .b (.b (.b (.int .i64))), .b (.b (.b (.int .i64)))]))]⟩, Tryz.f96⟩
noncomputable def Q0L.gs (δ : Type) : List (Nat × KC δ) := [(38, QV.k), (84, Qb.k), (92, Qm.k), (141, QP.k)]
theorem Q0L.gok (δ : Type) : Q4 Tryz.prog tab (Q0L.gs δ) := .cons QV.con (.cons Qb.con (.cons Qm.con (.cons QP.con .nil)))
noncomputable def Q0L.c := cx Q0L.s [] [] [] false (Q0L.gs _)
noncomputable def Q0L (x0 : (List Int) × Int × Int) : Option ((Int × (List Int)) × ((List Int) × Int × Int)) := fnW Q0L.s Q0L.c x0
theorem Q0L.fok : FkS Q0L.s 96 := ⟨Tryz.func96, by kernel_rfl, by kernel_rfl⟩
noncomputable def Q0L.fn (x : Args tab Q0L.s.ar) : Option (ResT tab Q0L.s.rs) := Q0L x
noncomputable abbrev Q0L.k {δ : Type} : KC δ := kS Q0L.s Q0L.fn
theorem Q0L.con {δ : Type} : Con Tryz.prog (KT tab) 96 (Q0L.k (δ := δ)) := Q5 (c := Q0L.c) mixed Q0 (Q1 (Q0L.gok _)) Q0L.fok rfl rfl fun _ => rfl
theorem Q0L.eq (x0 : (List Int) × Int × Int) : Q0L x0 =
 (QP x0).bind fun y1 =>
 (Qm y1.1).bind fun y2 =>
 (Qb y1.2 14).bind fun y3 =>
 bif y3.1 == 0 then
 (QV y3.2).bind fun y4 =>
 (Qb y4.2 3).bind fun y5 =>
 (at? ([y4.1, IntKind.i64.wrap (y2.1.1 + 1), IntKind.i64.wrap (y2.1.1 - 1)] : List Int) y5.1).bind fun y6 =>
 ([y4.1, IntKind.i64.wrap (y2.1.1 + 1), IntKind.i64.wrap (y2.1.1 - 1)] : List Int)[y5.1.toNat]?.bind fun y7 =>
 some ((y7, y2.1.2), y5.2)
 else
 bif y3.1 == 1 then
 (Qb y3.2 2).bind fun y8 =>
 bif decide ((y2.1.2.length + ([IntKind.u64.wrap y8.1] : List Int).length) * 8 ≤ 140737488355328) then
 some ((y2.1.1, y2.1.2 ++ ([IntKind.u64.wrap y8.1] : List Int)), y8.2)
 else
 none
 else
 bif y3.1 == 2 then
 bif decide ((y2.1.2.length : Int) > 0) then
 (Qb y3.2 (y2.1.2.length : Int)).bind fun y9 =>
 (at? y2.1.2 y9.1).bind fun y10 =>
 y2.1.2[y9.1.toNat]?.bind fun y11 =>
 some ((y2.1.1, y2.1.2.set y9.1.toNat 18446744073709551615), y9.2)
 else
 some (y2.1, y3.2)
 else
 some (y2.1, y3.2) := by kernel_rfl
noncomputable abbrev Q0B.s : Sg := ⟨[.keep], [.one (.ptr true 111 [.b (.b (.b (.sl false false 5))), .b (.b (.b (.int .i64))), .b (.b (.b (.int .i64)))])], ⟨[ag1], [some (.one (.ptr true 111 [.b (.b (.b (.sl false false 5))), .b (.b (.b (.int .i64))), .b (.b (.b (.int .i64)))]))]⟩, Tryz.f95⟩
noncomputable def Q0B.gs (δ : Type) : List (Nat × KC δ) := [(36, Q0d.k), (38, QV.k), (83, QI.k), (84, Qb.k), (88, Qx.k), (90, Qk.k), (96, Q0L.k), (140, Q07.k)]
theorem Q0B.gok (δ : Type) : Q4 Tryz.prog tab (Q0B.gs δ) := .cons Q0d.con (.cons QV.con (.cons QI.con (.cons Qb.con (.cons Qx.con (.cons Qk.con (.cons Q0L.con (.cons Q07.con .nil)))))))
noncomputable def Q0B.c := cx Q0B.s [] [4] [(4, [0, 2, 3])] false (Q0B.gs _)
noncomputable def Q0B (x0 : (List Int) × Int × Int) : Option ((Int × (List Int) × (List (Int × (List Int)))) × ((List Int) × Int × Int)) := fnW Q0B.s Q0B.c x0
theorem Q0B.fok : FkS Q0B.s 95 := ⟨Tryz.func95, by kernel_rfl, by kernel_rfl⟩
noncomputable def Q0B.fn (x : Args tab Q0B.s.ar) : Option (ResT tab Q0B.s.rs) := Q0B x
noncomputable abbrev Q0B.k {δ : Type} : KC δ := kS Q0B.s Q0B.fn
theorem Q0B.con {δ : Type} : Con Tryz.prog (KT tab) 95 (Q0B.k (δ := δ)) := Q5 (c := Q0B.c) mixed Q0 (Q1 (Q0B.gok _)) Q0B.fok rfl rfl fun _ => rfl
noncomputable def Q0B_l0 (v0 : List Int) (v1 v2 v3 : Int) (v4 : List Int) (v5 : List (Int × (List Int))) (v6 : List Int) : Option ((Int × (List Int) × (List (Int × (List Int)))) × ((List Int) × Int × Int)) := lpW Q0B.s Q0B.c 0 (ud 64 [.ptr 0 0, .undef, .ptr 1 0, .sl 4 0]) [.box 111 [.vs false 5 v0, .int .i64 v1, .int .i64 v2], .box 27 [.int .i64 v3, .sl 2 0, .sl 3 0], .row 0 true 3 v4, .row 0 true 30 v5, .row 0 true 3 v6] 5
theorem Q0B.eq (x0 : (List Int) × Int × Int) : Q0B x0 =
 (Qb x0 3).bind fun y1 =>
 (at? ([3, 100, 512] : List Int) y1.1).bind fun y2 =>
 ([3, 100, 512] : List Int)[y1.1.toNat]?.bind fun y3 =>
 (Q07 y1.2 24 y3).bind fun y4 =>
 (Q0d y4.2 3).bind fun y5 =>
 bif y5.1 then
 (QI y5.2 24).bind fun y6 =>
 (Qx y6.1).bind fun y7 =>
 Q0B_l0 y6.2.1 y6.2.2.1 y6.2.2.2 0 ([] : List Int) ([] : List (Int × (List Int))) y7
 else
 Q0B_l0 y5.2.1 y5.2.2.1 y5.2.2.2 0 ([] : List Int) ([] : List (Int × (List Int))) y4.1 := by kernel_rfl
theorem Q0B_l0.eq (v0 : List Int) (v1 v2 v3 : Int) (v4 : List Int) (v5 : List (Int × (List Int))) (v6 : List Int) : Q0B_l0 v0 v1 v2 v3 v4 v5 v6 =
 (Qk v6).bind fun y1 =>
 (Qb (v0, v1, v2) 14).bind fun y2 =>
 bif y2.1 == 0 then
 (Qb y2.2 3).bind fun y3 =>
 some ((IntKind.i64.wrap ((IntKind.i64.wrap (y1.1.1 + y3.1)) - 1), y1.1.2.1, y1.1.2.2), y3.2)
 else
 bif y2.1 == 1 then
 (Qb y2.2 9).bind fun y4 =>
 (QV y4.2).bind fun y5 =>
 (at? y1.1.2.1 y4.1).bind fun y6 =>
 y1.1.2.1[y4.1.toNat]?.bind fun y7 =>
 some ((y1.1.1, y1.1.2.1.set y4.1.toNat y5.1, y1.1.2.2), y5.2)
 else
 bif y2.1 == 2 then
 (Qb y2.2 9).bind fun y8 =>
 (Q0L y8.2).bind fun y9 =>
 (at? y1.1.2.2 y8.1).bind fun y10 =>
 y1.1.2.2[y8.1.toNat]?.bind fun y11 =>
 some ((y1.1.1, y1.1.2.1, y1.1.2.2.set y8.1.toNat (y9.1.1, y9.1.2)), y9.2)
 else
 bif y2.1 == 3 then
 (Qb y2.2 9).bind fun y12 =>
 bif decide (0 ≤ y12.1 ∧ y12.1 ≤ ((y1.1.2.2.length : Nat) : Int)) then
 some ((y1.1.1, y1.1.2.1, y1.1.2.2.take (y12.1.toNat - 0)), y12.2)
 else
 none
 else
 bif y2.1 == 4 then
 bif decide ((y1.1.2.1.length + ([0] : List Int).length) * 8 ≤ 140737488355328) then
 some ((y1.1.1, y1.1.2.1 ++ ([0] : List Int), y1.1.2.2), y2.2)
 else
 none
 else
 some (y1.1, y2.2) := (Q7 Q0 (Q1 (Q0B.gok _)) _ _).trans (by kernel_rfl)
noncomputable abbrev Q1s.s : Sg := ⟨[.keep], [.one (.ptr true 111 [.b (.b (.b (.sl false false 5))), .b (.b (.b (.int .i64))), .b (.b (.b (.int .i64)))])], ⟨[ag2], [some (.one (.ptr true 111 [.b (.b (.b (.sl false false 5))), .b (.b (.b (.int .i64))), .b (.b (.b (.int .i64)))]))]⟩, Tryz.f97⟩
noncomputable def Q1s.gs (δ : Type) : List (Nat × KC δ) := [(38, QV.k), (84, Qb.k), (93, Ql.k), (96, Q0L.k), (138, Q05.k), (140, Q07.k)]
theorem Q1s.gok (δ : Type) : Q4 Tryz.prog tab (Q1s.gs δ) := .cons QV.con (.cons Qb.con (.cons Ql.con (.cons Q0L.con (.cons Q05.con (.cons Q07.con .nil)))))
noncomputable def Q1s.c := cx Q1s.s [] [] [] false (Q1s.gs _)
noncomputable def Q1s (x0 : (List Int) × Int × Int) : Option ((Int × Int × Int × (List Int)) × ((List Int) × Int × Int)) := fnW Q1s.s Q1s.c x0
theorem Q1s.fok : FkS Q1s.s 97 := ⟨Tryz.func97, by kernel_rfl, by kernel_rfl⟩
noncomputable def Q1s.fn (x : Args tab Q1s.s.ar) : Option (ResT tab Q1s.s.rs) := Q1s x
noncomputable abbrev Q1s.k {δ : Type} : KC δ := kS Q1s.s Q1s.fn
theorem Q1s.con {δ : Type} : Con Tryz.prog (KT tab) 97 (Q1s.k (δ := δ)) := Q5 (c := Q1s.c) mixed Q0 (Q1 (Q1s.gok _)) Q1s.fok rfl rfl fun _ => rfl
theorem Q1s.eq (x0 : (List Int) × Int × Int) : Q1s x0 =
 (Qb x0 5).bind fun y1 =>
 (at? ([0, 1, 3, 7, 24] : List Int) y1.1).bind fun y2 =>
 ([0, 1, 3, 7, 24] : List Int)[y1.1.toNat]?.bind fun y3 =>
 (Q05 y3).bind fun y4 =>
 (Q07 y1.2 20 y4).bind fun y5 =>
 (Ql y5.1 y3).bind fun y6 =>
 (Qb y5.2 12).bind fun y7 =>
 bif y7.1 == 0 then
 (QV y7.2).bind fun y8 =>
 (Qb y8.2 3).bind fun y9 =>
 (at? ([y8.1, 32, 33] : List Int) y9.1).bind fun y10 =>
 ([y8.1, 32, 33] : List Int)[y9.1.toNat]?.bind fun y11 =>
 some ((y11, y6.1.2.1, y6.1.2.2.1, y6.1.2.2.2), y9.2)
 else
 bif y7.1 == 1 then
 (QV y7.2).bind fun y12 =>
 (Qb y12.2 2).bind fun y13 =>
 (at? ([y12.1, IntKind.i64.wrap (y6.1.2.1 + 1)] : List Int) y13.1).bind fun y14 =>
 ([y12.1, IntKind.i64.wrap (y6.1.2.1 + 1)] : List Int)[y13.1.toNat]?.bind fun y15 =>
 some ((y6.1.1, y15, y6.1.2.2.1, y6.1.2.2.2), y13.2)
 else
 bif y7.1 == 2 then
 (Q0L y7.2).bind fun y16 =>
 some ((y6.1.1, y6.1.2.1, y16.1.1, y16.1.2), y16.2)
 else
 some (y6.1, y7.2) := by kernel_rfl
noncomputable abbrev Q1t.s : Sg := ⟨[.keep], [.one (.ptr true 111 [.b (.b (.b (.sl false false 5))), .b (.b (.b (.int .i64))), .b (.b (.b (.int .i64)))])], ⟨[ag6], [some (.one (.ptr true 111 [.b (.b (.b (.sl false false 5))), .b (.b (.b (.int .i64))), .b (.b (.b (.int .i64)))]))]⟩, Tryz.f37⟩
noncomputable def Q1t.gs (δ : Type) : List (Nat × KC δ) := [(34, Qn.k), (35, Q0R.k), (38, QV.k), (83, QI.k), (84, Qb.k), (95, Q0B.k), (96, Q0L.k), (97, Q1s.k)]
theorem Q1t.gok (δ : Type) : Q4 Tryz.prog tab (Q1t.gs δ) := .cons Qn.con (.cons Q0R.con (.cons QV.con (.cons QI.con (.cons Qb.con (.cons Q0B.con (.cons Q0L.con (.cons Q1s.con .nil)))))))
noncomputable def Q1t.c := cx Q1t.s [] [] [] false (Q1t.gs _)
noncomputable def Q1t (x0 : (List Int) × Int × Int) : Option ((FmA) × ((List Int) × Int × Int)) := fnW Q1t.s Q1t.c x0
theorem Q1t.fok : FkS Q1t.s 37 := ⟨Tryz.func37, by kernel_rfl, by kernel_rfl⟩
noncomputable def Q1t.fn (x : Args tab Q1t.s.ar) : Option (ResT tab Q1t.s.rs) := Q1t x
noncomputable abbrev Q1t.k {δ : Type} : KC δ := kS Q1t.s Q1t.fn
theorem Q1t.con {δ : Type} : Con Tryz.prog (KT tab) 37 (Q1t.k (δ := δ)) := Q5 (c := Q1t.c) mixed Q0 (Q1 (Q1t.gok _)) Q1t.fok rfl rfl fun _ => rfl
theorem Q1t.eq (x0 : (List Int) × Int × Int) : Q1t x0 =
 (QI x0 24).bind fun y1 =>
 (Q0R y1.2).bind fun y2 =>
 (Qn y1.1 y2.1).bind fun y3 =>
 (Qb y2.2 16).bind fun y4 =>
 bif y4.1 == 0 then
 (Qb y4.2 3).bind fun y5 =>
 some ((IntKind.i64.wrap ((IntKind.i64.wrap (y3.1.1 + y5.1)) - 1), y3.1.2.1, y3.1.2.2.1, y3.1.2.2.2.1, y3.1.2.2.2.2.1, y3.1.2.2.2.2.2.1, y3.1.2.2.2.2.2.2.1, y3.1.2.2.2.2.2.2.2.1, y3.1.2.2.2.2.2.2.2.2.1, y3.1.2.2.2.2.2.2.2.2.2.1, y3.1.2.2.2.2.2.2.2.2.2.2.1, y3.1.2.2.2.2.2.2.2.2.2.2.2.1, y3.1.2.2.2.2.2.2.2.2.2.2.2.2.1, y3.1.2.2.2.2.2.2.2.2.2.2.2.2.2.1, y3.1.2.2.2.2.2.2.2.2.2.2.2.2.2.2.1, y3.1.2.2.2.2.2.2.2.2.2.2.2.2.2.2.2), y5.2)
 else
 bif y4.1 == 1 then
 (QV y4.2).bind fun y6 =>
 (Qb y6.2 4).bind fun y7 =>
 (at? ([y6.1, 64, 65, 2] : List Int) y7.1).bind fun y8 =>
 ([y6.1, 64, 65, 2] : List Int)[y7.1.toNat]?.bind fun y9 =>
 some ((y3.1.1, y9, y3.1.2.2.1, y3.1.2.2.2.1, y3.1.2.2.2.2.1, y3.1.2.2.2.2.2.1, y3.1.2.2.2.2.2.2.1, y3.1.2.2.2.2.2.2.2.1, y3.1.2.2.2.2.2.2.2.2.1, y3.1.2.2.2.2.2.2.2.2.2.1, y3.1.2.2.2.2.2.2.2.2.2.2.1, y3.1.2.2.2.2.2.2.2.2.2.2.2.1, y3.1.2.2.2.2.2.2.2.2.2.2.2.2.1, y3.1.2.2.2.2.2.2.2.2.2.2.2.2.2.1, y3.1.2.2.2.2.2.2.2.2.2.2.2.2.2.2.1, y3.1.2.2.2.2.2.2.2.2.2.2.2.2.2.2.2), y7.2)
 else
 bif y4.1 == 2 then
 (Q0B y4.2).bind fun y10 =>
 some ((y3.1.1, y3.1.2.1, y10.1.1, y10.1.2.1, y10.1.2.2, y3.1.2.2.2.2.2.1, y3.1.2.2.2.2.2.2.1, y3.1.2.2.2.2.2.2.2.1, y3.1.2.2.2.2.2.2.2.2.1, y3.1.2.2.2.2.2.2.2.2.2.1, y3.1.2.2.2.2.2.2.2.2.2.2.1, y3.1.2.2.2.2.2.2.2.2.2.2.2.1, y3.1.2.2.2.2.2.2.2.2.2.2.2.2.1, y3.1.2.2.2.2.2.2.2.2.2.2.2.2.2.1, y3.1.2.2.2.2.2.2.2.2.2.2.2.2.2.2.1, y3.1.2.2.2.2.2.2.2.2.2.2.2.2.2.2.2), y10.2)
 else
 bif y4.1 == 3 then
 (Qb y4.2 250).bind fun y11 =>
 (QV y11.2).bind fun y12 =>
 (at? y3.1.2.2.2.2.2.1 y11.1).bind fun y13 =>
 y3.1.2.2.2.2.2.1[y11.1.toNat]?.bind fun y14 =>
 some ((y3.1.1, y3.1.2.1, y3.1.2.2.1, y3.1.2.2.2.1, y3.1.2.2.2.2.1, y3.1.2.2.2.2.2.1.set y11.1.toNat y12.1, y3.1.2.2.2.2.2.2.1, y3.1.2.2.2.2.2.2.2.1, y3.1.2.2.2.2.2.2.2.2.1, y3.1.2.2.2.2.2.2.2.2.2.1, y3.1.2.2.2.2.2.2.2.2.2.2.1, y3.1.2.2.2.2.2.2.2.2.2.2.2.1, y3.1.2.2.2.2.2.2.2.2.2.2.2.2.1, y3.1.2.2.2.2.2.2.2.2.2.2.2.2.2.1, y3.1.2.2.2.2.2.2.2.2.2.2.2.2.2.2.1, y3.1.2.2.2.2.2.2.2.2.2.2.2.2.2.2.2), y12.2)
 else
 bif y4.1 == 4 then
 (Q0L y4.2).bind fun y15 =>
 some ((y3.1.1, y3.1.2.1, y3.1.2.2.1, y3.1.2.2.2.1, y3.1.2.2.2.2.1, y3.1.2.2.2.2.2.1, y15.1.1, y15.1.2, y3.1.2.2.2.2.2.2.2.2.1, y3.1.2.2.2.2.2.2.2.2.2.1, y3.1.2.2.2.2.2.2.2.2.2.2.1, y3.1.2.2.2.2.2.2.2.2.2.2.2.1, y3.1.2.2.2.2.2.2.2.2.2.2.2.2.1, y3.1.2.2.2.2.2.2.2.2.2.2.2.2.2.1, y3.1.2.2.2.2.2.2.2.2.2.2.2.2.2.2.1, y3.1.2.2.2.2.2.2.2.2.2.2.2.2.2.2.2), y15.2)
 else
 bif y4.1 == 5 then
 (Q1s y4.2).bind fun y16 =>
 some ((y3.1.1, y3.1.2.1, y3.1.2.2.1, y3.1.2.2.2.1, y3.1.2.2.2.2.1, y3.1.2.2.2.2.2.1, y3.1.2.2.2.2.2.2.1, y3.1.2.2.2.2.2.2.2.1, y16.1.1, y16.1.2.1, y16.1.2.2.1, y16.1.2.2.2, y3.1.2.2.2.2.2.2.2.2.2.2.2.2.1, y3.1.2.2.2.2.2.2.2.2.2.2.2.2.2.1, y3.1.2.2.2.2.2.2.2.2.2.2.2.2.2.2.1, y3.1.2.2.2.2.2.2.2.2.2.2.2.2.2.2.2), y16.2)
 else
 bif y4.1 == 6 then
 some ((y3.1.1, y3.1.2.1, y3.1.2.2.1, y3.1.2.2.2.1, y3.1.2.2.2.2.1, y3.1.2.2.2.2.2.1, y3.1.2.2.2.2.2.2.1, y3.1.2.2.2.2.2.2.2.1, y3.1.2.2.2.2.2.2.2.2.1, y3.1.2.2.2.2.2.2.2.2.2.1, y3.1.2.2.2.2.2.2.2.2.2.2.1, y3.1.2.2.2.2.2.2.2.2.2.2.2.1, y3.1.2.2.2.2.2.2.2.2.1, y3.1.2.2.2.2.2.2.2.2.2.1, y3.1.2.2.2.2.2.2.2.2.2.2.1, y3.1.2.2.2.2.2.2.2.2.2.2.2.1), y4.2)
 else
 some (y3.1, y4.2) := by kernel_rfl
noncomputable abbrev Q0U.s : Sg := ⟨[.keep], [.one (.ptr true 111 [.b (.b (.b (.sl false false 5))), .b (.b (.b (.int .i64))), .b (.b (.b (.int .i64)))])], ⟨[vi], [some (.one (.ptr true 111 [.b (.b (.b (.sl false false 5))), .b (.b (.b (.int .i64))), .b (.b (.b (.int .i64)))]))]⟩, Tryz.f39⟩
noncomputable def Q0U.gs (δ : Type) : List (Nat × KC δ) := [(38, QV.k), (84, Qb.k)]
theorem Q0U.gok (δ : Type) : Q4 Tryz.prog tab (Q0U.gs δ) := .cons QV.con (.cons Qb.con .nil)
noncomputable def Q0U.c := cx Q0U.s [] [] [] false (Q0U.gs _)
noncomputable def Q0U (x0 : (List Int) × Int × Int) : Option (Int × ((List Int) × Int × Int)) := fnW Q0U.s Q0U.c x0
theorem Q0U.fok : FkS Q0U.s 39 := ⟨Tryz.func39, by kernel_rfl, by kernel_rfl⟩
noncomputable def Q0U.fn (x : Args tab Q0U.s.ar) : Option (ResT tab Q0U.s.rs) := Q0U x
noncomputable abbrev Q0U.k {δ : Type} : KC δ := kS Q0U.s Q0U.fn
theorem Q0U.con {δ : Type} : Con Tryz.prog (KT tab) 39 (Q0U.k (δ := δ)) := Q5 (c := Q0U.c) mixed Q0 (Q1 (Q0U.gok _)) Q0U.fok rfl rfl fun _ => rfl
theorem Q0U.eq (x0 : (List Int) × Int × Int) : Q0U x0 =
 (QV x0).bind fun y1 =>
 (Qb y1.2 6).bind fun y2 =>
 (at? ([0, 1, 2, 3, 8, y1.1] : List Int) y2.1).bind fun y3 =>
 ([0, 1, 2, 3, 8, y1.1] : List Int)[y2.1.toNat]?.bind fun y4 =>
 some (y4, y2.2) := by kernel_rfl
noncomputable abbrev Q0V.s : Sg := ⟨[.keep], [.one (.ptr true 111 [.b (.b (.b (.sl false false 5))), .b (.b (.b (.int .i64))), .b (.b (.b (.int .i64)))])], ⟨[vi], [some (.one (.ptr true 111 [.b (.b (.b (.sl false false 5))), .b (.b (.b (.int .i64))), .b (.b (.b (.int .i64)))]))]⟩, Tryz.f40⟩
noncomputable def Q0V.gs (δ : Type) : List (Nat × KC δ) := [(38, QV.k), (84, Qb.k)]
theorem Q0V.gok (δ : Type) : Q4 Tryz.prog tab (Q0V.gs δ) := .cons QV.con (.cons Qb.con .nil)
noncomputable def Q0V.c := cx Q0V.s [] [] [] false (Q0V.gs _)
noncomputable def Q0V (x0 : (List Int) × Int × Int) : Option (Int × ((List Int) × Int × Int)) := fnW Q0V.s Q0V.c x0
theorem Q0V.fok : FkS Q0V.s 40 := ⟨Tryz.func40, by kernel_rfl, by kernel_rfl⟩
noncomputable def Q0V.fn (x : Args tab Q0V.s.ar) : Option (ResT tab Q0V.s.rs) := Q0V x
noncomputable abbrev Q0V.k {δ : Type} : KC δ := kS Q0V.s Q0V.fn
theorem Q0V.con {δ : Type} : Con Tryz.prog (KT tab) 40 (Q0V.k (δ := δ)) := Q5 (c := Q0V.c) mixed Q0 (Q1 (Q0V.gok _)) Q0V.fok rfl rfl fun _ => rfl
theorem Q0V.eq (x0 : (List Int) × Int × Int) : Q0V x0 =
 (QV x0).bind fun y1 =>
 (Qb y1.2 5).bind fun y2 =>
 (at? ([0, 1, 3, 1000, y1.1] : List Int) y2.1).bind fun y3 =>
 ([0, 1, 3, 1000, y1.1] : List Int)[y2.1.toNat]?.bind fun y4 =>
 some (y4, y2.2) := by kernel_rfl
noncomputable abbrev Q09.s : Sg := ⟨[.lend], [vl 5], ⟨[ag6, vl 5, vi, vi, vi], [none]⟩, Tryz.f7⟩
noncomputable def Q09.gs (δ : Type) : List (Nat × KC δ) := [(32, Q1q.k), (33, QU.k), (34, Qn.k), (35, Q0R.k), (36, Q0d.k), (37, Q1t.k), (38, QV.k), (39, Q0U.k), (40, Q0V.k)]
theorem Q09.gok (δ : Type) : Q4 Tryz.prog tab (Q09.gs δ) := .cons Q1q.con (.cons QU.con (.cons Qn.con (.cons Q0R.con (.cons Q0d.con (.cons Q1t.con (.cons QV.con (.cons Q0U.con (.cons Q0V.con .nil))))))))
noncomputable def Q09.c := cx Q09.s [] [6] [(6, [2, 7, 9, 10])] false (Q09.gs _)
noncomputable def Q09 (x0 : List Int) : Option ((FmA) × (List Int) × Int × Int × Int) := fnW Q09.s Q09.c x0
theorem Q09.fok : FkS Q09.s 7 := ⟨Tryz.func7, by kernel_rfl, by kernel_rfl⟩
noncomputable def Q09.fn (x : Args tab Q09.s.ar) : Option (ResT tab Q09.s.rs) := Q09 x
noncomputable abbrev Q09.k {δ : Type} : KC δ := kS Q09.s Q09.fn
theorem Q09.con {δ : Type} : Con Tryz.prog (KT tab) 7 (Q09.k (δ := δ)) := Q5 (c := Q09.c) mixed Q0 (Q1 (Q09.gok _)) Q09.fok rfl rfl fun _ => rfl
noncomputable def Q09_l0 (v0 v1 v2 v3 v4 v5 v6 v7 v8 v9 : Int) (v10 : List Int) (v11 : List (Int × (List Int))) (v12 v13 v14 v15 v16 : List Int) (v17 v18 : Int) (v19 : List Int) (v20 v21 v22 : Int) (v23 : List Int) (v24 : List (Int × (List Int))) (v25 : List Int) (v26 : Int) (v27 : List Int) (v28 v29 v30 : Int) (v31 : List Int) (v32 v33 v34 : Int) (v35 : List Int) : Option ((FmA) × (List Int) × Int × Int × Int) := lpW Q09.s Q09.c 0 (ud 33 [.undef, .undef, .ptr 0 0, .undef, .undef, .undef, .undef, .ptr 7 0, .undef, .sl 8 0, .ptr 9 0]) [.box 34 [.int .i64 v0, .int .i64 v1, .int .i64 v2, .sl 1 0, .sl 2 0, .sl 3 0, .int .i64 v3, .sl 4 0, .int .i64 v4, .int .i64 v5, .int .i64 v6, .sl 5 0, .int .i64 v7, .int .i64 v8, .int .i64 v9, .sl 6 0], .row 0 true 3 v10, .row 0 true 30 v11, .row 0 true 3 v12, .row 0 true 90 v13, .row 0 true 90 v14, .row 0 true 90 v15, .box 111 [.vs false 5 v16, .int .i64 v17, .int .i64 v18], .row 0 true 5 v19, .box 34 [.int .i64 v20, .int .i64 v21, .int .i64 v22, .vs false 3 v23, .vs false 30 v24, .vs false 3 v25, .int .i64 v26, .vs false 90 v27, .int .i64 v28, .int .i64 v29, .int .i64 v30, .vs false 90 v31, .int .i64 v32, .int .i64 v33, .int .i64 v34, .vs false 90 v35]] 10
noncomputable def Q09_l1 (v0 v1 v2 v3 v4 v5 v6 v7 v8 v9 : Int) (v10 : List Int) (v11 : List (Int × (List Int))) (v12 v13 v14 v15 v16 : List Int) (v17 v18 : Int) (v19 : List Int) (v20 v21 v22 v23 v24 v25 v26 v27 v28 v29 : Int) (v30 : List Int) (v31 : List (Int × (List Int))) (v32 v33 v34 v35 : List Int) : Option ((FmA) × (List Int) × Int × Int × Int) := lpW Q09.s Q09.c 0 (ud 33 [.undef, .undef, .ptr 0 0, .undef, .undef, .undef, .undef, .ptr 7 0, .undef, .sl 8 0, .ptr 9 0]) [.box 34 [.int .i64 v0, .int .i64 v1, .int .i64 v2, .sl 1 0, .sl 2 0, .sl 3 0, .int .i64 v3, .sl 4 0, .int .i64 v4, .int .i64 v5, .int .i64 v6, .sl 5 0, .int .i64 v7, .int .i64 v8, .int .i64 v9, .sl 6 0], .row 0 true 3 v10, .row 0 true 30 v11, .row 0 true 3 v12, .row 0 true 90 v13, .row 0 true 90 v14, .row 0 true 90 v15, .box 111 [.vs false 5 v16, .int .i64 v17, .int .i64 v18], .row 0 true 5 v19, .box 34 [.int .i64 v20, .int .i64 v21, .int .i64 v22, .sl 10 0, .sl 11 0, .sl 12 0, .int .i64 v23, .sl 13 0, .int .i64 v24, .int .i64 v25, .int .i64 v26, .sl 14 0, .int .i64 v27, .int .i64 v28, .int .i64 v29, .sl 15 0], .row 0 true 3 v30, .row 0 true 30 v31, .row 0 true 3 v32, .row 0 true 90 v33, .row 0 true 90 v34, .row 0 true 90 v35] 16
theorem Q09.eq (x0 : List Int) : Q09 x0 =
 (Q1q x0).bind fun y1 =>
 (QU y1 20).bind fun y2 =>
 (Q0R y2.2.2).bind fun y3 =>
 (Qn y2.1 y3.1).bind fun y4 =>
 (Q0d y3.2 9).bind fun y5 =>
 bif y5.1 then
 (Q1t y5.2).bind fun y6 =>
 Q09_l0 0 0 0 0 0 0 0 0 0 0 ([] : List Int) ([] : List (Int × (List Int))) ([] : List Int) ([] : List Int) ([] : List Int) ([] : List Int) y6.2.1 y6.2.2.1 y6.2.2.2 y2.2.1 y6.1.1 y6.1.2.1 y6.1.2.2.1 y6.1.2.2.2.1 y6.1.2.2.2.2.1 y6.1.2.2.2.2.2.1 y6.1.2.2.2.2.2.2.1 y6.1.2.2.2.2.2.2.2.1 y6.1.2.2.2.2.2.2.2.2.1 y6.1.2.2.2.2.2.2.2.2.2.1 y6.1.2.2.2.2.2.2.2.2.2.2.1 y6.1.2.2.2.2.2.2.2.2.2.2.2.1 y6.1.2.2.2.2.2.2.2.2.2.2.2.2.1 y6.1.2.2.2.2.2.2.2.2.2.2.2.2.2.1 y6.1.2.2.2.2.2.2.2.2.2.2.2.2.2.2.1 y6.1.2.2.2.2.2.2.2.2.2.2.2.2.2.2.2
 else
 Q09_l1 0 0 0 0 0 0 0 0 0 0 ([] : List Int) ([] : List (Int × (List Int))) ([] : List Int) ([] : List Int) ([] : List Int) ([] : List Int) y5.2.1 y5.2.2.1 y5.2.2.2 y2.2.1 y4.1.1 y4.1.2.1 y4.1.2.2.1 y4.1.2.2.2.2.2.2.1 y4.1.2.2.2.2.2.2.2.2.1 y4.1.2.2.2.2.2.2.2.2.2.1 y4.1.2.2.2.2.2.2.2.2.2.2.1 y4.1.2.2.2.2.2.2.2.2.2.2.2.2.1 y4.1.2.2.2.2.2.2.2.2.2.2.2.2.2.1 y4.1.2.2.2.2.2.2.2.2.2.2.2.2.2.2.1 y4.1.2.2.2.1 y4.1.2.2.2.2.1 y4.1.2.2.2.2.2.1 y4.1.2.2.2.2.2.2.2.1 y4.1.2.2.2.2.2.2.2.2.2.2.2.1 y4.1.2.2.2.2.2.2.2.2.2.2.2.2.2.2.2 := by kernel_rfl
theorem Q09_l0.eq (v0 v1 v2 v3 v4 v5 v6 v7 v8 v9 : Int) (v10 : List Int) (v11 : List (Int × (List Int))) (v12 v13 v14 v15 v16 : List Int) (v17 v18 : Int) (v19 : List Int) (v20 v21 v22 : Int) (v23 : List Int) (v24 : List (Int × (List Int))) (v25 : List Int) (v26 : Int) (v27 : List Int) (v28 v29 v30 : Int) (v31 : List Int) (v32 v33 v34 : Int) (v35 : List Int) : Q09_l0 v0 v1 v2 v3 v4 v5 v6 v7 v8 v9 v10 v11 v12 v13 v14 v15 v16 v17 v18 v19 v20 v21 v22 v23 v24 v25 v26 v27 v28 v29 v30 v31 v32 v33 v34 v35 =
 (Q0R (v16, v17, v18)).bind fun y1 =>
 (Q0d y1.2 12).bind fun y2 =>
 bif y2.1 then
 (QV y2.2).bind fun y3 =>
 (Q0U y3.2).bind fun y4 =>
 (Q0V y4.2).bind fun y5 =>
 some ((v20, v21, v22, v23, v24, v25, v26, v27, v28, v29, v30, v31, v32, v33, v34, v35), v19, y4.1, y5.1, y3.1)
 else
 (Q0U y2.2).bind fun y6 =>
 (Q0V y6.2).bind fun y7 =>
 some ((v20, v21, v22, v23, v24, v25, v26, v27, v28, v29, v30, v31, v32, v33, v34, v35), v19, y6.1, y7.1, y1.1) := (Q7 Q0 (Q1 (Q09.gok _)) _ _).trans (by kernel_rfl)
theorem Q09_l1.eq (v0 v1 v2 v3 v4 v5 v6 v7 v8 v9 : Int) (v10 : List Int) (v11 : List (Int × (List Int))) (v12 v13 v14 v15 v16 : List Int) (v17 v18 : Int) (v19 : List Int) (v20 v21 v22 v23 v24 v25 v26 v27 v28 v29 : Int) (v30 : List Int) (v31 : List (Int × (List Int))) (v32 v33 v34 v35 : List Int) : Q09_l1 v0 v1 v2 v3 v4 v5 v6 v7 v8 v9 v10 v11 v12 v13 v14 v15 v16 v17 v18 v19 v20 v21 v22 v23 v24 v25 v26 v27 v28 v29 v30 v31 v32 v33 v34 v35 =
 (Q0R (v16, v17, v18)).bind fun y1 =>
 (Q0d y1.2 12).bind fun y2 =>
 bif y2.1 then
 (QV y2.2).bind fun y3 =>
 (Q0U y3.2).bind fun y4 =>
 (Q0V y4.2).bind fun y5 =>
 some ((v20, v21, v22, v30, v31, v32, v23, v33, v24, v25, v26, v34, v27, v28, v29, v35), v19, y4.1, y5.1, y3.1)
 else
 (Q0U y2.2).bind fun y6 =>
 (Q0V y6.2).bind fun y7 =>
 some ((v20, v21, v22, v30, v31, v32, v23, v33, v24, v25, v26, v34, v27, v28, v29, v35), v19, y6.1, y7.1, y1.1) := (Q7 Q0 (Q1 (Q09.gok _)) _ _).trans (by kernel_rfl)
noncomputable abbrev Q0v.s : Sg := ⟨[.lend], [ag3], ⟨[ag0], [none]⟩, Tryz.f200⟩
noncomputable def Q0v.gs (δ : Type) : List (Nat × KC δ) := [(53, QN.k), (113, QD.k), (150, Q0y.k)]
theorem Q0v.gok (δ : Type) : Q4 Tryz.prog tab (Q0v.gs δ) := .cons QN.con (.cons QD.con (.cons Q0y.con .nil))
noncomputable def Q0v.c := cx Q0v.s [] [] [(5, [2, 3, 12, 13])] false (Q0v.gs _)
noncomputable def Q0v (x0 : Int × (List Int)) : Option (Int × (List Int)) := fnW Q0v.s Q0v.c x0
theorem Q0v.fok : FkS Q0v.s 200 := ⟨Tryz.func200, by kernel_rfl, by kernel_rfl⟩
noncomputable def Q0v.fn (x : Args tab Q0v.s.ar) : Option (ResT tab Q0v.s.rs) := Q0v x
noncomputable abbrev Q0v.k {δ : Type} : KC δ := kS Q0v.s Q0v.fn
theorem Q0v.con {δ : Type} : Con Tryz.prog (KT tab) 200 (Q0v.k (δ := δ)) := Q5 (c := Q0v.c) mixed Q0 (Q1 (Q0v.gok _)) Q0v.fok rfl rfl fun _ => rfl
noncomputable def Q0v_l0 (v0 v1 v2 : Int) (v3 v4 : List Int) : Option (Int × (List Int)) := lpW Q0v.s Q0v.c 0 (ud 13 [.undef, .undef, .ptr 0 0, .sl 2 0, .undef, .undef, .undef, .undef, .undef, .undef, .undef, .undef, .int .i64 v0, .int .i64 v1]) [.box 30 [.int .i64 v2, .sl 1 0], .row 0 true 90 v3, .row 0 true 3 v4] 3
theorem Q0v.eq (x0 : Int × (List Int)) : Q0v x0 =
 (Q0y x0).bind fun y1 =>
 bif !y1 then
 some (0, ([] : List Int))
 else
 (QN x0).bind fun y2 =>
 Q0v_l0 (y2.length : Int) 0 0 ([] : List Int) y2 := by kernel_rfl
theorem Q0v_l0.eq (v0 v1 v2 : Int) (v3 v4 : List Int) : Q0v_l0 v0 v1 v2 v3 v4 =
 bif decide (v1 < v0) then
 (at? v4 v1).bind fun y1 =>
 v4[v1.toNat]?.bind fun y2 =>
 (at? v4 v1).bind fun y3 =>
 v4[v1.toNat]?.bind fun y4 =>
 Q0v_l0 v0 (IntKind.i64.wrap (v1 + 1)) v2 v3 (v4.set v1.toNat (IntKind.i64.wrap ((1 : Int) - y2)))
 else
 (QD v4).bind fun y5 =>
 some y5 := (Q7 Q0 (Q1 (Q0v.gok _)) _ _).trans (by kernel_rfl)
noncomputable abbrev Qo.s : Sg := ⟨[.lend, .lend], [vl 3, .agg [.int .i64, .sl false false 90, .int .i64, .sl false false 90, .sl false false 3]], ⟨[vo 3, vb], [none, none]⟩, Tryz.f174⟩
noncomputable def Qo.gs (δ : Type) : List (Nat × KC δ) := [(52, Qs.k), (53, QN.k), (117, QH.k), (150, Q0y.k), (200, Q0v.k)]
theorem Qo.gok (δ : Type) : Q4 Tryz.prog tab (Qo.gs δ) := .cons Qs.con (.cons QN.con (.cons QH.con (.cons Q0y.con (.cons Q0v.con .nil))))
noncomputable def Qo.c := cx Qo.s [] [3, 6] [(3, [0, 3]), (6, [0, 3]), (9, [7, 8, 9, 71, 72, 73])] false (Qo.gs _)
noncomputable def Qo (x0 : List Int) (x1 : Int × (List Int) × Int × (List Int) × (List Int)) : Option ((List Int) × Bool) := fnW Qo.s Qo.c (x0, x1)
theorem Qo.fok : FkS Qo.s 174 := ⟨Tryz.func174, by kernel_rfl, by kernel_rfl⟩
noncomputable def Qo.fn (x : Args tab Qo.s.ar) : Option (ResT tab Qo.s.rs) := Qo x.1 x.2
noncomputable abbrev Qo.k {δ : Type} : KC δ := kS Qo.s Qo.fn
theorem Qo.con {δ : Type} : Con Tryz.prog (KT tab) 174 (Qo.k (δ := δ)) := Q5 (c := Qo.c) mixed Q0 (Q1 (Qo.gok _)) Qo.fok rfl rfl fun _ => rfl
noncomputable def Qo_l0 (v0 : List Int) (v1 : Int) (v2 : List Int) (v3 : Int) (v4 v5 : List Int) : Option ((List Int) × Bool) := lpW Qo.s Qo.c 0 (ud 93 [.vs false 3 v0, .undef, .undef, .ptr 0 0]) [.box 130 [.int .i64 v1, .vs false 90 v2, .int .i64 v3, .vs false 90 v4, .vs false 3 v5]] 1
noncomputable def Qo_l1 (v0 : List Int) (v1 : Int) (v2 : List Int) (v3 : Int) (v4 v5 : List Int) : Option ((List Int) × Bool) := lpW Qo.s Qo.c 1 (ud 93 [.vs false 3 v0, .undef, .undef, .ptr 0 0]) [.box 130 [.int .i64 v1, .vs false 90 v2, .int .i64 v3, .vs false 90 v4, .vs false 3 v5]] 1
noncomputable def Qo_l2 (v0 : List Int) (v1 v2 : Int) (v3 v4 v5 : List Int) : Option ((List Int) × Bool) := lpW Qo.s Qo.c 2 (ud 23 [.undef, .undef, .undef, .undef, .undef, .undef, .undef, .sl 0 0, .vs false 3 v0, .sl 1 0, .undef, .undef, .undef, .undef, .undef, .undef, .undef, .undef, .undef, .undef, .undef, .undef, .undef, .undef, .undef, .undef, .undef, .undef, .undef, .undef, .undef, .undef, .undef, .undef, .undef, .undef, .undef, .undef, .undef, .undef, .undef, .undef, .undef, .undef, .undef, .undef, .undef, .undef, .undef, .undef, .undef, .undef, .undef, .undef, .undef, .undef, .undef, .undef, .undef, .undef, .undef, .undef, .undef, .undef, .undef, .undef, .undef, .undef, .undef, .undef, .undef, .sl 2 0, .int .i64 v1, .int .i64 v2]) [.row 0 true 3 v3, .row 0 true 3 v4, .row 0 true 3 v5] 3
noncomputable def Qo_l3 (v0 v1 : Nat) (v2 : List Int) (v3 v4 : Int) (v5 v6 v7 : List Int) : Option ((List Int) × Bool) := lpW Qo.s Qo.c 2 (ud 23 [.undef, .undef, .undef, .undef, .undef, .undef, .undef, .sv 0 0 v0 v1, .vs false 3 v2, .sl 1 0, .undef, .undef, .undef, .undef, .undef, .undef, .undef, .undef, .undef, .undef, .undef, .undef, .undef, .undef, .undef, .undef, .undef, .undef, .undef, .undef, .undef, .undef, .undef, .undef, .undef, .undef, .undef, .undef, .undef, .undef, .undef, .undef, .undef, .undef, .undef, .undef, .undef, .undef, .undef, .undef, .undef, .undef, .undef, .undef, .undef, .undef, .undef, .undef, .undef, .undef, .undef, .undef, .undef, .undef, .undef, .undef, .undef, .undef, .undef, .undef, .undef, .sl 2 0, .int .i64 v3, .int .i64 v4]) [.row 0 true 3 v5, .row 0 true 3 v6, .row 0 true 3 v7] 3
theorem Qo.eq (x0 : List Int) (x1 : Int × (List Int) × Int × (List Int) × (List Int)) : Qo x0 x1 =
 bif decide ((x0.length : Int) > 301) then
 some (([] : List Int), false)
 else
 (Q0y (x1.1, x1.2.1)).bind fun y1 =>
 bif !y1 then
 some (([] : List Int), false)
 else
 (Q0y (x1.2.2.1, x1.2.2.2.1)).bind fun y2 =>
 bif !y2 then
 some (([] : List Int), false)
 else
 bif x1.1 != (x0.length : Int) then
 some (([] : List Int), false)
 else
 bif decide (x1.2.2.1 > 301) then
 some (([] : List Int), false)
 else
 Qo_l0 x0 x1.1 x1.2.1 x1.2.2.1 x1.2.2.2.1 x1.2.2.2.2 := by kernel_rfl
theorem Qo_l0.eq (v0 : List Int) (v1 : Int) (v2 : List Int) (v3 : Int) (v4 v5 : List Int) : Qo_l0 v0 v1 v2 v3 v4 v5 =
 (QN (v3, v4)).bind fun y1 =>
 (Qs y1 1).bind fun y2 =>
 (QN (v1, v2)).bind fun y3 =>
 (Qs y3 1).bind fun y4 =>
 bif y4 != y2 then
 some (([] : List Int), false)
 else
 bif IntKind.i64.wrap (v3 - y2) != (v5.length : Int) then
 some (([] : List Int), false)
 else
 Qo_l1 v0 v1 v2 v3 v4 v5 := (Q7 Q0 (Q1 (Qo.gok _)) _ _).trans (by kernel_rfl)
theorem Qo_l1.eq (v0 : List Int) (v1 : Int) (v2 : List Int) (v3 : Int) (v4 v5 : List Int) : Qo_l1 v0 v1 v2 v3 v4 v5 =
 (Q0v (v1, v2)).bind fun y1 =>
 (QH v0 y1).bind fun y2 =>
 (QN (v3, v4)).bind fun y3 =>
 Qo_l2 v5 (y3.length : Int) 0 y2 ([] : List Int) y3 := (Q7 Q0 (Q1 (Qo.gok _)) _ _).trans (by kernel_rfl)
theorem Qo_l2.eq (v0 : List Int) (v1 v2 : Int) (v3 v4 v5 : List Int) : Qo_l2 v0 v1 v2 v3 v4 v5 =
 bif decide (v2 < v1) then
 (at? v5 v2).bind fun y1 =>
 v5[v2.toNat]?.bind fun y2 =>
 bif y2 == 1 then
 (at? v3 0).bind fun y3 =>
 v3[0]?.bind fun y4 =>
 bif decide ((v4.length + ([y4] : List Int).length) * 8 ≤ 140737488355328) then
 bif decide (0 ≤ (1 : Int) ∧ (1 : Int) ≤ ((v3.length : Nat) : Int)) then
 Qo_l3 1 (v3.length - 1) v0 v1 (IntKind.i64.wrap (v2 + 1)) v3 (v4 ++ ([y4] : List Int)) v5
 else
 none
 else
 none
 else
 (at? v0 0).bind fun y5 =>
 bif decide ((v4.length + ([y5] : List Int).length) * 8 ≤ 140737488355328) then
 bif decide (0 ≤ (1 : Int) ∧ (1 : Int) ≤ ((v0.length : Nat) : Int)) then
 Qo_l2 ((v0.take v0.length).drop 1) v1 (IntKind.i64.wrap (v2 + 1)) v3 (v4 ++ ([y5] : List Int)) v5
 else
 none
 else
 none
 else
 some (v4, true) := (Q7 Q0 (Q1 (Qo.gok _)) _ _).trans (by kernel_rfl)
theorem Qo_l3.eq (v0 v1 : Nat) (v2 : List Int) (v3 v4 : Int) (v5 v6 v7 : List Int) : Qo_l3 v0 v1 v2 v3 v4 v5 v6 v7 =
 bif decide (v4 < v3) then
 (at? v7 v4).bind fun y1 =>
 v7[v4.toNat]?.bind fun y2 =>
 bif y2 == 1 then
 bif decide (0 ≤ (0 : Int) ∧ (0 : Int) < ((v1 : Nat) : Int)) then
 v5[v0]?.bind fun y3 =>
 bif decide ((v6.length + ([y3] : List Int).length) * 8 ≤ 140737488355328) then
 bif decide (0 ≤ (1 : Int) ∧ (1 : Int) ≤ ((v1 : Nat) : Int)) then
 Qo_l3 (v0 + 1) (v1 - 1) v2 v3 (IntKind.i64.wrap (v4 + 1)) v5 (v6 ++ ([y3] : List Int)) v7
 else
 none
 else
 none
 else
 none
 else
 (at? v2 0).bind fun y4 =>
 bif decide ((v6.length + ([y4] : List Int).length) * 8 ≤ 140737488355328) then
 bif decide (0 ≤ (1 : Int) ∧ (1 : Int) ≤ ((v2.length : Nat) : Int)) then
 Qo_l3 v0 v1 ((v2.take v2.length).drop 1) v3 (IntKind.i64.wrap (v4 + 1)) v5 (v6 ++ ([y4] : List Int)) v7
 else
 none
 else
 none
 else
 some (v6, true) := (Q7 Q0 (Q1 (Qo.gok _)) _ _).trans (by kernel_rfl)
noncomputable abbrev Q1b.s : Sg := ⟨[.lend, .lend, .lend, .lend], [vl 5, ag3, ag3, vl 3], ⟨[vo 5, vb], [none, none, none, none]⟩, Tryz.f120⟩
noncomputable def Q1b.gs (δ : Type) : List (Nat × KC δ) := [(59, Qt.k), (109, QG.k), (174, Qo.k)]
theorem Q1b.gok (δ : Type) : Q4 Tryz.prog tab (Q1b.gs δ) := .cons Qt.con (.cons QG.con (.cons Qo.con .nil))
noncomputable def Q1b.c := cx Q1b.s [] [] [] false (Q1b.gs _)
noncomputable def Q1b (x0 : List Int) (x1 x2 : Int × (List Int)) (x3 : List Int) : Option ((List Int) × Bool) := fnW Q1b.s Q1b.c (x0, x1, x2, x3)
theorem Q1b.fok : FkS Q1b.s 120 := ⟨Tryz.func120, by kernel_rfl, by kernel_rfl⟩
noncomputable def Q1b.fn (x : Args tab Q1b.s.ar) : Option (ResT tab Q1b.s.rs) := Q1b x.1 x.2.1 x.2.2.1 x.2.2.2
noncomputable abbrev Q1b.k {δ : Type} : KC δ := kS Q1b.s Q1b.fn
theorem Q1b.con {δ : Type} : Con Tryz.prog (KT tab) 120 (Q1b.k (δ := δ)) := Q5 (c := Q1b.c) mixed Q0 (Q1 (Q1b.gok _)) Q1b.fok rfl rfl fun _ => rfl
theorem Q1b.eq (x0 : List Int) (x1 x2 : Int × (List Int)) (x3 : List Int) : Q1b x0 x1 x2 x3 =
 (Qt x0).bind fun y1 =>
 (Qo y1 (x1.1, x1.2, x2.1, x2.2, x3)).bind fun y2 =>
 bif !y2.2 then
 some (([] : List Int), false)
 else
 (QG y2.1).bind fun y3 =>
 some (y3.1, y3.2) := by kernel_rfl
noncomputable abbrev Q1c.s : Sg := ⟨[.keep, .keep, .give, .give, .lend], [vo 5, vo 5, ag3, ag3, vi], ⟨[.agg [.int .i64, .int .i64, .int .i64, .sl false false 90, .int .i64, .sl false false 90, .int .i64, .sl true true 3, .sl true true 30, .int .i64, .sl true true 3, .sl true true 30, .sl true true 3, .int .i64, .sl true true 90, .int .i64, .int .i64, .int .i64, .sl true true 90, .int .i64, .int .i64, .int .i64, .sl true true 90]], [some (vo 5), some (vo 5), none, none, none]⟩, Tryz.f51⟩
noncomputable def Q1c.gs (δ : Type) : List (Nat × KC δ) := [(59, Qt.k), (111, Qw.k), (116, Qd.k), (117, QH.k)]
theorem Q1c.gok (δ : Type) : Q4 Tryz.prog tab (Q1c.gs δ) := .cons Qt.con (.cons Qw.con (.cons Qd.con (.cons QH.con .nil)))
noncomputable def Q1c.c := cx Q1c.s [] [] [] false (Q1c.gs _)
noncomputable def Q1c (x0 x1 : List Int) (x2 x3 : Int × (List Int)) (x4 : Int) : Option ((RelA) × (List Int) × (List Int)) := fnW Q1c.s Q1c.c (x0, x1, x2, x3, x4)
theorem Q1c.fok : FkS Q1c.s 51 := ⟨Tryz.func51, by kernel_rfl, by kernel_rfl⟩
noncomputable def Q1c.fn (x : Args tab Q1c.s.ar) : Option (ResT tab Q1c.s.rs) := Q1c x.1 x.2.1 x.2.2.1 x.2.2.2.1 x.2.2.2.2
noncomputable abbrev Q1c.k {δ : Type} : KC δ := kS Q1c.s Q1c.fn
theorem Q1c.con {δ : Type} : Con Tryz.prog (KT tab) 51 (Q1c.k (δ := δ)) := Q5 (c := Q1c.c) mixed Q0 (Q1 (Q1c.gok _)) Q1c.fok rfl rfl fun _ => rfl
theorem Q1c.eq (x0 x1 : List Int) (x2 x3 : Int × (List Int)) (x4 : Int) : Q1c x0 x1 x2 x3 x4 =
 (Qw x1 x4).bind fun y1 =>
 (Qt x0).bind fun y2 =>
 (QH y2 x2).bind fun y3 =>
 (Qd y3).bind fun y4 =>
 (Qt x1).bind fun y5 =>
 (QH y5 x3).bind fun y6 =>
 (Qd y6).bind fun y7 =>
 some ((y1.1, x4, x2.1, x2.2, x3.1, x3.2, y4.1.1, y4.1.2.1, y4.1.2.2, y7.1.1, y7.1.2.1, y7.1.2.2, y1.2.2.2.2.2.1, y1.2.2.2.2.2.2.1, y1.2.2.2.2.2.2.2.1, y1.2.2.2.2.2.2.2.2.1, y1.2.2.2.2.2.2.2.2.2.1, y1.2.2.2.2.2.2.2.2.2.2.1, y1.2.2.2.2.2.2.2.2.2.2.2.1, y1.2.2.2.2.2.2.2.2.2.2.2.2.1, y1.2.2.2.2.2.2.2.2.2.2.2.2.2.1, y1.2.2.2.2.2.2.2.2.2.2.2.2.2.2.1, y1.2.2.2.2.2.2.2.2.2.2.2.2.2.2.2), x0, x1) := by kernel_rfl
noncomputable abbrev Q1u.s : Sg := ⟨[.lend, .lend], [ag8, ag8], ⟨[vb], [none, none]⟩, Tryz.f121⟩
noncomputable def Q1u.gs (δ : Type) : List (Nat × KC δ) := [(152, QY.k), (153, Q0T.k), (154, Q0k.k), (155, Q0K.k)]
theorem Q1u.gok (δ : Type) : Q4 Tryz.prog tab (Q1u.gs δ) := .cons QY.con (.cons Q0T.con (.cons Q0k.con (.cons Q0K.con .nil)))
noncomputable def Q1u.c := cx Q1u.s [] [] [] false (Q1u.gs _)
noncomputable def Q1u (x0 x1 : RelA) : Option (Bool) := fnW Q1u.s Q1u.c (x0, x1)
theorem Q1u.fok : FkS Q1u.s 121 := ⟨Tryz.func121, by kernel_rfl, by kernel_rfl⟩
noncomputable def Q1u.fn (x : Args tab Q1u.s.ar) : Option (ResT tab Q1u.s.rs) := Q1u x.1 x.2
noncomputable abbrev Q1u.k {δ : Type} : KC δ := kS Q1u.s Q1u.fn
theorem Q1u.con {δ : Type} : Con Tryz.prog (KT tab) 121 (Q1u.k (δ := δ)) := Q5 (c := Q1u.c) mixed Q0 (Q1 (Q1u.gok _)) Q1u.fok rfl rfl fun _ => rfl
theorem Q1u.eq (x0 x1 : RelA) : Q1u x0 x1 =
 bif x0.1 == x1.1 then
 bif x0.2.1 == x1.2.1 then
 (Q0k (x0.2.2.1, x0.2.2.2.1) (x1.2.2.1, x1.2.2.2.1)).bind fun y1 =>
 bif y1 then
 (Q0k (x0.2.2.2.2.1, x0.2.2.2.2.2.1) (x1.2.2.2.2.1, x1.2.2.2.2.2.1)).bind fun y2 =>
 bif y2 then
 (Q0T (x0.2.2.2.2.2.2.1, x0.2.2.2.2.2.2.2.1, x0.2.2.2.2.2.2.2.2.1) (x1.2.2.2.2.2.2.1, x1.2.2.2.2.2.2.2.1, x1.2.2.2.2.2.2.2.2.1)).bind fun y3 =>
 bif y3 then
 (Q0T (x0.2.2.2.2.2.2.2.2.2.1, x0.2.2.2.2.2.2.2.2.2.2.1, x0.2.2.2.2.2.2.2.2.2.2.2.1) (x1.2.2.2.2.2.2.2.2.2.1, x1.2.2.2.2.2.2.2.2.2.2.1, x1.2.2.2.2.2.2.2.2.2.2.2.1)).bind fun y4 =>
 bif y4 then
 (QY x0.2.2.2.2.2.2.2.2.2.2.2.2.1 x1.2.2.2.2.2.2.2.2.2.2.2.2.1).bind fun y5 =>
 bif y5 then
 (Q0k (x0.2.2.2.2.2.2.2.2.2.2.2.2.2.1, x0.2.2.2.2.2.2.2.2.2.2.2.2.2.2.1) (x1.2.2.2.2.2.2.2.2.2.2.2.2.2.1, x1.2.2.2.2.2.2.2.2.2.2.2.2.2.2.1)).bind fun y6 =>
 bif y6 then
 (Q0K (x0.2.2.2.2.2.2.2.2.2.2.2.2.2.2.2.1, x0.2.2.2.2.2.2.2.2.2.2.2.2.2.2.2.2.1, x0.2.2.2.2.2.2.2.2.2.2.2.2.2.2.2.2.2.1, x0.2.2.2.2.2.2.2.2.2.2.2.2.2.2.2.2.2.2.1) (x1.2.2.2.2.2.2.2.2.2.2.2.2.2.2.2.1, x1.2.2.2.2.2.2.2.2.2.2.2.2.2.2.2.2.1, x1.2.2.2.2.2.2.2.2.2.2.2.2.2.2.2.2.2.1, x1.2.2.2.2.2.2.2.2.2.2.2.2.2.2.2.2.2.2.1)).bind fun y7 =>
 bif y7 then
 (Q0K x0.2.2.2.2.2.2.2.2.2.2.2.2.2.2.2.2.2.2.2 x1.2.2.2.2.2.2.2.2.2.2.2.2.2.2.2.2.2.2.2).bind fun y8 =>
 some y8
 else
 some false
 else
 some false
 else
 some false
 else
 some false
 else
 some false
 else
 some false
 else
 some false
 else
 some false
 else
 some false := by kernel_rfl
noncomputable abbrev Q1d.s : Sg := ⟨[.lend, .lend], [ag8, ag6], ⟨[vo 5, vb], [none, none]⟩, Tryz.f57⟩
noncomputable def Q1d.gs (δ : Type) : List (Nat × KC δ) := [(46, Q0r.k), (48, Q0H.k), (51, Q1c.k), (108, Qc.k), (120, Q1b.k), (121, Q1u.k)]
theorem Q1d.gok (δ : Type) : Q4 Tryz.prog tab (Q1d.gs δ) := .cons Q0r.con (.cons Q0H.con (.cons Q1c.con (.cons Qc.con (.cons Q1b.con (.cons Q1u.con .nil)))))
noncomputable def Q1d.c := cx Q1d.s [] [] [] false (Q1d.gs _)
noncomputable def Q1d (x0 : RelA) (x1 : FmA) : Option ((List Int) × Bool) := fnW Q1d.s Q1d.c (x0, x1)
theorem Q1d.fok : FkS Q1d.s 57 := ⟨Tryz.func57, by kernel_rfl, by kernel_rfl⟩
noncomputable def Q1d.fn (x : Args tab Q1d.s.ar) : Option (ResT tab Q1d.s.rs) := Q1d x.1 x.2
noncomputable abbrev Q1d.k {δ : Type} : KC δ := kS Q1d.s Q1d.fn
theorem Q1d.con {δ : Type} : Con Tryz.prog (KT tab) 57 (Q1d.k (δ := δ)) := Q5 (c := Q1d.c) mixed Q0 (Q1 (Q1d.gok _)) Q1d.fok rfl rfl fun _ => rfl
theorem Q1d.eq (x0 : RelA) (x1 : FmA) : Q1d x0 x1 =
 (Q0r x1).bind fun y1 =>
 (Qc (x0.2.2.2.2.2.2.2.2.2.1, x0.2.2.2.2.2.2.2.2.2.2.1, x0.2.2.2.2.2.2.2.2.2.2.2.1)).bind fun y2 =>
 bif !y1.2 then
 some (([] : List Int), false)
 else
 bif !y2.2 then
 some (([] : List Int), false)
 else
 (Q0H x0.2.1).bind fun y3 =>
 bif !y3 then
 some (([] : List Int), false)
 else
 (Q1b y1.1 (x0.2.2.1, x0.2.2.2.1) (x0.2.2.2.2.1, x0.2.2.2.2.2.1) y2.1).bind fun y4 =>
 bif y4.2 then
 (Q1c y1.1 y4.1 (x0.2.2.1, x0.2.2.2.1) (x0.2.2.2.2.1, x0.2.2.2.2.2.1) x0.2.1).bind fun y5 =>
 (Q1u y5.1 x0).bind fun y6 =>
 some (y5.2.2, y6)
 else
 some (y4.1, false) := by kernel_rfl
noncomputable abbrev Q1v.s : Sg := ⟨[.lend, .lend], [ag6, ag8], ⟨[vb], [none, none]⟩, Tryz.f21⟩
noncomputable def Q1v.gs (δ : Type) : List (Nat × KC δ) := [(57, Q1d.k)]
theorem Q1v.gok (δ : Type) : Q4 Tryz.prog tab (Q1v.gs δ) := .cons Q1d.con .nil
noncomputable def Q1v.c := cx Q1v.s [] [] [] false (Q1v.gs _)
noncomputable def Q1v (x0 : FmA) (x1 : RelA) : Option (Bool) := fnW Q1v.s Q1v.c (x0, x1)
theorem Q1v.fok : FkS Q1v.s 21 := ⟨Tryz.func21, by kernel_rfl, by kernel_rfl⟩
noncomputable def Q1v.fn (x : Args tab Q1v.s.ar) : Option (ResT tab Q1v.s.rs) := Q1v x.1 x.2
noncomputable abbrev Q1v.k {δ : Type} : KC δ := kS Q1v.s Q1v.fn
theorem Q1v.con {δ : Type} : Con Tryz.prog (KT tab) 21 (Q1v.k (δ := δ)) := Q5 (c := Q1v.c) mixed Q0 (Q1 (Q1v.gok _)) Q1v.fok rfl rfl fun _ => rfl
theorem Q1v.eq (x0 : FmA) (x1 : RelA) : Q1v x0 x1 =
 (Q1d x1 x0).bind fun y1 =>
 some y1.2 := by kernel_rfl
noncomputable abbrev Q1w.s : Sg := ⟨[.lend, .lend], [ag6, ag8], ⟨[vi], [none, none]⟩, Tryz.f12⟩
noncomputable def Q1w.gs (δ : Type) : List (Nat × KC δ) := [(21, Q1v.k), (52, Qs.k), (53, QN.k)]
theorem Q1w.gok (δ : Type) : Q4 Tryz.prog tab (Q1w.gs δ) := .cons Q1v.con (.cons Qs.con (.cons QN.con .nil))
noncomputable def Q1w.c := cx Q1w.s [] [] [] false (Q1w.gs _)
noncomputable def Q1w (x0 : FmA) (x1 : RelA) : Option (Int) := fnW Q1w.s Q1w.c (x0, x1)
theorem Q1w.fok : FkS Q1w.s 12 := ⟨Tryz.func12, by kernel_rfl, by kernel_rfl⟩
noncomputable def Q1w.fn (x : Args tab Q1w.s.ar) : Option (ResT tab Q1w.s.rs) := Q1w x.1 x.2
noncomputable abbrev Q1w.k {δ : Type} : KC δ := kS Q1w.s Q1w.fn
theorem Q1w.con {δ : Type} : Con Tryz.prog (KT tab) 12 (Q1w.k (δ := δ)) := Q5 (c := Q1w.c) mixed Q0 (Q1 (Q1w.gok _)) Q1w.fok rfl rfl fun _ => rfl
theorem Q1w.eq (x0 : FmA) (x1 : RelA) : Q1w x0 x1 =
 (Q1v x0 x1).bind fun y1 =>
 bif !y1 then
 some (-1 : Int)
 else
 (QN (x1.2.2.2.2.1, x1.2.2.2.2.2.1)).bind fun y2 =>
 (Qs y2 0).bind fun y3 =>
 some y3 := by kernel_rfl
end Go.Ev.W
