/- What functions of the program come to. -/
import Derived.Test.YtmdkpcneakoagaaGreatPhT
import Derived.Test.YtmdkpcneakoagaaGreatPh2
import Derived.Test.YtmdkpcneakoagaaGreatPh3
namespace Go.Ev.W
open Go.Ev Go.Proofs
set_option maxRecDepth 100000
set_option linter.unusedVariables false
noncomputable abbrev Q1F.s : Sg := ⟨[.lend], [vl 5], ⟨[vb], [none]⟩, Tryz.f6⟩
noncomputable def Q1F.gs (δ : Type) : List (Nat × KC δ) := []
theorem Q1F.gok (δ : Type) : Q4 Tryz.prog tab (Q1F.gs δ) := .nil
noncomputable def Q1F.c := cx Q1F.s [] [] [] false (Q1F.gs _)
noncomputable def Q1F (x0 : List Int) : Option (Bool) := fnW Q1F.s Q1F.c x0
theorem Q1F.fok : FkS Q1F.s 6 := ⟨Tryz.func6, by kernel_rfl, by kernel_rfl⟩
noncomputable def Q1F.fn (x : Args tab Q1F.s.ar) : Option (ResT tab Q1F.s.rs) := Q1F x
noncomputable abbrev Q1F.k {δ : Type} : KC δ := kS Q1F.s Q1F.fn
theorem Q1F.con {δ : Type} : Con Tryz.prog (KT tab) 6 (Q1F.k (δ := δ)) := Q5 (c := Q1F.c) mixed Q0 (Q1 (Q1F.gok _)) Q1F.fok rfl rfl fun _ => rfl
theorem Q1F.eq (x0 : List Int) : Q1F x0 =
 some (decide ((x0.length : Int) > 1048576)) := by kernel_rfl
noncomputable abbrev Q1a.s : Sg := ⟨[.lend], [vl 5], ⟨[.one (.ptr true 111 [.b (.b (.b (.sl false false 5))), .b (.b (.b (.int .i64))), .b (.b (.b (.int .i64)))])], [none]⟩, Tryz.f32⟩
noncomputable def Q1a.gs (δ : Type) : List (Nat × KC δ) := []
theorem Q1a.gok (δ : Type) : Q4 Tryz.prog tab (Q1a.gs δ) := .nil
noncomputable def Q1a.c := cx Q1a.s [] [] [] false (Q1a.gs _)
noncomputable def Q1a (x0 : List Int) : Option ((List Int) × Int × Int) := fnW Q1a.s Q1a.c x0
theorem Q1a.fok : FkS Q1a.s 32 := ⟨Tryz.func32, by kernel_rfl, by kernel_rfl⟩
noncomputable def Q1a.fn (x : Args tab Q1a.s.ar) : Option (ResT tab Q1a.s.rs) := Q1a x
noncomputable abbrev Q1a.k {δ : Type} : KC δ := kS Q1a.s Q1a.fn
theorem Q1a.con {δ : Type} : Con Tryz.prog (KT tab) 32 (Q1a.k (δ := δ)) := Q5 (c := Q1a.c) mixed Q0 (Q1 (Q1a.gok _)) Q1a.fok rfl rfl fun _ => rfl
theorem Q1a.eq (x0 : List Int) : Q1a x0 =
 some (x0, 0, IntKind.i64.wrap ((89 : Int) + ((x0.length : Int).tmod 1000))) := by kernel_rfl
noncomputable abbrev Qb.s : Sg := ⟨[.keep, .lend], [.one (.ptr true 111 [.b (.b (.b (.sl false false 5))), .b (.b (.b (.int .i64))), .b (.b (.b (.int .i64)))]), vi], ⟨[vi], [some (.one (.ptr true 111 [.b (.b (.b (.sl false false 5))), .b (.b (.b (.int .i64))), .b (.b (.b (.int .i64)))])), none]⟩, Tryz.f84⟩
noncomputable def Qb.gs (δ : Type) : List (Nat × KC δ) := []
theorem Qb.gok (δ : Type) : Q4 Tryz.prog tab (Qb.gs δ) := .nil
noncomputable def Qb.c := cx Qb.s [] [] [] false (Qb.gs _)
noncomputable def Qb (x0 : (List Int) × Int × Int) (x1 : Int) : Option (Int × ((List Int) × Int × Int)) := fnW Qb.s Qb.c (x0, x1)
theorem Qb.fok : FkS Qb.s 84 := ⟨Tryz.func84, by kernel_rfl, by kernel_rfl⟩
noncomputable def Qb.fn (x : Args tab Qb.s.ar) : Option (ResT tab Qb.s.rs) := Qb x.1 x.2
noncomputable abbrev Qb.k {δ : Type} : KC δ := kS Qb.s Qb.fn
theorem Qb.con {δ : Type} : Con Tryz.prog (KT tab) 84 (Qb.k (δ := δ)) := Q5 (c := Qb.c) mixed Q0 (Q1 (Qb.gok _)) Qb.fok rfl rfl fun _ => rfl
theorem Qb.eq (x0 : (List Int) × Int × Int) (x1 : Int) : Qb x0 x1 =
 bif decide (x1 < 2) then
 some (0, x0)
 else
 bif decide (x0.2.1 < (x0.1.length : Int)) then
 (at? x0.1 x0.2.1).bind fun y1 =>
 bif decide (x1 = 0) then
 none
 else
 some ((IntKind.i64.wrap y1).tmod x1, (x0.1, IntKind.i64.wrap (x0.2.1 + 1), x0.2.2))
 else
 bif decide ((x0.1.length : Int) > 0) then
 bif decide ((x0.1.length : Int) = 0) then
 none
 else
 (at? x0.1 (x0.2.1.tmod (x0.1.length : Int))).bind fun y2 =>
 bif decide (x1 = 0) then
 none
 else
 some ((IntKind.i64.wrap ((IntKind.i64.wrap (((IntKind.i64.wrap ((IntKind.i64.wrap (x0.2.2 * 1103)) + 12345)).tmod 65521).tdiv 7)) + (IntKind.i64.wrap y2))).tmod x1, (x0.1, IntKind.i64.wrap (x0.2.1 + 1), (IntKind.i64.wrap ((IntKind.i64.wrap (x0.2.2 * 1103)) + 12345)).tmod 65521))
 else
 bif decide (x1 = 0) then
 none
 else
 some ((0 : Int).tmod x1, (x0.1, IntKind.i64.wrap (x0.2.1 + 1), (IntKind.i64.wrap ((IntKind.i64.wrap (x0.2.2 * 1103)) + 12345)).tmod 65521)) := by kernel_rfl
noncomputable abbrev Q1b.s : Sg := ⟨[.keep, .lend], [.one (.ptr true 111 [.b (.b (.b (.sl false false 5))), .b (.b (.b (.int .i64))), .b (.b (.b (.int .i64)))]), vi], ⟨[vi], [some (.one (.ptr true 111 [.b (.b (.b (.sl false false 5))), .b (.b (.b (.int .i64))), .b (.b (.b (.int .i64)))])), none]⟩, Tryz.f135⟩
noncomputable def Q1b.gs (δ : Type) : List (Nat × KC δ) := [(84, Qb.k)]
theorem Q1b.gok (δ : Type) : Q4 Tryz.prog tab (Q1b.gs δ) := .cons Qb.con .nil
noncomputable def Q1b.c := cx Q1b.s [] [] [] false (Q1b.gs _)
noncomputable def Q1b (x0 : (List Int) × Int × Int) (x1 : Int) : Option (Int × ((List Int) × Int × Int)) := fnW Q1b.s Q1b.c (x0, x1)
theorem Q1b.fok : FkS Q1b.s 135 := ⟨Tryz.func135, by kernel_rfl, by kernel_rfl⟩
noncomputable def Q1b.fn (x : Args tab Q1b.s.ar) : Option (ResT tab Q1b.s.rs) := Q1b x.1 x.2
noncomputable abbrev Q1b.k {δ : Type} : KC δ := kS Q1b.s Q1b.fn
theorem Q1b.con {δ : Type} : Con Tryz.prog (KT tab) 135 (Q1b.k (δ := δ)) := Q5 (c := Q1b.c) mixed Q0 (Q1 (Q1b.gok _)) Q1b.fok rfl rfl fun _ => rfl
theorem Q1b.eq (x0 : (List Int) × Int × Int) (x1 : Int) : Q1b x0 x1 =
 (Qb x0 (IntKind.i64.wrap ((if IntKind.i64.wrap ((1 : Int) + (IntKind.i64.wrap ((x0.1.length : Int).tdiv 8))) < x1 then IntKind.i64.wrap ((1 : Int) + (IntKind.i64.wrap ((x0.1.length : Int).tdiv 8))) else x1) + 1))).bind fun y1 =>
 some (y1.1, y1.2) := by kernel_rfl
noncomputable abbrev Q09.s : Sg := ⟨[.keep, .lend], [.one (.ptr true 111 [.b (.b (.b (.sl false false 5))), .b (.b (.b (.int .i64))), .b (.b (.b (.int .i64)))]), vi], ⟨[vb], [some (.one (.ptr true 111 [.b (.b (.b (.sl false false 5))), .b (.b (.b (.int .i64))), .b (.b (.b (.int .i64)))])), none]⟩, Tryz.f36⟩
noncomputable def Q09.gs (δ : Type) : List (Nat × KC δ) := [(84, Qb.k)]
theorem Q09.gok (δ : Type) : Q4 Tryz.prog tab (Q09.gs δ) := .cons Qb.con .nil
noncomputable def Q09.c := cx Q09.s [] [] [] false (Q09.gs _)
noncomputable def Q09 (x0 : (List Int) × Int × Int) (x1 : Int) : Option (Bool × ((List Int) × Int × Int)) := fnW Q09.s Q09.c (x0, x1)
theorem Q09.fok : FkS Q09.s 36 := ⟨Tryz.func36, by kernel_rfl, by kernel_rfl⟩
noncomputable def Q09.fn (x : Args tab Q09.s.ar) : Option (ResT tab Q09.s.rs) := Q09 x.1 x.2
noncomputable abbrev Q09.k {δ : Type} : KC δ := kS Q09.s Q09.fn
theorem Q09.con {δ : Type} : Con Tryz.prog (KT tab) 36 (Q09.k (δ := δ)) := Q5 (c := Q09.c) mixed Q0 (Q1 (Q09.gok _)) Q09.fok rfl rfl fun _ => rfl
theorem Q09.eq (x0 : (List Int) × Int × Int) (x1 : Int) : Q09 x0 x1 =
 (Qb x0 x1).bind fun y1 =>
 some (y1.1 == IntKind.i64.wrap (x1 - 1), y1.2) := by kernel_rfl
noncomputable abbrev QC.s : Sg := ⟨[.keep, .lend], [.one (.ptr true 111 [.b (.b (.b (.sl false false 5))), .b (.b (.b (.int .i64))), .b (.b (.b (.int .i64)))]), vi], ⟨[vo 5], [some (.one (.ptr true 111 [.b (.b (.b (.sl false false 5))), .b (.b (.b (.int .i64))), .b (.b (.b (.int .i64)))])), none]⟩, Tryz.f83⟩
noncomputable def QC.gs (δ : Type) : List (Nat × KC δ) := [(36, Q09.k), (84, Qb.k), (135, Q1b.k)]
theorem QC.gok (δ : Type) : Q4 Tryz.prog tab (QC.gs δ) := .cons Q09.con (.cons Qb.con (.cons Q1b.con .nil))
noncomputable def QC.c := cx QC.s [] [] [(4, [0, 1, 5, 6, 7])] false (QC.gs _)
noncomputable def QC (x0 : (List Int) × Int × Int) (x1 : Int) : Option ((List Int) × ((List Int) × Int × Int)) := fnW QC.s QC.c (x0, x1)
theorem QC.fok : FkS QC.s 83 := ⟨Tryz.func83, by kernel_rfl, by kernel_rfl⟩
noncomputable def QC.fn (x : Args tab QC.s.ar) : Option (ResT tab QC.s.rs) := QC x.1 x.2
noncomputable abbrev QC.k {δ : Type} : KC δ := kS QC.s QC.fn
theorem QC.con {δ : Type} : Con Tryz.prog (KT tab) 83 (QC.k (δ := δ)) := Q5 (c := QC.c) mixed Q0 (Q1 (QC.gok _)) QC.fok rfl rfl fun _ => rfl
noncomputable def QC_l0 (v0 : Int) (v1 : ByteArray) (v2 : Int) (v3 : List Int) (v4 v5 : Int) (v6 : List Int) : Option ((List Int) × ((List Int) × Int × Int)) := lpW QC.s QC.c 0 (ud 55 [.ptr 0 0, .int .i64 v0, .undef, .undef, .undef, .sl 1 0, .str v1, .int .i64 v2]) [.box 111 [.vs false 5 v3, .int .i64 v4, .int .i64 v5], .row 0 true 5 v6] 2
theorem QC.eq (x0 : (List Int) × Int × Int) (x1 : Int) : QC x0 x1 =
 (Qb x0 5).bind fun y1 =>
 (at? ([(⟨#[97]⟩ : ByteArray), (⟨#[97, 98]⟩ : ByteArray), (⟨#[97, 98, 99]⟩ : ByteArray), (⟨#[97, 99, 103, 116]⟩ : ByteArray), (⟨#[0, 255]⟩ : ByteArray)] : List ByteArray) y1.1).bind fun y2 =>
 ([(⟨#[97]⟩ : ByteArray), (⟨#[97, 98]⟩ : ByteArray), (⟨#[97, 98, 99]⟩ : ByteArray), (⟨#[97, 99, 103, 116]⟩ : ByteArray), (⟨#[0, 255]⟩ : ByteArray)] : List ByteArray)[y1.1.toNat]?.bind fun y3 =>
 (Q1b y1.2 x1).bind fun y4 =>
 QC_l0 x1 y3 y4.1 y4.2.1 y4.2.2.1 y4.2.2.2 ([] : List Int) := by kernel_rfl
theorem QC_l0.eq (v0 : Int) (v1 : ByteArray) (v2 : Int) (v3 : List Int) (v4 v5 : Int) (v6 : List Int) : QC_l0 v0 v1 v2 v3 v4 v5 v6 =
 bif decide (v2 > 0) then
 bif decide ((v6.length : Int) > 3) then
 (Q09 (v3, v4, v5) 6).bind fun y1 =>
 bif y1.1 then
 (Qb y1.2 (v6.length : Int)).bind fun y2 =>
 (Qb y2.2 6).bind fun y3 =>
 bif decide (0 ≤ (if IntKind.i64.wrap ((IntKind.i64.wrap (y2.1 + 1)) + y3.1) < (v6.length : Int) then IntKind.i64.wrap ((IntKind.i64.wrap (y2.1 + 1)) + y3.1) else (v6.length : Int)) ∧ (if IntKind.i64.wrap ((IntKind.i64.wrap (y2.1 + 1)) + y3.1) < (v6.length : Int) then IntKind.i64.wrap ((IntKind.i64.wrap (y2.1 + 1)) + y3.1) else (v6.length : Int)) ≤ ((v6.length : Nat) : Int)) then
 bif decide (0 ≤ y2.1 ∧ y2.1 ≤ (((if IntKind.i64.wrap ((IntKind.i64.wrap (y2.1 + 1)) + y3.1) < (v6.length : Int) then IntKind.i64.wrap ((IntKind.i64.wrap (y2.1 + 1)) + y3.1) else (v6.length : Int)).toNat : Nat) : Int)) then
 bif decide ((v6.length + ((v6.drop y2.1.toNat).take (((if IntKind.i64.wrap ((IntKind.i64.wrap (y2.1 + 1)) + y3.1) < (v6.length : Int) then IntKind.i64.wrap ((IntKind.i64.wrap (y2.1 + 1)) + y3.1) else (v6.length : Int)).toNat) - y2.1.toNat)).length) * 1 ≤ 140737488355328) then
 QC_l0 v0 v1 (IntKind.i64.wrap (v2 - 1)) y3.2.1 y3.2.2.1 y3.2.2.2 (v6 ++ ((v6.drop y2.1.toNat).take (((if IntKind.i64.wrap ((IntKind.i64.wrap (y2.1 + 1)) + y3.1) < (v6.length : Int) then IntKind.i64.wrap ((IntKind.i64.wrap (y2.1 + 1)) + y3.1) else (v6.length : Int)).toNat) - y2.1.toNat)))
 else
 none
 else
 none
 else
 none
 else
 (Qb y1.2 (v1.size : Int)).bind fun y4 =>
 (at? v1.data.toList y4.1).bind fun y5 =>
 bif decide ((v6.length + ([(y5.toNat : Int)] : List Int).length) * 1 ≤ 140737488355328) then
 QC_l0 v0 v1 (IntKind.i64.wrap (v2 - 1)) y4.2.1 y4.2.2.1 y4.2.2.2 (v6 ++ ([(y5.toNat : Int)] : List Int))
 else
 none
 else
 (Qb (v3, v4, v5) (v1.size : Int)).bind fun y6 =>
 (at? v1.data.toList y6.1).bind fun y7 =>
 bif decide ((v6.length + ([(y7.toNat : Int)] : List Int).length) * 1 ≤ 140737488355328) then
 QC_l0 v0 v1 (IntKind.i64.wrap (v2 - 1)) y6.2.1 y6.2.2.1 y6.2.2.2 (v6 ++ ([(y7.toNat : Int)] : List Int))
 else
 none
 else
 bif decide ((v6.length : Int) > v0) then
 bif decide (0 ≤ v0 ∧ v0 ≤ ((v6.length : Nat) : Int)) then
 some (v6.take (v0.toNat - 0), (v3, v4, v5))
 else
 none
 else
 some (v6, (v3, v4, v5)) := (Q7 Q0 (Q1 (QC.gok _)) _ _).trans (by kernel_rfl)
noncomputable abbrev QR.s : Sg := ⟨[.keep, .lend], [.one (.ptr true 111 [.b (.b (.b (.sl false false 5))), .b (.b (.b (.int .i64))), .b (.b (.b (.int .i64)))]), vi], ⟨[vo 5, vo 5], [some (.one (.ptr true 111 [.b (.b (.b (.sl false false 5))), .b (.b (.b (.int .i64))), .b (.b (.b (.int .i64)))])), none]⟩, Tryz.f33⟩
noncomputable def QR.gs (δ : Type) : List (Nat × KC δ) := [(36, Q09.k), (83, QC.k), (84, Qb.k)]
theorem QR.gok (δ : Type) : Q4 Tryz.prog tab (QR.gs δ) := .cons Q09.con (.cons QC.con (.cons Qb.con .nil))
noncomputable def QR.c := cx QR.s [] [11] [(4, [0, 1, 6, 7, 8]), (11, [0, 1, 6, 7])] false (QR.gs _)
noncomputable def QR (x0 : (List Int) × Int × Int) (x1 : Int) : Option ((List Int) × (List Int) × ((List Int) × Int × Int)) := fnW QR.s QR.c (x0, x1)
theorem QR.fok : FkS QR.s 33 := ⟨Tryz.func33, by kernel_rfl, by kernel_rfl⟩
noncomputable def QR.fn (x : Args tab QR.s.ar) : Option (ResT tab QR.s.rs) := QR x.1 x.2
noncomputable abbrev QR.k {δ : Type} : KC δ := kS QR.s QR.fn
theorem QR.con {δ : Type} : Con Tryz.prog (KT tab) 33 (QR.k (δ := δ)) := Q5 (c := QR.c) mixed Q0 (Q1 (QR.gok _)) QR.fok rfl rfl fun _ => rfl
noncomputable def QR_l0 (v0 v1 : Int) (v2 : List Int) (v3 v4 : Int) (v5 v6 : List Int) : Option ((List Int) × (List Int) × ((List Int) × Int × Int)) := lpW QR.s QR.c 0 (ud 56 [.ptr 0 0, .int .i64 v0, .undef, .undef, .undef, .undef, .sl 1 0, .sl 2 0, .int .i64 v1]) [.box 111 [.vs false 5 v2, .int .i64 v3, .int .i64 v4], .row 0 true 5 v5, .row 0 true 5 v6] 3
noncomputable def QR_l1 (v0 : Int) (v1 : List Int) (v2 v3 : Int) (v4 v5 : List Int) : Option ((List Int) × (List Int) × ((List Int) × Int × Int)) := lpW QR.s QR.c 1 (ud 57 [.ptr 0 0, .int .i64 v0, .undef, .undef, .undef, .undef, .sl 1 0, .sl 2 0]) [.box 111 [.vs false 5 v1, .int .i64 v2, .int .i64 v3], .row 0 true 5 v4, .row 0 true 5 v5] 3
theorem QR.eq (x0 : (List Int) × Int × Int) (x1 : Int) : QR x0 x1 =
 (QC x0 x1).bind fun y1 =>
 bif decide ((([] : List Int).length + y1.1.length) * 1 ≤ 140737488355328) then
 (Qb y1.2 4).bind fun y2 =>
 QR_l0 x1 y2.1 y2.2.1 y2.2.2.1 y2.2.2.2 y1.1 (([] : List Int) ++ y1.1)
 else
 none := by kernel_rfl
theorem QR_l0.eq (v0 v1 : Int) (v2 : List Int) (v3 v4 : Int) (v5 v6 : List Int) : QR_l0 v0 v1 v2 v3 v4 v5 v6 =
 bif decide (v1 > 0) then
 (Qb (v2, v3, v4) (IntKind.i64.wrap ((v6.length : Int) + 1))).bind fun y1 =>
 (Qb y1.2 4).bind fun y2 =>
 (at? ([(⟨#[]⟩ : ByteArray), (⟨#[97]⟩ : ByteArray), (⟨#[98]⟩ : ByteArray), (⟨#[122, 122]⟩ : ByteArray)] : List ByteArray) y2.1).bind fun y3 =>
 ([(⟨#[]⟩ : ByteArray), (⟨#[97]⟩ : ByteArray), (⟨#[98]⟩ : ByteArray), (⟨#[122, 122]⟩ : ByteArray)] : List ByteArray)[y2.1.toNat]?.bind fun y4 =>
 bif decide (0 ≤ y1.1 ∧ y1.1 ≤ ((v6.length : Nat) : Int)) then
 bif decide ((([] : List Int).length + ((v6.drop 0).take (y1.1.toNat - 0)).length) * 1 ≤ 140737488355328) then
 bif decide (((([] : List Int) ++ ((v6.drop 0).take (y1.1.toNat - 0))).length + (y4.data.toList.map fun b => (b.toNat : Int)).length) * 1 ≤ 140737488355328) then
 (Qb y2.2 3).bind fun y5 =>
 bif decide (0 ≤ (if IntKind.i64.wrap (y1.1 + y5.1) < (v6.length : Int) then IntKind.i64.wrap (y1.1 + y5.1) else (v6.length : Int)) ∧ (if IntKind.i64.wrap (y1.1 + y5.1) < (v6.length : Int) then IntKind.i64.wrap (y1.1 + y5.1) else (v6.length : Int)) ≤ ((v6.length : Nat) : Int)) then
 bif decide ((((([] : List Int) ++ ((v6.drop 0).take (y1.1.toNat - 0))) ++ (y4.data.toList.map fun b => (b.toNat : Int))).length + ((v6.drop ((if IntKind.i64.wrap (y1.1 + y5.1) < (v6.length : Int) then IntKind.i64.wrap (y1.1 + y5.1) else (v6.length : Int)).toNat)).take (v6.length - ((if IntKind.i64.wrap (y1.1 + y5.1) < (v6.length : Int) then IntKind.i64.wrap (y1.1 + y5.1) else (v6.length : Int)).toNat))).length) * 1 ≤ 140737488355328) then
 QR_l0 v0 (IntKind.i64.wrap (v1 - 1)) y5.2.1 y5.2.2.1 y5.2.2.2 v5 (((([] : List Int) ++ ((v6.drop 0).take (y1.1.toNat - 0))) ++ (y4.data.toList.map fun b => (b.toNat : Int))) ++ ((v6.drop ((if IntKind.i64.wrap (y1.1 + y5.1) < (v6.length : Int) then IntKind.i64.wrap (y1.1 + y5.1) else (v6.length : Int)).toNat)).take (v6.length - ((if IntKind.i64.wrap (y1.1 + y5.1) < (v6.length : Int) then IntKind.i64.wrap (y1.1 + y5.1) else (v6.length : Int)).toNat))))
 else
 none
 else
 none
 else
 none
 else
 none
 else
 none
 else
 (Q09 (v2, v3, v4) 6).bind fun y6 =>
 bif y6.1 then
 (QC y6.2 v0).bind fun y7 =>
 QR_l1 v0 y7.2.1 y7.2.2.1 y7.2.2.2 v5 y7.1
 else
 QR_l1 v0 y6.2.1 y6.2.2.1 y6.2.2.2 v5 v6 := (Q7 Q0 (Q1 (QR.gok _)) _ _).trans (by kernel_rfl)
theorem QR_l1.eq (v0 : Int) (v1 : List Int) (v2 v3 : Int) (v4 v5 : List Int) : QR_l1 v0 v1 v2 v3 v4 v5 =
 bif decide ((v5.length : Int) > v0) then
 bif decide (0 ≤ v0 ∧ v0 ≤ ((v5.length : Nat) : Int)) then
 some (v4, v5.take (v0.toNat - 0), (v1, v2, v3))
 else
 none
 else
 some (v4, v5, (v1, v2, v3)) := (Q7 Q0 (Q1 (QR.gok _)) _ _).trans (by kernel_rfl)
noncomputable abbrev Q0P.s : Sg := ⟨[.keep], [.one (.ptr true 111 [.b (.b (.b (.sl false false 5))), .b (.b (.b (.int .i64))), .b (.b (.b (.int .i64)))])], ⟨[vi], [some (.one (.ptr true 111 [.b (.b (.b (.sl false false 5))), .b (.b (.b (.int .i64))), .b (.b (.b (.int .i64)))]))]⟩, Tryz.f35⟩
noncomputable def Q0P.gs (δ : Type) : List (Nat × KC δ) := [(84, Qb.k)]
theorem Q0P.gok (δ : Type) : Q4 Tryz.prog tab (Q0P.gs δ) := .cons Qb.con .nil
noncomputable def Q0P.c := cx Q0P.s [] [] [] false (Q0P.gs _)
noncomputable def Q0P (x0 : (List Int) × Int × Int) : Option (Int × ((List Int) × Int × Int)) := fnW Q0P.s Q0P.c x0
theorem Q0P.fok : FkS Q0P.s 35 := ⟨Tryz.func35, by kernel_rfl, by kernel_rfl⟩
noncomputable def Q0P.fn (x : Args tab Q0P.s.ar) : Option (ResT tab Q0P.s.rs) := Q0P x
noncomputable abbrev Q0P.k {δ : Type} : KC δ := kS Q0P.s Q0P.fn
theorem Q0P.con {δ : Type} : Con Tryz.prog (KT tab) 35 (Q0P.k (δ := δ)) := Q5 (c := Q0P.c) mixed Q0 (Q1 (Q0P.gok _)) Q0P.fok rfl rfl fun _ => rfl
theorem Q0P.eq (x0 : (List Int) × Int × Int) : Q0P x0 =
 (Qb x0 5).bind fun y1 =>
 (at? ([1, 2, 3, 8, 64] : List Int) y1.1).bind fun y2 =>
 ([1, 2, 3, 8, 64] : List Int)[y1.1.toNat]?.bind fun y3 =>
 some (y3, y1.2) := by kernel_rfl
noncomputable abbrev QS.s : Sg := ⟨[.keep], [.one (.ptr true 111 [.b (.b (.b (.sl false false 5))), .b (.b (.b (.int .i64))), .b (.b (.b (.int .i64)))])], ⟨[vi], [some (.one (.ptr true 111 [.b (.b (.b (.sl false false 5))), .b (.b (.b (.int .i64))), .b (.b (.b (.int .i64)))]))]⟩, Tryz.f38⟩
noncomputable def QS.gs (δ : Type) : List (Nat × KC δ) := [(84, Qb.k)]
theorem QS.gok (δ : Type) : Q4 Tryz.prog tab (QS.gs δ) := .cons Qb.con .nil
noncomputable def QS.c := cx QS.s [] [] [] false (QS.gs _)
noncomputable def QS (x0 : (List Int) × Int × Int) : Option (Int × ((List Int) × Int × Int)) := fnW QS.s QS.c x0
theorem QS.fok : FkS QS.s 38 := ⟨Tryz.func38, by kernel_rfl, by kernel_rfl⟩
noncomputable def QS.fn (x : Args tab QS.s.ar) : Option (ResT tab QS.s.rs) := QS x
noncomputable abbrev QS.k {δ : Type} : KC δ := kS QS.s QS.fn
theorem QS.con {δ : Type} : Con Tryz.prog (KT tab) 38 (QS.k (δ := δ)) := Q5 (c := QS.c) mixed Q0 (Q1 (QS.gok _)) QS.fok rfl rfl fun _ => rfl
theorem QS.eq (x0 : (List Int) × Int × Int) : QS x0 =
 (Qb x0 8).bind fun y1 =>
 bif y1.1 == 0 then
 (Qb y1.2 256).bind fun y2 =>
 some (IntKind.i64.wrap (y2.1 - 128), y2.2)
 else
 bif y1.1 == 1 then
 (Qb y1.2 8).bind fun y3 =>
 (at? ([9223372036854775807, (-9223372036854775808 : Int), 4611686018427387904, 4294967295, 4294967296, (-1000 : Int), 1000, 257] : List Int) y3.1).bind fun y4 =>
 ([9223372036854775807, (-9223372036854775808 : Int), 4611686018427387904, 4294967295, 4294967296, (-1000 : Int), 1000, 257] : List Int)[y3.1.toNat]?.bind fun y5 =>
 some (y5, y3.2)
 else
 (Qb y1.2 14).bind fun y6 =>
 some (IntKind.i64.wrap (y6.1 - 3), y6.2) := by kernel_rfl
noncomputable abbrev Q1G.s : Sg := ⟨[.keep, .lend], [.one (.ptr true 111 [.b (.b (.b (.sl false false 5))), .b (.b (.b (.int .i64))), .b (.b (.b (.int .i64)))]), vi], ⟨[vi], [some (.one (.ptr true 111 [.b (.b (.b (.sl false false 5))), .b (.b (.b (.int .i64))), .b (.b (.b (.int .i64)))])), none]⟩, Tryz.f179⟩
noncomputable def Q1G.gs (δ : Type) : List (Nat × KC δ) := [(84, Qb.k)]
theorem Q1G.gok (δ : Type) : Q4 Tryz.prog tab (Q1G.gs δ) := .cons Qb.con .nil
noncomputable def Q1G.c := cx Q1G.s [] [] [] false (Q1G.gs _)
noncomputable def Q1G (x0 : (List Int) × Int × Int) (x1 : Int) : Option (Int × ((List Int) × Int × Int)) := fnW Q1G.s Q1G.c (x0, x1)
theorem Q1G.fok : FkS Q1G.s 179 := ⟨Tryz.func179, by kernel_rfl, by kernel_rfl⟩
noncomputable def Q1G.fn (x : Args tab Q1G.s.ar) : Option (ResT tab Q1G.s.rs) := Q1G x.1 x.2
noncomputable abbrev Q1G.k {δ : Type} : KC δ := kS Q1G.s Q1G.fn
theorem Q1G.con {δ : Type} : Con Tryz.prog (KT tab) 179 (Q1G.k (δ := δ)) := Q5 (c := Q1G.c) mixed Q0 (Q1 (Q1G.gok _)) Q1G.fok rfl rfl fun _ => rfl
theorem Q1G.eq (x0 : (List Int) × Int × Int) (x1 : Int) : Q1G x0 x1 =
 (Qb x0 256).bind fun y1 =>
 (Qb y1.2 256).bind fun y2 =>
 (Qb y2.2 256).bind fun y3 =>
 bif decide (x1 = 0) then
 none
 else
 some ((IntKind.i64.wrap ((IntKind.i64.wrap ((IntKind.i64.wrap ((65536 : Int) * y1.1)) + (IntKind.i64.wrap ((256 : Int) * y2.1)))) + y3.1)).tmod x1, y3.2) := by kernel_rfl
noncomputable abbrev Q0f.s : Sg := ⟨[.keep, .lend, .lend], [.one (.ptr true 111 [.b (.b (.b (.sl false false 5))), .b (.b (.b (.int .i64))), .b (.b (.b (.int .i64)))]), vi, vi], ⟨[vo 3], [some (.one (.ptr true 111 [.b (.b (.b (.sl false false 5))), .b (.b (.b (.int .i64))), .b (.b (.b (.int .i64)))])), none, none]⟩, Tryz.f140⟩
noncomputable def Q0f.gs (δ : Type) : List (Nat × KC δ) := [(135, Q1b.k), (179, Q1G.k)]
theorem Q0f.gok (δ : Type) : Q4 Tryz.prog tab (Q0f.gs δ) := .cons Q1b.con (.cons Q1G.con .nil)
noncomputable def Q0f.c := cx Q0f.s [] [] [(3, [0, 2, 7, 8])] false (Q0f.gs _)
noncomputable def Q0f (x0 : (List Int) × Int × Int) (x1 x2 : Int) : Option ((List Int) × ((List Int) × Int × Int)) := fnW Q0f.s Q0f.c (x0, x1, x2)
theorem Q0f.fok : FkS Q0f.s 140 := ⟨Tryz.func140, by kernel_rfl, by kernel_rfl⟩
noncomputable def Q0f.fn (x : Args tab Q0f.s.ar) : Option (ResT tab Q0f.s.rs) := Q0f x.1 x.2.1 x.2.2
noncomputable abbrev Q0f.k {δ : Type} : KC δ := kS Q0f.s Q0f.fn
theorem Q0f.con {δ : Type} : Con Tryz.prog (KT tab) 140 (Q0f.k (δ := δ)) := Q5 (c := Q0f.c) mixed Q0 (Q1 (Q0f.gok _)) Q0f.fok rfl rfl fun _ => rfl
noncomputable def Q0f_l0 (v0 v1 : Int) (v2 : List Int) (v3 v4 : Int) (v5 : List Int) : Option ((List Int) × ((List Int) × Int × Int)) := lpW Q0f.s Q0f.c 0 (ud 16 [.ptr 0 0, .undef, .int .i64 v0, .undef, .undef, .undef, .undef, .sl 1 0, .int .i64 v1]) [.box 111 [.vs false 5 v2, .int .i64 v3, .int .i64 v4], .row 0 true 3 v5] 2
theorem Q0f.eq (x0 : (List Int) × Int × Int) (x1 x2 : Int) : Q0f x0 x1 x2 =
 (Q1b x0 x1).bind fun y1 =>
 Q0f_l0 x2 y1.1 y1.2.1 y1.2.2.1 y1.2.2.2 ([] : List Int) := by kernel_rfl
theorem Q0f_l0.eq (v0 v1 : Int) (v2 : List Int) (v3 v4 : Int) (v5 : List Int) : Q0f_l0 v0 v1 v2 v3 v4 v5 =
 bif decide (v1 > 0) then
 (Q1G (v2, v3, v4) (if v0 > 1 then v0 else 1)).bind fun y1 =>
 bif decide ((v5.length + ([y1.1] : List Int).length) * 8 ≤ 140737488355328) then
 Q0f_l0 v0 (IntKind.i64.wrap (v1 - 1)) y1.2.1 y1.2.2.1 y1.2.2.2 (v5 ++ ([y1.1] : List Int))
 else
 none
 else
 some (v5, (v2, v3, v4)) := (Q7 Q0 (Q1 (Q0f.gok _)) _ _).trans (by kernel_rfl)
noncomputable abbrev QZ.s : Sg := ⟨[.keep], [.one (.ptr true 111 [.b (.b (.b (.sl false false 5))), .b (.b (.b (.int .i64))), .b (.b (.b (.int .i64)))])], ⟨[vo 3], [some (.one (.ptr true 111 [.b (.b (.b (.sl false false 5))), .b (.b (.b (.int .i64))), .b (.b (.b (.int .i64)))]))]⟩, Tryz.f141⟩
noncomputable def QZ.gs (δ : Type) : List (Nat × KC δ) := [(36, Q09.k), (84, Qb.k), (91, Q0X.k)]
theorem QZ.gok (δ : Type) : Q4 Tryz.prog tab (QZ.gs δ) := .cons Q09.con (.cons Qb.con (.cons Q0X.con .nil))
noncomputable def QZ.c := cx QZ.s [] [] [(4, [0, 3, 4, 5]), (11, [0, 3])] false (QZ.gs _)
noncomputable def QZ (x0 : (List Int) × Int × Int) : Option ((List Int) × ((List Int) × Int × Int)) := fnW QZ.s QZ.c x0
theorem QZ.fok : FkS QZ.s 141 := ⟨Tryz.func141, by kernel_rfl, by kernel_rfl⟩
noncomputable def QZ.fn (x : Args tab QZ.s.ar) : Option (ResT tab QZ.s.rs) := QZ x
noncomputable abbrev QZ.k {δ : Type} : KC δ := kS QZ.s QZ.fn
theorem QZ.con {δ : Type} : Con Tryz.prog (KT tab) 141 (QZ.k (δ := δ)) := Q5 (c := QZ.c) mixed Q0 (Q1 (QZ.gok _)) QZ.fok rfl rfl fun _ => rfl
noncomputable def QZ_l0 (v0 v1 : Int) (v2 : List Int) (v3 v4 : Int) (v5 : List Int) : Option ((List Int) × ((List Int) × Int × Int)) := lpW QZ.s QZ.c 0 (ud 42 [.ptr 0 0, .undef, .undef, .sl 1 0, .int .i64 v0, .int .i64 v1]) [.box 111 [.vs false 5 v2, .int .i64 v3, .int .i64 v4], .row 0 true 3 v5] 2
noncomputable def QZ_l1 (v0 : List Int) (v1 v2 : Int) (v3 : List Int) : Option ((List Int) × ((List Int) × Int × Int)) := lpW QZ.s QZ.c 1 (ud 44 [.ptr 0 0, .undef, .undef, .sl 1 0]) [.box 111 [.vs false 5 v0, .int .i64 v1, .int .i64 v2], .row 0 true 3 v3] 2
theorem QZ.eq (x0 : (List Int) × Int × Int) : QZ x0 =
 (Qb x0 4).bind fun y1 =>
 (Qb y1.2 3).bind fun y2 =>
 (at? ([5, 40, 140] : List Int) y2.1).bind fun y3 =>
 ([5, 40, 140] : List Int)[y2.1.toNat]?.bind fun y4 =>
 (Qb y2.2 y4).bind fun y5 =>
 QZ_l0 y1.1 y5.1 y5.2.1 y5.2.2.1 y5.2.2.2 ([] : List Int) := by kernel_rfl
theorem QZ_l0.eq (v0 v1 : Int) (v2 : List Int) (v3 v4 : Int) (v5 : List Int) : QZ_l0 v0 v1 v2 v3 v4 v5 =
 bif decide (v1 > 0) then
 (Qb (v2, v3, v4) 2).bind fun y1 =>
 bif v0 == 0 then
 (Q09 y1.2 9).bind fun y2 =>
 (Q0X y2.1).bind fun y3 =>
 bif decide ((v5.length + ([y3] : List Int).length) * 8 ≤ 140737488355328) then
 QZ_l0 v0 (IntKind.i64.wrap (v1 - 1)) y2.2.1 y2.2.2.1 y2.2.2.2 (v5 ++ ([y3] : List Int))
 else
 none
 else
 bif decide ((v5.length + ([y1.1] : List Int).length) * 8 ≤ 140737488355328) then
 QZ_l0 v0 (IntKind.i64.wrap (v1 - 1)) y1.2.1 y1.2.2.1 y1.2.2.2 (v5 ++ ([y1.1] : List Int))
 else
 none
 else
 (Q09 (v2, v3, v4) 60).bind fun y4 =>
 bif y4.1 then
 QZ_l1 y4.2.1 y4.2.2.1 y4.2.2.2 v5
 else
 some (v5, y4.2) := (Q7 Q0 (Q1 (QZ.gok _)) _ _).trans (by kernel_rfl)
theorem QZ_l1.eq (v0 : List Int) (v1 v2 : Int) (v3 : List Int) : QZ_l1 v0 v1 v2 v3 =
 (Qb (v0, v1, v2) 2).bind fun y1 =>
 bif decide ((v3.length : Int) < IntKind.i64.wrap ((5000 : Int) + y1.1)) then
 bif decide ((v3.length + ([IntKind.i64.wrap (((v3.length : Int).tmod 3).tdiv 2)] : List Int).length) * 8 ≤ 140737488355328) then
 QZ_l1 y1.2.1 y1.2.2.1 y1.2.2.2 (v3 ++ ([IntKind.i64.wrap (((v3.length : Int).tmod 3).tdiv 2)] : List Int))
 else
 none
 else
 some (v3, y1.2) := (Q7 Q0 (Q1 (QZ.gok _)) _ _).trans (by kernel_rfl)
noncomputable abbrev Q0Q.s : Sg := ⟨[.keep], [.one (.ptr true 111 [.b (.b (.b (.sl false false 5))), .b (.b (.b (.int .i64))), .b (.b (.b (.int .i64)))])], ⟨[ag0], [some (.one (.ptr true 111 [.b (.b (.b (.sl false false 5))), .b (.b (.b (.int .i64))), .b (.b (.b (.int .i64)))]))]⟩, Tryz.f96⟩
noncomputable def Q0Q.gs (δ : Type) : List (Nat × KC δ) := [(38, QS.k), (84, Qb.k), (92, Qo.k), (141, QZ.k)]
theorem Q0Q.gok (δ : Type) : Q4 Tryz.prog tab (Q0Q.gs δ) := .cons QS.con (.cons Qb.con (.cons Qo.con (.cons QZ.con .nil)))
noncomputable def Q0Q.c := cx Q0Q.s [] [] [] false (Q0Q.gs _)
noncomputable def Q0Q (x0 : (List Int) × Int × Int) : Option ((Int × (List Int)) × ((List Int) × Int × Int)) := fnW Q0Q.s Q0Q.c x0
theorem Q0Q.fok : FkS Q0Q.s 96 := ⟨Tryz.func96, by kernel_rfl, by kernel_rfl⟩
noncomputable def Q0Q.fn (x : Args tab Q0Q.s.ar) : Option (ResT tab Q0Q.s.rs) := Q0Q x
noncomputable abbrev Q0Q.k {δ : Type} : KC δ := kS Q0Q.s Q0Q.fn
theorem Q0Q.con {δ : Type} : Con Tryz.prog (KT tab) 96 (Q0Q.k (δ := δ)) := Q5 (c := Q0Q.c) mixed Q0 (Q1 (Q0Q.gok _)) Q0Q.fok rfl rfl fun _ => rfl
theorem Q0Q.eq (x0 : (List Int) × Int × Int) : Q0Q x0 =
 (QZ x0).bind fun y1 =>
 (Qo y1.1).bind fun y2 =>
 (Qb y1.2 14).bind fun y3 =>
 bif y3.1 == 0 then
 (QS y3.2).bind fun y4 =>
 (Qb y4.2 3).bind fun y5 =>
 (at? ([y4.1, IntKind.i64.wrap (y2.1.1 + 1), IntKind.i64.wrap (y2.1.1 - 1)] : List Int) y5.1).bind fun y6 =>
 ([y4.1, IntKind.i64.wrap (y2.1.1 + 1), IntKind.i64.wrap (y2.1.1 - 1)] : List Int)[y5.1.toNat]?.bind fun y7 =>
 some ((y7, y2.1.2), y5.2)
 else
 bif y3.1 == 1 then
 (Qb y3.2 2).bind fun y8 =>
 bif decide ((y2.1.2.length + ([IntKind.u64.wrap y8.1] : List Int).length) * 8 ≤ 140737488355328) then
 some ((y2.1.1, y2.1.2 ++ ([IntKind.u64.wrap y8.1] : List Int)), y8.2)
 else
 none
 else
 bif y3.1 == 2 then
 bif decide ((y2.1.2.length : Int) > 0) then
 (Qb y3.2 (y2.1.2.length : Int)).bind fun y9 =>
 (at? y2.1.2 y9.1).bind fun y10 =>
 y2.1.2[y9.1.toNat]?.bind fun y11 =>
 some ((y2.1.1, y2.1.2.set y9.1.toNat 18446744073709551615), y9.2)
 else
 some (y2.1, y3.2)
 else
 some (y2.1, y3.2) := by kernel_rfl
noncomputable abbrev Q0n.s : Sg := ⟨[.keep], [.one (.ptr true 111 [.b (.b (.b (.sl false false 5))), .b (.b (.b (.int .i64))), .b (.b (.b (.int .i64)))])], ⟨[ag1], [some (.one (.ptr true 111 [.b (.b (.b (.sl false false 5))), .b (.b (.b (.int .i64))), .b (.b (.b (.int .i64)))]))]⟩, Tryz.f95⟩
noncomputable def Q0n.gs (δ : Type) : List (Nat × KC δ) := [(36, Q09.k), (38, QS.k), (83, QC.k), (84, Qb.k), (88, Qw.k), (90, Qj.k), (96, Q0Q.k), (140, Q0f.k)]
theorem Q0n.gok (δ : Type) : Q4 Tryz.prog tab (Q0n.gs δ) := .cons Q09.con (.cons QS.con (.cons QC.con (.cons Qb.con (.cons Qw.con (.cons Qj.con (.cons Q0Q.con (.cons Q0f.con .nil)))))))
noncomputable def Q0n.c := cx Q0n.s [] [4] [(4, [0, 2, 3])] false (Q0n.gs _)
noncomputable def Q0n (x0 : (List Int) × Int × Int) : Option ((Int × (List Int) × (List (Int × (List Int)))) × ((List Int) × Int × Int)) := fnW Q0n.s Q0n.c x0
theorem Q0n.fok : FkS Q0n.s 95 := ⟨Tryz.func95, by kernel_rfl, by kernel_rfl⟩
noncomputable def Q0n.fn (x : Args tab Q0n.s.ar) : Option (ResT tab Q0n.s.rs) := Q0n x
noncomputable abbrev Q0n.k {δ : Type} : KC δ := kS Q0n.s Q0n.fn
theorem Q0n.con {δ : Type} : Con Tryz.prog (KT tab) 95 (Q0n.k (δ := δ)) := Q5 (c := Q0n.c) mixed Q0 (Q1 (Q0n.gok _)) Q0n.fok rfl rfl fun _ => rfl
noncomputable def Q0n_l0 (v0 : List Int) (v1 v2 v3 : Int) (v4 : List Int) (v5 : List (Int × (List Int))) (v6 : List Int) : Option ((Int × (List Int) × (List (Int × (List Int)))) × ((List Int) × Int × Int)) := lpW Q0n.s Q0n.c 0 (ud 64 [.ptr 0 0, .undef, .ptr 1 0, .sl 4 0]) [.box 111 [.vs false 5 v0, .int .i64 v1, .int .i64 v2], .box 27 [.int .i64 v3, .sl 2 0, .sl 3 0], .row 0 true 3 v4, .row 0 true 30 v5, .row 0 true 3 v6] 5
theorem Q0n.eq (x0 : (List Int) × Int × Int) : Q0n x0 =
 (Qb x0 3).bind fun y1 =>
 (at? ([3, 100, 512] : List Int) y1.1).bind fun y2 =>
 ([3, 100, 512] : List Int)[y1.1.toNat]?.bind fun y3 =>
 (Q0f y1.2 24 y3).bind fun y4 =>
 (Q09 y4.2 3).bind fun y5 =>
 bif y5.1 then
 (QC y5.2 24).bind fun y6 =>
 (Qw y6.1).bind fun y7 =>
 Q0n_l0 y6.2.1 y6.2.2.1 y6.2.2.2 0 ([] : List Int) ([] : List (Int × (List Int))) y7
 else
 Q0n_l0 y5.2.1 y5.2.2.1 y5.2.2.2 0 ([] : List Int) ([] : List (Int × (List Int))) y4.1 := by kernel_rfl
theorem Q0n_l0.eq (v0 : List Int) (v1 v2 v3 : Int) (v4 : List Int) (v5 : List (Int × (List Int))) (v6 : List Int) : Q0n_l0 v0 v1 v2 v3 v4 v5 v6 =
 (Qj v6).bind fun y1 =>
 (Qb (v0, v1, v2) 14).bind fun y2 =>
 bif y2.1 == 0 then
 (Qb y2.2 3).bind fun y3 =>
 some ((IntKind.i64.wrap ((IntKind.i64.wrap (y1.1.1 + y3.1)) - 1), y1.1.2.1, y1.1.2.2), y3.2)
 else
 bif y2.1 == 1 then
 (Qb y2.2 9).bind fun y4 =>
 (QS y4.2).bind fun y5 =>
 (at? y1.1.2.1 y4.1).bind fun y6 =>
 y1.1.2.1[y4.1.toNat]?.bind fun y7 =>
 some ((y1.1.1, y1.1.2.1.set y4.1.toNat y5.1, y1.1.2.2), y5.2)
 else
 bif y2.1 == 2 then
 (Qb y2.2 9).bind fun y8 =>
 (Q0Q y8.2).bind fun y9 =>
 (at? y1.1.2.2 y8.1).bind fun y10 =>
 y1.1.2.2[y8.1.toNat]?.bind fun y11 =>
 some ((y1.1.1, y1.1.2.1, y1.1.2.2.set y8.1.toNat (y9.1.1, y9.1.2)), y9.2)
 else
 bif y2.1 == 3 then
 (Qb y2.2 9).bind fun y12 =>
 bif decide (0 ≤ y12.1 ∧ y12.1 ≤ ((y1.1.2.2.length : Nat) : Int)) then
 some ((y1.1.1, y1.1.2.1, y1.1.2.2.take (y12.1.toNat - 0)), y12.2)
 else
 none
 else
 bif y2.1 == 4 then
 bif decide ((y1.1.2.1.length + ([0] : List Int).length) * 8 ≤ 140737488355328) then
 some ((y1.1.1, y1.1.2.1 ++ ([0] : List Int), y1.1.2.2), y2.2)
 else
 none
 else
 some (y1.1, y2.2) := (Q7 Q0 (Q1 (Q0n.gok _)) _ _).trans (by kernel_rfl)
noncomputable abbrev Q1H.s : Sg := ⟨[.keep], [.one (.ptr true 111 [.b (.b (.b (.sl false false 5))), .b (.b (.b (.int .i64))), .b (.b (.b (.int .i64)))])], ⟨[ag2], [some (.one (.ptr true 111 [.b (.b (.b (.sl false false 5))), .b (.b (.b (.int .i64))), .b (.b (.b (.int .i64)))]))]⟩, Tryz.f97⟩
noncomputable def Q1H.gs (δ : Type) : List (Nat × KC δ) := [(38, QS.k), (84, Qb.k), (93, Qn.k), (96, Q0Q.k), (138, Q0d.k), (140, Q0f.k)]
theorem Q1H.gok (δ : Type) : Q4 Tryz.prog tab (Q1H.gs δ) := .cons QS.con (.cons Qb.con (.cons Qn.con (.cons Q0Q.con (.cons Q0d.con (.cons Q0f.con .nil)))))
noncomputable def Q1H.c := cx Q1H.s [] [] [] false (Q1H.gs _)
noncomputable def Q1H (x0 : (List Int) × Int × Int) : Option ((Int × Int × Int × (List Int)) × ((List Int) × Int × Int)) := fnW Q1H.s Q1H.c x0
theorem Q1H.fok : FkS Q1H.s 97 := ⟨Tryz.func97, by kernel_rfl, by kernel_rfl⟩
noncomputable def Q1H.fn (x : Args tab Q1H.s.ar) : Option (ResT tab Q1H.s.rs) := Q1H x
noncomputable abbrev Q1H.k {δ : Type} : KC δ := kS Q1H.s Q1H.fn
theorem Q1H.con {δ : Type} : Con Tryz.prog (KT tab) 97 (Q1H.k (δ := δ)) := Q5 (c := Q1H.c) mixed Q0 (Q1 (Q1H.gok _)) Q1H.fok rfl rfl fun _ => rfl
theorem Q1H.eq (x0 : (List Int) × Int × Int) : Q1H x0 =
 (Qb x0 5).bind fun y1 =>
 (at? ([0, 1, 3, 7, 24] : List Int) y1.1).bind fun y2 =>
 ([0, 1, 3, 7, 24] : List Int)[y1.1.toNat]?.bind fun y3 =>
 (Q0d y3).bind fun y4 =>
 (Q0f y1.2 20 y4).bind fun y5 =>
 (Qn y5.1 y3).bind fun y6 =>
 (Qb y5.2 12).bind fun y7 =>
 bif y7.1 == 0 then
 (QS y7.2).bind fun y8 =>
 (Qb y8.2 3).bind fun y9 =>
 (at? ([y8.1, 32, 33] : List Int) y9.1).bind fun y10 =>
 ([y8.1, 32, 33] : List Int)[y9.1.toNat]?.bind fun y11 =>
 some ((y11, y6.1.2.1, y6.1.2.2.1, y6.1.2.2.2), y9.2)
 else
 bif y7.1 == 1 then
 (QS y7.2).bind fun y12 =>
 (Qb y12.2 2).bind fun y13 =>
 (at? ([y12.1, IntKind.i64.wrap (y6.1.2.1 + 1)] : List Int) y13.1).bind fun y14 =>
 ([y12.1, IntKind.i64.wrap (y6.1.2.1 + 1)] : List Int)[y13.1.toNat]?.bind fun y15 =>
 some ((y6.1.1, y15, y6.1.2.2.1, y6.1.2.2.2), y13.2)
 else
 bif y7.1 == 2 then
 (Q0Q y7.2).bind fun y16 =>
 some ((y6.1.1, y6.1.2.1, y16.1.1, y16.1.2), y16.2)
 else
 some (y6.1, y7.2) := by kernel_rfl
noncomputable abbrev Q1c.s : Sg := ⟨[.keep], [.one (.ptr true 111 [.b (.b (.b (.sl false false 5))), .b (.b (.b (.int .i64))), .b (.b (.b (.int .i64)))])], ⟨[ag7], [some (.one (.ptr true 111 [.b (.b (.b (.sl false false 5))), .b (.b (.b (.int .i64))), .b (.b (.b (.int .i64)))]))]⟩, Tryz.f37⟩
noncomputable def Q1c.gs (δ : Type) : List (Nat × KC δ) := [(34, Qk.k), (35, Q0P.k), (38, QS.k), (83, QC.k), (84, Qb.k), (95, Q0n.k), (96, Q0Q.k), (97, Q1H.k)]
theorem Q1c.gok (δ : Type) : Q4 Tryz.prog tab (Q1c.gs δ) := .cons Qk.con (.cons Q0P.con (.cons QS.con (.cons QC.con (.cons Qb.con (.cons Q0n.con (.cons Q0Q.con (.cons Q1H.con .nil)))))))
noncomputable def Q1c.c := cx Q1c.s [] [] [] false (Q1c.gs _)
noncomputable def Q1c (x0 : (List Int) × Int × Int) : Option ((FmA) × ((List Int) × Int × Int)) := fnW Q1c.s Q1c.c x0
theorem Q1c.fok : FkS Q1c.s 37 := ⟨Tryz.func37, by kernel_rfl, by kernel_rfl⟩
noncomputable def Q1c.fn (x : Args tab Q1c.s.ar) : Option (ResT tab Q1c.s.rs) := Q1c x
noncomputable abbrev Q1c.k {δ : Type} : KC δ := kS Q1c.s Q1c.fn
theorem Q1c.con {δ : Type} : Con Tryz.prog (KT tab) 37 (Q1c.k (δ := δ)) := Q5 (c := Q1c.c) mixed Q0 (Q1 (Q1c.gok _)) Q1c.fok rfl rfl fun _ => rfl
theorem Q1c.eq (x0 : (List Int) × Int × Int) : Q1c x0 =
 (QC x0 24).bind fun y1 =>
 (Q0P y1.2).bind fun y2 =>
 (Qk y1.1 y2.1).bind fun y3 =>
 (Qb y2.2 16).bind fun y4 =>
 bif y4.1 == 0 then
 (Qb y4.2 3).bind fun y5 =>
 some ((IntKind.i64.wrap ((IntKind.i64.wrap (y3.1.1 + y5.1)) - 1), y3.1.2.1, y3.1.2.2.1, y3.1.2.2.2.1, y3.1.2.2.2.2.1, y3.1.2.2.2.2.2.1, y3.1.2.2.2.2.2.2.1, y3.1.2.2.2.2.2.2.2.1, y3.1.2.2.2.2.2.2.2.2.1, y3.1.2.2.2.2.2.2.2.2.2.1, y3.1.2.2.2.2.2.2.2.2.2.2.1, y3.1.2.2.2.2.2.2.2.2.2.2.2.1, y3.1.2.2.2.2.2.2.2.2.2.2.2.2.1, y3.1.2.2.2.2.2.2.2.2.2.2.2.2.2.1, y3.1.2.2.2.2.2.2.2.2.2.2.2.2.2.2.1, y3.1.2.2.2.2.2.2.2.2.2.2.2.2.2.2.2), y5.2)
 else
 bif y4.1 == 1 then
 (QS y4.2).bind fun y6 =>
 (Qb y6.2 4).bind fun y7 =>
 (at? ([y6.1, 64, 65, 2] : List Int) y7.1).bind fun y8 =>
 ([y6.1, 64, 65, 2] : List Int)[y7.1.toNat]?.bind fun y9 =>
 some ((y3.1.1, y9, y3.1.2.2.1, y3.1.2.2.2.1, y3.1.2.2.2.2.1, y3.1.2.2.2.2.2.1, y3.1.2.2.2.2.2.2.1, y3.1.2.2.2.2.2.2.2.1, y3.1.2.2.2.2.2.2.2.2.1, y3.1.2.2.2.2.2.2.2.2.2.1, y3.1.2.2.2.2.2.2.2.2.2.2.1, y3.1.2.2.2.2.2.2.2.2.2.2.2.1, y3.1.2.2.2.2.2.2.2.2.2.2.2.2.1, y3.1.2.2.2.2.2.2.2.2.2.2.2.2.2.1, y3.1.2.2.2.2.2.2.2.2.2.2.2.2.2.2.1, y3.1.2.2.2.2.2.2.2.2.2.2.2.2.2.2.2), y7.2)
 else
 bif y4.1 == 2 then
 (Q0n y4.2).bind fun y10 =>
 some ((y3.1.1, y3.1.2.1, y10.1.1, y10.1.2.1, y10.1.2.2, y3.1.2.2.2.2.2.1, y3.1.2.2.2.2.2.2.1, y3.1.2.2.2.2.2.2.2.1, y3.1.2.2.2.2.2.2.2.2.1, y3.1.2.2.2.2.2.2.2.2.2.1, y3.1.2.2.2.2.2.2.2.2.2.2.1, y3.1.2.2.2.2.2.2.2.2.2.2.2.1, y3.1.2.2.2.2.2.2.2.2.2.2.2.2.1, y3.1.2.2.2.2.2.2.2.2.2.2.2.2.2.1, y3.1.2.2.2.2.2.2.2.2.2.2.2.2.2.2.1, y3.1.2.2.2.2.2.2.2.2.2.2.2.2.2.2.2), y10.2)
 else
 bif y4.1 == 3 then
 (Qb y4.2 250).bind fun y11 =>
 (QS y11.2).bind fun y12 =>
 (at? y3.1.2.2.2.2.2.1 y11.1).bind fun y13 =>
 y3.1.2.2.2.2.2.1[y11.1.toNat]?.bind fun y14 =>
 some ((y3.1.1, y3.1.2.1, y3.1.2.2.1, y3.1.2.2.2.1, y3.1.2.2.2.2.1, y3.1.2.2.2.2.2.1.set y11.1.toNat y12.1, y3.1.2.2.2.2.2.2.1, y3.1.2.2.2.2.2.2.2.1, y3.1.2.2.2.2.2.2.2.2.1, y3.1.2.2.2.2.2.2.2.2.2.1, y3.1.2.2.2.2.2.2.2.2.2.2.1, y3.1.2.2.2.2.2.2.2.2.2.2.2.1, y3.1.2.2.2.2.2.2.2.2.2.2.2.2.1, y3.1.2.2.2.2.2.2.2.2.2.2.2.2.2.1, y3.1.2.2.2.2.2.2.2.2.2.2.2.2.2.2.1, y3.1.2.2.2.2.2.2.2.2.2.2.2.2.2.2.2), y12.2)
 else
 bif y4.1 == 4 then
 (Q0Q y4.2).bind fun y15 =>
 some ((y3.1.1, y3.1.2.1, y3.1.2.2.1, y3.1.2.2.2.1, y3.1.2.2.2.2.1, y3.1.2.2.2.2.2.1, y15.1.1, y15.1.2, y3.1.2.2.2.2.2.2.2.2.1, y3.1.2.2.2.2.2.2.2.2.2.1, y3.1.2.2.2.2.2.2.2.2.2.2.1, y3.1.2.2.2.2.2.2.2.2.2.2.2.1, y3.1.2.2.2.2.2.2.2.2.2.2.2.2.1, y3.1.2.2.2.2.2.2.2.2.2.2.2.2.2.1, y3.1.2.2.2.2.2.2.2.2.2.2.2.2.2.2.1, y3.1.2.2.2.2.2.2.2.2.2.2.2.2.2.2.2), y15.2)
 else
 bif y4.1 == 5 then
 (Q1H y4.2).bind fun y16 =>
 some ((y3.1.1, y3.1.2.1, y3.1.2.2.1, y3.1.2.2.2.1, y3.1.2.2.2.2.1, y3.1.2.2.2.2.2.1, y3.1.2.2.2.2.2.2.1, y3.1.2.2.2.2.2.2.2.1, y16.1.1, y16.1.2.1, y16.1.2.2.1, y16.1.2.2.2, y3.1.2.2.2.2.2.2.2.2.2.2.2.2.1, y3.1.2.2.2.2.2.2.2.2.2.2.2.2.2.1, y3.1.2.2.2.2.2.2.2.2.2.2.2.2.2.2.1, y3.1.2.2.2.2.2.2.2.2.2.2.2.2.2.2.2), y16.2)
 else
 bif y4.1 == 6 then
 some ((y3.1.1, y3.1.2.1, y3.1.2.2.1, y3.1.2.2.2.1, y3.1.2.2.2.2.1, y3.1.2.2.2.2.2.1, y3.1.2.2.2.2.2.2.1, y3.1.2.2.2.2.2.2.2.1, y3.1.2.2.2.2.2.2.2.2.1, y3.1.2.2.2.2.2.2.2.2.2.1, y3.1.2.2.2.2.2.2.2.2.2.2.1, y3.1.2.2.2.2.2.2.2.2.2.2.2.1, y3.1.2.2.2.2.2.2.2.2.1, y3.1.2.2.2.2.2.2.2.2.2.1, y3.1.2.2.2.2.2.2.2.2.2.2.1, y3.1.2.2.2.2.2.2.2.2.2.2.2.1), y4.2)
 else
 some (y3.1, y4.2) := by kernel_rfl
noncomputable abbrev Q15.s : Sg := ⟨[.keep], [.one (.ptr true 111 [.b (.b (.b (.sl false false 5))), .b (.b (.b (.int .i64))), .b (.b (.b (.int .i64)))])], ⟨[vi], [some (.one (.ptr true 111 [.b (.b (.b (.sl false false 5))), .b (.b (.b (.int .i64))), .b (.b (.b (.int .i64)))]))]⟩, Tryz.f39⟩
noncomputable def Q15.gs (δ : Type) : List (Nat × KC δ) := [(38, QS.k), (84, Qb.k)]
theorem Q15.gok (δ : Type) : Q4 Tryz.prog tab (Q15.gs δ) := .cons QS.con (.cons Qb.con .nil)
noncomputable def Q15.c := cx Q15.s [] [] [] false (Q15.gs _)
noncomputable def Q15 (x0 : (List Int) × Int × Int) : Option (Int × ((List Int) × Int × Int)) := fnW Q15.s Q15.c x0
theorem Q15.fok : FkS Q15.s 39 := ⟨Tryz.func39, by kernel_rfl, by kernel_rfl⟩
noncomputable def Q15.fn (x : Args tab Q15.s.ar) : Option (ResT tab Q15.s.rs) := Q15 x
noncomputable abbrev Q15.k {δ : Type} : KC δ := kS Q15.s Q15.fn
theorem Q15.con {δ : Type} : Con Tryz.prog (KT tab) 39 (Q15.k (δ := δ)) := Q5 (c := Q15.c) mixed Q0 (Q1 (Q15.gok _)) Q15.fok rfl rfl fun _ => rfl
theorem Q15.eq (x0 : (List Int) × Int × Int) : Q15 x0 =
 (QS x0).bind fun y1 =>
 (Qb y1.2 6).bind fun y2 =>
 (at? ([0, 1, 2, 3, 8, y1.1] : List Int) y2.1).bind fun y3 =>
 ([0, 1, 2, 3, 8, y1.1] : List Int)[y2.1.toNat]?.bind fun y4 =>
 some (y4, y2.2) := by kernel_rfl
noncomputable abbrev Q16.s : Sg := ⟨[.keep], [.one (.ptr true 111 [.b (.b (.b (.sl false false 5))), .b (.b (.b (.int .i64))), .b (.b (.b (.int .i64)))])], ⟨[vi], [some (.one (.ptr true 111 [.b (.b (.b (.sl false false 5))), .b (.b (.b (.int .i64))), .b (.b (.b (.int .i64)))]))]⟩, Tryz.f40⟩
noncomputable def Q16.gs (δ : Type) : List (Nat × KC δ) := [(38, QS.k), (84, Qb.k)]
theorem Q16.gok (δ : Type) : Q4 Tryz.prog tab (Q16.gs δ) := .cons QS.con (.cons Qb.con .nil)
noncomputable def Q16.c := cx Q16.s [] [] [] false (Q16.gs _)
noncomputable def Q16 (x0 : (List Int) × Int × Int) : Option (Int × ((List Int) × Int × Int)) := fnW Q16.s Q16.c x0
theorem Q16.fok : FkS Q16.s 40 := ⟨Tryz.func40, by kernel_rfl, by kernel_rfl⟩
noncomputable def Q16.fn (x : Args tab Q16.s.ar) : Option (ResT tab Q16.s.rs) := Q16 x
noncomputable abbrev Q16.k {δ : Type} : KC δ := kS Q16.s Q16.fn
theorem Q16.con {δ : Type} : Con Tryz.prog (KT tab) 40 (Q16.k (δ := δ)) := Q5 (c := Q16.c) mixed Q0 (Q1 (Q16.gok _)) Q16.fok rfl rfl fun _ => rfl
theorem Q16.eq (x0 : (List Int) × Int × Int) : Q16 x0 =
 (QS x0).bind fun y1 =>
 (Qb y1.2 5).bind fun y2 =>
 (at? ([0, 1, 3, 1000, y1.1] : List Int) y2.1).bind fun y3 =>
 ([0, 1, 3, 1000, y1.1] : List Int)[y2.1.toNat]?.bind fun y4 =>
 some (y4, y2.2) := by kernel_rfl
noncomputable abbrev Q0h.s : Sg := ⟨[.lend], [vl 5], ⟨[ag7, vl 5, vi, vi, vi], [none]⟩, Tryz.f7⟩
noncomputable def Q0h.gs (δ : Type) : List (Nat × KC δ) := [(32, Q1a.k), (33, QR.k), (34, Qk.k), (35, Q0P.k), (36, Q09.k), (37, Q1c.k), (38, QS.k), (39, Q15.k), (40, Q16.k)]
theorem Q0h.gok (δ : Type) : Q4 Tryz.prog tab (Q0h.gs δ) := .cons Q1a.con (.cons QR.con (.cons Qk.con (.cons Q0P.con (.cons Q09.con (.cons Q1c.con (.cons QS.con (.cons Q15.con (.cons Q16.con .nil))))))))
noncomputable def Q0h.c := cx Q0h.s [] [6] [(6, [2, 7, 9, 10])] false (Q0h.gs _)
noncomputable def Q0h (x0 : List Int) : Option ((FmA) × (List Int) × Int × Int × Int) := fnW Q0h.s Q0h.c x0
theorem Q0h.fok : FkS Q0h.s 7 := ⟨Tryz.func7, by kernel_rfl, by kernel_rfl⟩
noncomputable def Q0h.fn (x : Args tab Q0h.s.ar) : Option (ResT tab Q0h.s.rs) := Q0h x
noncomputable abbrev Q0h.k {δ : Type} : KC δ := kS Q0h.s Q0h.fn
theorem Q0h.con {δ : Type} : Con Tryz.prog (KT tab) 7 (Q0h.k (δ := δ)) := Q5 (c := Q0h.c) mixed Q0 (Q1 (Q0h.gok _)) Q0h.fok rfl rfl fun _ => rfl
noncomputable def Q0h_l0 (v0 v1 v2 v3 v4 v5 v6 v7 v8 v9 : Int) (v10 : List Int) (v11 : List (Int × (List Int))) (v12 v13 v14 v15 v16 : List Int) (v17 v18 : Int) (v19 : List Int) (v20 v21 v22 : Int) (v23 : List Int) (v24 : List (Int × (List Int))) (v25 : List Int) (v26 : Int) (v27 : List Int) (v28 v29 v30 : Int) (v31 : List Int) (v32 v33 v34 : Int) (v35 : List Int) : Option ((FmA) × (List Int) × Int × Int × Int) := lpW Q0h.s Q0h.c 0 (ud 33 [.undef, .undef, .ptr 0 0, .undef, .undef, .undef, .undef, .ptr 7 0, .undef, .sl 8 0, .ptr 9 0]) [.box 34 [.int .i64 v0, .int .i64 v1, .int .i64 v2, .sl 1 0, .sl 2 0, .sl 3 0, .int .i64 v3, .sl 4 0, .int .i64 v4, .int .i64 v5, .int .i64 v6, .sl 5 0, .int .i64 v7, .int .i64 v8, .int .i64 v9, .sl 6 0], .row 0 true 3 v10, .row 0 true 30 v11, .row 0 true 3 v12, .row 0 true 90 v13, .row 0 true 90 v14, .row 0 true 90 v15, .box 111 [.vs false 5 v16, .int .i64 v17, .int .i64 v18], .row 0 true 5 v19, .box 34 [.int .i64 v20, .int .i64 v21, .int .i64 v22, .vs false 3 v23, .vs false 30 v24, .vs false 3 v25, .int .i64 v26, .vs false 90 v27, .int .i64 v28, .int .i64 v29, .int .i64 v30, .vs false 90 v31, .int .i64 v32, .int .i64 v33, .int .i64 v34, .vs false 90 v35]] 10
noncomputable def Q0h_l1 (v0 v1 v2 v3 v4 v5 v6 v7 v8 v9 : Int) (v10 : List Int) (v11 : List (Int × (List Int))) (v12 v13 v14 v15 v16 : List Int) (v17 v18 : Int) (v19 : List Int) (v20 v21 v22 v23 v24 v25 v26 v27 v28 v29 : Int) (v30 : List Int) (v31 : List (Int × (List Int))) (v32 v33 v34 v35 : List Int) : Option ((FmA) × (List Int) × Int × Int × Int) := lpW Q0h.s Q0h.c 0 (ud 33 [.undef, .undef, .ptr 0 0, .undef, .undef, .undef, .undef, .ptr 7 0, .undef, .sl 8 0, .ptr 9 0]) [.box 34 [.int .i64 v0, .int .i64 v1, .int .i64 v2, .sl 1 0, .sl 2 0, .sl 3 0, .int .i64 v3, .sl 4 0, .int .i64 v4, .int .i64 v5, .int .i64 v6, .sl 5 0, .int .i64 v7, .int .i64 v8, .int .i64 v9, .sl 6 0], .row 0 true 3 v10, .row 0 true 30 v11, .row 0 true 3 v12, .row 0 true 90 v13, .row 0 true 90 v14, .row 0 true 90 v15, .box 111 [.vs false 5 v16, .int .i64 v17, .int .i64 v18], .row 0 true 5 v19, .box 34 [.int .i64 v20, .int .i64 v21, .int .i64 v22, .sl 10 0, .sl 11 0, .sl 12 0, .int .i64 v23, .sl 13 0, .int .i64 v24, .int .i64 v25, .int .i64 v26, .sl 14 0, .int .i64 v27, .int .i64 v28, .int .i64 v29, .sl 15 0], .row 0 true 3 v30, .row 0 true 30 v31, .row 0 true 3 v32, .row 0 true 90 v33, .row 0 true 90 v34, .row 0 true 90 v35] 16
theorem Q0h.eq (x0 : List Int) : Q0h x0 =
 (Q1a x0).bind fun y1 =>
 (QR y1 20).bind fun y2 =>
 (Q0P y2.2.2).bind fun y3 =>
 (Qk y2.1 y3.1).bind fun y4 =>
 (Q09 y3.2 9).bind fun y5 =>
 bif y5.1 then
 (Q1c y5.2).bind fun y6 =>
 Q0h_l0 0 0 0 0 0 0 0 0 0 0 ([] : List Int) ([] : List (Int × (List Int))) ([] : List Int) ([] : List Int) ([] : List Int) ([] : List Int) y6.2.1 y6.2.2.1 y6.2.2.2 y2.2.1 y6.1.1 y6.1.2.1 y6.1.2.2.1 y6.1.2.2.2.1 y6.1.2.2.2.2.1 y6.1.2.2.2.2.2.1 y6.1.2.2.2.2.2.2.1 y6.1.2.2.2.2.2.2.2.1 y6.1.2.2.2.2.2.2.2.2.1 y6.1.2.2.2.2.2.2.2.2.2.1 y6.1.2.2.2.2.2.2.2.2.2.2.1 y6.1.2.2.2.2.2.2.2.2.2.2.2.1 y6.1.2.2.2.2.2.2.2.2.2.2.2.2.1 y6.1.2.2.2.2.2.2.2.2.2.2.2.2.2.1 y6.1.2.2.2.2.2.2.2.2.2.2.2.2.2.2.1 y6.1.2.2.2.2.2.2.2.2.2.2.2.2.2.2.2
 else
 Q0h_l1 0 0 0 0 0 0 0 0 0 0 ([] : List Int) ([] : List (Int × (List Int))) ([] : List Int) ([] : List Int) ([] : List Int) ([] : List Int) y5.2.1 y5.2.2.1 y5.2.2.2 y2.2.1 y4.1.1 y4.1.2.1 y4.1.2.2.1 y4.1.2.2.2.2.2.2.1 y4.1.2.2.2.2.2.2.2.2.1 y4.1.2.2.2.2.2.2.2.2.2.1 y4.1.2.2.2.2.2.2.2.2.2.2.1 y4.1.2.2.2.2.2.2.2.2.2.2.2.2.1 y4.1.2.2.2.2.2.2.2.2.2.2.2.2.2.1 y4.1.2.2.2.2.2.2.2.2.2.2.2.2.2.2.1 y4.1.2.2.2.1 y4.1.2.2.2.2.1 y4.1.2.2.2.2.2.1 y4.1.2.2.2.2.2.2.2.1 y4.1.2.2.2.2.2.2.2.2.2.2.2.1 y4.1.2.2.2.2.2.2.2.2.2.2.2.2.2.2.2 := by kernel_rfl
theorem Q0h_l0.eq (v0 v1 v2 v3 v4 v5 v6 v7 v8 v9 : Int) (v10 : List Int) (v11 : List (Int × (List Int))) (v12 v13 v14 v15 v16 : List Int) (v17 v18 : Int) (v19 : List Int) (v20 v21 v22 : Int) (v23 : List Int) (v24 : List (Int × (List Int))) (v25 : List Int) (v26 : Int) (v27 : List Int) (v28 v29 v30 : Int) (v31 : List Int) (v32 v33 v34 : Int) (v35 : List Int) : Q0h_l0 v0 v1 v2 v3 v4 v5 v6 v7 v8 v9 v10 v11 v12 v13 v14 v15 v16 v17 v18 v19 v20 v21 v22 v23 v24 v25 v26 v27 v28 v29 v30 v31 v32 v33 v34 v35 =
 (Q0P (v16, v17, v18)).bind fun y1 =>
 (Q09 y1.2 12).bind fun y2 =>
 bif y2.1 then
 (QS y2.2).bind fun y3 =>
 (Q15 y3.2).bind fun y4 =>
 (Q16 y4.2).bind fun y5 =>
 some ((v20, v21, v22, v23, v24, v25, v26, v27, v28, v29, v30, v31, v32, v33, v34, v35), v19, y4.1, y5.1, y3.1)
 else
 (Q15 y2.2).bind fun y6 =>
 (Q16 y6.2).bind fun y7 =>
 some ((v20, v21, v22, v23, v24, v25, v26, v27, v28, v29, v30, v31, v32, v33, v34, v35), v19, y6.1, y7.1, y1.1) := (Q7 Q0 (Q1 (Q0h.gok _)) _ _).trans (by kernel_rfl)
theorem Q0h_l1.eq (v0 v1 v2 v3 v4 v5 v6 v7 v8 v9 : Int) (v10 : List Int) (v11 : List (Int × (List Int))) (v12 v13 v14 v15 v16 : List Int) (v17 v18 : Int) (v19 : List Int) (v20 v21 v22 v23 v24 v25 v26 v27 v28 v29 : Int) (v30 : List Int) (v31 : List (Int × (List Int))) (v32 v33 v34 v35 : List Int) : Q0h_l1 v0 v1 v2 v3 v4 v5 v6 v7 v8 v9 v10 v11 v12 v13 v14 v15 v16 v17 v18 v19 v20 v21 v22 v23 v24 v25 v26 v27 v28 v29 v30 v31 v32 v33 v34 v35 =
 (Q0P (v16, v17, v18)).bind fun y1 =>
 (Q09 y1.2 12).bind fun y2 =>
 bif y2.1 then
 (QS y2.2).bind fun y3 =>
 (Q15 y3.2).bind fun y4 =>
 (Q16 y4.2).bind fun y5 =>
 some ((v20, v21, v22, v30, v31, v32, v23, v33, v24, v25, v26, v34, v27, v28, v29, v35), v19, y4.1, y5.1, y3.1)
 else
 (Q15 y2.2).bind fun y6 =>
 (Q16 y6.2).bind fun y7 =>
 some ((v20, v21, v22, v30, v31, v32, v23, v33, v24, v25, v26, v34, v27, v28, v29, v35), v19, y6.1, y7.1, y1.1) := (Q7 Q0 (Q1 (Q0h.gok _)) _ _).trans (by kernel_rfl)
noncomputable abbrev Q0B.s : Sg := ⟨[.lend], [ag4], ⟨[ag0], [none]⟩, Tryz.f200⟩
noncomputable def Q0B.gs (δ : Type) : List (Nat × KC δ) := [(53, QW.k), (113, QL.k), (150, Q0F.k)]
theorem Q0B.gok (δ : Type) : Q4 Tryz.prog tab (Q0B.gs δ) := .cons QW.con (.cons QL.con (.cons Q0F.con .nil))
noncomputable def Q0B.c := cx Q0B.s [] [] [(5, [2, 3, 12, 13])] false (Q0B.gs _)
noncomputable def Q0B (x0 : Int × (List Int)) : Option (Int × (List Int)) := fnW Q0B.s Q0B.c x0
theorem Q0B.fok : FkS Q0B.s 200 := ⟨Tryz.func200, by kernel_rfl, by kernel_rfl⟩
noncomputable def Q0B.fn (x : Args tab Q0B.s.ar) : Option (ResT tab Q0B.s.rs) := Q0B x
noncomputable abbrev Q0B.k {δ : Type} : KC δ := kS Q0B.s Q0B.fn
theorem Q0B.con {δ : Type} : Con Tryz.prog (KT tab) 200 (Q0B.k (δ := δ)) := Q5 (c := Q0B.c) mixed Q0 (Q1 (Q0B.gok _)) Q0B.fok rfl rfl fun _ => rfl
noncomputable def Q0B_l0 (v0 v1 v2 : Int) (v3 v4 : List Int) : Option (Int × (List Int)) := lpW Q0B.s Q0B.c 0 (ud 13 [.undef, .undef, .ptr 0 0, .sl 2 0, .undef, .undef, .undef, .undef, .undef, .undef, .undef, .undef, .int .i64 v0, .int .i64 v1]) [.box 30 [.int .i64 v2, .sl 1 0], .row 0 true 90 v3, .row 0 true 3 v4] 3
theorem Q0B.eq (x0 : Int × (List Int)) : Q0B x0 =
 (Q0F x0).bind fun y1 =>
 bif !y1 then
 some (0, ([] : List Int))
 else
 (QW x0).bind fun y2 =>
 Q0B_l0 (y2.length : Int) 0 0 ([] : List Int) y2 := by kernel_rfl
theorem Q0B_l0.eq (v0 v1 v2 : Int) (v3 v4 : List Int) : Q0B_l0 v0 v1 v2 v3 v4 =
 bif decide (v1 < v0) then
 (at? v4 v1).bind fun y1 =>
 v4[v1.toNat]?.bind fun y2 =>
 (at? v4 v1).bind fun y3 =>
 v4[v1.toNat]?.bind fun y4 =>
 Q0B_l0 v0 (IntKind.i64.wrap (v1 + 1)) v2 v3 (v4.set v1.toNat (IntKind.i64.wrap ((1 : Int) - y2)))
 else
 (QL v4).bind fun y5 =>
 some y5 := (Q7 Q0 (Q1 (Q0B.gok _)) _ _).trans (by kernel_rfl)
noncomputable abbrev Qs.s : Sg := ⟨[.lend, .lend], [vl 3, .agg [.int .i64, .sl false false 90, .int .i64, .sl false false 90, .sl false false 3]], ⟨[vo 3, vb], [none, none]⟩, Tryz.f174⟩
noncomputable def Qs.gs (δ : Type) : List (Nat × KC δ) := [(52, Qz.k), (53, QW.k), (117, QQ.k), (150, Q0F.k), (200, Q0B.k)]
theorem Qs.gok (δ : Type) : Q4 Tryz.prog tab (Qs.gs δ) := .cons Qz.con (.cons QW.con (.cons QQ.con (.cons Q0F.con (.cons Q0B.con .nil))))
noncomputable def Qs.c := cx Qs.s [] [3, 6] [(3, [0, 3]), (6, [0, 3]), (9, [7, 8, 9, 71, 72, 73])] false (Qs.gs _)
noncomputable def Qs (x0 : List Int) (x1 : Int × (List Int) × Int × (List Int) × (List Int)) : Option ((List Int) × Bool) := fnW Qs.s Qs.c (x0, x1)
theorem Qs.fok : FkS Qs.s 174 := ⟨Tryz.func174, by kernel_rfl, by kernel_rfl⟩
noncomputable def Qs.fn (x : Args tab Qs.s.ar) : Option (ResT tab Qs.s.rs) := Qs x.1 x.2
noncomputable abbrev Qs.k {δ : Type} : KC δ := kS Qs.s Qs.fn
theorem Qs.con {δ : Type} : Con Tryz.prog (KT tab) 174 (Qs.k (δ := δ)) := Q5 (c := Qs.c) mixed Q0 (Q1 (Qs.gok _)) Qs.fok rfl rfl fun _ => rfl
noncomputable def Qs_l0 (v0 : List Int) (v1 : Int) (v2 : List Int) (v3 : Int) (v4 v5 : List Int) : Option ((List Int) × Bool) := lpW Qs.s Qs.c 0 (ud 93 [.vs false 3 v0, .undef, .undef, .ptr 0 0]) [.box 130 [.int .i64 v1, .vs false 90 v2, .int .i64 v3, .vs false 90 v4, .vs false 3 v5]] 1
noncomputable def Qs_l1 (v0 : List Int) (v1 : Int) (v2 : List Int) (v3 : Int) (v4 v5 : List Int) : Option ((List Int) × Bool) := lpW Qs.s Qs.c 1 (ud 93 [.vs false 3 v0, .undef, .undef, .ptr 0 0]) [.box 130 [.int .i64 v1, .vs false 90 v2, .int .i64 v3, .vs false 90 v4, .vs false 3 v5]] 1
noncomputable def Qs_l2 (v0 : List Int) (v1 v2 : Int) (v3 v4 v5 : List Int) : Option ((List Int) × Bool) := lpW Qs.s Qs.c 2 (ud 23 [.undef, .undef, .undef, .undef, .undef, .undef, .undef, .sl 0 0, .vs false 3 v0, .sl 1 0, .undef, .undef, .undef, .undef, .undef, .undef, .undef, .undef, .undef, .undef, .undef, .undef, .undef, .undef, .undef, .undef, .undef, .undef, .undef, .undef, .undef, .undef, .undef, .undef, .undef, .undef, .undef, .undef, .undef, .undef, .undef, .undef, .undef, .undef, .undef, .undef, .undef, .undef, .undef, .undef, .undef, .undef, .undef, .undef, .undef, .undef, .undef, .undef, .undef, .undef, .undef, .undef, .undef, .undef, .undef, .undef, .undef, .undef, .undef, .undef, .undef, .sl 2 0, .int .i64 v1, .int .i64 v2]) [.row 0 true 3 v3, .row 0 true 3 v4, .row 0 true 3 v5] 3
noncomputable def Qs_l3 (v0 v1 : Nat) (v2 : List Int) (v3 v4 : Int) (v5 v6 v7 : List Int) : Option ((List Int) × Bool) := lpW Qs.s Qs.c 2 (ud 23 [.undef, .undef, .undef, .undef, .undef, .undef, .undef, .sv 0 0 v0 v1, .vs false 3 v2, .sl 1 0, .undef, .undef, .undef, .undef, .undef, .undef, .undef, .undef, .undef, .undef, .undef, .undef, .undef, .undef, .undef, .undef, .undef, .undef, .undef, .undef, .undef, .undef, .undef, .undef, .undef, .undef, .undef, .undef, .undef, .undef, .undef, .undef, .undef, .undef, .undef, .undef, .undef, .undef, .undef, .undef, .undef, .undef, .undef, .undef, .undef, .undef, .undef, .undef, .undef, .undef, .undef, .undef, .undef, .undef, .undef, .undef, .undef, .undef, .undef, .undef, .undef, .sl 2 0, .int .i64 v3, .int .i64 v4]) [.row 0 true 3 v5, .row 0 true 3 v6, .row 0 true 3 v7] 3
theorem Qs.eq (x0 : List Int) (x1 : Int × (List Int) × Int × (List Int) × (List Int)) : Qs x0 x1 =
 bif decide ((x0.length : Int) > 301) then
 some (([] : List Int), false)
 else
 (Q0F (x1.1, x1.2.1)).bind fun y1 =>
 bif !y1 then
 some (([] : List Int), false)
 else
 (Q0F (x1.2.2.1, x1.2.2.2.1)).bind fun y2 =>
 bif !y2 then
 some (([] : List Int), false)
 else
 bif x1.1 != (x0.length : Int) then
 some (([] : List Int), false)
 else
 bif decide (x1.2.2.1 > 301) then
 some (([] : List Int), false)
 else
 Qs_l0 x0 x1.1 x1.2.1 x1.2.2.1 x1.2.2.2.1 x1.2.2.2.2 := by kernel_rfl
theorem Qs_l0.eq (v0 : List Int) (v1 : Int) (v2 : List Int) (v3 : Int) (v4 v5 : List Int) : Qs_l0 v0 v1 v2 v3 v4 v5 =
 (QW (v3, v4)).bind fun y1 =>
 (Qz y1 1).bind fun y2 =>
 (QW (v1, v2)).bind fun y3 =>
 (Qz y3 1).bind fun y4 =>
 bif y4 != y2 then
 some (([] : List Int), false)
 else
 bif IntKind.i64.wrap (v3 - y2) != (v5.length : Int) then
 some (([] : List Int), false)
 else
 Qs_l1 v0 v1 v2 v3 v4 v5 := (Q7 Q0 (Q1 (Qs.gok _)) _ _).trans (by kernel_rfl)
theorem Qs_l1.eq (v0 : List Int) (v1 : Int) (v2 : List Int) (v3 : Int) (v4 v5 : List Int) : Qs_l1 v0 v1 v2 v3 v4 v5 =
 (Q0B (v1, v2)).bind fun y1 =>
 (QQ v0 y1).bind fun y2 =>
 (QW (v3, v4)).bind fun y3 =>
 Qs_l2 v5 (y3.length : Int) 0 y2 ([] : List Int) y3 := (Q7 Q0 (Q1 (Qs.gok _)) _ _).trans (by kernel_rfl)
theorem Qs_l2.eq (v0 : List Int) (v1 v2 : Int) (v3 v4 v5 : List Int) : Qs_l2 v0 v1 v2 v3 v4 v5 =
 bif decide (v2 < v1) then
 (at? v5 v2).bind fun y1 =>
 v5[v2.toNat]?.bind fun y2 =>
 bif y2 == 1 then
 (at? v3 0).bind fun y3 =>
 v3[0]?.bind fun y4 =>
 bif decide ((v4.length + ([y4] : List Int).length) * 8 ≤ 140737488355328) then
 bif decide (0 ≤ (1 : Int) ∧ (1 : Int) ≤ ((v3.length : Nat) : Int)) then
 Qs_l3 1 (v3.length - 1) v0 v1 (IntKind.i64.wrap (v2 + 1)) v3 (v4 ++ ([y4] : List Int)) v5
 else
 none
 else
 none
 else
 (at? v0 0).bind fun y5 =>
 bif decide ((v4.length + ([y5] : List Int).length) * 8 ≤ 140737488355328) then
 bif decide (0 ≤ (1 : Int) ∧ (1 : Int) ≤ ((v0.length : Nat) : Int)) then
 Qs_l2 ((v0.take v0.length).drop 1) v1 (IntKind.i64.wrap (v2 + 1)) v3 (v4 ++ ([y5] : List Int)) v5
 else
 none
 else
 none
 else
 some (v4, true) := (Q7 Q0 (Q1 (Qs.gok _)) _ _).trans (by kernel_rfl)
theorem Qs_l3.eq (v0 v1 : Nat) (v2 : List Int) (v3 v4 : Int) (v5 v6 v7 : List Int) : Qs_l3 v0 v1 v2 v3 v4 v5 v6 v7 =
 bif decide (v4 < v3) then
 (at? v7 v4).bind fun y1 =>
 v7[v4.toNat]?.bind fun y2 =>
 bif y2 == 1 then
 bif decide (0 ≤ (0 : Int) ∧ (0 : Int) < ((v1 : Nat) : Int)) then
 v5[v0]?.bind fun y3 =>
 bif decide ((v6.length + ([y3] : List Int).length) * 8 ≤ 140737488355328) then
 bif decide (0 ≤ (1 : Int) ∧ (1 : Int) ≤ ((v1 : Nat) : Int)) then
 Qs_l3 (v0 + 1) (v1 - 1) v2 v3 (IntKind.i64.wrap (v4 + 1)) v5 (v6 ++ ([y3] : List Int)) v7
 else
 none
 else
 none
 else
 none
 else
 (at? v2 0).bind fun y4 =>
 bif decide ((v6.length + ([y4] : List Int).length) * 8 ≤ 140737488355328) then
 bif decide (0 ≤ (1 : Int) ∧ (1 : Int) ≤ ((v2.length : Nat) : Int)) then
 Qs_l3 v0 v1 ((v2.take v2.length).drop 1) v3 (IntKind.i64.wrap (v4 + 1)) v5 (v6 ++ ([y4] : List Int)) v7
 else
 none
 else
 none
 else
 some (v6, true) := (Q7 Q0 (Q1 (Qs.gok _)) _ _).trans (by kernel_rfl)
noncomputable abbrev Q1e.s : Sg := ⟨[.lend, .lend, .lend, .lend], [vl 5, ag4, ag4, vl 3], ⟨[vo 5, vb], [none, none, none, none]⟩, Tryz.f120⟩
noncomputable def Q1e.gs (δ : Type) : List (Nat × KC δ) := [(59, Qu.k), (109, QO.k), (174, Qs.k)]
theorem Q1e.gok (δ : Type) : Q4 Tryz.prog tab (Q1e.gs δ) := .cons Qu.con (.cons QO.con (.cons Qs.con .nil))
noncomputable def Q1e.c := cx Q1e.s [] [] [] false (Q1e.gs _)
noncomputable def Q1e (x0 : List Int) (x1 x2 : Int × (List Int)) (x3 : List Int) : Option ((List Int) × Bool) := fnW Q1e.s Q1e.c (x0, x1, x2, x3)
theorem Q1e.fok : FkS Q1e.s 120 := ⟨Tryz.func120, by kernel_rfl, by kernel_rfl⟩
noncomputable def Q1e.fn (x : Args tab Q1e.s.ar) : Option (ResT tab Q1e.s.rs) := Q1e x.1 x.2.1 x.2.2.1 x.2.2.2
noncomputable abbrev Q1e.k {δ : Type} : KC δ := kS Q1e.s Q1e.fn
theorem Q1e.con {δ : Type} : Con Tryz.prog (KT tab) 120 (Q1e.k (δ := δ)) := Q5 (c := Q1e.c) mixed Q0 (Q1 (Q1e.gok _)) Q1e.fok rfl rfl fun _ => rfl
theorem Q1e.eq (x0 : List Int) (x1 x2 : Int × (List Int)) (x3 : List Int) : Q1e x0 x1 x2 x3 =
 (Qu x0).bind fun y1 =>
 (Qs y1 (x1.1, x1.2, x2.1, x2.2, x3)).bind fun y2 =>
 bif !y2.2 then
 some (([] : List Int), false)
 else
 (QO y2.1).bind fun y3 =>
 some (y3.1, y3.2) := by kernel_rfl
noncomputable abbrev Q1d.s : Sg := ⟨[.keep, .keep, .give, .give, .lend], [vo 5, vo 5, ag4, ag4, vi], ⟨[.agg [.int .i64, .int .i64, .int .i64, .sl false false 90, .int .i64, .sl false false 90, .int .i64, .sl true true 3, .sl true true 30, .int .i64, .sl true true 3, .sl true true 30, .sl true true 3, .int .i64, .sl true true 90, .int .i64, .int .i64, .int .i64, .sl true true 90, .int .i64, .int .i64, .int .i64, .sl true true 90]], [some (vo 5), some (vo 5), none, none, none]⟩, Tryz.f51⟩
noncomputable def Q1d.gs (δ : Type) : List (Nat × KC δ) := [(59, Qu.k), (111, Qv.k), (116, Qf.k), (117, QQ.k)]
theorem Q1d.gok (δ : Type) : Q4 Tryz.prog tab (Q1d.gs δ) := .cons Qu.con (.cons Qv.con (.cons Qf.con (.cons QQ.con .nil)))
noncomputable def Q1d.c := cx Q1d.s [] [] [] false (Q1d.gs _)
noncomputable def Q1d (x0 x1 : List Int) (x2 x3 : Int × (List Int)) (x4 : Int) : Option ((RelA) × (List Int) × (List Int)) := fnW Q1d.s Q1d.c (x0, x1, x2, x3, x4)
theorem Q1d.fok : FkS Q1d.s 51 := ⟨Tryz.func51, by kernel_rfl, by kernel_rfl⟩
noncomputable def Q1d.fn (x : Args tab Q1d.s.ar) : Option (ResT tab Q1d.s.rs) := Q1d x.1 x.2.1 x.2.2.1 x.2.2.2.1 x.2.2.2.2
noncomputable abbrev Q1d.k {δ : Type} : KC δ := kS Q1d.s Q1d.fn
theorem Q1d.con {δ : Type} : Con Tryz.prog (KT tab) 51 (Q1d.k (δ := δ)) := Q5 (c := Q1d.c) mixed Q0 (Q1 (Q1d.gok _)) Q1d.fok rfl rfl fun _ => rfl
theorem Q1d.eq (x0 x1 : List Int) (x2 x3 : Int × (List Int)) (x4 : Int) : Q1d x0 x1 x2 x3 x4 =
 (Qv x1 x4).bind fun y1 =>
 (Qu x0).bind fun y2 =>
 (QQ y2 x2).bind fun y3 =>
 (Qf y3).bind fun y4 =>
 (Qu x1).bind fun y5 =>
 (QQ y5 x3).bind fun y6 =>
 (Qf y6).bind fun y7 =>
 some ((y1.1, x4, x2.1, x2.2, x3.1, x3.2, y4.1.1, y4.1.2.1, y4.1.2.2, y7.1.1, y7.1.2.1, y7.1.2.2, y1.2.2.2.2.2.1, y1.2.2.2.2.2.2.1, y1.2.2.2.2.2.2.2.1, y1.2.2.2.2.2.2.2.2.1, y1.2.2.2.2.2.2.2.2.2.1, y1.2.2.2.2.2.2.2.2.2.2.1, y1.2.2.2.2.2.2.2.2.2.2.2.1, y1.2.2.2.2.2.2.2.2.2.2.2.2.1, y1.2.2.2.2.2.2.2.2.2.2.2.2.2.1, y1.2.2.2.2.2.2.2.2.2.2.2.2.2.2.1, y1.2.2.2.2.2.2.2.2.2.2.2.2.2.2.2), x0, x1) := by kernel_rfl
noncomputable abbrev Q1p.s : Sg := ⟨[.lend, .lend], [ag9, ag9], ⟨[vb], [none, none]⟩, Tryz.f121⟩
noncomputable def Q1p.gs (δ : Type) : List (Nat × KC δ) := [(152, Q06.k), (153, Q14.k), (154, Q0r.k), (155, Q0V.k)]
theorem Q1p.gok (δ : Type) : Q4 Tryz.prog tab (Q1p.gs δ) := .cons Q06.con (.cons Q14.con (.cons Q0r.con (.cons Q0V.con .nil)))
noncomputable def Q1p.c := cx Q1p.s [] [] [] false (Q1p.gs _)
noncomputable def Q1p (x0 x1 : RelA) : Option (Bool) := fnW Q1p.s Q1p.c (x0, x1)
theorem Q1p.fok : FkS Q1p.s 121 := ⟨Tryz.func121, by kernel_rfl, by kernel_rfl⟩
noncomputable def Q1p.fn (x : Args tab Q1p.s.ar) : Option (ResT tab Q1p.s.rs) := Q1p x.1 x.2
noncomputable abbrev Q1p.k {δ : Type} : KC δ := kS Q1p.s Q1p.fn
theorem Q1p.con {δ : Type} : Con Tryz.prog (KT tab) 121 (Q1p.k (δ := δ)) := Q5 (c := Q1p.c) mixed Q0 (Q1 (Q1p.gok _)) Q1p.fok rfl rfl fun _ => rfl
theorem Q1p.eq (x0 x1 : RelA) : Q1p x0 x1 =
 bif x0.1 == x1.1 then
 bif x0.2.1 == x1.2.1 then
 (Q0r (x0.2.2.1, x0.2.2.2.1) (x1.2.2.1, x1.2.2.2.1)).bind fun y1 =>
 bif y1 then
 (Q0r (x0.2.2.2.2.1, x0.2.2.2.2.2.1) (x1.2.2.2.2.1, x1.2.2.2.2.2.1)).bind fun y2 =>
 bif y2 then
 (Q14 (x0.2.2.2.2.2.2.1, x0.2.2.2.2.2.2.2.1, x0.2.2.2.2.2.2.2.2.1) (x1.2.2.2.2.2.2.1, x1.2.2.2.2.2.2.2.1, x1.2.2.2.2.2.2.2.2.1)).bind fun y3 =>
 bif y3 then
 (Q14 (x0.2.2.2.2.2.2.2.2.2.1, x0.2.2.2.2.2.2.2.2.2.2.1, x0.2.2.2.2.2.2.2.2.2.2.2.1) (x1.2.2.2.2.2.2.2.2.2.1, x1.2.2.2.2.2.2.2.2.2.2.1, x1.2.2.2.2.2.2.2.2.2.2.2.1)).bind fun y4 =>
 bif y4 then
 (Q06 x0.2.2.2.2.2.2.2.2.2.2.2.2.1 x1.2.2.2.2.2.2.2.2.2.2.2.2.1).bind fun y5 =>
 bif y5 then
 (Q0r (x0.2.2.2.2.2.2.2.2.2.2.2.2.2.1, x0.2.2.2.2.2.2.2.2.2.2.2.2.2.2.1) (x1.2.2.2.2.2.2.2.2.2.2.2.2.2.1, x1.2.2.2.2.2.2.2.2.2.2.2.2.2.2.1)).bind fun y6 =>
 bif y6 then
 (Q0V (x0.2.2.2.2.2.2.2.2.2.2.2.2.2.2.2.1, x0.2.2.2.2.2.2.2.2.2.2.2.2.2.2.2.2.1, x0.2.2.2.2.2.2.2.2.2.2.2.2.2.2.2.2.2.1, x0.2.2.2.2.2.2.2.2.2.2.2.2.2.2.2.2.2.2.1) (x1.2.2.2.2.2.2.2.2.2.2.2.2.2.2.2.1, x1.2.2.2.2.2.2.2.2.2.2.2.2.2.2.2.2.1, x1.2.2.2.2.2.2.2.2.2.2.2.2.2.2.2.2.2.1, x1.2.2.2.2.2.2.2.2.2.2.2.2.2.2.2.2.2.2.1)).bind fun y7 =>
 bif y7 then
 (Q0V x0.2.2.2.2.2.2.2.2.2.2.2.2.2.2.2.2.2.2.2 x1.2.2.2.2.2.2.2.2.2.2.2.2.2.2.2.2.2.2.2).bind fun y8 =>
 some y8
 else
 some false
 else
 some false
 else
 some false
 else
 some false
 else
 some false
 else
 some false
 else
 some false
 else
 some false
 else
 some false := by kernel_rfl
noncomputable abbrev Q0C.s : Sg := ⟨[.lend, .lend], [ag9, ag7], ⟨[vo 5, vb], [none, none]⟩, Tryz.f57⟩
noncomputable def Q0C.gs (δ : Type) : List (Nat × KC δ) := [(46, QP.k), (48, Q0T.k), (51, Q1d.k), (108, Qd.k), (120, Q1e.k), (121, Q1p.k)]
theorem Q0C.gok (δ : Type) : Q4 Tryz.prog tab (Q0C.gs δ) := .cons QP.con (.cons Q0T.con (.cons Q1d.con (.cons Qd.con (.cons Q1e.con (.cons Q1p.con .nil)))))
noncomputable def Q0C.c := cx Q0C.s [] [] [] false (Q0C.gs _)
noncomputable def Q0C (x0 : RelA) (x1 : FmA) : Option ((List Int) × Bool) := fnW Q0C.s Q0C.c (x0, x1)
theorem Q0C.fok : FkS Q0C.s 57 := ⟨Tryz.func57, by kernel_rfl, by kernel_rfl⟩
noncomputable def Q0C.fn (x : Args tab Q0C.s.ar) : Option (ResT tab Q0C.s.rs) := Q0C x.1 x.2
noncomputable abbrev Q0C.k {δ : Type} : KC δ := kS Q0C.s Q0C.fn
theorem Q0C.con {δ : Type} : Con Tryz.prog (KT tab) 57 (Q0C.k (δ := δ)) := Q5 (c := Q0C.c) mixed Q0 (Q1 (Q0C.gok _)) Q0C.fok rfl rfl fun _ => rfl
theorem Q0C.eq (x0 : RelA) (x1 : FmA) : Q0C x0 x1 =
 (QP x1).bind fun y1 =>
 (Qd (x0.2.2.2.2.2.2.2.2.2.1, x0.2.2.2.2.2.2.2.2.2.2.1, x0.2.2.2.2.2.2.2.2.2.2.2.1)).bind fun y2 =>
 bif !y1.2 then
 some (([] : List Int), false)
 else
 bif !y2.2 then
 some (([] : List Int), false)
 else
 (Q0T x0.2.1).bind fun y3 =>
 bif !y3 then
 some (([] : List Int), false)
 else
 (Q1e y1.1 (x0.2.2.1, x0.2.2.2.1) (x0.2.2.2.2.1, x0.2.2.2.2.2.1) y2.1).bind fun y4 =>
 bif y4.2 then
 (Q1d y1.1 y4.1 (x0.2.2.1, x0.2.2.2.1) (x0.2.2.2.2.1, x0.2.2.2.2.2.1) x0.2.1).bind fun y5 =>
 (Q1p y5.1 x0).bind fun y6 =>
 some (y5.2.2, y6)
 else
 some (y4.1, false) := by kernel_rfl
noncomputable abbrev Q17.s : Sg := ⟨[.lend, .lend], [ag7, ag9], ⟨[vb], [none, none]⟩, Tryz.f21⟩
noncomputable def Q17.gs (δ : Type) : List (Nat × KC δ) := [(57, Q0C.k)]
theorem Q17.gok (δ : Type) : Q4 Tryz.prog tab (Q17.gs δ) := .cons Q0C.con .nil
noncomputable def Q17.c := cx Q17.s [] [] [] false (Q17.gs _)
noncomputable def Q17 (x0 : FmA) (x1 : RelA) : Option (Bool) := fnW Q17.s Q17.c (x0, x1)
theorem Q17.fok : FkS Q17.s 21 := ⟨Tryz.func21, by kernel_rfl, by kernel_rfl⟩
noncomputable def Q17.fn (x : Args tab Q17.s.ar) : Option (ResT tab Q17.s.rs) := Q17 x.1 x.2
noncomputable abbrev Q17.k {δ : Type} : KC δ := kS Q17.s Q17.fn
theorem Q17.con {δ : Type} : Con Tryz.prog (KT tab) 21 (Q17.k (δ := δ)) := Q5 (c := Q17.c) mixed Q0 (Q1 (Q17.gok _)) Q17.fok rfl rfl fun _ => rfl
theorem Q17.eq (x0 : FmA) (x1 : RelA) : Q17 x0 x1 =
 (Q0C x1 x0).bind fun y1 =>
 some y1.2 := by kernel_rfl
noncomputable abbrev Q1q.s : Sg := ⟨[.lend, .lend], [ag7, ag9], ⟨[vi], [none, none]⟩, Tryz.f12⟩
noncomputable def Q1q.gs (δ : Type) : List (Nat × KC δ) := [(21, Q17.k), (52, Qz.k), (53, QW.k)]
theorem Q1q.gok (δ : Type) : Q4 Tryz.prog tab (Q1q.gs δ) := .cons Q17.con (.cons Qz.con (.cons QW.con .nil))
noncomputable def Q1q.c := cx Q1q.s [] [] [] false (Q1q.gs _)
noncomputable def Q1q (x0 : FmA) (x1 : RelA) : Option (Int) := fnW Q1q.s Q1q.c (x0, x1)
theorem Q1q.fok : FkS Q1q.s 12 := ⟨Tryz.func12, by kernel_rfl, by kernel_rfl⟩
noncomputable def Q1q.fn (x : Args tab Q1q.s.ar) : Option (ResT tab Q1q.s.rs) := Q1q x.1 x.2
noncomputable abbrev Q1q.k {δ : Type} : KC δ := kS Q1q.s Q1q.fn
theorem Q1q.con {δ : Type} : Con Tryz.prog (KT tab) 12 (Q1q.k (δ := δ)) := Q5 (c := Q1q.c) mixed Q0 (Q1 (Q1q.gok _)) Q1q.fok rfl rfl fun _ => rfl
theorem Q1q.eq (x0 : FmA) (x1 : RelA) : Q1q x0 x1 =
 (Q17 x0 x1).bind fun y1 =>
 bif !y1 then
 some (-1 : Int)
 else
 (QW (x1.2.2.2.2.1, x1.2.2.2.2.2.1)).bind fun y2 =>
 (Qz y2 0).bind fun y3 =>
 some y3 := by kernel_rfl
end Go.Ev.W
