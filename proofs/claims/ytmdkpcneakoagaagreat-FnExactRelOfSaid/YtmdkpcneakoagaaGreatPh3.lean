/- What functions of the program come to. -/
import Derived.Test.YtmdkpcneakoagaaGreatPhT
import Derived.Test.YtmdkpcneakoagaaGreatEvCompact
import Derived.Test.YtmdkpcneakoagaaGreatEvIterC
import Derived.Test.YtmdkpcneakoagaaGreatEvIterI
import Derived.Test.YtmdkpcneakoagaaGreatEvIterS
import Derived.Test.YtmdkpcneakoagaaGreatEvTable
import Derived.Test.YtmdkpcneakoagaaGreatPh2
import Derived.Test.YtmdkpcneakoagaaGreatPhI163
import Derived.Test.YtmdkpcneakoagaaGreatPhI195
import Derived.Test.YtmdkpcneakoagaaGreatPhL
namespace Go.Ev.W
open Go.Ev Go.Proofs
set_option maxRecDepth 100000
set_option linter.unusedVariables false
noncomputable abbrev QJ.s : Sg := ⟨[.lend], [vl 114], ⟨[vo 9], [none]⟩, Tryz.f164⟩
noncomputable def QJ.gs (δ : Type) : List (Nat × Callee (GT tab) δ) := [(193, Q26.k)]
theorem QJ.gok (δ : Type) : Q4 Tryz.prog tab (QJ.gs δ) := .cons Q26.con .nil
noncomputable def QJ.c := cx QJ.s [] [] [(3, [0, 3, 9, 10, 11]), (11, [6, 25, 26, 27])] false (QJ.gs _)
noncomputable def QJ (x0 : List (List ByteArray)) : Option (List ByteArray) := fnW QJ.s QJ.c x0
theorem QJ.fok : FkS QJ.s 164 := ⟨Tryz.func164, by kernel_rfl, by kernel_rfl⟩
noncomputable def QJ.fn (x : Args tab QJ.s.ar) : Option (ResT tab QJ.s.rs) := QJ x
noncomputable abbrev QJ.k {δ : Type} : Callee (GT tab) δ := kS QJ.s QJ.fn
theorem QJ.con {δ : Type} : Con Tryz.prog (KT tab) 164 (QJ.k (δ := δ)) := Q5 (c := QJ.c) mixed Q0 (Q1 (QJ.gok _)) QJ.fok rfl rfl fun _ => rfl
noncomputable def QJ_l0 (v0 : List (List ByteArray)) (v1 : Int) (v2 : List (List ByteArray)) (v3 v4 : Int) : Option (List ByteArray) := lpW QJ.s QJ.c 0 (ud 24 [.vs false 114 v0, .undef, .undef, .int .i64 v1, .undef, .undef, .undef, .undef, .undef, .vs false 114 v2, .int .i64 v3, .int .i64 v4]) [] 0
noncomputable def QJ_l1 (v0 : List (List ByteArray)) (v1 v2 : Int) (v3 : List ByteArray) : Option (List ByteArray) := lpW QJ.s QJ.c 1 (ud 8 [.undef, .undef, .undef, .undef, .undef, .undef, .sl 0 0, .undef, .undef, .undef, .undef, .undef, .undef, .undef, .undef, .undef, .undef, .undef, .undef, .undef, .undef, .undef, .undef, .undef, .undef, .vs false 114 v0, .int .i64 v1, .int .i64 v2]) [.row 0 true 9 v3] 1
theorem QJ.eq (x0 : List (List ByteArray)) : QJ x0 =
 QJ_l0 x0 (0 : Int) x0 (x0.length : Int) (0 : Int) := by kernel_rfl
theorem QJ_l0.eq (v0 : List (List ByteArray)) (v1 : Int) (v2 : List (List ByteArray)) (v3 v4 : Int) : QJ_l0 v0 v1 v2 v3 v4 =
 bif decide (v4 < v3) then
 (at? v2 v4).bind fun y1 =>
 bif decide (IntKind.i64.wrap (v1 + (y1.length : Int)) < (0 : Int)) then
 none
 else
 QJ_l0 v0 (IntKind.i64.wrap (v1 + (y1.length : Int))) v2 v3 (IntKind.i64.wrap (v4 + (1 : Int)))
 else
 (Q26 ([] : List ByteArray) v1).bind fun y2 =>
 QJ_l1 v0 (v0.length : Int) (0 : Int) y2 := (Q6 Q0 (Q1 (QJ.gok _)) _ _).trans (by kernel_rfl)
theorem QJ_l1.eq (v0 : List (List ByteArray)) (v1 v2 : Int) (v3 : List ByteArray) : QJ_l1 v0 v1 v2 v3 =
 bif decide (v2 < v1) then
 (at? v0 v2).bind fun y1 =>
 bif decide ((v3.length + y1.length) * 16 ≤ 140737488355328) then
 QJ_l1 v0 v1 (IntKind.i64.wrap (v2 + (1 : Int))) (v3 ++ y1)
 else
 none
 else
 some v3 := (Q6 Q0 (Q1 (QJ.gok _)) _ _).trans (by kernel_rfl)
noncomputable abbrev Q3Z.k {δ : Type} : Callee (GT tab) δ := calleeB 114 192
theorem Q3Z.con {δ : Type} : Con Tryz.prog (KT tab) 163 (Q3Z.k (δ := δ)) := con_box It.V163.boxes
def Q27.ms : List Mode := [.lend]
def Q27.as : List VSh := [.one (.fn 192 [.ptr false 114 [.b (.b (.sl false false 9))]])]
def Q27.rs : RSh := ⟨[.one (.b (.b (.b (.b (.sl true true 9)))))], [none]⟩
noncomputable def Q27 (x0 : List ByteArray) : Option (List ByteArray) := sortedS (fun x => x) x0
noncomputable def Q27.fn : Args tab Q27.as → Option (ResT tab Q27.rs) := fun x => Q27 x
noncomputable abbrev Q27.k {δ : Type} : Callee (GT tab) δ := Q1U tab Q27.ms Q27.as Q27.rs Q27.fn
theorem Q27.con {δ : Type} : Con Tryz.prog (KT tab) 162 (Q27.k (δ := δ)) := con_sortedS (l := tab) Tryz.laysSorted162 (fun m => ⟨fun blk off cap ss W hH hblk hsz => callsIn_wide.2 (AnyM.slices_Sort_string Tryz.laysSort191 blk off cap ss W hH hblk hsz), fun p cap W => callsIn_wide.2 (AnyM.slices_Sort_string_none Tryz.laysSort191 p cap W)⟩) (enters_of Tryz.func191 (by kernel_rfl) rfl) rfl (e := 9) rfl (g := fun x => x) (fun _ _ => rfl) (gf := 192) (tb := 114) It.V163.valsOk (enters_of Tryz.func192 (by kernel_rfl) rfl)
def Q28.ms : List Mode := [.give]
def Q28.as : List VSh := [.one (.b (.b (.b (.b (.sl true true 9)))))]
def Q28.rs : RSh := ⟨[.one (.b (.b (.b (.b (.sl true true 9)))))], [none]⟩
noncomputable def Q28 (x0 : List ByteArray) : Option (List ByteArray) := (compactC (List.map (fun x => x) x0)).map (List.map fun x => x)
noncomputable def Q28.fn : Args tab Q28.as → Option (ResT tab Q28.rs) := fun x => Q28 x
noncomputable abbrev Q28.k {δ : Type} : Callee (GT tab) δ := Q1U tab Q28.ms Q28.as Q28.rs Q28.fn
theorem Q28.con {δ : Type} : Con Tryz.prog (KT tab) 161 (Q28.k (δ := δ)) := con_compact (l := tab) Tryz.laysCompact161 rfl (e := 9) rfl Tryz.zeroValue9 (g := fun x => x) (h' := fun x => x) (fun _ _ => rfl) (fun _ => rfl)
noncomputable abbrev Q1e.s : Sg := ⟨[.lend], [.one (.b (.b (.b (.b (.str)))))], ⟨[vb], [none]⟩, Tryz.f228⟩
noncomputable def Q1e.gs (δ : Type) : List (Nat × Callee (GT tab) δ) := []
theorem Q1e.gok (δ : Type) : Q4 Tryz.prog tab (Q1e.gs δ) := .nil
noncomputable def Q1e.c := cx Q1e.s [] [] [] false (Q1e.gs _)
noncomputable def Q1e (x0 : ByteArray) : Option (Bool) := fnW Q1e.s Q1e.c x0
theorem Q1e.fok : FkS Q1e.s 228 := ⟨Tryz.func228, by kernel_rfl, by kernel_rfl⟩
noncomputable def Q1e.fn (x : Args tab Q1e.s.ar) : Option (ResT tab Q1e.s.rs) := Q1e x
noncomputable abbrev Q1e.k {δ : Type} : Callee (GT tab) δ := kS Q1e.s Q1e.fn
theorem Q1e.con {δ : Type} : Con Tryz.prog (KT tab) 228 (Q1e.k (δ := δ)) := Q5 (c := Q1e.c) mixed Q0 (Q1 (Q1e.gok _)) Q1e.fok rfl rfl fun _ => rfl
theorem Q1e.eq (x0 : ByteArray) : Q1e x0 =
 some (!(x0.toList == x0.toList)) := by kernel_rfl
noncomputable abbrev Q1z.s : Sg := ⟨[.lend, .lend], [.one (.b (.b (.b (.b (.str))))), .one (.b (.b (.b (.b (.str)))))], ⟨[vb], [none, none]⟩, Tryz.f209⟩
noncomputable def Q1z.gs (δ : Type) : List (Nat × Callee (GT tab) δ) := [(228, Q1e.k)]
theorem Q1z.gok (δ : Type) : Q4 Tryz.prog tab (Q1z.gs δ) := .cons Q1e.con .nil
noncomputable def Q1z.c := cx Q1z.s [] [] [] false (Q1z.gs _)
noncomputable def Q1z (x0 x1 : ByteArray) : Option (Bool) := fnW Q1z.s Q1z.c (x0, x1)
theorem Q1z.fok : FkS Q1z.s 209 := ⟨Tryz.func209, by kernel_rfl, by kernel_rfl⟩
noncomputable def Q1z.fn (x : Args tab Q1z.s.ar) : Option (ResT tab Q1z.s.rs) := Q1z x.1 x.2
noncomputable abbrev Q1z.k {δ : Type} : Callee (GT tab) δ := kS Q1z.s Q1z.fn
theorem Q1z.con {δ : Type} : Con Tryz.prog (KT tab) 209 (Q1z.k (δ := δ)) := Q5 (c := Q1z.c) mixed Q0 (Q1 (Q1z.gok _)) Q1z.fok rfl rfl fun _ => rfl
theorem Q1z.eq (x0 x1 : ByteArray) : Q1z x0 x1 =
 (Q1e x0).bind fun y1 =>
 bif y1 then
 (Q1e x1).bind fun y2 =>
 bif !y2 then
 some true
 else
 some (Op.bytesLess x0.toList x1.toList)
 else
 some (Op.bytesLess x0.toList x1.toList) := by kernel_rfl
noncomputable abbrev Q1f.s : Sg := ⟨[.lend], [.one (.b (.b (.b (.b (.str)))))], ⟨[vb], [none]⟩, Tryz.f210⟩
noncomputable def Q1f.gs (δ : Type) : List (Nat × Callee (GT tab) δ) := []
theorem Q1f.gok (δ : Type) : Q4 Tryz.prog tab (Q1f.gs δ) := .nil
noncomputable def Q1f.c := cx Q1f.s [] [] [] false (Q1f.gs _)
noncomputable def Q1f (x0 : ByteArray) : Option (Bool) := fnW Q1f.s Q1f.c x0
theorem Q1f.fok : FkS Q1f.s 210 := ⟨Tryz.func210, by kernel_rfl, by kernel_rfl⟩
noncomputable def Q1f.fn (x : Args tab Q1f.s.ar) : Option (ResT tab Q1f.s.rs) := Q1f x
noncomputable abbrev Q1f.k {δ : Type} : Callee (GT tab) δ := kS Q1f.s Q1f.fn
theorem Q1f.con {δ : Type} : Con Tryz.prog (KT tab) 210 (Q1f.k (δ := δ)) := Q5 (c := Q1f.c) mixed Q0 (Q1 (Q1f.gok _)) Q1f.fok rfl rfl fun _ => rfl
theorem Q1f.eq (x0 : ByteArray) : Q1f x0 =
 some (!(x0.toList == x0.toList)) := by kernel_rfl
noncomputable abbrev Q0m.s : Sg := ⟨[.lend, .lend], [vl 9, .one (.b (.b (.b (.b (.str)))))], ⟨[vi, vb], [none, none]⟩, Tryz.f194⟩
noncomputable def Q0m.gs (δ : Type) : List (Nat × Callee (GT tab) δ) := [(209, Q1z.k), (210, Q1f.k)]
theorem Q0m.gok (δ : Type) : Q4 Tryz.prog tab (Q0m.gs δ) := .cons Q1z.con (.cons Q1f.con .nil)
noncomputable def Q0m.c := cx Q0m.s [] [] [(3, [0, 1, 6, 7, 8])] false (Q0m.gs _)
noncomputable def Q0m (x0 : List ByteArray) (x1 : ByteArray) : Option (Int × Bool) := fnW Q0m.s Q0m.c (x0, x1)
theorem Q0m.fok : FkS Q0m.s 194 := ⟨Tryz.func194, by kernel_rfl, by kernel_rfl⟩
noncomputable def Q0m.fn (x : Args tab Q0m.s.ar) : Option (ResT tab Q0m.s.rs) := Q0m x.1 x.2
noncomputable abbrev Q0m.k {δ : Type} : Callee (GT tab) δ := kS Q0m.s Q0m.fn
theorem Q0m.con {δ : Type} : Con Tryz.prog (KT tab) 194 (Q0m.k (δ := δ)) := Q5 (c := Q0m.c) mixed Q0 (Q1 (Q0m.gok _)) Q0m.fok rfl rfl fun _ => rfl
noncomputable def Q0m_l0 (v0 : List ByteArray) (v1 : ByteArray) (v2 v3 v4 : Int) : Option (Int × Bool) := lpW Q0m.s Q0m.c 0 (ud 45 [.vs false 9 v0, .str v1, .undef, .undef, .undef, .undef, .int .i64 v2, .int .i64 v3, .int .i64 v4]) [] 0
theorem Q0m.eq (x0 : List ByteArray) (x1 : ByteArray) : Q0m x0 x1 =
 Q0m_l0 x0 x1 (x0.length : Int) (0 : Int) (x0.length : Int) := by kernel_rfl
theorem Q0m_l0.eq (v0 : List ByteArray) (v1 : ByteArray) (v2 v3 v4 : Int) : Q0m_l0 v0 v1 v2 v3 v4 =
 bif decide (v3 < v4) then
 (at? v0 (IntKind.i64.wrap ((IntKind.u64.wrap (IntKind.i64.wrap (v3 + v4))).fdiv (2 ^ 1)))).bind fun y1 =>
 (Q1z y1 v1).bind fun y2 =>
 bif y2 then
 Q0m_l0 v0 v1 v2 (IntKind.i64.wrap ((IntKind.i64.wrap ((IntKind.u64.wrap (IntKind.i64.wrap (v3 + v4))).fdiv (2 ^ 1))) + (1 : Int))) v4
 else
 Q0m_l0 v0 v1 v2 v3 (IntKind.i64.wrap ((IntKind.u64.wrap (IntKind.i64.wrap (v3 + v4))).fdiv (2 ^ 1)))
 else
 bif decide (v3 < v2) then
 (at? v0 v3).bind fun y3 =>
 bif y3.toList == v1.toList then
 some (v3, true)
 else
 (at? v0 v3).bind fun y4 =>
 (Q1f y4).bind fun y5 =>
 bif y5 then
 (Q1f v1).bind fun y6 =>
 some (v3, y6)
 else
 some (v3, false)
 else
 some (v3, false) := (Q6 Q0 (Q1 (Q0m.gok _)) _ _).trans (by kernel_rfl)
noncomputable abbrev Q0f.s : Sg := ⟨[.lend, .lend], [vl 9, .one (.b (.b (.b (.b (.str)))))], ⟨[vi, vi], [none, none]⟩, Tryz.f165⟩
noncomputable def Q0f.gs (δ : Type) : List (Nat × Callee (GT tab) δ) := [(194, Q0m.k)]
theorem Q0f.gok (δ : Type) : Q4 Tryz.prog tab (Q0f.gs δ) := .cons Q0m.con .nil
noncomputable def Q0f.c := cx Q0f.s [] [] [(3, [0, 1, 6, 8])] false (Q0f.gs _)
noncomputable def Q0f (x0 : List ByteArray) (x1 : ByteArray) : Option (Int × Int) := fnW Q0f.s Q0f.c (x0, x1)
theorem Q0f.fok : FkS Q0f.s 165 := ⟨Tryz.func165, by kernel_rfl, by kernel_rfl⟩
noncomputable def Q0f.fn (x : Args tab Q0f.s.ar) : Option (ResT tab Q0f.s.rs) := Q0f x.1 x.2
noncomputable abbrev Q0f.k {δ : Type} : Callee (GT tab) δ := kS Q0f.s Q0f.fn
theorem Q0f.con {δ : Type} : Con Tryz.prog (KT tab) 165 (Q0f.k (δ := δ)) := Q5 (c := Q0f.c) mixed Q0 (Q1 (Q0f.gok _)) Q0f.fok rfl rfl fun _ => rfl
noncomputable def Q0f_l0 (v0 : List ByteArray) (v1 : ByteArray) (v2 v3 : Int) : Option (Int × Int) := lpW Q0f.s Q0f.c 0 (ud 23 [.vs false 9 v0, .str v1, .undef, .undef, .undef, .undef, .int .i64 v2, .undef, .int .i64 v3]) [] 0
theorem Q0f.eq (x0 : List ByteArray) (x1 : ByteArray) : Q0f x0 x1 =
 (Q0m x0 x1).bind fun y1 =>
 Q0f_l0 x0 x1 y1.1 y1.1 := by kernel_rfl
theorem Q0f_l0.eq (v0 : List ByteArray) (v1 : ByteArray) (v2 v3 : Int) : Q0f_l0 v0 v1 v2 v3 =
 bif decide (v3 < (v0.length : Int)) then
 (at? v0 v3).bind fun y1 =>
 bif y1.toList == v1.toList then
 Q0f_l0 v0 v1 v2 (IntKind.i64.wrap (v3 + (1 : Int)))
 else
 some (v2, v3)
 else
 some (v2, v3) := (Q6 Q0 (Q1 (Q0f.gok _)) _ _).trans (by kernel_rfl)
noncomputable abbrev Q0n.s : Sg := ⟨[.lend, .lend, .lend], [vl 5, vl 5, vi], ⟨[.one (.b (.b (.b (.b (.sl true false 137)))))], [none, none, none]⟩, Tryz.f114⟩
noncomputable def Q0n.gs (δ : Type) : List (Nat × Callee (GT tab) δ) := [(160, Q0e.k), (161, Q28.k), (162, Q27.k), (163, Q3Z.k), (164, QJ.k), (165, Q0f.k)]
theorem Q0n.gok (δ : Type) : Q4 Tryz.prog tab (Q0n.gs δ) := .cons Q0e.con (.cons Q28.con (.cons Q27.con (.cons Q3Z.con (.cons QJ.con (.cons Q0f.con .nil)))))
noncomputable def Q0n.c := cx Q0n.s [137] [] [(5, [7, 8, 10, 27, 28, 29])] false (Q0n.gs _)
noncomputable def Q0n (x0 x1 : List Int) (x2 : Int) : Option (List ((List Int) × Int × Int × Int × Int)) := fnW Q0n.s Q0n.c (x0, x1, x2)
theorem Q0n.fok : FkS Q0n.s 114 := ⟨Tryz.func114, by kernel_rfl, by kernel_rfl⟩
noncomputable def Q0n.fn (x : Args tab Q0n.s.ar) : Option (ResT tab Q0n.s.rs) := Q0n x.1 x.2.1 x.2.2
noncomputable abbrev Q0n.k {δ : Type} : Callee (GT tab) δ := kS Q0n.s Q0n.fn
theorem Q0n.con {δ : Type} : Con Tryz.prog (KT tab) 114 (Q0n.k (δ := δ)) := Q5 (c := Q0n.c) mixed Q0 (Q1 (Q0n.gok _)) Q0n.fok rfl rfl fun _ => rfl
noncomputable def Q0n_l0 (v0 v1 : List ByteArray) (v2 v3 : Int) (v4 : List ((List Int) × Int × Int × Int × Int)) (v5 : List ByteArray) : Option (List ((List Int) × Int × Int × Int × Int)) := lpW Q0n.s Q0n.c 0 (ud 28 [.undef, .undef, .undef, .undef, .undef, .undef, .undef, .vs false 9 v0, .vs false 9 v1, .undef, .sl 0 0, .undef, .undef, .undef, .undef, .undef, .undef, .undef, .undef, .undef, .undef, .undef, .undef, .undef, .undef, .undef, .undef, .sl 1 0, .int .i64 v2, .int .i64 v3]) [.row 0 false 137 v4, .row 0 true 9 v5] 2
theorem Q0n.eq (x0 x1 : List Int) (x2 : Int) : Q0n x0 x1 x2 =
 (Q0e x0 x2).bind fun y1 =>
 (Q0e x1 x2).bind fun y2 =>
 (QJ ([y1, y2] : List (List ByteArray))).bind fun y3 =>
 (Q27 y3).bind fun y4 =>
 (Q28 y4).bind fun y5 =>
 Q0n_l0 y1 y2 (y5.length : Int) (0 : Int) ([] : List ((List Int) × Int × Int × Int × Int)) y5 := by kernel_rfl
theorem Q0n_l0.eq (v0 v1 : List ByteArray) (v2 v3 : Int) (v4 : List ((List Int) × Int × Int × Int × Int)) (v5 : List ByteArray) : Q0n_l0 v0 v1 v2 v3 v4 v5 =
 bif decide (v3 < v2) then
 (at? v5 v3).bind fun y1 =>
 v5[v3.toNat]?.bind fun y2 =>
 (Q0f v0 y2).bind fun y3 =>
 (Q0f v1 y2).bind fun y4 =>
 bif decide ((v4.length + ([(y2.data.toList.map fun b => (b.toNat : Int), y3.1, y3.2, y4.1, y4.2)] : List ((List Int) × Int × Int × Int × Int)).length) * 56 ≤ 140737488355328) then
 Q0n_l0 v0 v1 v2 (IntKind.i64.wrap (v3 + (1 : Int))) (v4 ++ ([(y2.data.toList.map fun b => (b.toNat : Int), y3.1, y3.2, y4.1, y4.2)] : List ((List Int) × Int × Int × Int × Int))) v5
 else
 none
 else
 some v4 := (Q6 Q0 (Q1 (Q0n.gok _)) _ _).trans (by kernel_rfl)
noncomputable abbrev Q1P.s : Sg := ⟨[.lend, .lend], [vl 3, vl 3], ⟨[vb], [none, none]⟩, Tryz.f166⟩
noncomputable def Q1P.gs (δ : Type) : List (Nat × Callee (GT tab) δ) := []
theorem Q1P.gok (δ : Type) : Q4 Tryz.prog tab (Q1P.gs δ) := .nil
noncomputable def Q1P.c := cx Q1P.s [] [] [] false (Q1P.gs _)
noncomputable def Q1P (x0 x1 : List Int) : Option (Bool) := fnW Q1P.s Q1P.c (x0, x1)
theorem Q1P.fok : FkS Q1P.s 166 := ⟨Tryz.func166, by kernel_rfl, by kernel_rfl⟩
noncomputable def Q1P.fn (x : Args tab Q1P.s.ar) : Option (ResT tab Q1P.s.rs) := Q1P x.1 x.2
noncomputable abbrev Q1P.k {δ : Type} : Callee (GT tab) δ := kS Q1P.s Q1P.fn
theorem Q1P.con {δ : Type} : Con Tryz.prog (KT tab) 166 (Q1P.k (δ := δ)) := Q5 (c := Q1P.c) mixed Q0 (Q1 (Q1P.gok _)) Q1P.fok rfl rfl fun _ => rfl
theorem Q1P.eq (x0 x1 : List Int) : Q1P x0 x1 =
 bif decide ((x0.length : Int) ≤ (301 : Int)) then
 some (decide ((x1.length : Int) ≤ (301 : Int)))
 else
 some false := by kernel_rfl
def Q2a.ms : List Mode := [.lend, .lend]
def Q2a.as : List VSh := [.one (.b (.b (.b (.b (.sl false false 3))))), .one (.b (.b (.b (.b (.sl false false 3)))))]
def Q2a.rs : RSh := ⟨[.one (.b (.b (.b (.b (.sl false false 24)))))], [none, none]⟩
noncomputable def Q2a (x0 : List Int) (x1 : List Int) : Option (List (List Int)) := (tableC fI (List.map (fun x => x) x0) (List.map (fun x => x) x1)).map (List.map fun x => x)
noncomputable def Q2a.fn : Args tab Q2a.as → Option (ResT tab Q2a.rs) := fun x => Q2a x.1 x.2
noncomputable abbrev Q2a.k {δ : Type} : Callee (GT tab) δ := Q1U tab Q2a.ms Q2a.as Q2a.rs Q2a.fn
theorem Q2a.con {δ : Type} : Con Tryz.prog (KT tab) 195 (Q2a.k (δ := δ)) := con_table (l := tab) Tryz.func195 (by kernel_rfl) rfl It.T195.tableOk (e := 24) (e3 := 3) (g := fun x => x) (g' := fun x => x) (h := fun x => x) rfl (fun _ => rfl) (fun ys => Eq.trans rfl (congrArg (fun z => [T.sl false false 3 z]) (List.map_id ys).symm))
noncomputable abbrev Q0o.s : Sg := ⟨[.lend, .lend], [vl 3, vi], ⟨[vi], [none, none]⟩, Tryz.f196⟩
noncomputable def Q0o.gs (δ : Type) : List (Nat × Callee (GT tab) δ) := []
theorem Q0o.gok (δ : Type) : Q4 Tryz.prog tab (Q0o.gs δ) := .nil
noncomputable def Q0o.c := cx Q0o.s [] [] [(2, [0, 1, 7, 8])] false (Q0o.gs _)
noncomputable def Q0o (x0 : List Int) (x1 : Int) : Option (Int) := fnW Q0o.s Q0o.c (x0, x1)
theorem Q0o.fok : FkS Q0o.s 196 := ⟨Tryz.func196, by kernel_rfl, by kernel_rfl⟩
noncomputable def Q0o.fn (x : Args tab Q0o.s.ar) : Option (ResT tab Q0o.s.rs) := Q0o x.1 x.2
noncomputable abbrev Q0o.k {δ : Type} : Callee (GT tab) δ := kS Q0o.s Q0o.fn
theorem Q0o.con {δ : Type} : Con Tryz.prog (KT tab) 196 (Q0o.k (δ := δ)) := Q5 (c := Q0o.c) mixed Q0 (Q1 (Q0o.gok _)) Q0o.fok rfl rfl fun _ => rfl
noncomputable def Q0o_l0 (v0 : List Int) (v1 v2 v3 : Int) : Option (Int) := lpW Q0o.s Q0o.c 0 (ud 10 [.vs false 3 v0, .int .i64 v1, .undef, .undef, .undef, .undef, .undef, .int .i64 v2, .int .i64 v3]) [] 0
theorem Q0o.eq (x0 : List Int) (x1 : Int) : Q0o x0 x1 =
 Q0o_l0 x0 x1 (x0.length : Int) (0 : Int) := by kernel_rfl
theorem Q0o_l0.eq (v0 : List Int) (v1 v2 v3 : Int) : Q0o_l0 v0 v1 v2 v3 =
 bif decide (v3 < v2) then
 (at? v0 v3).bind fun y1 =>
 bif v1 == y1 then
 some v3
 else
 Q0o_l0 v0 v1 v2 (IntKind.i64.wrap (v3 + (1 : Int)))
 else
 some (-1 : Int) := (Q6 Q0 (Q1 (Q0o.gok _)) _ _).trans (by kernel_rfl)
noncomputable abbrev Q04.s : Sg := ⟨[.lend, .lend], [vl 3, vl 3], ⟨[vo 140], [none, none]⟩, Tryz.f167⟩
noncomputable def Q04.gs (δ : Type) : List (Nat × Callee (GT tab) δ) := [(195, Q2a.k), (196, Q0o.k)]
theorem Q04.gok (δ : Type) : Q4 Tryz.prog tab (Q04.gs δ) := .cons Q2a.con (.cons Q0o.con .nil)
noncomputable def Q04.c := cx Q04.s [] [] [(4, [0, 1, 5, 6, 7, 8])] false (Q04.gs _)
noncomputable def Q04 (x0 x1 : List Int) : Option (List (Int × Int)) := fnW Q04.s Q04.c (x0, x1)
theorem Q04.fok : FkS Q04.s 167 := ⟨Tryz.func167, by kernel_rfl, by kernel_rfl⟩
noncomputable def Q04.fn (x : Args tab Q04.s.ar) : Option (ResT tab Q04.s.rs) := Q04 x.1 x.2
noncomputable abbrev Q04.k {δ : Type} : Callee (GT tab) δ := kS Q04.s Q04.fn
theorem Q04.con {δ : Type} : Con Tryz.prog (KT tab) 167 (Q04.k (δ := δ)) := Q5 (c := Q04.c) mixed Q0 (Q1 (Q04.gok _)) Q04.fok rfl rfl fun _ => rfl
noncomputable def Q04_l0 (v0 v1 : List Int) (v2 : List (List Int)) (v3 v4 : Int) (v5 : List (Int × Int)) : Option (List (Int × Int)) := lpW Q04.s Q04.c 0 (ud 59 [.vs false 3 v0, .vs false 3 v1, .undef, .undef, .undef, .vs false 24 v2, .sl 0 0, .int .i64 v3, .int .i64 v4]) [.row 0 true 140 v5] 1
theorem Q04.eq (x0 x1 : List Int) : Q04 x0 x1 =
 (Q2a x0 x1).bind fun y1 =>
 Q04_l0 x0 x1 y1 (0 : Int) (0 : Int) ([] : List (Int × Int)) := by kernel_rfl
theorem Q04_l0.eq (v0 v1 : List Int) (v2 : List (List Int)) (v3 v4 : Int) (v5 : List (Int × Int)) : Q04_l0 v0 v1 v2 v3 v4 v5 =
 (at? v2 v3).bind fun y1 =>
 (at? y1 v4).bind fun y2 =>
 bif decide (y2 > (0 : Int)) then
 bif decide (0 ≤ v4 ∧ v4 ≤ ((v1.length : Nat) : Int)) then
 (at? v0 v3).bind fun y3 =>
 (Q0o ((v1.take v1.length).drop v4.toNat) y3).bind fun y4 =>
 bif decide (y4 ≥ (0 : Int)) then
 (at? v2 (IntKind.i64.wrap (v3 + (1 : Int)))).bind fun y5 =>
 (at? y5 (IntKind.i64.wrap ((IntKind.i64.wrap (v4 + y4)) + (1 : Int)))).bind fun y6 =>
 (at? v2 v3).bind fun y7 =>
 (at? y7 v4).bind fun y8 =>
 bif IntKind.i64.wrap (y6 + (1 : Int)) == y8 then
 bif decide ((v5.length + ([(v3, IntKind.i64.wrap (v4 + y4))] : List (Int × Int)).length) * 16 ≤ 140737488355328) then
 Q04_l0 v0 v1 v2 (IntKind.i64.wrap (v3 + (1 : Int))) (IntKind.i64.wrap (v4 + (IntKind.i64.wrap (y4 + (1 : Int))))) (v5 ++ ([(v3, IntKind.i64.wrap (v4 + y4))] : List (Int × Int)))
 else
 none
 else
 Q04_l0 v0 v1 v2 (IntKind.i64.wrap (v3 + (1 : Int))) v4 v5
 else
 Q04_l0 v0 v1 v2 (IntKind.i64.wrap (v3 + (1 : Int))) v4 v5
 else
 none
 else
 some v5 := (Q6 Q0 (Q1 (Q04.gok _)) _ _).trans (by kernel_rfl)
noncomputable abbrev Q1g.s : Sg := ⟨[.lend, .lend, .lend], [vl 3, vl 3, vi], ⟨[vo 140], [none, none, none]⟩, Tryz.f115⟩
noncomputable def Q1g.gs (δ : Type) : List (Nat × Callee (GT tab) δ) := [(166, Q1P.k), (167, Q04.k)]
theorem Q1g.gok (δ : Type) : Q4 Tryz.prog tab (Q1g.gs δ) := .cons Q1P.con (.cons Q04.con .nil)
noncomputable def Q1g.c := cx Q1g.s [] [] [] false (Q1g.gs _)
noncomputable def Q1g (x0 x1 : List Int) (x2 : Int) : Option (List (Int × Int)) := fnW Q1g.s Q1g.c (x0, x1, x2)
theorem Q1g.fok : FkS Q1g.s 115 := ⟨Tryz.func115, by kernel_rfl, by kernel_rfl⟩
noncomputable def Q1g.fn (x : Args tab Q1g.s.ar) : Option (ResT tab Q1g.s.rs) := Q1g x.1 x.2.1 x.2.2
noncomputable abbrev Q1g.k {δ : Type} : Callee (GT tab) δ := kS Q1g.s Q1g.fn
theorem Q1g.con {δ : Type} : Con Tryz.prog (KT tab) 115 (Q1g.k (δ := δ)) := Q5 (c := Q1g.c) mixed Q0 (Q1 (Q1g.gok _)) Q1g.fok rfl rfl fun _ => rfl
theorem Q1g.eq (x0 x1 : List Int) (x2 : Int) : Q1g x0 x1 x2 =
 (Q1P x0 x1).bind fun y1 =>
 bif !y1 then
 some ([] : List (Int × Int))
 else
 (Q04 x0 x1).bind fun y2 =>
 bif decide (IntKind.i64.wrap ((IntKind.i64.wrap ((x0.length : Int) + (x1.length : Int))) - (IntKind.i64.wrap ((2 : Int) * (y2.length : Int)))) > x2) then
 some ([] : List (Int × Int))
 else
 some y2 := by kernel_rfl
noncomputable abbrev QF.s : Sg := ⟨[.lend, .lend, .lend, .lend], [vl 5, vl 5, vi, vi], ⟨[vo 140], [none, none, none, none]⟩, Tryz.f50⟩
noncomputable def QF.gs (δ : Type) : List (Nat × Callee (GT tab) δ) := [(59, Qz.k), (114, Q0n.k), (115, Q1g.k)]
theorem QF.gok (δ : Type) : Q4 Tryz.prog tab (QF.gs δ) := .cons Qz.con (.cons Q0n.con (.cons Q1g.con .nil))
noncomputable def QF.c := cx QF.s [] [] [(4, [3, 9, 10, 11, 23, 24, 25]), (7, [3, 9, 10, 11, 13, 23, 24, 25, 42, 43, 44])] false (QF.gs _)
noncomputable def QF (x0 x1 : List Int) (x2 x3 : Int) : Option (List (Int × Int)) := fnW QF.s QF.c (x0, x1, x2, x3)
theorem QF.fok : FkS QF.s 50 := ⟨Tryz.func50, by kernel_rfl, by kernel_rfl⟩
noncomputable def QF.fn (x : Args tab QF.s.ar) : Option (ResT tab QF.s.rs) := QF x.1 x.2.1 x.2.2.1 x.2.2.2
noncomputable abbrev QF.k {δ : Type} : Callee (GT tab) δ := kS QF.s QF.fn
theorem QF.con {δ : Type} : Con Tryz.prog (KT tab) 50 (QF.k (δ := δ)) := Q5 (c := QF.c) mixed Q0 (Q1 (QF.gok _)) QF.fok rfl rfl fun _ => rfl
noncomputable def QF_l0 (v0 v1 v2 : Int) (v3 v4 : List Int) (v5 : List (Int × Int)) (v6 : List ((List Int) × Int × Int × Int × Int)) : Option (List (Int × Int)) := lpW QF.s QF.c 0 (ud 39 [.undef, .undef, .undef, .int .i64 v0, .undef, .undef, .undef, .undef, .undef, .sl 0 0, .sl 1 0, .sl 2 0, .undef, .undef, .undef, .undef, .undef, .undef, .undef, .undef, .undef, .undef, .undef, .sl 3 0, .int .i64 v1, .int .i64 v2]) [.row 0 true 3 v3, .row 0 true 3 v4, .row 0 true 140 v5, .row 0 false 137 v6] 4
noncomputable def QF_l1 (v0 v1 v2 v3 v4 : Int) (v5 v6 : List Int) (v7 : List (Int × Int)) (v8 : List Int) (v9 v10 v11 v12 : Int) (v13 : List ((List Int) × Int × Int × Int × Int)) (v14 : List (Int × Int)) : Option (List (Int × Int)) := lpW QF.s QF.c 1 (ud 20 [.undef, .undef, .undef, .int .i64 v0, .undef, .undef, .undef, .undef, .undef, .sl 0 0, .sl 1 0, .sl 2 0, .undef, .ptr 3 0, .undef, .undef, .undef, .undef, .undef, .undef, .undef, .undef, .undef, .sl 4 0, .int .i64 v1, .int .i64 v2, .undef, .undef, .undef, .undef, .undef, .undef, .undef, .undef, .undef, .undef, .undef, .undef, .undef, .undef, .undef, .undef, .sl 5 0, .int .i64 v3, .int .i64 v4]) [.row 0 true 3 v5, .row 0 true 3 v6, .row 0 true 140 v7, .box 137 [.vs false 5 v8, .int .i64 v9, .int .i64 v10, .int .i64 v11, .int .i64 v12], .row 0 false 137 v13, .row 0 true 140 v14] 6
theorem QF.eq (x0 x1 : List Int) (x2 x3 : Int) : QF x0 x1 x2 x3 =
 (Qz x0).bind fun y1 =>
 (Qz x1).bind fun y2 =>
 (Q0n x0 x1 x2).bind fun y3 =>
 QF_l0 x3 (y3.length : Int) (0 : Int) y1 y2 ([] : List (Int × Int)) y3 := by kernel_rfl
theorem QF_l0.eq (v0 v1 v2 : Int) (v3 v4 : List Int) (v5 : List (Int × Int)) (v6 : List ((List Int) × Int × Int × Int × Int)) : QF_l0 v0 v1 v2 v3 v4 v5 v6 =
 bif decide (v2 < v1) then
 (at? v6 v2).bind fun y1 =>
 v6[v2.toNat]?.bind fun y2 =>
 bif decide (0 ≤ y2.2.2.1 ∧ y2.2.2.1 ≤ ((v3.length : Nat) : Int)) then
 bif decide (0 ≤ y2.2.1 ∧ y2.2.1 ≤ ((y2.2.2.1.toNat : Nat) : Int)) then
 bif decide (0 ≤ y2.2.2.2.2 ∧ y2.2.2.2.2 ≤ ((v4.length : Nat) : Int)) then
 bif decide (0 ≤ y2.2.2.2.1 ∧ y2.2.2.2.1 ≤ ((y2.2.2.2.2.toNat : Nat) : Int)) then
 (Q1g ((v3.drop y2.2.1.toNat).take (y2.2.2.1.toNat - y2.2.1.toNat)) ((v4.drop y2.2.2.2.1.toNat).take (y2.2.2.2.2.toNat - y2.2.2.2.1.toNat)) v0).bind fun y3 =>
 QF_l1 v0 v1 v2 (y3.length : Int) (0 : Int) v3 v4 v5 y2.1 y2.2.1 y2.2.2.1 y2.2.2.2.1 y2.2.2.2.2 v6 y3
 else
 none
 else
 none
 else
 none
 else
 none
 else
 some v5 := (Q6 Q0 (Q1 (QF.gok _)) _ _).trans (by kernel_rfl)
theorem QF_l1.eq (v0 v1 v2 v3 v4 : Int) (v5 v6 : List Int) (v7 : List (Int × Int)) (v8 : List Int) (v9 v10 v11 v12 : Int) (v13 : List ((List Int) × Int × Int × Int × Int)) (v14 : List (Int × Int)) : QF_l1 v0 v1 v2 v3 v4 v5 v6 v7 v8 v9 v10 v11 v12 v13 v14 =
 bif decide (v4 < v3) then
 (at? v14 v4).bind fun y1 =>
 v14[v4.toNat]?.bind fun y2 =>
 bif decide ((v7.length + ([(IntKind.i64.wrap (y2.1 + v9), IntKind.i64.wrap (y2.2 + v11))] : List (Int × Int)).length) * 16 ≤ 140737488355328) then
 QF_l1 v0 v1 v2 v3 (IntKind.i64.wrap (v4 + (1 : Int))) v5 v6 (v7 ++ ([(IntKind.i64.wrap (y2.1 + v9), IntKind.i64.wrap (y2.2 + v11))] : List (Int × Int))) v8 v9 v10 v11 v12 v13 v14
 else
 none
 else
 QF_l0 v0 v1 (IntKind.i64.wrap (v2 + (1 : Int))) v5 v6 v7 v13 := (Q6 Q0 (Q1 (QF.gok _)) _ _).trans (by kernel_rfl)
noncomputable abbrev Q0g.s : Sg := ⟨[.lend, .lend, .lend], [vi, vi, vl 140], ⟨[.agg [.int .i64, .sl true true 90], .agg [.int .i64, .sl true true 90]], [none, none, none]⟩, Tryz.f49⟩
noncomputable def Q0g.gs (δ : Type) : List (Nat × Callee (GT tab) δ) := [(113, QI.k)]
theorem Q0g.gok (δ : Type) : Q4 Tryz.prog tab (Q0g.gs δ) := .cons QI.con .nil
noncomputable def Q0g.c := cx Q0g.s [] [] [(3, [6, 7, 8, 9, 16, 17, 18])] false (Q0g.gs _)
noncomputable def Q0g (x0 x1 : Int) (x2 : List (Int × Int)) : Option ((Int × (List Int)) × (Int × (List Int))) := fnW Q0g.s Q0g.c (x0, x1, x2)
theorem Q0g.fok : FkS Q0g.s 49 := ⟨Tryz.func49, by kernel_rfl, by kernel_rfl⟩
noncomputable def Q0g.fn (x : Args tab Q0g.s.ar) : Option (ResT tab Q0g.s.rs) := Q0g x.1 x.2.1 x.2.2
noncomputable abbrev Q0g.k {δ : Type} : Callee (GT tab) δ := kS Q0g.s Q0g.fn
theorem Q0g.con {δ : Type} : Con Tryz.prog (KT tab) 49 (Q0g.k (δ := δ)) := Q5 (c := Q0g.c) mixed Q0 (Q1 (Q0g.gok _)) Q0g.fok rfl rfl fun _ => rfl
noncomputable def Q0g_l0 (v0 : List (Int × Int)) (v1 v2 v3 : Int) (v4 : List Int) (v5 : Int) (v6 v7 v8 : List Int) : Option ((Int × (List Int)) × (Int × (List Int))) := lpW Q0g.s Q0g.c 0 (ud 16 [.undef, .undef, .undef, .undef, .undef, .undef, .ptr 0 0, .ptr 2 0, .sl 4 0, .sl 5 0, .undef, .undef, .undef, .undef, .undef, .undef, .vs false 140 v0, .int .i64 v1, .int .i64 v2]) [.box 30 [.int .i64 v3, .sl 1 0], .row 0 true 90 v4, .box 30 [.int .i64 v5, .sl 3 0], .row 0 true 90 v6, .row 0 true 3 v7, .row 0 true 3 v8] 6
theorem Q0g.eq (x0 x1 : Int) (x2 : List (Int × Int)) : Q0g x0 x1 x2 =
 bif decide ((0 : Int) ≤ x0) && decide (x0.toNat * 8 ≤ 140737488355328) then
 bif decide ((0 : Int) ≤ x1) && decide (x1.toNat * 8 ≤ 140737488355328) then
 Q0g_l0 x2 (x2.length : Int) (0 : Int) (0 : Int) ([] : List Int) (0 : Int) ([] : List Int) (List.replicate x0.toNat (0 : Int)) (List.replicate x1.toNat (0 : Int))
 else
 none
 else
 none := by kernel_rfl
theorem Q0g_l0.eq (v0 : List (Int × Int)) (v1 v2 v3 : Int) (v4 : List Int) (v5 : Int) (v6 v7 v8 : List Int) : Q0g_l0 v0 v1 v2 v3 v4 v5 v6 v7 v8 =
 bif decide (v2 < v1) then
 (at? v0 v2).bind fun y1 =>
 (at? v7 y1.1).bind fun y2 =>
 v7[y1.1.toNat]?.bind fun y3 =>
 (at? v8 y1.2).bind fun y4 =>
 v8[y1.2.toNat]?.bind fun y5 =>
 Q0g_l0 v0 v1 (IntKind.i64.wrap (v2 + (1 : Int))) v3 v4 v5 v6 (v7.set y1.1.toNat (1 : Int)) (v8.set y1.2.toNat (1 : Int))
 else
 (QI v7).bind fun y6 =>
 (QI v8).bind fun y7 =>
 some (y6, y7) := (Q6 Q0 (Q1 (Q0g.gok _)) _ _).trans (by kernel_rfl)
noncomputable abbrev Q01.s : Sg := ⟨[.lend, .lend], [vl 3, .agg [.int .i64, .sl false false 90]], ⟨[vo 3], [none, none]⟩, Tryz.f117⟩
noncomputable def Q01.gs (δ : Type) : List (Nat × Callee (GT tab) δ) := [(118, Q0Z.k)]
theorem Q01.gok (δ : Type) : Q4 Tryz.prog tab (Q01.gs δ) := .cons Q0Z.con .nil
noncomputable def Q01.c := cx Q01.s [] [] [(3, [3, 5, 8, 9, 10])] false (Q01.gs _)
noncomputable def Q01 (x0 : List Int) (x1 : Int × (List Int)) : Option (List Int) := fnW Q01.s Q01.c (x0, x1)
theorem Q01.fok : FkS Q01.s 117 := ⟨Tryz.func117, by kernel_rfl, by kernel_rfl⟩
noncomputable def Q01.fn (x : Args tab Q01.s.ar) : Option (ResT tab Q01.s.rs) := Q01 x.1 x.2
noncomputable abbrev Q01.k {δ : Type} : Callee (GT tab) δ := kS Q01.s Q01.fn
theorem Q01.con {δ : Type} : Con Tryz.prog (KT tab) 117 (Q01.k (δ := δ)) := Q5 (c := Q01.c) mixed Q0 (Q1 (Q01.gok _)) Q01.fok rfl rfl fun _ => rfl
noncomputable def Q01_l0 (v0 : List Int) (v1 v2 v3 : Int) (v4 v5 : List Int) : Option (List Int) := lpW Q01.s Q01.c 0 (ud 14 [.undef, .undef, .undef, .ptr 0 0, .undef, .sl 1 0, .undef, .undef, .vs false 3 v0, .int .i64 v1, .int .i64 v2]) [.box 30 [.int .i64 v3, .vs false 90 v4], .row 0 true 3 v5] 2
theorem Q01.eq (x0 : List Int) (x1 : Int × (List Int)) : Q01 x0 x1 =
 Q01_l0 x0 (x0.length : Int) (0 : Int) x1.1 x1.2 ([] : List Int) := by kernel_rfl
theorem Q01_l0.eq (v0 : List Int) (v1 v2 v3 : Int) (v4 v5 : List Int) : Q01_l0 v0 v1 v2 v3 v4 v5 =
 bif decide (v2 < v1) then
 (at? v0 v2).bind fun y1 =>
 (Q0Z (v3, v4) v2).bind fun y2 =>
 bif y2 == (0 : Int) then
 bif decide ((v5.length + ([y1] : List Int).length) * 8 ≤ 140737488355328) then
 Q01_l0 v0 v1 (IntKind.i64.wrap (v2 + (1 : Int))) v3 v4 (v5 ++ ([y1] : List Int))
 else
 none
 else
 Q01_l0 v0 v1 (IntKind.i64.wrap (v2 + (1 : Int))) v3 v4 v5
 else
 some v5 := (Q6 Q0 (Q1 (Q01.gok _)) _ _).trans (by kernel_rfl)
noncomputable abbrev Q1A.s : Sg := ⟨[.keep, .keep, .give, .give, .lend], [vo 5, vl 5, .agg [.int .i64, .sl true true 90], .agg [.int .i64, .sl true true 90], vi], ⟨[.agg [.int .i64, .int .i64, .int .i64, .sl true true 90, .int .i64, .sl true true 90, .int .i64, .sl true true 3, .sl true true 30, .int .i64, .sl true true 3, .sl true true 30, .sl true true 3, .int .i64, .sl true true 90, .int .i64, .int .i64, .int .i64, .sl true true 90, .int .i64, .int .i64, .int .i64, .sl true true 90]], [some (vo 5), some (vl 5), none, none, none]⟩, Tryz.f51⟩
noncomputable def Q1A.gs (δ : Type) : List (Nat × Callee (GT tab) δ) := [(59, Qz.k), (111, Qu.k), (116, Qa.k), (117, Q01.k)]
theorem Q1A.gok (δ : Type) : Q4 Tryz.prog tab (Q1A.gs δ) := .cons Qz.con (.cons Qu.con (.cons Qa.con (.cons Q01.con .nil)))
noncomputable def Q1A.c := cx Q1A.s [] [] [] false (Q1A.gs _)
noncomputable def Q1A (x0 x1 : List Int) (x2 x3 : Int × (List Int)) (x4 : Int) : Option ((Int × Int × Int × (List Int) × Int × (List Int) × Int × (List Int) × (List (Int × (List Int))) × Int × (List Int) × (List (Int × (List Int))) × (List Int) × Int × (List Int) × Int × Int × Int × (List Int) × Int × Int × Int × (List Int)) × (List Int) × (List Int)) := fnW Q1A.s Q1A.c (x0, x1, x2, x3, x4)
theorem Q1A.fok : FkS Q1A.s 51 := ⟨Tryz.func51, by kernel_rfl, by kernel_rfl⟩
noncomputable def Q1A.fn (x : Args tab Q1A.s.ar) : Option (ResT tab Q1A.s.rs) := Q1A x.1 x.2.1 x.2.2.1 x.2.2.2.1 x.2.2.2.2
noncomputable abbrev Q1A.k {δ : Type} : Callee (GT tab) δ := kS Q1A.s Q1A.fn
theorem Q1A.con {δ : Type} : Con Tryz.prog (KT tab) 51 (Q1A.k (δ := δ)) := Q5 (c := Q1A.c) mixed Q0 (Q1 (Q1A.gok _)) Q1A.fok rfl rfl fun _ => rfl
theorem Q1A.eq (x0 x1 : List Int) (x2 x3 : Int × (List Int)) (x4 : Int) : Q1A x0 x1 x2 x3 x4 =
 (Qu x1 x4).bind fun y1 =>
 (Qz x0).bind fun y2 =>
 (Q01 y2 x2).bind fun y3 =>
 (Qa y3).bind fun y4 =>
 (Qz x1).bind fun y5 =>
 (Q01 y5 x3).bind fun y6 =>
 (Qa y6).bind fun y7 =>
 some ((y1.1, x4, x2.1, x2.2, x3.1, x3.2, y4.1.1, y4.1.2.1, y4.1.2.2, y7.1.1, y7.1.2.1, y7.1.2.2, y1.2.2.2.2.2.1, y1.2.2.2.2.2.2.1, y1.2.2.2.2.2.2.2.1, y1.2.2.2.2.2.2.2.2.1, y1.2.2.2.2.2.2.2.2.2.1, y1.2.2.2.2.2.2.2.2.2.2.1, y1.2.2.2.2.2.2.2.2.2.2.2.1, y1.2.2.2.2.2.2.2.2.2.2.2.2.1, y1.2.2.2.2.2.2.2.2.2.2.2.2.2.1, y1.2.2.2.2.2.2.2.2.2.2.2.2.2.2.1, y1.2.2.2.2.2.2.2.2.2.2.2.2.2.2.2), x0, x1) := by kernel_rfl
noncomputable abbrev Q0t.s : Sg := ⟨[.lend, .lend, .lend, .lend, .lend], [.agg [.int .i64, .int .i64, .int .i64, .sl false false 3, .sl false false 30, .sl false false 3, .int .i64, .sl false false 90, .int .i64, .int .i64, .int .i64, .sl false false 90, .int .i64, .int .i64, .int .i64, .sl false false 90], vl 5, vi, vi, vi], ⟨[.agg [.int .i64, .int .i64, .int .i64, .sl true true 90, .int .i64, .sl true true 90, .int .i64, .sl true true 3, .sl true true 30, .int .i64, .sl true true 3, .sl true true 30, .sl true true 3, .int .i64, .sl true true 90, .int .i64, .int .i64, .int .i64, .sl true true 90, .int .i64, .int .i64, .int .i64, .sl true true 90], vb], [none, none, none, none, none]⟩, Tryz.f9⟩
noncomputable def Q0t.gs (δ : Type) : List (Nat × Callee (GT tab) δ) := [(46, Q0U.k), (47, Q1y.k), (48, Q10.k), (49, Q0g.k), (50, QF.k), (51, Q1A.k)]
theorem Q0t.gok (δ : Type) : Q4 Tryz.prog tab (Q0t.gs δ) := .cons Q0U.con (.cons Q1y.con (.cons Q10.con (.cons Q0g.con (.cons QF.con (.cons Q1A.con .nil)))))
noncomputable def Q0t.c := cx Q0t.s [] [] [] false (Q0t.gs _)
noncomputable def Q0t (x0 : Int × Int × Int × (List Int) × (List (Int × (List Int))) × (List Int) × Int × (List Int) × Int × Int × Int × (List Int) × Int × Int × Int × (List Int)) (x1 : List Int) (x2 x3 x4 : Int) : Option ((Int × Int × Int × (List Int) × Int × (List Int) × Int × (List Int) × (List (Int × (List Int))) × Int × (List Int) × (List (Int × (List Int))) × (List Int) × Int × (List Int) × Int × Int × Int × (List Int) × Int × Int × Int × (List Int)) × Bool) := fnW Q0t.s Q0t.c (x0, x1, x2, x3, x4)
theorem Q0t.fok : FkS Q0t.s 9 := ⟨Tryz.func9, by kernel_rfl, by kernel_rfl⟩
noncomputable def Q0t.fn (x : Args tab Q0t.s.ar) : Option (ResT tab Q0t.s.rs) := Q0t x.1 x.2.1 x.2.2.1 x.2.2.2.1 x.2.2.2.2
noncomputable abbrev Q0t.k {δ : Type} : Callee (GT tab) δ := kS Q0t.s Q0t.fn
theorem Q0t.con {δ : Type} : Con Tryz.prog (KT tab) 9 (Q0t.k (δ := δ)) := Q5 (c := Q0t.c) mixed Q0 (Q1 (Q0t.gok _)) Q0t.fok rfl rfl fun _ => rfl
theorem Q0t.eq (x0 : Int × Int × Int × (List Int) × (List (Int × (List Int))) × (List Int) × Int × (List Int) × Int × Int × Int × (List Int) × Int × Int × Int × (List Int)) (x1 : List Int) (x2 x3 x4 : Int) : Q0t x0 x1 x2 x3 x4 =
 (Q0U x0).bind fun y1 =>
 bif !y1.2 then
 some (((0 : Int), (0 : Int), (0 : Int), ([] : List Int), (0 : Int), ([] : List Int), (0 : Int), ([] : List Int), ([] : List (Int × (List Int))), (0 : Int), ([] : List Int), ([] : List (Int × (List Int))), ([] : List Int), (0 : Int), ([] : List Int), (0 : Int), (0 : Int), (0 : Int), ([] : List Int), (0 : Int), (0 : Int), (0 : Int), ([] : List Int)), false)
 else
 (Q1y y1.1 x1 x2).bind fun y2 =>
 bif !y2 then
 some (((0 : Int), (0 : Int), (0 : Int), ([] : List Int), (0 : Int), ([] : List Int), (0 : Int), ([] : List Int), ([] : List (Int × (List Int))), (0 : Int), ([] : List Int), ([] : List (Int × (List Int))), ([] : List Int), (0 : Int), ([] : List Int), (0 : Int), (0 : Int), (0 : Int), ([] : List Int), (0 : Int), (0 : Int), (0 : Int), ([] : List Int)), false)
 else
 (Q10 x4).bind fun y3 =>
 bif !y3 then
 some (((0 : Int), (0 : Int), (0 : Int), ([] : List Int), (0 : Int), ([] : List Int), (0 : Int), ([] : List Int), ([] : List (Int × (List Int))), (0 : Int), ([] : List Int), ([] : List (Int × (List Int))), ([] : List Int), (0 : Int), ([] : List Int), (0 : Int), (0 : Int), (0 : Int), ([] : List Int), (0 : Int), (0 : Int), (0 : Int), ([] : List Int)), false)
 else
 (QF y1.1 x1 x2 x3).bind fun y4 =>
 (Q0g (IntKind.i64.wrap ((y1.1.length : Int) + (1 : Int))) (IntKind.i64.wrap ((x1.length : Int) + (1 : Int))) y4).bind fun y5 =>
 (Q1A y1.1 x1 y5.1 y5.2 x4).bind fun y6 =>
 some (y6.1, true) := by kernel_rfl
end Go.Ev.W
