/- What functions of the program come to. -/
import Derived.Test.YtmdkpcneakoagaaGreatPhT
import Derived.Test.YtmdkpcneakoagaaGreatEvCompact
import Derived.Test.YtmdkpcneakoagaaGreatEvIterC
import Derived.Test.YtmdkpcneakoagaaGreatEvIterI
import Derived.Test.YtmdkpcneakoagaaGreatEvIterS
import Derived.Test.YtmdkpcneakoagaaGreatEvTable
import Derived.Test.YtmdkpcneakoagaaGreatPh2
import Derived.Test.YtmdkpcneakoagaaGreatPhI163
import Derived.Test.YtmdkpcneakoagaaGreatPhI195
import Derived.Test.YtmdkpcneakoagaaGreatPhL
namespace Go.Ev.W
open Go.Ev Go.Proofs
noncomputable section
set_option maxRecDepth 100000
set_option linter.unusedVariables false
abbrev QT.s : Sg := ⟨[.lend], [vl 114], ⟨[vo 9], [none]⟩, Tryz.f164⟩
def QT.gs (δ : Type) : List (Nat × KC δ) := [(193, Q23.k)]
theorem QT.gok (δ : Type) : Q4 Tryz.prog tab (QT.gs δ) := .cons Q23.con .nil
def QT.c := cx QT.s [] [] [(3, [0, 3, 9, 10, 11]), (11, [6, 25, 26, 27])] false (QT.gs _)
def QT (x0 : List (List ByteArray)) : Option (List ByteArray) := fnW QT.s QT.c x0
theorem QT.fok : FkS QT.s 164 := ⟨Tryz.func164, by kernel_rfl, by kernel_rfl⟩
def QT.fn (x : Args tab QT.s.ar) : Option (ResT tab QT.s.rs) := QT x
abbrev QT.k {δ : Type} : KC δ := kS QT.s QT.fn
theorem QT.con {δ : Type} : Con Tryz.prog (KT tab) 164 (QT.k (δ := δ)) := Q5 (c := QT.c) mixed Q0 (Q1 (QT.gok _)) QT.fok rfl rfl fun _ => rfl
def QT_l0 (v0 : List (List ByteArray)) (v1 : Int) (v2 : List (List ByteArray)) (v3 v4 : Int) : Option (List ByteArray) := lpW QT.s QT.c 0 (ud 24 [.vs false 114 v0, .undef, .undef, .int .i64 v1, .undef, .undef, .undef, .undef, .undef, .vs false 114 v2, .int .i64 v3, .int .i64 v4]) [] 0
def QT_l1 (v0 : List (List ByteArray)) (v1 v2 : Int) (v3 : List ByteArray) : Option (List ByteArray) := lpW QT.s QT.c 1 (ud 8 [.undef, .undef, .undef, .undef, .undef, .undef, .sl 0 0, .undef, .undef, .undef, .undef, .undef, .undef, .undef, .undef, .undef, .undef, .undef, .undef, .undef, .undef, .undef, .undef, .undef, .undef, .vs false 114 v0, .int .i64 v1, .int .i64 v2]) [.row 0 true 9 v3] 1
theorem QT.eq (x0 : List (List ByteArray)) : QT x0 =
 QT_l0 x0 0 x0 (x0.length : Int) 0 := by kernel_rfl
theorem QT_l0.eq (v0 : List (List ByteArray)) (v1 : Int) (v2 : List (List ByteArray)) (v3 v4 : Int) : QT_l0 v0 v1 v2 v3 v4 =
 bif decide (v4 < v3) then
 (at? v2 v4).bind fun y1 =>
 bif decide (IntKind.i64.wrap (v1 + (y1.length : Int)) < 0) then
 none
 else
 QT_l0 v0 (IntKind.i64.wrap (v1 + (y1.length : Int))) v2 v3 (IntKind.i64.wrap (v4 + 1))
 else
 (Q23 ([] : List ByteArray) v1).bind fun y2 =>
 QT_l1 v0 (v0.length : Int) 0 y2 := (Q7 Q0 (Q1 (QT.gok _)) _ _).trans (by kernel_rfl)
theorem QT_l1.eq (v0 : List (List ByteArray)) (v1 v2 : Int) (v3 : List ByteArray) : QT_l1 v0 v1 v2 v3 =
 bif decide (v2 < v1) then
 (at? v0 v2).bind fun y1 =>
 bif decide ((v3.length + y1.length) * 16 ≤ 140737488355328) then
 QT_l1 v0 v1 (IntKind.i64.wrap (v2 + 1)) (v3 ++ y1)
 else
 none
 else
 some v3 := (Q7 Q0 (Q1 (QT.gok _)) _ _).trans (by kernel_rfl)
abbrev Q4b.k {δ : Type} : KC δ := calleeB 114 192
theorem Q4b.con {δ : Type} : Con Tryz.prog (KT tab) 163 (Q4b.k (δ := δ)) := con_box It.V163.boxes
def Q24.ms : List Mode := [.lend]
def Q24.as : List VSh := [.one (.fn 192 [.ptr false 114 [.b (.b (.sl false false 9))]])]
def Q24.rs : RSh := ⟨[.one (.b (.b (.b (.b (.sl true true 9)))))], [none]⟩
def Q24 (x0 : List ByteArray) : Option (List ByteArray) := sortedS (fun x => x) x0
def Q24.fn : Args tab Q24.as → Option (ResT tab Q24.rs) := fun x => Q24 x
abbrev Q24.k {δ : Type} : KC δ := Q1Q tab Q24.ms Q24.as Q24.rs Q24.fn
theorem Q24.con {δ : Type} : Con Tryz.prog (KT tab) 162 (Q24.k (δ := δ)) := con_sortedS (l := tab) Tryz.laysSorted162 (fun m => ⟨fun blk off cap ss W hH hblk hsz => callsIn_wide.2 (AnyM.slices_Sort_string Tryz.laysSort191 blk off cap ss W hH hblk hsz), fun p cap W => callsIn_wide.2 (AnyM.slices_Sort_string_none Tryz.laysSort191 p cap W)⟩) (enters_of Tryz.func191 (by kernel_rfl) rfl) rfl (e := 9) rfl (g := fun x => x) (fun _ _ => rfl) (gf := 192) (tb := 114) It.V163.valsOk (enters_of Tryz.func192 (by kernel_rfl) rfl)
def Q25.ms : List Mode := [.give]
def Q25.as : List VSh := [.one (.b (.b (.b (.b (.sl true true 9)))))]
def Q25.rs : RSh := ⟨[.one (.b (.b (.b (.b (.sl true true 9)))))], [none]⟩
def Q25 (x0 : List ByteArray) : Option (List ByteArray) := (compactC (List.map (fun x => x) x0)).map (List.map fun x => x)
def Q25.fn : Args tab Q25.as → Option (ResT tab Q25.rs) := fun x => Q25 x
abbrev Q25.k {δ : Type} : KC δ := Q1Q tab Q25.ms Q25.as Q25.rs Q25.fn
theorem Q25.con {δ : Type} : Con Tryz.prog (KT tab) 161 (Q25.k (δ := δ)) := con_compact (l := tab) Tryz.laysCompact161 rfl (e := 9) rfl Tryz.zeroValue9 (g := fun x => x) (h' := fun x => x) (fun _ _ => rfl) (fun _ => rfl)
abbrev Q18.s : Sg := ⟨[.lend], [.one (.b (.b (.b (.b (.str)))))], ⟨[vb], [none]⟩, Tryz.f228⟩
def Q18.gs (δ : Type) : List (Nat × KC δ) := []
theorem Q18.gok (δ : Type) : Q4 Tryz.prog tab (Q18.gs δ) := .nil
def Q18.c := cx Q18.s [] [] [] false (Q18.gs _)
def Q18 (x0 : ByteArray) : Option (Bool) := fnW Q18.s Q18.c x0
theorem Q18.fok : FkS Q18.s 228 := ⟨Tryz.func228, by kernel_rfl, by kernel_rfl⟩
def Q18.fn (x : Args tab Q18.s.ar) : Option (ResT tab Q18.s.rs) := Q18 x
abbrev Q18.k {δ : Type} : KC δ := kS Q18.s Q18.fn
theorem Q18.con {δ : Type} : Con Tryz.prog (KT tab) 228 (Q18.k (δ := δ)) := Q5 (c := Q18.c) mixed Q0 (Q1 (Q18.gok _)) Q18.fok rfl rfl fun _ => rfl
theorem Q18.eq (x0 : ByteArray) : Q18 x0 =
 some (!(x0.toList == x0.toList)) := by kernel_rfl
abbrev Q1n.s : Sg := ⟨[.lend, .lend], [.one (.b (.b (.b (.b (.str))))), .one (.b (.b (.b (.b (.str)))))], ⟨[vb], [none, none]⟩, Tryz.f209⟩
def Q1n.gs (δ : Type) : List (Nat × KC δ) := [(228, Q18.k)]
theorem Q1n.gok (δ : Type) : Q4 Tryz.prog tab (Q1n.gs δ) := .cons Q18.con .nil
def Q1n.c := cx Q1n.s [] [] [] false (Q1n.gs _)
def Q1n (x0 x1 : ByteArray) : Option (Bool) := fnW Q1n.s Q1n.c (x0, x1)
theorem Q1n.fok : FkS Q1n.s 209 := ⟨Tryz.func209, by kernel_rfl, by kernel_rfl⟩
def Q1n.fn (x : Args tab Q1n.s.ar) : Option (ResT tab Q1n.s.rs) := Q1n x.1 x.2
abbrev Q1n.k {δ : Type} : KC δ := kS Q1n.s Q1n.fn
theorem Q1n.con {δ : Type} : Con Tryz.prog (KT tab) 209 (Q1n.k (δ := δ)) := Q5 (c := Q1n.c) mixed Q0 (Q1 (Q1n.gok _)) Q1n.fok rfl rfl fun _ => rfl
theorem Q1n.eq (x0 x1 : ByteArray) : Q1n x0 x1 =
 (Q18 x0).bind fun y1 =>
 bif y1 then
 (Q18 x1).bind fun y2 =>
 bif !y2 then
 some true
 else
 some (Op.bytesLess x0.toList x1.toList)
 else
 some (Op.bytesLess x0.toList x1.toList) := by kernel_rfl
abbrev Q19.s : Sg := ⟨[.lend], [.one (.b (.b (.b (.b (.str)))))], ⟨[vb], [none]⟩, Tryz.f210⟩
def Q19.gs (δ : Type) : List (Nat × KC δ) := []
theorem Q19.gok (δ : Type) : Q4 Tryz.prog tab (Q19.gs δ) := .nil
def Q19.c := cx Q19.s [] [] [] false (Q19.gs _)
def Q19 (x0 : ByteArray) : Option (Bool) := fnW Q19.s Q19.c x0
theorem Q19.fok : FkS Q19.s 210 := ⟨Tryz.func210, by kernel_rfl, by kernel_rfl⟩
def Q19.fn (x : Args tab Q19.s.ar) : Option (ResT tab Q19.s.rs) := Q19 x
abbrev Q19.k {δ : Type} : KC δ := kS Q19.s Q19.fn
theorem Q19.con {δ : Type} : Con Tryz.prog (KT tab) 210 (Q19.k (δ := δ)) := Q5 (c := Q19.c) mixed Q0 (Q1 (Q19.gok _)) Q19.fok rfl rfl fun _ => rfl
theorem Q19.eq (x0 : ByteArray) : Q19 x0 =
 some (!(x0.toList == x0.toList)) := by kernel_rfl
abbrev Q0s.s : Sg := ⟨[.lend, .lend], [vl 9, .one (.b (.b (.b (.b (.str)))))], ⟨[vi, vb], [none, none]⟩, Tryz.f194⟩
def Q0s.gs (δ : Type) : List (Nat × KC δ) := [(209, Q1n.k), (210, Q19.k)]
theorem Q0s.gok (δ : Type) : Q4 Tryz.prog tab (Q0s.gs δ) := .cons Q1n.con (.cons Q19.con .nil)
def Q0s.c := cx Q0s.s [] [] [(3, [0, 1, 6, 7, 8])] false (Q0s.gs _)
def Q0s (x0 : List ByteArray) (x1 : ByteArray) : Option (Int × Bool) := fnW Q0s.s Q0s.c (x0, x1)
theorem Q0s.fok : FkS Q0s.s 194 := ⟨Tryz.func194, by kernel_rfl, by kernel_rfl⟩
def Q0s.fn (x : Args tab Q0s.s.ar) : Option (ResT tab Q0s.s.rs) := Q0s x.1 x.2
abbrev Q0s.k {δ : Type} : KC δ := kS Q0s.s Q0s.fn
theorem Q0s.con {δ : Type} : Con Tryz.prog (KT tab) 194 (Q0s.k (δ := δ)) := Q5 (c := Q0s.c) mixed Q0 (Q1 (Q0s.gok _)) Q0s.fok rfl rfl fun _ => rfl
def Q0s_l0 (v0 : List ByteArray) (v1 : ByteArray) (v2 v3 v4 : Int) : Option (Int × Bool) := lpW Q0s.s Q0s.c 0 (ud 45 [.vs false 9 v0, .str v1, .undef, .undef, .undef, .undef, .int .i64 v2, .int .i64 v3, .int .i64 v4]) [] 0
theorem Q0s.eq (x0 : List ByteArray) (x1 : ByteArray) : Q0s x0 x1 =
 Q0s_l0 x0 x1 (x0.length : Int) 0 (x0.length : Int) := by kernel_rfl
theorem Q0s_l0.eq (v0 : List ByteArray) (v1 : ByteArray) (v2 v3 v4 : Int) : Q0s_l0 v0 v1 v2 v3 v4 =
 bif decide (v3 < v4) then
 (at? v0 (IntKind.i64.wrap ((IntKind.u64.wrap (IntKind.i64.wrap (v3 + v4))).fdiv (2 ^ 1)))).bind fun y1 =>
 (Q1n y1 v1).bind fun y2 =>
 bif y2 then
 Q0s_l0 v0 v1 v2 (IntKind.i64.wrap ((IntKind.i64.wrap ((IntKind.u64.wrap (IntKind.i64.wrap (v3 + v4))).fdiv (2 ^ 1))) + 1)) v4
 else
 Q0s_l0 v0 v1 v2 v3 (IntKind.i64.wrap ((IntKind.u64.wrap (IntKind.i64.wrap (v3 + v4))).fdiv (2 ^ 1)))
 else
 bif decide (v3 < v2) then
 (at? v0 v3).bind fun y3 =>
 bif y3.toList == v1.toList then
 some (v3, true)
 else
 (at? v0 v3).bind fun y4 =>
 (Q19 y4).bind fun y5 =>
 bif y5 then
 (Q19 v1).bind fun y6 =>
 some (v3, y6)
 else
 some (v3, false)
 else
 some (v3, false) := (Q7 Q0 (Q1 (Q0s.gok _)) _ _).trans (by kernel_rfl)
abbrev Q0m.s : Sg := ⟨[.lend, .lend], [vl 9, .one (.b (.b (.b (.b (.str)))))], ⟨[vi, vi], [none, none]⟩, Tryz.f165⟩
def Q0m.gs (δ : Type) : List (Nat × KC δ) := [(194, Q0s.k)]
theorem Q0m.gok (δ : Type) : Q4 Tryz.prog tab (Q0m.gs δ) := .cons Q0s.con .nil
def Q0m.c := cx Q0m.s [] [] [(3, [0, 1, 6, 8])] false (Q0m.gs _)
def Q0m (x0 : List ByteArray) (x1 : ByteArray) : Option (Int × Int) := fnW Q0m.s Q0m.c (x0, x1)
theorem Q0m.fok : FkS Q0m.s 165 := ⟨Tryz.func165, by kernel_rfl, by kernel_rfl⟩
def Q0m.fn (x : Args tab Q0m.s.ar) : Option (ResT tab Q0m.s.rs) := Q0m x.1 x.2
abbrev Q0m.k {δ : Type} : KC δ := kS Q0m.s Q0m.fn
theorem Q0m.con {δ : Type} : Con Tryz.prog (KT tab) 165 (Q0m.k (δ := δ)) := Q5 (c := Q0m.c) mixed Q0 (Q1 (Q0m.gok _)) Q0m.fok rfl rfl fun _ => rfl
def Q0m_l0 (v0 : List ByteArray) (v1 : ByteArray) (v2 v3 : Int) : Option (Int × Int) := lpW Q0m.s Q0m.c 0 (ud 23 [.vs false 9 v0, .str v1, .undef, .undef, .undef, .undef, .int .i64 v2, .undef, .int .i64 v3]) [] 0
theorem Q0m.eq (x0 : List ByteArray) (x1 : ByteArray) : Q0m x0 x1 =
 (Q0s x0 x1).bind fun y1 =>
 Q0m_l0 x0 x1 y1.1 y1.1 := by kernel_rfl
theorem Q0m_l0.eq (v0 : List ByteArray) (v1 : ByteArray) (v2 v3 : Int) : Q0m_l0 v0 v1 v2 v3 =
 bif decide (v3 < (v0.length : Int)) then
 (at? v0 v3).bind fun y1 =>
 bif y1.toList == v1.toList then
 Q0m_l0 v0 v1 v2 (IntKind.i64.wrap (v3 + 1))
 else
 some (v2, v3)
 else
 some (v2, v3) := (Q7 Q0 (Q1 (Q0m.gok _)) _ _).trans (by kernel_rfl)
abbrev Q0t.s : Sg := ⟨[.lend, .lend, .lend], [vl 5, vl 5, vi], ⟨[.one (.b (.b (.b (.b (.sl true false 137)))))], [none, none, none]⟩, Tryz.f114⟩
def Q0t.gs (δ : Type) : List (Nat × KC δ) := [(160, Q0l.k), (161, Q25.k), (162, Q24.k), (163, Q4b.k), (164, QT.k), (165, Q0m.k)]
theorem Q0t.gok (δ : Type) : Q4 Tryz.prog tab (Q0t.gs δ) := .cons Q0l.con (.cons Q25.con (.cons Q24.con (.cons Q4b.con (.cons QT.con (.cons Q0m.con .nil)))))
def Q0t.c := cx Q0t.s [137] [] [(5, [7, 8, 10, 27, 28, 29])] false (Q0t.gs _)
def Q0t (x0 x1 : List Int) (x2 : Int) : Option (List ((List Int) × Int × Int × Int × Int)) := fnW Q0t.s Q0t.c (x0, x1, x2)
theorem Q0t.fok : FkS Q0t.s 114 := ⟨Tryz.func114, by kernel_rfl, by kernel_rfl⟩
def Q0t.fn (x : Args tab Q0t.s.ar) : Option (ResT tab Q0t.s.rs) := Q0t x.1 x.2.1 x.2.2
abbrev Q0t.k {δ : Type} : KC δ := kS Q0t.s Q0t.fn
theorem Q0t.con {δ : Type} : Con Tryz.prog (KT tab) 114 (Q0t.k (δ := δ)) := Q5 (c := Q0t.c) mixed Q0 (Q1 (Q0t.gok _)) Q0t.fok rfl rfl fun _ => rfl
def Q0t_l0 (v0 v1 : List ByteArray) (v2 v3 : Int) (v4 : List ((List Int) × Int × Int × Int × Int)) (v5 : List ByteArray) : Option (List ((List Int) × Int × Int × Int × Int)) := lpW Q0t.s Q0t.c 0 (ud 28 [.undef, .undef, .undef, .undef, .undef, .undef, .undef, .vs false 9 v0, .vs false 9 v1, .undef, .sl 0 0, .undef, .undef, .undef, .undef, .undef, .undef, .undef, .undef, .undef, .undef, .undef, .undef, .undef, .undef, .undef, .undef, .sl 1 0, .int .i64 v2, .int .i64 v3]) [.row 0 false 137 v4, .row 0 true 9 v5] 2
theorem Q0t.eq (x0 x1 : List Int) (x2 : Int) : Q0t x0 x1 x2 =
 (Q0l x0 x2).bind fun y1 =>
 (Q0l x1 x2).bind fun y2 =>
 (QT ([y1, y2] : List (List ByteArray))).bind fun y3 =>
 (Q24 y3).bind fun y4 =>
 (Q25 y4).bind fun y5 =>
 Q0t_l0 y1 y2 (y5.length : Int) 0 ([] : List ((List Int) × Int × Int × Int × Int)) y5 := by kernel_rfl
theorem Q0t_l0.eq (v0 v1 : List ByteArray) (v2 v3 : Int) (v4 : List ((List Int) × Int × Int × Int × Int)) (v5 : List ByteArray) : Q0t_l0 v0 v1 v2 v3 v4 v5 =
 bif decide (v3 < v2) then
 (at? v5 v3).bind fun y1 =>
 v5[v3.toNat]?.bind fun y2 =>
 (Q0m v0 y2).bind fun y3 =>
 (Q0m v1 y2).bind fun y4 =>
 bif decide ((v4.length + ([(y2.data.toList.map fun b => (b.toNat : Int), y3.1, y3.2, y4.1, y4.2)] : List ((List Int) × Int × Int × Int × Int)).length) * 56 ≤ 140737488355328) then
 Q0t_l0 v0 v1 v2 (IntKind.i64.wrap (v3 + 1)) (v4 ++ ([(y2.data.toList.map fun b => (b.toNat : Int), y3.1, y3.2, y4.1, y4.2)] : List ((List Int) × Int × Int × Int × Int))) v5
 else
 none
 else
 some v4 := (Q7 Q0 (Q1 (Q0t.gok _)) _ _).trans (by kernel_rfl)
abbrev Q1I.s : Sg := ⟨[.lend, .lend], [vl 3, vl 3], ⟨[vb], [none, none]⟩, Tryz.f166⟩
def Q1I.gs (δ : Type) : List (Nat × KC δ) := []
theorem Q1I.gok (δ : Type) : Q4 Tryz.prog tab (Q1I.gs δ) := .nil
def Q1I.c := cx Q1I.s [] [] [] false (Q1I.gs _)
def Q1I (x0 x1 : List Int) : Option (Bool) := fnW Q1I.s Q1I.c (x0, x1)
theorem Q1I.fok : FkS Q1I.s 166 := ⟨Tryz.func166, by kernel_rfl, by kernel_rfl⟩
def Q1I.fn (x : Args tab Q1I.s.ar) : Option (ResT tab Q1I.s.rs) := Q1I x.1 x.2
abbrev Q1I.k {δ : Type} : KC δ := kS Q1I.s Q1I.fn
theorem Q1I.con {δ : Type} : Con Tryz.prog (KT tab) 166 (Q1I.k (δ := δ)) := Q5 (c := Q1I.c) mixed Q0 (Q1 (Q1I.gok _)) Q1I.fok rfl rfl fun _ => rfl
theorem Q1I.eq (x0 x1 : List Int) : Q1I x0 x1 =
 bif decide ((x0.length : Int) ≤ 301) then
 some (decide ((x1.length : Int) ≤ 301))
 else
 some false := by kernel_rfl
def Q26.ms : List Mode := [.lend, .lend]
def Q26.as : List VSh := [.one (.b (.b (.b (.b (.sl false false 3))))), .one (.b (.b (.b (.b (.sl false false 3)))))]
def Q26.rs : RSh := ⟨[.one (.b (.b (.b (.b (.sl false false 24)))))], [none, none]⟩
def Q26 (x0 : List Int) (x1 : List Int) : Option (List (List Int)) := (tableC fI (List.map (fun x => x) x0) (List.map (fun x => x) x1)).map (List.map fun x => x)
def Q26.fn : Args tab Q26.as → Option (ResT tab Q26.rs) := fun x => Q26 x.1 x.2
abbrev Q26.k {δ : Type} : KC δ := Q1Q tab Q26.ms Q26.as Q26.rs Q26.fn
theorem Q26.con {δ : Type} : Con Tryz.prog (KT tab) 195 (Q26.k (δ := δ)) := con_table (l := tab) Tryz.func195 (by kernel_rfl) rfl It.T195.tableOk (e := 24) (e3 := 3) (g := fun x => x) (g' := fun x => x) (h := fun x => x) rfl (fun _ => rfl) (fun ys => Eq.trans rfl (congrArg (fun z => [T.sl false false 3 z]) (List.map_id ys).symm))
abbrev Q0u.s : Sg := ⟨[.lend, .lend], [vl 3, vi], ⟨[vi], [none, none]⟩, Tryz.f196⟩
def Q0u.gs (δ : Type) : List (Nat × KC δ) := []
theorem Q0u.gok (δ : Type) : Q4 Tryz.prog tab (Q0u.gs δ) := .nil
def Q0u.c := cx Q0u.s [] [] [(2, [0, 1, 7, 8])] false (Q0u.gs _)
def Q0u (x0 : List Int) (x1 : Int) : Option (Int) := fnW Q0u.s Q0u.c (x0, x1)
theorem Q0u.fok : FkS Q0u.s 196 := ⟨Tryz.func196, by kernel_rfl, by kernel_rfl⟩
def Q0u.fn (x : Args tab Q0u.s.ar) : Option (ResT tab Q0u.s.rs) := Q0u x.1 x.2
abbrev Q0u.k {δ : Type} : KC δ := kS Q0u.s Q0u.fn
theorem Q0u.con {δ : Type} : Con Tryz.prog (KT tab) 196 (Q0u.k (δ := δ)) := Q5 (c := Q0u.c) mixed Q0 (Q1 (Q0u.gok _)) Q0u.fok rfl rfl fun _ => rfl
def Q0u_l0 (v0 : List Int) (v1 v2 v3 : Int) : Option (Int) := lpW Q0u.s Q0u.c 0 (ud 10 [.vs false 3 v0, .int .i64 v1, .undef, .undef, .undef, .undef, .undef, .int .i64 v2, .int .i64 v3]) [] 0
theorem Q0u.eq (x0 : List Int) (x1 : Int) : Q0u x0 x1 =
 Q0u_l0 x0 x1 (x0.length : Int) 0 := by kernel_rfl
theorem Q0u_l0.eq (v0 : List Int) (v1 v2 v3 : Int) : Q0u_l0 v0 v1 v2 v3 =
 bif decide (v3 < v2) then
 (at? v0 v3).bind fun y1 =>
 bif v1 == y1 then
 some v3
 else
 Q0u_l0 v0 v1 v2 (IntKind.i64.wrap (v3 + 1))
 else
 some (-1 : Int) := (Q7 Q0 (Q1 (Q0u.gok _)) _ _).trans (by kernel_rfl)
abbrev Q0f.s : Sg := ⟨[.lend, .lend], [vl 3, vl 3], ⟨[vo 140], [none, none]⟩, Tryz.f167⟩
def Q0f.gs (δ : Type) : List (Nat × KC δ) := [(195, Q26.k), (196, Q0u.k)]
theorem Q0f.gok (δ : Type) : Q4 Tryz.prog tab (Q0f.gs δ) := .cons Q26.con (.cons Q0u.con .nil)
def Q0f.c := cx Q0f.s [] [] [(4, [0, 1, 5, 6, 7, 8])] false (Q0f.gs _)
def Q0f (x0 x1 : List Int) : Option (List (Int × Int)) := fnW Q0f.s Q0f.c (x0, x1)
theorem Q0f.fok : FkS Q0f.s 167 := ⟨Tryz.func167, by kernel_rfl, by kernel_rfl⟩
def Q0f.fn (x : Args tab Q0f.s.ar) : Option (ResT tab Q0f.s.rs) := Q0f x.1 x.2
abbrev Q0f.k {δ : Type} : KC δ := kS Q0f.s Q0f.fn
theorem Q0f.con {δ : Type} : Con Tryz.prog (KT tab) 167 (Q0f.k (δ := δ)) := Q5 (c := Q0f.c) mixed Q0 (Q1 (Q0f.gok _)) Q0f.fok rfl rfl fun _ => rfl
def Q0f_l0 (v0 v1 : List Int) (v2 : List (List Int)) (v3 v4 : Int) (v5 : List (Int × Int)) : Option (List (Int × Int)) := lpW Q0f.s Q0f.c 0 (ud 59 [.vs false 3 v0, .vs false 3 v1, .undef, .undef, .undef, .vs false 24 v2, .sl 0 0, .int .i64 v3, .int .i64 v4]) [.row 0 true 140 v5] 1
theorem Q0f.eq (x0 x1 : List Int) : Q0f x0 x1 =
 (Q26 x0 x1).bind fun y1 =>
 Q0f_l0 x0 x1 y1 0 0 ([] : List (Int × Int)) := by kernel_rfl
theorem Q0f_l0.eq (v0 v1 : List Int) (v2 : List (List Int)) (v3 v4 : Int) (v5 : List (Int × Int)) : Q0f_l0 v0 v1 v2 v3 v4 v5 =
 (at? v2 v3).bind fun y1 =>
 (at? y1 v4).bind fun y2 =>
 bif decide (y2 > 0) then
 bif decide (0 ≤ v4 ∧ v4 ≤ ((v1.length : Nat) : Int)) then
 (at? v0 v3).bind fun y3 =>
 (Q0u ((v1.take v1.length).drop v4.toNat) y3).bind fun y4 =>
 bif decide (y4 ≥ 0) then
 (at? v2 (IntKind.i64.wrap (v3 + 1))).bind fun y5 =>
 (at? y5 (IntKind.i64.wrap ((IntKind.i64.wrap (v4 + y4)) + 1))).bind fun y6 =>
 (at? v2 v3).bind fun y7 =>
 (at? y7 v4).bind fun y8 =>
 bif IntKind.i64.wrap (y6 + 1) == y8 then
 bif decide ((v5.length + ([(v3, IntKind.i64.wrap (v4 + y4))] : List (Int × Int)).length) * 16 ≤ 140737488355328) then
 Q0f_l0 v0 v1 v2 (IntKind.i64.wrap (v3 + 1)) (IntKind.i64.wrap (v4 + (IntKind.i64.wrap (y4 + 1)))) (v5 ++ ([(v3, IntKind.i64.wrap (v4 + y4))] : List (Int × Int)))
 else
 none
 else
 Q0f_l0 v0 v1 v2 (IntKind.i64.wrap (v3 + 1)) v4 v5
 else
 Q0f_l0 v0 v1 v2 (IntKind.i64.wrap (v3 + 1)) v4 v5
 else
 none
 else
 some v5 := (Q7 Q0 (Q1 (Q0f.gok _)) _ _).trans (by kernel_rfl)
abbrev Q1a.s : Sg := ⟨[.lend, .lend, .lend], [vl 3, vl 3, vi], ⟨[vo 140], [none, none, none]⟩, Tryz.f115⟩
def Q1a.gs (δ : Type) : List (Nat × KC δ) := [(166, Q1I.k), (167, Q0f.k)]
theorem Q1a.gok (δ : Type) : Q4 Tryz.prog tab (Q1a.gs δ) := .cons Q1I.con (.cons Q0f.con .nil)
def Q1a.c := cx Q1a.s [] [] [] false (Q1a.gs _)
def Q1a (x0 x1 : List Int) (x2 : Int) : Option (List (Int × Int)) := fnW Q1a.s Q1a.c (x0, x1, x2)
theorem Q1a.fok : FkS Q1a.s 115 := ⟨Tryz.func115, by kernel_rfl, by kernel_rfl⟩
def Q1a.fn (x : Args tab Q1a.s.ar) : Option (ResT tab Q1a.s.rs) := Q1a x.1 x.2.1 x.2.2
abbrev Q1a.k {δ : Type} : KC δ := kS Q1a.s Q1a.fn
theorem Q1a.con {δ : Type} : Con Tryz.prog (KT tab) 115 (Q1a.k (δ := δ)) := Q5 (c := Q1a.c) mixed Q0 (Q1 (Q1a.gok _)) Q1a.fok rfl rfl fun _ => rfl
theorem Q1a.eq (x0 x1 : List Int) (x2 : Int) : Q1a x0 x1 x2 =
 (Q1I x0 x1).bind fun y1 =>
 bif !y1 then
 some ([] : List (Int × Int))
 else
 (Q0f x0 x1).bind fun y2 =>
 bif decide (IntKind.i64.wrap ((IntKind.i64.wrap ((x0.length : Int) + (x1.length : Int))) - (IntKind.i64.wrap ((2 : Int) * (y2.length : Int)))) > x2) then
 some ([] : List (Int × Int))
 else
 some y2 := by kernel_rfl
abbrev QB.s : Sg := ⟨[.lend, .lend, .lend, .lend], [vl 5, vl 5, vi, vi], ⟨[vo 140], [none, none, none, none]⟩, Tryz.f50⟩
def QB.gs (δ : Type) : List (Nat × KC δ) := [(59, Qt.k), (114, Q0t.k), (115, Q1a.k)]
theorem QB.gok (δ : Type) : Q4 Tryz.prog tab (QB.gs δ) := .cons Qt.con (.cons Q0t.con (.cons Q1a.con .nil))
def QB.c := cx QB.s [] [] [(4, [3, 9, 10, 11, 23, 24, 25]), (7, [3, 9, 10, 11, 13, 23, 24, 25, 42, 43, 44])] false (QB.gs _)
def QB (x0 x1 : List Int) (x2 x3 : Int) : Option (List (Int × Int)) := fnW QB.s QB.c (x0, x1, x2, x3)
theorem QB.fok : FkS QB.s 50 := ⟨Tryz.func50, by kernel_rfl, by kernel_rfl⟩
def QB.fn (x : Args tab QB.s.ar) : Option (ResT tab QB.s.rs) := QB x.1 x.2.1 x.2.2.1 x.2.2.2
abbrev QB.k {δ : Type} : KC δ := kS QB.s QB.fn
theorem QB.con {δ : Type} : Con Tryz.prog (KT tab) 50 (QB.k (δ := δ)) := Q5 (c := QB.c) mixed Q0 (Q1 (QB.gok _)) QB.fok rfl rfl fun _ => rfl
def QB_l0 (v0 v1 v2 : Int) (v3 v4 : List Int) (v5 : List (Int × Int)) (v6 : List ((List Int) × Int × Int × Int × Int)) : Option (List (Int × Int)) := lpW QB.s QB.c 0 (ud 39 [.undef, .undef, .undef, .int .i64 v0, .undef, .undef, .undef, .undef, .undef, .sl 0 0, .sl 1 0, .sl 2 0, .undef, .undef, .undef, .undef, .undef, .undef, .undef, .undef, .undef, .undef, .undef, .sl 3 0, .int .i64 v1, .int .i64 v2]) [.row 0 true 3 v3, .row 0 true 3 v4, .row 0 true 140 v5, .row 0 false 137 v6] 4
def QB_l1 (v0 v1 v2 v3 v4 : Int) (v5 v6 : List Int) (v7 : List (Int × Int)) (v8 : List Int) (v9 v10 v11 v12 : Int) (v13 : List ((List Int) × Int × Int × Int × Int)) (v14 : List (Int × Int)) : Option (List (Int × Int)) := lpW QB.s QB.c 1 (ud 20 [.undef, .undef, .undef, .int .i64 v0, .undef, .undef, .undef, .undef, .undef, .sl 0 0, .sl 1 0, .sl 2 0, .undef, .ptr 3 0, .undef, .undef, .undef, .undef, .undef, .undef, .undef, .undef, .undef, .sl 4 0, .int .i64 v1, .int .i64 v2, .undef, .undef, .undef, .undef, .undef, .undef, .undef, .undef, .undef, .undef, .undef, .undef, .undef, .undef, .undef, .undef, .sl 5 0, .int .i64 v3, .int .i64 v4]) [.row 0 true 3 v5, .row 0 true 3 v6, .row 0 true 140 v7, .box 137 [.vs false 5 v8, .int .i64 v9, .int .i64 v10, .int .i64 v11, .int .i64 v12], .row 0 false 137 v13, .row 0 true 140 v14] 6
theorem QB.eq (x0 x1 : List Int) (x2 x3 : Int) : QB x0 x1 x2 x3 =
 (Qt x0).bind fun y1 =>
 (Qt x1).bind fun y2 =>
 (Q0t x0 x1 x2).bind fun y3 =>
 QB_l0 x3 (y3.length : Int) 0 y1 y2 ([] : List (Int × Int)) y3 := by kernel_rfl
theorem QB_l0.eq (v0 v1 v2 : Int) (v3 v4 : List Int) (v5 : List (Int × Int)) (v6 : List ((List Int) × Int × Int × Int × Int)) : QB_l0 v0 v1 v2 v3 v4 v5 v6 =
 bif decide (v2 < v1) then
 (at? v6 v2).bind fun y1 =>
 v6[v2.toNat]?.bind fun y2 =>
 bif decide (0 ≤ y2.2.2.1 ∧ y2.2.2.1 ≤ ((v3.length : Nat) : Int)) then
 bif decide (0 ≤ y2.2.1 ∧ y2.2.1 ≤ ((y2.2.2.1.toNat : Nat) : Int)) then
 bif decide (0 ≤ y2.2.2.2.2 ∧ y2.2.2.2.2 ≤ ((v4.length : Nat) : Int)) then
 bif decide (0 ≤ y2.2.2.2.1 ∧ y2.2.2.2.1 ≤ ((y2.2.2.2.2.toNat : Nat) : Int)) then
 (Q1a ((v3.drop y2.2.1.toNat).take (y2.2.2.1.toNat - y2.2.1.toNat)) ((v4.drop y2.2.2.2.1.toNat).take (y2.2.2.2.2.toNat - y2.2.2.2.1.toNat)) v0).bind fun y3 =>
 QB_l1 v0 v1 v2 (y3.length : Int) 0 v3 v4 v5 y2.1 y2.2.1 y2.2.2.1 y2.2.2.2.1 y2.2.2.2.2 v6 y3
 else
 none
 else
 none
 else
 none
 else
 none
 else
 some v5 := (Q7 Q0 (Q1 (QB.gok _)) _ _).trans (by kernel_rfl)
theorem QB_l1.eq (v0 v1 v2 v3 v4 : Int) (v5 v6 : List Int) (v7 : List (Int × Int)) (v8 : List Int) (v9 v10 v11 v12 : Int) (v13 : List ((List Int) × Int × Int × Int × Int)) (v14 : List (Int × Int)) : QB_l1 v0 v1 v2 v3 v4 v5 v6 v7 v8 v9 v10 v11 v12 v13 v14 =
 bif decide (v4 < v3) then
 (at? v14 v4).bind fun y1 =>
 v14[v4.toNat]?.bind fun y2 =>
 bif decide ((v7.length + ([(IntKind.i64.wrap (y2.1 + v9), IntKind.i64.wrap (y2.2 + v11))] : List (Int × Int)).length) * 16 ≤ 140737488355328) then
 QB_l1 v0 v1 v2 v3 (IntKind.i64.wrap (v4 + 1)) v5 v6 (v7 ++ ([(IntKind.i64.wrap (y2.1 + v9), IntKind.i64.wrap (y2.2 + v11))] : List (Int × Int))) v8 v9 v10 v11 v12 v13 v14
 else
 none
 else
 QB_l0 v0 v1 (IntKind.i64.wrap (v2 + 1)) v5 v6 v7 v13 := (Q7 Q0 (Q1 (QB.gok _)) _ _).trans (by kernel_rfl)
abbrev Q0n.s : Sg := ⟨[.lend, .lend, .lend], [vi, vi, vl 140], ⟨[ag0, ag0], [none, none, none]⟩, Tryz.f49⟩
def Q0n.gs (δ : Type) : List (Nat × KC δ) := [(113, QD.k)]
theorem Q0n.gok (δ : Type) : Q4 Tryz.prog tab (Q0n.gs δ) := .cons QD.con .nil
def Q0n.c := cx Q0n.s [] [] [(3, [6, 7, 8, 9, 16, 17, 18])] false (Q0n.gs _)
def Q0n (x0 x1 : Int) (x2 : List (Int × Int)) : Option ((Int × (List Int)) × (Int × (List Int))) := fnW Q0n.s Q0n.c (x0, x1, x2)
theorem Q0n.fok : FkS Q0n.s 49 := ⟨Tryz.func49, by kernel_rfl, by kernel_rfl⟩
def Q0n.fn (x : Args tab Q0n.s.ar) : Option (ResT tab Q0n.s.rs) := Q0n x.1 x.2.1 x.2.2
abbrev Q0n.k {δ : Type} : KC δ := kS Q0n.s Q0n.fn
theorem Q0n.con {δ : Type} : Con Tryz.prog (KT tab) 49 (Q0n.k (δ := δ)) := Q5 (c := Q0n.c) mixed Q0 (Q1 (Q0n.gok _)) Q0n.fok rfl rfl fun _ => rfl
def Q0n_l0 (v0 : List (Int × Int)) (v1 v2 v3 : Int) (v4 : List Int) (v5 : Int) (v6 v7 v8 : List Int) : Option ((Int × (List Int)) × (Int × (List Int))) := lpW Q0n.s Q0n.c 0 (ud 16 [.undef, .undef, .undef, .undef, .undef, .undef, .ptr 0 0, .ptr 2 0, .sl 4 0, .sl 5 0, .undef, .undef, .undef, .undef, .undef, .undef, .vs false 140 v0, .int .i64 v1, .int .i64 v2]) [.box 30 [.int .i64 v3, .sl 1 0], .row 0 true 90 v4, .box 30 [.int .i64 v5, .sl 3 0], .row 0 true 90 v6, .row 0 true 3 v7, .row 0 true 3 v8] 6
theorem Q0n.eq (x0 x1 : Int) (x2 : List (Int × Int)) : Q0n x0 x1 x2 =
 bif decide ((0 : Int) ≤ x0) && decide (x0.toNat * 8 ≤ 140737488355328) then
 bif decide ((0 : Int) ≤ x1) && decide (x1.toNat * 8 ≤ 140737488355328) then
 Q0n_l0 x2 (x2.length : Int) (0 : Int) (0 : Int) ([] : List Int) (0 : Int) ([] : List Int) (List.replicate x0.toNat (0 : Int)) (List.replicate x1.toNat (0 : Int))
 else
 none
 else
 none := by kernel_rfl
theorem Q0n_l0.eq (v0 : List (Int × Int)) (v1 v2 v3 : Int) (v4 : List Int) (v5 : Int) (v6 v7 v8 : List Int) : Q0n_l0 v0 v1 v2 v3 v4 v5 v6 v7 v8 =
 bif decide (v2 < v1) then
 (at? v0 v2).bind fun y1 =>
 (at? v7 y1.1).bind fun y2 =>
 v7[y1.1.toNat]?.bind fun y3 =>
 (at? v8 y1.2).bind fun y4 =>
 v8[y1.2.toNat]?.bind fun y5 =>
 Q0n_l0 v0 v1 (IntKind.i64.wrap (v2 + 1)) v3 v4 v5 v6 (v7.set y1.1.toNat 1) (v8.set y1.2.toNat 1)
 else
 (QD v7).bind fun y6 =>
 (QD v8).bind fun y7 =>
 some (y6, y7) := (Q7 Q0 (Q1 (Q0n.gok _)) _ _).trans (by kernel_rfl)
abbrev QH.s : Sg := ⟨[.lend, .lend], [vl 3, ag3], ⟨[vo 3], [none, none]⟩, Tryz.f117⟩
def QH.gs (δ : Type) : List (Nat × KC δ) := [(118, Q0X.k)]
theorem QH.gok (δ : Type) : Q4 Tryz.prog tab (QH.gs δ) := .cons Q0X.con .nil
def QH.c := cx QH.s [] [] [(3, [3, 5, 8, 9, 10])] false (QH.gs _)
def QH (x0 : List Int) (x1 : Int × (List Int)) : Option (List Int) := fnW QH.s QH.c (x0, x1)
theorem QH.fok : FkS QH.s 117 := ⟨Tryz.func117, by kernel_rfl, by kernel_rfl⟩
def QH.fn (x : Args tab QH.s.ar) : Option (ResT tab QH.s.rs) := QH x.1 x.2
abbrev QH.k {δ : Type} : KC δ := kS QH.s QH.fn
theorem QH.con {δ : Type} : Con Tryz.prog (KT tab) 117 (QH.k (δ := δ)) := Q5 (c := QH.c) mixed Q0 (Q1 (QH.gok _)) QH.fok rfl rfl fun _ => rfl
def QH_l0 (v0 : List Int) (v1 v2 v3 : Int) (v4 v5 : List Int) : Option (List Int) := lpW QH.s QH.c 0 (ud 14 [.undef, .undef, .undef, .ptr 0 0, .undef, .sl 1 0, .undef, .undef, .vs false 3 v0, .int .i64 v1, .int .i64 v2]) [.box 30 [.int .i64 v3, .vs false 90 v4], .row 0 true 3 v5] 2
theorem QH.eq (x0 : List Int) (x1 : Int × (List Int)) : QH x0 x1 =
 QH_l0 x0 (x0.length : Int) 0 x1.1 x1.2 ([] : List Int) := by kernel_rfl
theorem QH_l0.eq (v0 : List Int) (v1 v2 v3 : Int) (v4 v5 : List Int) : QH_l0 v0 v1 v2 v3 v4 v5 =
 bif decide (v2 < v1) then
 (at? v0 v2).bind fun y1 =>
 (Q0X (v3, v4) v2).bind fun y2 =>
 bif y2 == 0 then
 bif decide ((v5.length + ([y1] : List Int).length) * 8 ≤ 140737488355328) then
 QH_l0 v0 v1 (IntKind.i64.wrap (v2 + 1)) v3 v4 (v5 ++ ([y1] : List Int))
 else
 none
 else
 QH_l0 v0 v1 (IntKind.i64.wrap (v2 + 1)) v3 v4 v5
 else
 some v5 := (Q7 Q0 (Q1 (QH.gok _)) _ _).trans (by kernel_rfl)
abbrev Q1o.s : Sg := ⟨[.keep, .keep, .give, .give, .lend], [vo 5, vl 5, ag0, ag0, vi], ⟨[ag7], [some (vo 5), some (vl 5), none, none, none]⟩, Tryz.f51⟩
def Q1o.gs (δ : Type) : List (Nat × KC δ) := [(59, Qt.k), (111, Qw.k), (116, Qd.k), (117, QH.k)]
theorem Q1o.gok (δ : Type) : Q4 Tryz.prog tab (Q1o.gs δ) := .cons Qt.con (.cons Qw.con (.cons Qd.con (.cons QH.con .nil)))
def Q1o.c := cx Q1o.s [] [] [] false (Q1o.gs _)
def Q1o (x0 x1 : List Int) (x2 x3 : Int × (List Int)) (x4 : Int) : Option ((RelA) × (List Int) × (List Int)) := fnW Q1o.s Q1o.c (x0, x1, x2, x3, x4)
theorem Q1o.fok : FkS Q1o.s 51 := ⟨Tryz.func51, by kernel_rfl, by kernel_rfl⟩
def Q1o.fn (x : Args tab Q1o.s.ar) : Option (ResT tab Q1o.s.rs) := Q1o x.1 x.2.1 x.2.2.1 x.2.2.2.1 x.2.2.2.2
abbrev Q1o.k {δ : Type} : KC δ := kS Q1o.s Q1o.fn
theorem Q1o.con {δ : Type} : Con Tryz.prog (KT tab) 51 (Q1o.k (δ := δ)) := Q5 (c := Q1o.c) mixed Q0 (Q1 (Q1o.gok _)) Q1o.fok rfl rfl fun _ => rfl
theorem Q1o.eq (x0 x1 : List Int) (x2 x3 : Int × (List Int)) (x4 : Int) : Q1o x0 x1 x2 x3 x4 =
 (Qw x1 x4).bind fun y1 =>
 (Qt x0).bind fun y2 =>
 (QH y2 x2).bind fun y3 =>
 (Qd y3).bind fun y4 =>
 (Qt x1).bind fun y5 =>
 (QH y5 x3).bind fun y6 =>
 (Qd y6).bind fun y7 =>
 some ((y1.1, x4, x2.1, x2.2, x3.1, x3.2, y4.1.1, y4.1.2.1, y4.1.2.2, y7.1.1, y7.1.2.1, y7.1.2.2, y1.2.2.2.2.2.1, y1.2.2.2.2.2.2.1, y1.2.2.2.2.2.2.2.1, y1.2.2.2.2.2.2.2.2.1, y1.2.2.2.2.2.2.2.2.2.1, y1.2.2.2.2.2.2.2.2.2.2.1, y1.2.2.2.2.2.2.2.2.2.2.2.1, y1.2.2.2.2.2.2.2.2.2.2.2.2.1, y1.2.2.2.2.2.2.2.2.2.2.2.2.2.1, y1.2.2.2.2.2.2.2.2.2.2.2.2.2.2.1, y1.2.2.2.2.2.2.2.2.2.2.2.2.2.2.2), x0, x1) := by kernel_rfl
abbrev Q0G.s : Sg := ⟨[.lend, .lend, .lend, .lend, .lend], [ag6, vl 5, vi, vi, vi], ⟨[ag7, vb], [none, none, none, none, none]⟩, Tryz.f9⟩
def Q0G.gs (δ : Type) : List (Nat × KC δ) := [(46, Q0r.k), (47, Q0Q.k), (48, Q0H.k), (49, Q0n.k), (50, QB.k), (51, Q1o.k)]
theorem Q0G.gok (δ : Type) : Q4 Tryz.prog tab (Q0G.gs δ) := .cons Q0r.con (.cons Q0Q.con (.cons Q0H.con (.cons Q0n.con (.cons QB.con (.cons Q1o.con .nil)))))
def Q0G.c := cx Q0G.s [] [] [] false (Q0G.gs _)
def Q0G (x0 : FmA) (x1 : List Int) (x2 x3 x4 : Int) : Option ((RelA) × Bool) := fnW Q0G.s Q0G.c (x0, x1, x2, x3, x4)
theorem Q0G.fok : FkS Q0G.s 9 := ⟨Tryz.func9, by kernel_rfl, by kernel_rfl⟩
def Q0G.fn (x : Args tab Q0G.s.ar) : Option (ResT tab Q0G.s.rs) := Q0G x.1 x.2.1 x.2.2.1 x.2.2.2.1 x.2.2.2.2
abbrev Q0G.k {δ : Type} : KC δ := kS Q0G.s Q0G.fn
theorem Q0G.con {δ : Type} : Con Tryz.prog (KT tab) 9 (Q0G.k (δ := δ)) := Q5 (c := Q0G.c) mixed Q0 (Q1 (Q0G.gok _)) Q0G.fok rfl rfl fun _ => rfl
theorem Q0G.eq (x0 : FmA) (x1 : List Int) (x2 x3 x4 : Int) : Q0G x0 x1 x2 x3 x4 =
 (Q0r x0).bind fun y1 =>
 bif !y1.2 then
 some ((0, 0, 0, ([] : List Int), 0, ([] : List Int), 0, ([] : List Int), ([] : List (Int × (List Int))), 0, ([] : List Int), ([] : List (Int × (List Int))), ([] : List Int), 0, ([] : List Int), 0, 0, 0, ([] : List Int), 0, 0, 0, ([] : List Int)), false)
 else
 (Q0Q y1.1 x1 x2).bind fun y2 =>
 bif !y2 then
 some ((0, 0, 0, ([] : List Int), 0, ([] : List Int), 0, ([] : List Int), ([] : List (Int × (List Int))), 0, ([] : List Int), ([] : List (Int × (List Int))), ([] : List Int), 0, ([] : List Int), 0, 0, 0, ([] : List Int), 0, 0, 0, ([] : List Int)), false)
 else
 (Q0H x4).bind fun y3 =>
 bif !y3 then
 some ((0, 0, 0, ([] : List Int), 0, ([] : List Int), 0, ([] : List Int), ([] : List (Int × (List Int))), 0, ([] : List Int), ([] : List (Int × (List Int))), ([] : List Int), 0, ([] : List Int), 0, 0, 0, ([] : List Int), 0, 0, 0, ([] : List Int)), false)
 else
 (QB y1.1 x1 x2 x3).bind fun y4 =>
 (Q0n (IntKind.i64.wrap ((y1.1.length : Int) + 1)) (IntKind.i64.wrap ((x1.length : Int) + 1)) y4).bind fun y5 =>
 (Q1o y1.1 x1 y5.1 y5.2 x4).bind fun y6 =>
 some (y6.1, true) := by kernel_rfl
end
end Go.Ev.W
