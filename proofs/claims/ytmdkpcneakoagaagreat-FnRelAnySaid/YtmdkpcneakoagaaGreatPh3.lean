/- What functions of the program come to. -/
import Derived.Test.YtmdkpcneakoagaaGreatPhT
import Derived.Test.YtmdkpcneakoagaaGreatEvCompact
import Derived.Test.YtmdkpcneakoagaaGreatEvIterC
import Derived.Test.YtmdkpcneakoagaaGreatEvIterI
import Derived.Test.YtmdkpcneakoagaaGreatEvIterS
import Derived.Test.YtmdkpcneakoagaaGreatEvTable
import Derived.Test.YtmdkpcneakoagaaGreatPh2
import Derived.Test.YtmdkpcneakoagaaGreatPhI163
import Derived.Test.YtmdkpcneakoagaaGreatPhI195
import Derived.Test.YtmdkpcneakoagaaGreatPhL
namespace Go.Ev.W
open Go.Ev Go.Proofs
noncomputable section
set_option maxRecDepth 100000
set_option linter.unusedVariables false
abbrev Q02.s : Sg := ⟨[.lend], [vl 114], ⟨[vo 9], [none]⟩, Tryz.f164⟩
def Q02.gs (δ : Type) : List (Nat × KC δ) := [(193, Q2n.k)]
theorem Q02.gok (δ : Type) : Q4 Tryz.prog tab (Q02.gs δ) := .cons Q2n.con .nil
def Q02.c := cx Q02.s [] [] [(3, [0, 3, 9, 10, 11]), (11, [6, 25, 26, 27])] false (Q02.gs _)
def Q02 (x0 : List (List ByteArray)) : Option (List ByteArray) := fnW Q02.s Q02.c x0
theorem Q02.fok : FkS Q02.s 164 := ⟨Tryz.func164, by kernel_rfl, by kernel_rfl⟩
def Q02.fn (x : Args tab Q02.s.ar) : Option (ResT tab Q02.s.rs) := Q02 x
abbrev Q02.k {δ : Type} : KC δ := kS Q02.s Q02.fn
theorem Q02.con {δ : Type} : Con Tryz.prog (KT tab) 164 (Q02.k (δ := δ)) := Q5 (c := Q02.c) mixed Q0 (Q1 (Q02.gok _)) Q02.fok rfl rfl fun _ => rfl
def Q02_l0 (v0 : List (List ByteArray)) (v1 : Int) (v2 : List (List ByteArray)) (v3 v4 : Int) : Option (List ByteArray) := lpW Q02.s Q02.c 0 (ud 24 [.vs false 114 v0, .undef, .undef, .int .i64 v1, .undef, .undef, .undef, .undef, .undef, .vs false 114 v2, .int .i64 v3, .int .i64 v4]) [] 0
def Q02_l1 (v0 : List (List ByteArray)) (v1 v2 : Int) (v3 : List ByteArray) : Option (List ByteArray) := lpW Q02.s Q02.c 1 (ud 8 [.undef, .undef, .undef, .undef, .undef, .undef, .sl 0 0, .undef, .undef, .undef, .undef, .undef, .undef, .undef, .undef, .undef, .undef, .undef, .undef, .undef, .undef, .undef, .undef, .undef, .undef, .vs false 114 v0, .int .i64 v1, .int .i64 v2]) [.row 0 true 9 v3] 1
theorem Q02.eq (x0 : List (List ByteArray)) : Q02 x0 =
 Q02_l0 x0 0 x0 (x0.length : Int) 0 := by kernel_rfl
theorem Q02_l0.eq (v0 : List (List ByteArray)) (v1 : Int) (v2 : List (List ByteArray)) (v3 v4 : Int) : Q02_l0 v0 v1 v2 v3 v4 =
 bif decide (v4 < v3) then
 (at? v2 v4).bind fun y1 =>
 bif decide (IntKind.i64.wrap (v1 + (y1.length : Int)) < 0) then
 none
 else
 Q02_l0 v0 (IntKind.i64.wrap (v1 + (y1.length : Int))) v2 v3 (IntKind.i64.wrap (v4 + 1))
 else
 (Q2n ([] : List ByteArray) v1).bind fun y2 =>
 Q02_l1 v0 (v0.length : Int) 0 y2 := (Q7 Q0 (Q1 (Q02.gok _)) _ _).trans (by kernel_rfl)
theorem Q02_l1.eq (v0 : List (List ByteArray)) (v1 v2 : Int) (v3 : List ByteArray) : Q02_l1 v0 v1 v2 v3 =
 bif decide (v2 < v1) then
 (at? v0 v2).bind fun y1 =>
 bif decide ((v3.length + y1.length) * 16 ≤ 140737488355328) then
 Q02_l1 v0 v1 (IntKind.i64.wrap (v2 + 1)) (v3 ++ y1)
 else
 none
 else
 some v3 := (Q7 Q0 (Q1 (Q02.gok _)) _ _).trans (by kernel_rfl)
abbrev Q4G.k {δ : Type} : KC δ := calleeB 114 192
theorem Q4G.con {δ : Type} : Con Tryz.prog (KT tab) 163 (Q4G.k (δ := δ)) := con_box It.V163.boxes
def Q2o.ms : List Mode := [.lend]
def Q2o.as : List VSh := [.one (.fn 192 [.ptr false 114 [.b (.b (.sl false false 9))]])]
def Q2o.rs : RSh := ⟨[.one (.b (.b (.b (.b (.sl true true 9)))))], [none]⟩
def Q2o (x0 : List ByteArray) : Option (List ByteArray) := sortedS (fun x => x) x0
def Q2o.fn : Args tab Q2o.as → Option (ResT tab Q2o.rs) := fun x => Q2o x
abbrev Q2o.k {δ : Type} : KC δ := Q26 tab Q2o.ms Q2o.as Q2o.rs Q2o.fn
theorem Q2o.con {δ : Type} : Con Tryz.prog (KT tab) 162 (Q2o.k (δ := δ)) := con_sortedS (l := tab) Tryz.laysSorted162 (fun m => ⟨fun blk off cap ss W hH hblk hsz => callsIn_wide.2 (AnyM.slices_Sort_string Tryz.laysSort191 blk off cap ss W hH hblk hsz), fun p cap W => callsIn_wide.2 (AnyM.slices_Sort_string_none Tryz.laysSort191 p cap W)⟩) (enters_of Tryz.func191 (by kernel_rfl) rfl) rfl (e := 9) rfl (g := fun x => x) (fun _ _ => rfl) (gf := 192) (tb := 114) It.V163.valsOk (enters_of Tryz.func192 (by kernel_rfl) rfl)
def Q2p.ms : List Mode := [.give]
def Q2p.as : List VSh := [.one (.b (.b (.b (.b (.sl true true 9)))))]
def Q2p.rs : RSh := ⟨[.one (.b (.b (.b (.b (.sl true true 9)))))], [none]⟩
def Q2p (x0 : List ByteArray) : Option (List ByteArray) := (compactC (List.map (fun x => x) x0)).map (List.map fun x => x)
def Q2p.fn : Args tab Q2p.as → Option (ResT tab Q2p.rs) := fun x => Q2p x
abbrev Q2p.k {δ : Type} : KC δ := Q26 tab Q2p.ms Q2p.as Q2p.rs Q2p.fn
theorem Q2p.con {δ : Type} : Con Tryz.prog (KT tab) 161 (Q2p.k (δ := δ)) := con_compact (l := tab) Tryz.laysCompact161 rfl (e := 9) rfl Tryz.zeroValue9 (g := fun x => x) (h' := fun x => x) (fun _ _ => rfl) (fun _ => rfl)
abbrev Q1m.s : Sg := ⟨[.lend], [.one (.b (.b (.b (.b (.str)))))], ⟨[vb], [none]⟩, Tryz.f228⟩
def Q1m.gs (δ : Type) : List (Nat × KC δ) := []
theorem Q1m.gok (δ : Type) : Q4 Tryz.prog tab (Q1m.gs δ) := .nil
def Q1m.c := cx Q1m.s [] [] [] false (Q1m.gs _)
def Q1m (x0 : ByteArray) : Option (Bool) := fnW Q1m.s Q1m.c x0
theorem Q1m.fok : FkS Q1m.s 228 := ⟨Tryz.func228, by kernel_rfl, by kernel_rfl⟩
def Q1m.fn (x : Args tab Q1m.s.ar) : Option (ResT tab Q1m.s.rs) := Q1m x
abbrev Q1m.k {δ : Type} : KC δ := kS Q1m.s Q1m.fn
theorem Q1m.con {δ : Type} : Con Tryz.prog (KT tab) 228 (Q1m.k (δ := δ)) := Q5 (c := Q1m.c) mixed Q0 (Q1 (Q1m.gok _)) Q1m.fok rfl rfl fun _ => rfl
theorem Q1m.eq (x0 : ByteArray) : Q1m x0 =
 some (!(x0.toList == x0.toList)) := by kernel_rfl
abbrev Q1D.s : Sg := ⟨[.lend, .lend], [.one (.b (.b (.b (.b (.str))))), .one (.b (.b (.b (.b (.str)))))], ⟨[vb], [none, none]⟩, Tryz.f209⟩
def Q1D.gs (δ : Type) : List (Nat × KC δ) := [(228, Q1m.k)]
theorem Q1D.gok (δ : Type) : Q4 Tryz.prog tab (Q1D.gs δ) := .cons Q1m.con .nil
def Q1D.c := cx Q1D.s [] [] [] false (Q1D.gs _)
def Q1D (x0 x1 : ByteArray) : Option (Bool) := fnW Q1D.s Q1D.c (x0, x1)
theorem Q1D.fok : FkS Q1D.s 209 := ⟨Tryz.func209, by kernel_rfl, by kernel_rfl⟩
def Q1D.fn (x : Args tab Q1D.s.ar) : Option (ResT tab Q1D.s.rs) := Q1D x.1 x.2
abbrev Q1D.k {δ : Type} : KC δ := kS Q1D.s Q1D.fn
theorem Q1D.con {δ : Type} : Con Tryz.prog (KT tab) 209 (Q1D.k (δ := δ)) := Q5 (c := Q1D.c) mixed Q0 (Q1 (Q1D.gok _)) Q1D.fok rfl rfl fun _ => rfl
theorem Q1D.eq (x0 x1 : ByteArray) : Q1D x0 x1 =
 (Q1m x0).bind fun y1 =>
 bif y1 then
 (Q1m x1).bind fun y2 =>
 bif !y2 then
 some true
 else
 some (Op.bytesLess x0.toList x1.toList)
 else
 some (Op.bytesLess x0.toList x1.toList) := by kernel_rfl
abbrev Q1n.s : Sg := ⟨[.lend], [.one (.b (.b (.b (.b (.str)))))], ⟨[vb], [none]⟩, Tryz.f210⟩
def Q1n.gs (δ : Type) : List (Nat × KC δ) := []
theorem Q1n.gok (δ : Type) : Q4 Tryz.prog tab (Q1n.gs δ) := .nil
def Q1n.c := cx Q1n.s [] [] [] false (Q1n.gs _)
def Q1n (x0 : ByteArray) : Option (Bool) := fnW Q1n.s Q1n.c x0
theorem Q1n.fok : FkS Q1n.s 210 := ⟨Tryz.func210, by kernel_rfl, by kernel_rfl⟩
def Q1n.fn (x : Args tab Q1n.s.ar) : Option (ResT tab Q1n.s.rs) := Q1n x
abbrev Q1n.k {δ : Type} : KC δ := kS Q1n.s Q1n.fn
theorem Q1n.con {δ : Type} : Con Tryz.prog (KT tab) 210 (Q1n.k (δ := δ)) := Q5 (c := Q1n.c) mixed Q0 (Q1 (Q1n.gok _)) Q1n.fok rfl rfl fun _ => rfl
theorem Q1n.eq (x0 : ByteArray) : Q1n x0 =
 some (!(x0.toList == x0.toList)) := by kernel_rfl
abbrev Q0y.s : Sg := ⟨[.lend, .lend], [vl 9, .one (.b (.b (.b (.b (.str)))))], ⟨[vi, vb], [none, none]⟩, Tryz.f194⟩
def Q0y.gs (δ : Type) : List (Nat × KC δ) := [(209, Q1D.k), (210, Q1n.k)]
theorem Q0y.gok (δ : Type) : Q4 Tryz.prog tab (Q0y.gs δ) := .cons Q1D.con (.cons Q1n.con .nil)
def Q0y.c := cx Q0y.s [] [] [(3, [0, 1, 6, 7, 8])] false (Q0y.gs _)
def Q0y (x0 : List ByteArray) (x1 : ByteArray) : Option (Int × Bool) := fnW Q0y.s Q0y.c (x0, x1)
theorem Q0y.fok : FkS Q0y.s 194 := ⟨Tryz.func194, by kernel_rfl, by kernel_rfl⟩
def Q0y.fn (x : Args tab Q0y.s.ar) : Option (ResT tab Q0y.s.rs) := Q0y x.1 x.2
abbrev Q0y.k {δ : Type} : KC δ := kS Q0y.s Q0y.fn
theorem Q0y.con {δ : Type} : Con Tryz.prog (KT tab) 194 (Q0y.k (δ := δ)) := Q5 (c := Q0y.c) mixed Q0 (Q1 (Q0y.gok _)) Q0y.fok rfl rfl fun _ => rfl
def Q0y_l0 (v0 : List ByteArray) (v1 : ByteArray) (v2 v3 v4 : Int) : Option (Int × Bool) := lpW Q0y.s Q0y.c 0 (ud 45 [.vs false 9 v0, .str v1, .undef, .undef, .undef, .undef, .int .i64 v2, .int .i64 v3, .int .i64 v4]) [] 0
theorem Q0y.eq (x0 : List ByteArray) (x1 : ByteArray) : Q0y x0 x1 =
 Q0y_l0 x0 x1 (x0.length : Int) 0 (x0.length : Int) := by kernel_rfl
theorem Q0y_l0.eq (v0 : List ByteArray) (v1 : ByteArray) (v2 v3 v4 : Int) : Q0y_l0 v0 v1 v2 v3 v4 =
 bif decide (v3 < v4) then
 (at? v0 (IntKind.i64.wrap ((IntKind.u64.wrap (IntKind.i64.wrap (v3 + v4))).fdiv (2 ^ 1)))).bind fun y1 =>
 (Q1D y1 v1).bind fun y2 =>
 bif y2 then
 Q0y_l0 v0 v1 v2 (IntKind.i64.wrap ((IntKind.i64.wrap ((IntKind.u64.wrap (IntKind.i64.wrap (v3 + v4))).fdiv (2 ^ 1))) + 1)) v4
 else
 Q0y_l0 v0 v1 v2 v3 (IntKind.i64.wrap ((IntKind.u64.wrap (IntKind.i64.wrap (v3 + v4))).fdiv (2 ^ 1)))
 else
 bif decide (v3 < v2) then
 (at? v0 v3).bind fun y3 =>
 bif y3.toList == v1.toList then
 some (v3, true)
 else
 (at? v0 v3).bind fun y4 =>
 (Q1n y4).bind fun y5 =>
 bif y5 then
 (Q1n v1).bind fun y6 =>
 some (v3, y6)
 else
 some (v3, false)
 else
 some (v3, false) := (Q7 Q0 (Q1 (Q0y.gok _)) _ _).trans (by kernel_rfl)
abbrev Q0t.s : Sg := ⟨[.lend, .lend], [vl 9, .one (.b (.b (.b (.b (.str)))))], ⟨[vi, vi], [none, none]⟩, Tryz.f165⟩
def Q0t.gs (δ : Type) : List (Nat × KC δ) := [(194, Q0y.k)]
theorem Q0t.gok (δ : Type) : Q4 Tryz.prog tab (Q0t.gs δ) := .cons Q0y.con .nil
def Q0t.c := cx Q0t.s [] [] [(3, [0, 1, 6, 8])] false (Q0t.gs _)
def Q0t (x0 : List ByteArray) (x1 : ByteArray) : Option (Int × Int) := fnW Q0t.s Q0t.c (x0, x1)
theorem Q0t.fok : FkS Q0t.s 165 := ⟨Tryz.func165, by kernel_rfl, by kernel_rfl⟩
def Q0t.fn (x : Args tab Q0t.s.ar) : Option (ResT tab Q0t.s.rs) := Q0t x.1 x.2
abbrev Q0t.k {δ : Type} : KC δ := kS Q0t.s Q0t.fn
theorem Q0t.con {δ : Type} : Con Tryz.prog (KT tab) 165 (Q0t.k (δ := δ)) := Q5 (c := Q0t.c) mixed Q0 (Q1 (Q0t.gok _)) Q0t.fok rfl rfl fun _ => rfl
def Q0t_l0 (v0 : List ByteArray) (v1 : ByteArray) (v2 v3 : Int) : Option (Int × Int) := lpW Q0t.s Q0t.c 0 (ud 23 [.vs false 9 v0, .str v1, .undef, .undef, .undef, .undef, .int .i64 v2, .undef, .int .i64 v3]) [] 0
theorem Q0t.eq (x0 : List ByteArray) (x1 : ByteArray) : Q0t x0 x1 =
 (Q0y x0 x1).bind fun y1 =>
 Q0t_l0 x0 x1 y1.1 y1.1 := by kernel_rfl
theorem Q0t_l0.eq (v0 : List ByteArray) (v1 : ByteArray) (v2 v3 : Int) : Q0t_l0 v0 v1 v2 v3 =
 bif decide (v3 < (v0.length : Int)) then
 (at? v0 v3).bind fun y1 =>
 bif y1.toList == v1.toList then
 Q0t_l0 v0 v1 v2 (IntKind.i64.wrap (v3 + 1))
 else
 some (v2, v3)
 else
 some (v2, v3) := (Q7 Q0 (Q1 (Q0t.gok _)) _ _).trans (by kernel_rfl)
abbrev Q0z.s : Sg := ⟨[.lend, .lend, .lend], [vl 5, vl 5, vi], ⟨[.one (.b (.b (.b (.b (.sl true false 137)))))], [none, none, none]⟩, Tryz.f114⟩
def Q0z.gs (δ : Type) : List (Nat × KC δ) := [(160, Q0s.k), (161, Q2p.k), (162, Q2o.k), (163, Q4G.k), (164, Q02.k), (165, Q0t.k)]
theorem Q0z.gok (δ : Type) : Q4 Tryz.prog tab (Q0z.gs δ) := .cons Q0s.con (.cons Q2p.con (.cons Q2o.con (.cons Q4G.con (.cons Q02.con (.cons Q0t.con .nil)))))
def Q0z.c := cx Q0z.s [137] [] [(5, [7, 8, 10, 27, 28, 29])] false (Q0z.gs _)
def Q0z (x0 x1 : List Int) (x2 : Int) : Option (List ((List Int) × Int × Int × Int × Int)) := fnW Q0z.s Q0z.c (x0, x1, x2)
theorem Q0z.fok : FkS Q0z.s 114 := ⟨Tryz.func114, by kernel_rfl, by kernel_rfl⟩
def Q0z.fn (x : Args tab Q0z.s.ar) : Option (ResT tab Q0z.s.rs) := Q0z x.1 x.2.1 x.2.2
abbrev Q0z.k {δ : Type} : KC δ := kS Q0z.s Q0z.fn
theorem Q0z.con {δ : Type} : Con Tryz.prog (KT tab) 114 (Q0z.k (δ := δ)) := Q5 (c := Q0z.c) mixed Q0 (Q1 (Q0z.gok _)) Q0z.fok rfl rfl fun _ => rfl
def Q0z_l0 (v0 v1 : List ByteArray) (v2 v3 : Int) (v4 : List ((List Int) × Int × Int × Int × Int)) (v5 : List ByteArray) : Option (List ((List Int) × Int × Int × Int × Int)) := lpW Q0z.s Q0z.c 0 (ud 28 [.undef, .undef, .undef, .undef, .undef, .undef, .undef, .vs false 9 v0, .vs false 9 v1, .undef, .sl 0 0, .undef, .undef, .undef, .undef, .undef, .undef, .undef, .undef, .undef, .undef, .undef, .undef, .undef, .undef, .undef, .undef, .sl 1 0, .int .i64 v2, .int .i64 v3]) [.row 0 false 137 v4, .row 0 true 9 v5] 2
theorem Q0z.eq (x0 x1 : List Int) (x2 : Int) : Q0z x0 x1 x2 =
 (Q0s x0 x2).bind fun y1 =>
 (Q0s x1 x2).bind fun y2 =>
 (Q02 ([y1, y2] : List (List ByteArray))).bind fun y3 =>
 (Q2o y3).bind fun y4 =>
 (Q2p y4).bind fun y5 =>
 Q0z_l0 y1 y2 (y5.length : Int) 0 ([] : List ((List Int) × Int × Int × Int × Int)) y5 := by kernel_rfl
theorem Q0z_l0.eq (v0 v1 : List ByteArray) (v2 v3 : Int) (v4 : List ((List Int) × Int × Int × Int × Int)) (v5 : List ByteArray) : Q0z_l0 v0 v1 v2 v3 v4 v5 =
 bif decide (v3 < v2) then
 (at? v5 v3).bind fun y1 =>
 v5[v3.toNat]?.bind fun y2 =>
 (Q0t v0 y2).bind fun y3 =>
 (Q0t v1 y2).bind fun y4 =>
 bif decide ((v4.length + ([(y2.data.toList.map fun b => (b.toNat : Int), y3.1, y3.2, y4.1, y4.2)] : List ((List Int) × Int × Int × Int × Int)).length) * 56 ≤ 140737488355328) then
 Q0z_l0 v0 v1 v2 (IntKind.i64.wrap (v3 + 1)) (v4 ++ ([(y2.data.toList.map fun b => (b.toNat : Int), y3.1, y3.2, y4.1, y4.2)] : List ((List Int) × Int × Int × Int × Int))) v5
 else
 none
 else
 some v4 := (Q7 Q0 (Q1 (Q0z.gok _)) _ _).trans (by kernel_rfl)
abbrev Q1X.s : Sg := ⟨[.lend, .lend], [vl 3, vl 3], ⟨[vb], [none, none]⟩, Tryz.f166⟩
def Q1X.gs (δ : Type) : List (Nat × KC δ) := []
theorem Q1X.gok (δ : Type) : Q4 Tryz.prog tab (Q1X.gs δ) := .nil
def Q1X.c := cx Q1X.s [] [] [] false (Q1X.gs _)
def Q1X (x0 x1 : List Int) : Option (Bool) := fnW Q1X.s Q1X.c (x0, x1)
theorem Q1X.fok : FkS Q1X.s 166 := ⟨Tryz.func166, by kernel_rfl, by kernel_rfl⟩
def Q1X.fn (x : Args tab Q1X.s.ar) : Option (ResT tab Q1X.s.rs) := Q1X x.1 x.2
abbrev Q1X.k {δ : Type} : KC δ := kS Q1X.s Q1X.fn
theorem Q1X.con {δ : Type} : Con Tryz.prog (KT tab) 166 (Q1X.k (δ := δ)) := Q5 (c := Q1X.c) mixed Q0 (Q1 (Q1X.gok _)) Q1X.fok rfl rfl fun _ => rfl
theorem Q1X.eq (x0 x1 : List Int) : Q1X x0 x1 =
 bif decide ((x0.length : Int) ≤ 301) then
 some (decide ((x1.length : Int) ≤ 301))
 else
 some false := by kernel_rfl
def Q2r.ms : List Mode := [.lend, .lend]
def Q2r.as : List VSh := [.one (.b (.b (.b (.b (.sl false false 3))))), .one (.b (.b (.b (.b (.sl false false 3)))))]
def Q2r.rs : RSh := ⟨[.one (.b (.b (.b (.b (.sl false false 24)))))], [none, none]⟩
def Q2r (x0 : List Int) (x1 : List Int) : Option (List (List Int)) := (tableC fI (List.map (fun x => x) x0) (List.map (fun x => x) x1)).map (List.map fun x => x)
def Q2r.fn : Args tab Q2r.as → Option (ResT tab Q2r.rs) := fun x => Q2r x.1 x.2
abbrev Q2r.k {δ : Type} : KC δ := Q26 tab Q2r.ms Q2r.as Q2r.rs Q2r.fn
theorem Q2r.con {δ : Type} : Con Tryz.prog (KT tab) 195 (Q2r.k (δ := δ)) := con_table (l := tab) Tryz.func195 (by kernel_rfl) rfl It.T195.tableOk (e := 24) (e3 := 3) (g := fun x => x) (g' := fun x => x) (h := fun x => x) rfl (fun _ => rfl) (fun ys => Eq.trans rfl (congrArg (fun z => [T.sl false false 3 z]) (List.map_id ys).symm))
abbrev Q0A.s : Sg := ⟨[.lend, .lend], [vl 3, vi], ⟨[vi], [none, none]⟩, Tryz.f196⟩
def Q0A.gs (δ : Type) : List (Nat × KC δ) := []
theorem Q0A.gok (δ : Type) : Q4 Tryz.prog tab (Q0A.gs δ) := .nil
def Q0A.c := cx Q0A.s [] [] [(2, [0, 1, 7, 8])] false (Q0A.gs _)
def Q0A (x0 : List Int) (x1 : Int) : Option (Int) := fnW Q0A.s Q0A.c (x0, x1)
theorem Q0A.fok : FkS Q0A.s 196 := ⟨Tryz.func196, by kernel_rfl, by kernel_rfl⟩
def Q0A.fn (x : Args tab Q0A.s.ar) : Option (ResT tab Q0A.s.rs) := Q0A x.1 x.2
abbrev Q0A.k {δ : Type} : KC δ := kS Q0A.s Q0A.fn
theorem Q0A.con {δ : Type} : Con Tryz.prog (KT tab) 196 (Q0A.k (δ := δ)) := Q5 (c := Q0A.c) mixed Q0 (Q1 (Q0A.gok _)) Q0A.fok rfl rfl fun _ => rfl
def Q0A_l0 (v0 : List Int) (v1 v2 v3 : Int) : Option (Int) := lpW Q0A.s Q0A.c 0 (ud 10 [.vs false 3 v0, .int .i64 v1, .undef, .undef, .undef, .undef, .undef, .int .i64 v2, .int .i64 v3]) [] 0
theorem Q0A.eq (x0 : List Int) (x1 : Int) : Q0A x0 x1 =
 Q0A_l0 x0 x1 (x0.length : Int) 0 := by kernel_rfl
theorem Q0A_l0.eq (v0 : List Int) (v1 v2 v3 : Int) : Q0A_l0 v0 v1 v2 v3 =
 bif decide (v3 < v2) then
 (at? v0 v3).bind fun y1 =>
 bif v1 == y1 then
 some v3
 else
 Q0A_l0 v0 v1 v2 (IntKind.i64.wrap (v3 + 1))
 else
 some (-1 : Int) := (Q7 Q0 (Q1 (Q0A.gok _)) _ _).trans (by kernel_rfl)
abbrev Q0m.s : Sg := ⟨[.lend, .lend], [vl 3, vl 3], ⟨[vo 140], [none, none]⟩, Tryz.f167⟩
def Q0m.gs (δ : Type) : List (Nat × KC δ) := [(195, Q2r.k), (196, Q0A.k)]
theorem Q0m.gok (δ : Type) : Q4 Tryz.prog tab (Q0m.gs δ) := .cons Q2r.con (.cons Q0A.con .nil)
def Q0m.c := cx Q0m.s [] [] [(4, [0, 1, 5, 6, 7, 8])] false (Q0m.gs _)
def Q0m (x0 x1 : List Int) : Option (List (Int × Int)) := fnW Q0m.s Q0m.c (x0, x1)
theorem Q0m.fok : FkS Q0m.s 167 := ⟨Tryz.func167, by kernel_rfl, by kernel_rfl⟩
def Q0m.fn (x : Args tab Q0m.s.ar) : Option (ResT tab Q0m.s.rs) := Q0m x.1 x.2
abbrev Q0m.k {δ : Type} : KC δ := kS Q0m.s Q0m.fn
theorem Q0m.con {δ : Type} : Con Tryz.prog (KT tab) 167 (Q0m.k (δ := δ)) := Q5 (c := Q0m.c) mixed Q0 (Q1 (Q0m.gok _)) Q0m.fok rfl rfl fun _ => rfl
def Q0m_l0 (v0 v1 : List Int) (v2 : List (List Int)) (v3 v4 : Int) (v5 : List (Int × Int)) : Option (List (Int × Int)) := lpW Q0m.s Q0m.c 0 (ud 59 [.vs false 3 v0, .vs false 3 v1, .undef, .undef, .undef, .vs false 24 v2, .sl 0 0, .int .i64 v3, .int .i64 v4]) [.row 0 true 140 v5] 1
theorem Q0m.eq (x0 x1 : List Int) : Q0m x0 x1 =
 (Q2r x0 x1).bind fun y1 =>
 Q0m_l0 x0 x1 y1 0 0 ([] : List (Int × Int)) := by kernel_rfl
theorem Q0m_l0.eq (v0 v1 : List Int) (v2 : List (List Int)) (v3 v4 : Int) (v5 : List (Int × Int)) : Q0m_l0 v0 v1 v2 v3 v4 v5 =
 (at? v2 v3).bind fun y1 =>
 (at? y1 v4).bind fun y2 =>
 bif decide (y2 > 0) then
 bif decide (0 ≤ v4 ∧ v4 ≤ ((v1.length : Nat) : Int)) then
 (at? v0 v3).bind fun y3 =>
 (Q0A ((v1.take v1.length).drop v4.toNat) y3).bind fun y4 =>
 bif decide (y4 ≥ 0) then
 (at? v2 (IntKind.i64.wrap (v3 + 1))).bind fun y5 =>
 (at? y5 (IntKind.i64.wrap ((IntKind.i64.wrap (v4 + y4)) + 1))).bind fun y6 =>
 (at? v2 v3).bind fun y7 =>
 (at? y7 v4).bind fun y8 =>
 bif IntKind.i64.wrap (y6 + 1) == y8 then
 bif decide ((v5.length + ([(v3, IntKind.i64.wrap (v4 + y4))] : List (Int × Int)).length) * 16 ≤ 140737488355328) then
 Q0m_l0 v0 v1 v2 (IntKind.i64.wrap (v3 + 1)) (IntKind.i64.wrap (v4 + (IntKind.i64.wrap (y4 + 1)))) (v5 ++ ([(v3, IntKind.i64.wrap (v4 + y4))] : List (Int × Int)))
 else
 none
 else
 Q0m_l0 v0 v1 v2 (IntKind.i64.wrap (v3 + 1)) v4 v5
 else
 Q0m_l0 v0 v1 v2 (IntKind.i64.wrap (v3 + 1)) v4 v5
 else
 none
 else
 some v5 := (Q7 Q0 (Q1 (Q0m.gok _)) _ _).trans (by kernel_rfl)
abbrev Q1o.s : Sg := ⟨[.lend, .lend, .lend], [vl 3, vl 3, vi], ⟨[vo 140], [none, none, none]⟩, Tryz.f115⟩
def Q1o.gs (δ : Type) : List (Nat × KC δ) := [(166, Q1X.k), (167, Q0m.k)]
theorem Q1o.gok (δ : Type) : Q4 Tryz.prog tab (Q1o.gs δ) := .cons Q1X.con (.cons Q0m.con .nil)
def Q1o.c := cx Q1o.s [] [] [] false (Q1o.gs _)
def Q1o (x0 x1 : List Int) (x2 : Int) : Option (List (Int × Int)) := fnW Q1o.s Q1o.c (x0, x1, x2)
theorem Q1o.fok : FkS Q1o.s 115 := ⟨Tryz.func115, by kernel_rfl, by kernel_rfl⟩
def Q1o.fn (x : Args tab Q1o.s.ar) : Option (ResT tab Q1o.s.rs) := Q1o x.1 x.2.1 x.2.2
abbrev Q1o.k {δ : Type} : KC δ := kS Q1o.s Q1o.fn
theorem Q1o.con {δ : Type} : Con Tryz.prog (KT tab) 115 (Q1o.k (δ := δ)) := Q5 (c := Q1o.c) mixed Q0 (Q1 (Q1o.gok _)) Q1o.fok rfl rfl fun _ => rfl
theorem Q1o.eq (x0 x1 : List Int) (x2 : Int) : Q1o x0 x1 x2 =
 (Q1X x0 x1).bind fun y1 =>
 bif !y1 then
 some ([] : List (Int × Int))
 else
 (Q0m x0 x1).bind fun y2 =>
 bif decide (IntKind.i64.wrap ((IntKind.i64.wrap ((x0.length : Int) + (x1.length : Int))) - (IntKind.i64.wrap ((2 : Int) * (y2.length : Int)))) > x2) then
 some ([] : List (Int × Int))
 else
 some y2 := by kernel_rfl
abbrev QY.s : Sg := ⟨[.lend, .lend, .lend, .lend], [vl 5, vl 5, vi, vi], ⟨[vo 140], [none, none, none, none]⟩, Tryz.f50⟩
def QY.gs (δ : Type) : List (Nat × KC δ) := [(59, Qu.k), (114, Q0z.k), (115, Q1o.k)]
theorem QY.gok (δ : Type) : Q4 Tryz.prog tab (QY.gs δ) := .cons Qu.con (.cons Q0z.con (.cons Q1o.con .nil))
def QY.c := cx QY.s [] [] [(4, [3, 9, 10, 11, 23, 24, 25]), (7, [3, 9, 10, 11, 13, 23, 24, 25, 42, 43, 44])] false (QY.gs _)
def QY (x0 x1 : List Int) (x2 x3 : Int) : Option (List (Int × Int)) := fnW QY.s QY.c (x0, x1, x2, x3)
theorem QY.fok : FkS QY.s 50 := ⟨Tryz.func50, by kernel_rfl, by kernel_rfl⟩
def QY.fn (x : Args tab QY.s.ar) : Option (ResT tab QY.s.rs) := QY x.1 x.2.1 x.2.2.1 x.2.2.2
abbrev QY.k {δ : Type} : KC δ := kS QY.s QY.fn
theorem QY.con {δ : Type} : Con Tryz.prog (KT tab) 50 (QY.k (δ := δ)) := Q5 (c := QY.c) mixed Q0 (Q1 (QY.gok _)) QY.fok rfl rfl fun _ => rfl
def QY_l0 (v0 v1 v2 : Int) (v3 v4 : List Int) (v5 : List (Int × Int)) (v6 : List ((List Int) × Int × Int × Int × Int)) : Option (List (Int × Int)) := lpW QY.s QY.c 0 (ud 39 [.undef, .undef, .undef, .int .i64 v0, .undef, .undef, .undef, .undef, .undef, .sl 0 0, .sl 1 0, .sl 2 0, .undef, .undef, .undef, .undef, .undef, .undef, .undef, .undef, .undef, .undef, .undef, .sl 3 0, .int .i64 v1, .int .i64 v2]) [.row 0 true 3 v3, .row 0 true 3 v4, .row 0 true 140 v5, .row 0 false 137 v6] 4
def QY_l1 (v0 v1 v2 v3 v4 : Int) (v5 v6 : List Int) (v7 : List (Int × Int)) (v8 : List Int) (v9 v10 v11 v12 : Int) (v13 : List ((List Int) × Int × Int × Int × Int)) (v14 : List (Int × Int)) : Option (List (Int × Int)) := lpW QY.s QY.c 1 (ud 20 [.undef, .undef, .undef, .int .i64 v0, .undef, .undef, .undef, .undef, .undef, .sl 0 0, .sl 1 0, .sl 2 0, .undef, .ptr 3 0, .undef, .undef, .undef, .undef, .undef, .undef, .undef, .undef, .undef, .sl 4 0, .int .i64 v1, .int .i64 v2, .undef, .undef, .undef, .undef, .undef, .undef, .undef, .undef, .undef, .undef, .undef, .undef, .undef, .undef, .undef, .undef, .sl 5 0, .int .i64 v3, .int .i64 v4]) [.row 0 true 3 v5, .row 0 true 3 v6, .row 0 true 140 v7, .box 137 [.vs false 5 v8, .int .i64 v9, .int .i64 v10, .int .i64 v11, .int .i64 v12], .row 0 false 137 v13, .row 0 true 140 v14] 6
theorem QY.eq (x0 x1 : List Int) (x2 x3 : Int) : QY x0 x1 x2 x3 =
 (Qu x0).bind fun y1 =>
 (Qu x1).bind fun y2 =>
 (Q0z x0 x1 x2).bind fun y3 =>
 QY_l0 x3 (y3.length : Int) 0 y1 y2 ([] : List (Int × Int)) y3 := by kernel_rfl
theorem QY_l0.eq (v0 v1 v2 : Int) (v3 v4 : List Int) (v5 : List (Int × Int)) (v6 : List ((List Int) × Int × Int × Int × Int)) : QY_l0 v0 v1 v2 v3 v4 v5 v6 =
 bif decide (v2 < v1) then
 (at? v6 v2).bind fun y1 =>
 v6[v2.toNat]?.bind fun y2 =>
 bif decide (0 ≤ y2.2.2.1 ∧ y2.2.2.1 ≤ ((v3.length : Nat) : Int)) then
 bif decide (0 ≤ y2.2.1 ∧ y2.2.1 ≤ ((y2.2.2.1.toNat : Nat) : Int)) then
 bif decide (0 ≤ y2.2.2.2.2 ∧ y2.2.2.2.2 ≤ ((v4.length : Nat) : Int)) then
 bif decide (0 ≤ y2.2.2.2.1 ∧ y2.2.2.2.1 ≤ ((y2.2.2.2.2.toNat : Nat) : Int)) then
 (Q1o ((v3.drop y2.2.1.toNat).take (y2.2.2.1.toNat - y2.2.1.toNat)) ((v4.drop y2.2.2.2.1.toNat).take (y2.2.2.2.2.toNat - y2.2.2.2.1.toNat)) v0).bind fun y3 =>
 QY_l1 v0 v1 v2 (y3.length : Int) 0 v3 v4 v5 y2.1 y2.2.1 y2.2.2.1 y2.2.2.2.1 y2.2.2.2.2 v6 y3
 else
 none
 else
 none
 else
 none
 else
 none
 else
 some v5 := (Q7 Q0 (Q1 (QY.gok _)) _ _).trans (by kernel_rfl)
theorem QY_l1.eq (v0 v1 v2 v3 v4 : Int) (v5 v6 : List Int) (v7 : List (Int × Int)) (v8 : List Int) (v9 v10 v11 v12 : Int) (v13 : List ((List Int) × Int × Int × Int × Int)) (v14 : List (Int × Int)) : QY_l1 v0 v1 v2 v3 v4 v5 v6 v7 v8 v9 v10 v11 v12 v13 v14 =
 bif decide (v4 < v3) then
 (at? v14 v4).bind fun y1 =>
 v14[v4.toNat]?.bind fun y2 =>
 bif decide ((v7.length + ([(IntKind.i64.wrap (y2.1 + v9), IntKind.i64.wrap (y2.2 + v11))] : List (Int × Int)).length) * 16 ≤ 140737488355328) then
 QY_l1 v0 v1 v2 v3 (IntKind.i64.wrap (v4 + 1)) v5 v6 (v7 ++ ([(IntKind.i64.wrap (y2.1 + v9), IntKind.i64.wrap (y2.2 + v11))] : List (Int × Int))) v8 v9 v10 v11 v12 v13 v14
 else
 none
 else
 QY_l0 v0 v1 (IntKind.i64.wrap (v2 + 1)) v5 v6 v7 v13 := (Q7 Q0 (Q1 (QY.gok _)) _ _).trans (by kernel_rfl)
abbrev Q0u.s : Sg := ⟨[.lend, .lend, .lend], [vi, vi, vl 140], ⟨[ag0, ag0], [none, none, none]⟩, Tryz.f49⟩
def Q0u.gs (δ : Type) : List (Nat × KC δ) := [(113, QL.k)]
theorem Q0u.gok (δ : Type) : Q4 Tryz.prog tab (Q0u.gs δ) := .cons QL.con .nil
def Q0u.c := cx Q0u.s [] [] [(3, [6, 7, 8, 9, 16, 17, 18])] false (Q0u.gs _)
def Q0u (x0 x1 : Int) (x2 : List (Int × Int)) : Option ((Int × (List Int)) × (Int × (List Int))) := fnW Q0u.s Q0u.c (x0, x1, x2)
theorem Q0u.fok : FkS Q0u.s 49 := ⟨Tryz.func49, by kernel_rfl, by kernel_rfl⟩
def Q0u.fn (x : Args tab Q0u.s.ar) : Option (ResT tab Q0u.s.rs) := Q0u x.1 x.2.1 x.2.2
abbrev Q0u.k {δ : Type} : KC δ := kS Q0u.s Q0u.fn
theorem Q0u.con {δ : Type} : Con Tryz.prog (KT tab) 49 (Q0u.k (δ := δ)) := Q5 (c := Q0u.c) mixed Q0 (Q1 (Q0u.gok _)) Q0u.fok rfl rfl fun _ => rfl
def Q0u_l0 (v0 : List (Int × Int)) (v1 v2 v3 : Int) (v4 : List Int) (v5 : Int) (v6 v7 v8 : List Int) : Option ((Int × (List Int)) × (Int × (List Int))) := lpW Q0u.s Q0u.c 0 (ud 16 [.undef, .undef, .undef, .undef, .undef, .undef, .ptr 0 0, .ptr 2 0, .sl 4 0, .sl 5 0, .undef, .undef, .undef, .undef, .undef, .undef, .vs false 140 v0, .int .i64 v1, .int .i64 v2]) [.box 30 [.int .i64 v3, .sl 1 0], .row 0 true 90 v4, .box 30 [.int .i64 v5, .sl 3 0], .row 0 true 90 v6, .row 0 true 3 v7, .row 0 true 3 v8] 6
theorem Q0u.eq (x0 x1 : Int) (x2 : List (Int × Int)) : Q0u x0 x1 x2 =
 bif decide ((0 : Int) ≤ x0) && decide (x0.toNat * 8 ≤ 140737488355328) then
 bif decide ((0 : Int) ≤ x1) && decide (x1.toNat * 8 ≤ 140737488355328) then
 Q0u_l0 x2 (x2.length : Int) (0 : Int) (0 : Int) ([] : List Int) (0 : Int) ([] : List Int) (List.replicate x0.toNat (0 : Int)) (List.replicate x1.toNat (0 : Int))
 else
 none
 else
 none := by kernel_rfl
theorem Q0u_l0.eq (v0 : List (Int × Int)) (v1 v2 v3 : Int) (v4 : List Int) (v5 : Int) (v6 v7 v8 : List Int) : Q0u_l0 v0 v1 v2 v3 v4 v5 v6 v7 v8 =
 bif decide (v2 < v1) then
 (at? v0 v2).bind fun y1 =>
 (at? v7 y1.1).bind fun y2 =>
 v7[y1.1.toNat]?.bind fun y3 =>
 (at? v8 y1.2).bind fun y4 =>
 v8[y1.2.toNat]?.bind fun y5 =>
 Q0u_l0 v0 v1 (IntKind.i64.wrap (v2 + 1)) v3 v4 v5 v6 (v7.set y1.1.toNat 1) (v8.set y1.2.toNat 1)
 else
 (QL v7).bind fun y6 =>
 (QL v8).bind fun y7 =>
 some (y6, y7) := (Q7 Q0 (Q1 (Q0u.gok _)) _ _).trans (by kernel_rfl)
abbrev QQ.s : Sg := ⟨[.lend, .lend], [vl 3, ag4], ⟨[vo 3], [none, none]⟩, Tryz.f117⟩
def QQ.gs (δ : Type) : List (Nat × KC δ) := [(118, Q19.k)]
theorem QQ.gok (δ : Type) : Q4 Tryz.prog tab (QQ.gs δ) := .cons Q19.con .nil
def QQ.c := cx QQ.s [] [] [(3, [3, 5, 8, 9, 10])] false (QQ.gs _)
def QQ (x0 : List Int) (x1 : Int × (List Int)) : Option (List Int) := fnW QQ.s QQ.c (x0, x1)
theorem QQ.fok : FkS QQ.s 117 := ⟨Tryz.func117, by kernel_rfl, by kernel_rfl⟩
def QQ.fn (x : Args tab QQ.s.ar) : Option (ResT tab QQ.s.rs) := QQ x.1 x.2
abbrev QQ.k {δ : Type} : KC δ := kS QQ.s QQ.fn
theorem QQ.con {δ : Type} : Con Tryz.prog (KT tab) 117 (QQ.k (δ := δ)) := Q5 (c := QQ.c) mixed Q0 (Q1 (QQ.gok _)) QQ.fok rfl rfl fun _ => rfl
def QQ_l0 (v0 : List Int) (v1 v2 v3 : Int) (v4 v5 : List Int) : Option (List Int) := lpW QQ.s QQ.c 0 (ud 14 [.undef, .undef, .undef, .ptr 0 0, .undef, .sl 1 0, .undef, .undef, .vs false 3 v0, .int .i64 v1, .int .i64 v2]) [.box 30 [.int .i64 v3, .vs false 90 v4], .row 0 true 3 v5] 2
theorem QQ.eq (x0 : List Int) (x1 : Int × (List Int)) : QQ x0 x1 =
 QQ_l0 x0 (x0.length : Int) 0 x1.1 x1.2 ([] : List Int) := by kernel_rfl
theorem QQ_l0.eq (v0 : List Int) (v1 v2 v3 : Int) (v4 v5 : List Int) : QQ_l0 v0 v1 v2 v3 v4 v5 =
 bif decide (v2 < v1) then
 (at? v0 v2).bind fun y1 =>
 (Q19 (v3, v4) v2).bind fun y2 =>
 bif y2 == 0 then
 bif decide ((v5.length + ([y1] : List Int).length) * 8 ≤ 140737488355328) then
 QQ_l0 v0 v1 (IntKind.i64.wrap (v2 + 1)) v3 v4 (v5 ++ ([y1] : List Int))
 else
 none
 else
 QQ_l0 v0 v1 (IntKind.i64.wrap (v2 + 1)) v3 v4 v5
 else
 some v5 := (Q7 Q0 (Q1 (QQ.gok _)) _ _).trans (by kernel_rfl)
abbrev Q1E.s : Sg := ⟨[.keep, .keep, .give, .give, .lend], [vo 5, vl 5, ag0, ag0, vi], ⟨[ag8], [some (vo 5), some (vl 5), none, none, none]⟩, Tryz.f51⟩
def Q1E.gs (δ : Type) : List (Nat × KC δ) := [(59, Qu.k), (111, Qv.k), (116, Qf.k), (117, QQ.k)]
theorem Q1E.gok (δ : Type) : Q4 Tryz.prog tab (Q1E.gs δ) := .cons Qu.con (.cons Qv.con (.cons Qf.con (.cons QQ.con .nil)))
def Q1E.c := cx Q1E.s [] [] [] false (Q1E.gs _)
def Q1E (x0 x1 : List Int) (x2 x3 : Int × (List Int)) (x4 : Int) : Option ((RelA) × (List Int) × (List Int)) := fnW Q1E.s Q1E.c (x0, x1, x2, x3, x4)
theorem Q1E.fok : FkS Q1E.s 51 := ⟨Tryz.func51, by kernel_rfl, by kernel_rfl⟩
def Q1E.fn (x : Args tab Q1E.s.ar) : Option (ResT tab Q1E.s.rs) := Q1E x.1 x.2.1 x.2.2.1 x.2.2.2.1 x.2.2.2.2
abbrev Q1E.k {δ : Type} : KC δ := kS Q1E.s Q1E.fn
theorem Q1E.con {δ : Type} : Con Tryz.prog (KT tab) 51 (Q1E.k (δ := δ)) := Q5 (c := Q1E.c) mixed Q0 (Q1 (Q1E.gok _)) Q1E.fok rfl rfl fun _ => rfl
theorem Q1E.eq (x0 x1 : List Int) (x2 x3 : Int × (List Int)) (x4 : Int) : Q1E x0 x1 x2 x3 x4 =
 (Qv x1 x4).bind fun y1 =>
 (Qu x0).bind fun y2 =>
 (QQ y2 x2).bind fun y3 =>
 (Qf y3).bind fun y4 =>
 (Qu x1).bind fun y5 =>
 (QQ y5 x3).bind fun y6 =>
 (Qf y6).bind fun y7 =>
 some ((y1.1, x4, x2.1, x2.2, x3.1, x3.2, y4.1.1, y4.1.2.1, y4.1.2.2, y7.1.1, y7.1.2.1, y7.1.2.2, y1.2.2.2.2.2.1, y1.2.2.2.2.2.2.1, y1.2.2.2.2.2.2.2.1, y1.2.2.2.2.2.2.2.2.1, y1.2.2.2.2.2.2.2.2.2.1, y1.2.2.2.2.2.2.2.2.2.2.1, y1.2.2.2.2.2.2.2.2.2.2.2.1, y1.2.2.2.2.2.2.2.2.2.2.2.2.1, y1.2.2.2.2.2.2.2.2.2.2.2.2.2.1, y1.2.2.2.2.2.2.2.2.2.2.2.2.2.2.1, y1.2.2.2.2.2.2.2.2.2.2.2.2.2.2.2), x0, x1) := by kernel_rfl
abbrev Q0O.s : Sg := ⟨[.lend, .lend, .lend, .lend, .lend], [ag7, vl 5, vi, vi, vi], ⟨[ag8, vb], [none, none, none, none, none]⟩, Tryz.f9⟩
def Q0O.gs (δ : Type) : List (Nat × KC δ) := [(46, QP.k), (47, Q1C.k), (48, Q0T.k), (49, Q0u.k), (50, QY.k), (51, Q1E.k)]
theorem Q0O.gok (δ : Type) : Q4 Tryz.prog tab (Q0O.gs δ) := .cons QP.con (.cons Q1C.con (.cons Q0T.con (.cons Q0u.con (.cons QY.con (.cons Q1E.con .nil)))))
def Q0O.c := cx Q0O.s [] [] [] false (Q0O.gs _)
def Q0O (x0 : FmA) (x1 : List Int) (x2 x3 x4 : Int) : Option ((RelA) × Bool) := fnW Q0O.s Q0O.c (x0, x1, x2, x3, x4)
theorem Q0O.fok : FkS Q0O.s 9 := ⟨Tryz.func9, by kernel_rfl, by kernel_rfl⟩
def Q0O.fn (x : Args tab Q0O.s.ar) : Option (ResT tab Q0O.s.rs) := Q0O x.1 x.2.1 x.2.2.1 x.2.2.2.1 x.2.2.2.2
abbrev Q0O.k {δ : Type} : KC δ := kS Q0O.s Q0O.fn
theorem Q0O.con {δ : Type} : Con Tryz.prog (KT tab) 9 (Q0O.k (δ := δ)) := Q5 (c := Q0O.c) mixed Q0 (Q1 (Q0O.gok _)) Q0O.fok rfl rfl fun _ => rfl
theorem Q0O.eq (x0 : FmA) (x1 : List Int) (x2 x3 x4 : Int) : Q0O x0 x1 x2 x3 x4 =
 (QP x0).bind fun y1 =>
 bif !y1.2 then
 some ((0, 0, 0, ([] : List Int), 0, ([] : List Int), 0, ([] : List Int), ([] : List (Int × (List Int))), 0, ([] : List Int), ([] : List (Int × (List Int))), ([] : List Int), 0, ([] : List Int), 0, 0, 0, ([] : List Int), 0, 0, 0, ([] : List Int)), false)
 else
 (Q1C y1.1 x1 x2).bind fun y2 =>
 bif !y2 then
 some ((0, 0, 0, ([] : List Int), 0, ([] : List Int), 0, ([] : List Int), ([] : List (Int × (List Int))), 0, ([] : List Int), ([] : List (Int × (List Int))), ([] : List Int), 0, ([] : List Int), 0, 0, 0, ([] : List Int), 0, 0, 0, ([] : List Int)), false)
 else
 (Q0T x4).bind fun y3 =>
 bif !y3 then
 some ((0, 0, 0, ([] : List Int), 0, ([] : List Int), 0, ([] : List Int), ([] : List (Int × (List Int))), 0, ([] : List Int), ([] : List (Int × (List Int))), ([] : List Int), 0, ([] : List Int), 0, 0, 0, ([] : List Int), 0, 0, 0, ([] : List Int)), false)
 else
 (QY y1.1 x1 x2 x3).bind fun y4 =>
 (Q0u (IntKind.i64.wrap ((y1.1.length : Int) + 1)) (IntKind.i64.wrap ((x1.length : Int) + 1)) y4).bind fun y5 =>
 (Q1E y1.1 x1 y5.1 y5.2 x4).bind fun y6 =>
 some (y6.1, true) := by kernel_rfl
end
end Go.Ev.W
