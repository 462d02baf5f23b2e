/- What functions of the program come to. -/
import Derived.Test.YtmdkpcneakoagaaGreatPhT
namespace Go.Ev.W
open Go.Ev Go.Proofs
set_option maxRecDepth 100000
set_option linter.unusedVariables false
noncomputable abbrev Q11.s : Sg := ⟨[.lend, .lend], [vl 3, vi], ⟨[vi], [none, none]⟩, Tryz.f64⟩
noncomputable def Q11.gs (δ : Type) : List (Nat × Callee (GT tab) δ) := []
theorem Q11.gok (δ : Type) : Q4 Tryz.prog tab (Q11.gs δ) := .nil
noncomputable def Q11.c := cx Q11.s [] [] [] false (Q11.gs _)
noncomputable def Q11 (x0 : List Int) (x1 : Int) : Option (Int) := fnW Q11.s Q11.c (x0, x1)
theorem Q11.fok : FkS Q11.s 64 := ⟨Tryz.func64, by kernel_rfl, by kernel_rfl⟩
noncomputable def Q11.fn (x : Args tab Q11.s.ar) : Option (ResT tab Q11.s.rs) := Q11 x.1 x.2
noncomputable abbrev Q11.k {δ : Type} : Callee (GT tab) δ := kS Q11.s Q11.fn
theorem Q11.con {δ : Type} : Con Tryz.prog (KT tab) 64 (Q11.k (δ := δ)) := Q5 (c := Q11.c) mixed Q0 (Q1 (Q11.gok _)) Q11.fok rfl rfl fun _ => rfl
theorem Q11.eq (x0 : List Int) (x1 : Int) : Q11 x0 x1 =
 bif decide (IntKind.i64.wrap (x1 - (x0.length : Int)) < (0 : Int)) then
 some (-1 : Int)
 else
 some (IntKind.i64.wrap (x1 - (x0.length : Int))) := by kernel_rfl
noncomputable abbrev Q1B.s : Sg := ⟨[.lend, .lend], [vl 90, vi], ⟨[vi], [none, none]⟩, Tryz.f126⟩
noncomputable def Q1B.gs (δ : Type) : List (Nat × Callee (GT tab) δ) := []
theorem Q1B.gok (δ : Type) : Q4 Tryz.prog tab (Q1B.gs δ) := .nil
noncomputable def Q1B.c := cx Q1B.s [] [] [] false (Q1B.gs _)
noncomputable def Q1B (x0 : List Int) (x1 : Int) : Option (Int) := fnW Q1B.s Q1B.c (x0, x1)
theorem Q1B.fok : FkS Q1B.s 126 := ⟨Tryz.func126, by kernel_rfl, by kernel_rfl⟩
noncomputable def Q1B.fn (x : Args tab Q1B.s.ar) : Option (ResT tab Q1B.s.rs) := Q1B x.1 x.2
noncomputable abbrev Q1B.k {δ : Type} : Callee (GT tab) δ := kS Q1B.s Q1B.fn
theorem Q1B.con {δ : Type} : Con Tryz.prog (KT tab) 126 (Q1B.k (δ := δ)) := Q5 (c := Q1B.c) mixed Q0 (Q1 (Q1B.gok _)) Q1B.fok rfl rfl fun _ => rfl
theorem Q1B.eq (x0 : List Int) (x1 : Int) : Q1B x0 x1 =
 bif decide (IntKind.i64.wrap (x1 - (x0.length : Int)) < (0 : Int)) then
 some (-1 : Int)
 else
 some (IntKind.i64.wrap (x1 - (x0.length : Int))) := by kernel_rfl
noncomputable abbrev Q0L.s : Sg := ⟨[.lend, .lend], [.agg [.int .i64, .sl false false 90], vi], ⟨[vi], [none, none]⟩, Tryz.f65⟩
noncomputable def Q0L.gs (δ : Type) : List (Nat × Callee (GT tab) δ) := [(126, Q1B.k)]
theorem Q0L.gok (δ : Type) : Q4 Tryz.prog tab (Q0L.gs δ) := .cons Q1B.con .nil
noncomputable def Q0L.c := cx Q0L.s [] [] [] false (Q0L.gs _)
noncomputable def Q0L (x0 : Int × (List Int)) (x1 : Int) : Option (Int) := fnW Q0L.s Q0L.c (x0, x1)
theorem Q0L.fok : FkS Q0L.s 65 := ⟨Tryz.func65, by kernel_rfl, by kernel_rfl⟩
noncomputable def Q0L.fn (x : Args tab Q0L.s.ar) : Option (ResT tab Q0L.s.rs) := Q0L x.1 x.2
noncomputable abbrev Q0L.k {δ : Type} : Callee (GT tab) δ := kS Q0L.s Q0L.fn
theorem Q0L.con {δ : Type} : Con Tryz.prog (KT tab) 65 (Q0L.k (δ := δ)) := Q5 (c := Q0L.c) mixed Q0 (Q1 (Q0L.gok _)) Q0L.fok rfl rfl fun _ => rfl
theorem Q0L.eq (x0 : Int × (List Int)) (x1 : Int) : Q0L x0 x1 =
 (Q1B x0.2 x1).bind fun y1 =>
 bif decide (y1 < (0 : Int)) then
 some (-1 : Int)
 else
 some y1 := by kernel_rfl
noncomputable abbrev Q0p.s : Sg := ⟨[.lend, .lend], [vl 57, vi], ⟨[vi], [none, none]⟩, Tryz.f125⟩
noncomputable def Q0p.gs (δ : Type) : List (Nat × Callee (GT tab) δ) := [(65, Q0L.k)]
theorem Q0p.gok (δ : Type) : Q4 Tryz.prog tab (Q0p.gs δ) := .cons Q0L.con .nil
noncomputable def Q0p.c := cx Q0p.s [] [] [(5, [0, 1, 5])] false (Q0p.gs _)
noncomputable def Q0p (x0 : List (Int × (List Int))) (x1 : Int) : Option (Int) := fnW Q0p.s Q0p.c (x0, x1)
theorem Q0p.fok : FkS Q0p.s 125 := ⟨Tryz.func125, by kernel_rfl, by kernel_rfl⟩
noncomputable def Q0p.fn (x : Args tab Q0p.s.ar) : Option (ResT tab Q0p.s.rs) := Q0p x.1 x.2
noncomputable abbrev Q0p.k {δ : Type} : Callee (GT tab) δ := kS Q0p.s Q0p.fn
theorem Q0p.con {δ : Type} : Con Tryz.prog (KT tab) 125 (Q0p.k (δ := δ)) := Q5 (c := Q0p.c) mixed Q0 (Q1 (Q0p.gok _)) Q0p.fok rfl rfl fun _ => rfl
noncomputable def Q0p_l0 (v0 : List (Int × (List Int))) (v1 v2 : Int) : Option (Int) := lpW Q0p.s Q0p.c 0 (ud 21 [.vs false 57 v0, .int .i64 v1, .undef, .undef, .undef, .int .i64 v2]) [] 0
theorem Q0p.eq (x0 : List (Int × (List Int))) (x1 : Int) : Q0p x0 x1 =
 bif decide (IntKind.i64.wrap (x1 - (x0.length : Int)) < (0 : Int)) then
 some (-1 : Int)
 else
 Q0p_l0 x0 (IntKind.i64.wrap (x1 - (x0.length : Int))) (0 : Int) := by kernel_rfl
theorem Q0p_l0.eq (v0 : List (Int × (List Int))) (v1 v2 : Int) : Q0p_l0 v0 v1 v2 =
 bif decide (v2 < (v0.length : Int)) then
 (at? v0 v2).bind fun y1 =>
 (Q0L y1 v1).bind fun y2 =>
 bif decide (y2 < (0 : Int)) then
 some (-1 : Int)
 else
 Q0p_l0 v0 y2 (IntKind.i64.wrap (v2 + (1 : Int)))
 else
 some v1 := (Q6 Q0 (Q1 (Q0p.gok _)) _ _).trans (by kernel_rfl)
noncomputable abbrev Q13.s : Sg := ⟨[.lend, .lend], [.agg [.int .i64, .sl false false 3, .sl false false 57], vi], ⟨[vi], [none, none]⟩, Tryz.f63⟩
noncomputable def Q13.gs (δ : Type) : List (Nat × Callee (GT tab) δ) := [(64, Q11.k), (125, Q0p.k)]
theorem Q13.gok (δ : Type) : Q4 Tryz.prog tab (Q13.gs δ) := .cons Q11.con (.cons Q0p.con .nil)
noncomputable def Q13.c := cx Q13.s [] [] [] false (Q13.gs _)
noncomputable def Q13 (x0 : Int × (List Int) × (List (Int × (List Int)))) (x1 : Int) : Option (Int) := fnW Q13.s Q13.c (x0, x1)
theorem Q13.fok : FkS Q13.s 63 := ⟨Tryz.func63, by kernel_rfl, by kernel_rfl⟩
noncomputable def Q13.fn (x : Args tab Q13.s.ar) : Option (ResT tab Q13.s.rs) := Q13 x.1 x.2
noncomputable abbrev Q13.k {δ : Type} : Callee (GT tab) δ := kS Q13.s Q13.fn
theorem Q13.con {δ : Type} : Con Tryz.prog (KT tab) 63 (Q13.k (δ := δ)) := Q5 (c := Q13.c) mixed Q0 (Q1 (Q13.gok _)) Q13.fok rfl rfl fun _ => rfl
theorem Q13.eq (x0 : Int × (List Int) × (List (Int × (List Int)))) (x1 : Int) : Q13 x0 x1 =
 (Q11 x0.2.1 x1).bind fun y1 =>
 bif decide (y1 < (0 : Int)) then
 some (-1 : Int)
 else
 (Q0p x0.2.2 y1).bind fun y2 =>
 bif decide (y2 < (0 : Int)) then
 some (-1 : Int)
 else
 some y2 := by kernel_rfl
noncomputable abbrev Q1h.s : Sg := ⟨[.lend, .lend], [.agg [.int .i64, .int .i64, .int .i64, .sl false false 90], vi], ⟨[vi], [none, none]⟩, Tryz.f66⟩
noncomputable def Q1h.gs (δ : Type) : List (Nat × Callee (GT tab) δ) := [(65, Q0L.k)]
theorem Q1h.gok (δ : Type) : Q4 Tryz.prog tab (Q1h.gs δ) := .cons Q0L.con .nil
noncomputable def Q1h.c := cx Q1h.s [] [] [] false (Q1h.gs _)
noncomputable def Q1h (x0 : Int × Int × Int × (List Int)) (x1 : Int) : Option (Int) := fnW Q1h.s Q1h.c (x0, x1)
theorem Q1h.fok : FkS Q1h.s 66 := ⟨Tryz.func66, by kernel_rfl, by kernel_rfl⟩
noncomputable def Q1h.fn (x : Args tab Q1h.s.ar) : Option (ResT tab Q1h.s.rs) := Q1h x.1 x.2
noncomputable abbrev Q1h.k {δ : Type} : Callee (GT tab) δ := kS Q1h.s Q1h.fn
theorem Q1h.con {δ : Type} : Con Tryz.prog (KT tab) 66 (Q1h.k (δ := δ)) := Q5 (c := Q1h.c) mixed Q0 (Q1 (Q1h.gok _)) Q1h.fok rfl rfl fun _ => rfl
theorem Q1h.eq (x0 : Int × Int × Int × (List Int)) (x1 : Int) : Q1h x0 x1 =
 (Q0L x0.2.2 x1).bind fun y1 =>
 bif decide (y1 < (0 : Int)) then
 some (-1 : Int)
 else
 some y1 := by kernel_rfl
noncomputable abbrev Q1i.s : Sg := ⟨[.lend, .lend], [.agg [.int .i64, .int .i64, .int .i64, .sl false false 3, .sl false false 57, .sl false false 3, .int .i64, .sl false false 90, .int .i64, .int .i64, .int .i64, .sl false false 90, .int .i64, .int .i64, .int .i64, .sl false false 90], vi], ⟨[vi], [none, none]⟩, Tryz.f22⟩
noncomputable def Q1i.gs (δ : Type) : List (Nat × Callee (GT tab) δ) := [(63, Q13.k), (64, Q11.k), (65, Q0L.k), (66, Q1h.k)]
theorem Q1i.gok (δ : Type) : Q4 Tryz.prog tab (Q1i.gs δ) := .cons Q13.con (.cons Q11.con (.cons Q0L.con (.cons Q1h.con .nil)))
noncomputable def Q1i.c := cx Q1i.s [] [] [] false (Q1i.gs _)
noncomputable def Q1i (x0 : Int × Int × Int × (List Int) × (List (Int × (List Int))) × (List Int) × Int × (List Int) × Int × Int × Int × (List Int) × Int × Int × Int × (List Int)) (x1 : Int) : Option (Int) := fnW Q1i.s Q1i.c (x0, x1)
theorem Q1i.fok : FkS Q1i.s 22 := ⟨Tryz.func22, by kernel_rfl, by kernel_rfl⟩
noncomputable def Q1i.fn (x : Args tab Q1i.s.ar) : Option (ResT tab Q1i.s.rs) := Q1i x.1 x.2
noncomputable abbrev Q1i.k {δ : Type} : Callee (GT tab) δ := kS Q1i.s Q1i.fn
theorem Q1i.con {δ : Type} : Con Tryz.prog (KT tab) 22 (Q1i.k (δ := δ)) := Q5 (c := Q1i.c) mixed Q0 (Q1 (Q1i.gok _)) Q1i.fok rfl rfl fun _ => rfl
theorem Q1i.eq (x0 : Int × Int × Int × (List Int) × (List (Int × (List Int))) × (List Int) × Int × (List Int) × Int × Int × Int × (List Int) × Int × Int × Int × (List Int)) (x1 : Int) : Q1i x0 x1 =
 (Q13 (x0.2.2.1, x0.2.2.2.1, x0.2.2.2.2.1) x1).bind fun y1 =>
 bif decide (y1 < (0 : Int)) then
 some (-1 : Int)
 else
 (Q11 x0.2.2.2.2.2.1 y1).bind fun y2 =>
 bif decide (y2 < (0 : Int)) then
 some (-1 : Int)
 else
 (Q0L (x0.2.2.2.2.2.2.1, x0.2.2.2.2.2.2.2.1) y2).bind fun y3 =>
 bif decide (y3 < (0 : Int)) then
 some (-1 : Int)
 else
 (Q1h (x0.2.2.2.2.2.2.2.2.1, x0.2.2.2.2.2.2.2.2.2.1, x0.2.2.2.2.2.2.2.2.2.2.1, x0.2.2.2.2.2.2.2.2.2.2.2.1) y3).bind fun y4 =>
 bif decide (y4 < (0 : Int)) then
 some (-1 : Int)
 else
 (Q1h x0.2.2.2.2.2.2.2.2.2.2.2.2 y4).bind fun y5 =>
 bif decide (y5 < (0 : Int)) then
 some (-1 : Int)
 else
 some y5 := by kernel_rfl
noncomputable abbrev Q05.s : Sg := ⟨[.lend], [vl 3], ⟨[vo 3], [none]⟩, Tryz.f68⟩
noncomputable def Q05.gs (δ : Type) : List (Nat × Callee (GT tab) δ) := []
theorem Q05.gok (δ : Type) : Q4 Tryz.prog tab (Q05.gs δ) := .nil
noncomputable def Q05.c := cx Q05.s [] [] [(3, [0, 3, 4])] false (Q05.gs _)
noncomputable def Q05 (x0 : List Int) : Option (List Int) := fnW Q05.s Q05.c x0
theorem Q05.fok : FkS Q05.s 68 := ⟨Tryz.func68, by kernel_rfl, by kernel_rfl⟩
noncomputable def Q05.fn (x : Args tab Q05.s.ar) : Option (ResT tab Q05.s.rs) := Q05 x
noncomputable abbrev Q05.k {δ : Type} : Callee (GT tab) δ := kS Q05.s Q05.fn
theorem Q05.con {δ : Type} : Con Tryz.prog (KT tab) 68 (Q05.k (δ := δ)) := Q5 (c := Q05.c) mixed Q0 (Q1 (Q05.gok _)) Q05.fok rfl rfl fun _ => rfl
noncomputable def Q05_l0 (v0 : List Int) (v1 : Int) (v2 : List Int) : Option (List Int) := lpW Q05.s Q05.c 0 (ud 17 [.vs false 3 v0, .undef, .undef, .sl 0 0, .int .i64 v1]) [.row 0 true 3 v2] 1
theorem Q05.eq (x0 : List Int) : Q05 x0 =
 bif decide ((0 : Int) ≤ (x0.length : Int)) && decide (((x0.length : Int).toNat) * 8 ≤ 140737488355328) then
 Q05_l0 x0 (0 : Int) (List.replicate ((x0.length : Int).toNat) (0 : Int))
 else
 none := by kernel_rfl
theorem Q05_l0.eq (v0 : List Int) (v1 : Int) (v2 : List Int) : Q05_l0 v0 v1 v2 =
 bif decide (v1 < (v0.length : Int)) then
 (at? v0 v1).bind fun y1 =>
 (at? v2 v1).bind fun y2 =>
 v2[v1.toNat]?.bind fun y3 =>
 Q05_l0 v0 (IntKind.i64.wrap (v1 + (1 : Int))) (v2.set v1.toNat y1)
 else
 some v2 := (Q6 Q0 (Q1 (Q05.gok _)) _ _).trans (by kernel_rfl)
noncomputable abbrev Q0u.s : Sg := ⟨[.lend], [vl 90], ⟨[vo 90], [none]⟩, Tryz.f128⟩
noncomputable def Q0u.gs (δ : Type) : List (Nat × Callee (GT tab) δ) := []
theorem Q0u.gok (δ : Type) : Q4 Tryz.prog tab (Q0u.gs δ) := .nil
noncomputable def Q0u.c := cx Q0u.s [] [] [(3, [0, 3, 4])] false (Q0u.gs _)
noncomputable def Q0u (x0 : List Int) : Option (List Int) := fnW Q0u.s Q0u.c x0
theorem Q0u.fok : FkS Q0u.s 128 := ⟨Tryz.func128, by kernel_rfl, by kernel_rfl⟩
noncomputable def Q0u.fn (x : Args tab Q0u.s.ar) : Option (ResT tab Q0u.s.rs) := Q0u x
noncomputable abbrev Q0u.k {δ : Type} : Callee (GT tab) δ := kS Q0u.s Q0u.fn
theorem Q0u.con {δ : Type} : Con Tryz.prog (KT tab) 128 (Q0u.k (δ := δ)) := Q5 (c := Q0u.c) mixed Q0 (Q1 (Q0u.gok _)) Q0u.fok rfl rfl fun _ => rfl
noncomputable def Q0u_l0 (v0 : List Int) (v1 : Int) (v2 : List Int) : Option (List Int) := lpW Q0u.s Q0u.c 0 (ud 17 [.vs false 90 v0, .undef, .undef, .sl 0 0, .int .i64 v1]) [.row 0 true 90 v2] 1
theorem Q0u.eq (x0 : List Int) : Q0u x0 =
 bif decide ((0 : Int) ≤ (x0.length : Int)) && decide (((x0.length : Int).toNat) * 8 ≤ 140737488355328) then
 Q0u_l0 x0 (0 : Int) (List.replicate ((x0.length : Int).toNat) (0 : Int))
 else
 none := by kernel_rfl
theorem Q0u_l0.eq (v0 : List Int) (v1 : Int) (v2 : List Int) : Q0u_l0 v0 v1 v2 =
 bif decide (v1 < (v0.length : Int)) then
 (at? v0 v1).bind fun y1 =>
 (at? v2 v1).bind fun y2 =>
 v2[v1.toNat]?.bind fun y3 =>
 Q0u_l0 v0 (IntKind.i64.wrap (v1 + (1 : Int))) (v2.set v1.toNat y1)
 else
 some v2 := (Q6 Q0 (Q1 (Q0u.gok _)) _ _).trans (by kernel_rfl)
noncomputable abbrev Q0J.s : Sg := ⟨[.lend], [.agg [.int .i64, .sl false false 90]], ⟨[.agg [.int .i64, .sl true true 90]], [none]⟩, Tryz.f69⟩
noncomputable def Q0J.gs (δ : Type) : List (Nat × Callee (GT tab) δ) := [(128, Q0u.k)]
theorem Q0J.gok (δ : Type) : Q4 Tryz.prog tab (Q0J.gs δ) := .cons Q0u.con .nil
noncomputable def Q0J.c := cx Q0J.s [] [] [] false (Q0J.gs _)
noncomputable def Q0J (x0 : Int × (List Int)) : Option (Int × (List Int)) := fnW Q0J.s Q0J.c x0
theorem Q0J.fok : FkS Q0J.s 69 := ⟨Tryz.func69, by kernel_rfl, by kernel_rfl⟩
noncomputable def Q0J.fn (x : Args tab Q0J.s.ar) : Option (ResT tab Q0J.s.rs) := Q0J x
noncomputable abbrev Q0J.k {δ : Type} : Callee (GT tab) δ := kS Q0J.s Q0J.fn
theorem Q0J.con {δ : Type} : Con Tryz.prog (KT tab) 69 (Q0J.k (δ := δ)) := Q5 (c := Q0J.c) mixed Q0 (Q1 (Q0J.gok _)) Q0J.fok rfl rfl fun _ => rfl
theorem Q0J.eq (x0 : Int × (List Int)) : Q0J x0 =
 (Q0u x0.2).bind fun y1 =>
 some (x0.1, y1) := by kernel_rfl
noncomputable abbrev Q0v.s : Sg := ⟨[.lend], [vl 57], ⟨[vo 30], [none]⟩, Tryz.f127⟩
noncomputable def Q0v.gs (δ : Type) : List (Nat × Callee (GT tab) δ) := [(69, Q0J.k)]
theorem Q0v.gok (δ : Type) : Q4 Tryz.prog tab (Q0v.gs δ) := .cons Q0J.con .nil
noncomputable def Q0v.c := cx Q0v.s [] [] [(3, [0, 3, 4])] false (Q0v.gs _)
noncomputable def Q0v (x0 : List (Int × (List Int))) : Option (List (Int × (List Int))) := fnW Q0v.s Q0v.c x0
theorem Q0v.fok : FkS Q0v.s 127 := ⟨Tryz.func127, by kernel_rfl, by kernel_rfl⟩
noncomputable def Q0v.fn (x : Args tab Q0v.s.ar) : Option (ResT tab Q0v.s.rs) := Q0v x
noncomputable abbrev Q0v.k {δ : Type} : Callee (GT tab) δ := kS Q0v.s Q0v.fn
theorem Q0v.con {δ : Type} : Con Tryz.prog (KT tab) 127 (Q0v.k (δ := δ)) := Q5 (c := Q0v.c) mixed Q0 (Q1 (Q0v.gok _)) Q0v.fok rfl rfl fun _ => rfl
noncomputable def Q0v_l0 (v0 : List (Int × (List Int))) (v1 : Int) (v2 : List (Int × (List Int))) : Option (List (Int × (List Int))) := lpW Q0v.s Q0v.c 0 (ud 18 [.vs false 57 v0, .undef, .undef, .sl 0 0, .int .i64 v1]) [.row 0 true 30 v2] 1
theorem Q0v.eq (x0 : List (Int × (List Int))) : Q0v x0 =
 bif decide ((0 : Int) ≤ (x0.length : Int)) && decide (((x0.length : Int).toNat) * 32 ≤ 140737488355328) then
 Q0v_l0 x0 (0 : Int) (List.replicate ((x0.length : Int).toNat) ((0, []) : Int × (List Int)))
 else
 none := by kernel_rfl
theorem Q0v_l0.eq (v0 : List (Int × (List Int))) (v1 : Int) (v2 : List (Int × (List Int))) : Q0v_l0 v0 v1 v2 =
 bif decide (v1 < (v0.length : Int)) then
 (at? v0 v1).bind fun y1 =>
 (Q0J y1).bind fun y2 =>
 (at? v2 v1).bind fun y3 =>
 v2[v1.toNat]?.bind fun y4 =>
 Q0v_l0 v0 (IntKind.i64.wrap (v1 + (1 : Int))) (v2.set v1.toNat (y2.1, y2.2))
 else
 some v2 := (Q6 Q0 (Q1 (Q0v.gok _)) _ _).trans (by kernel_rfl)
noncomputable abbrev Q1C.s : Sg := ⟨[.lend], [.agg [.int .i64, .sl false false 3, .sl false false 57]], ⟨[.agg [.int .i64, .sl true true 3, .sl true true 30]], [none]⟩, Tryz.f67⟩
noncomputable def Q1C.gs (δ : Type) : List (Nat × Callee (GT tab) δ) := [(68, Q05.k), (127, Q0v.k)]
theorem Q1C.gok (δ : Type) : Q4 Tryz.prog tab (Q1C.gs δ) := .cons Q05.con (.cons Q0v.con .nil)
noncomputable def Q1C.c := cx Q1C.s [] [] [] false (Q1C.gs _)
noncomputable def Q1C (x0 : Int × (List Int) × (List (Int × (List Int)))) : Option (Int × (List Int) × (List (Int × (List Int)))) := fnW Q1C.s Q1C.c x0
theorem Q1C.fok : FkS Q1C.s 67 := ⟨Tryz.func67, by kernel_rfl, by kernel_rfl⟩
noncomputable def Q1C.fn (x : Args tab Q1C.s.ar) : Option (ResT tab Q1C.s.rs) := Q1C x
noncomputable abbrev Q1C.k {δ : Type} : Callee (GT tab) δ := kS Q1C.s Q1C.fn
theorem Q1C.con {δ : Type} : Con Tryz.prog (KT tab) 67 (Q1C.k (δ := δ)) := Q5 (c := Q1C.c) mixed Q0 (Q1 (Q1C.gok _)) Q1C.fok rfl rfl fun _ => rfl
theorem Q1C.eq (x0 : Int × (List Int) × (List (Int × (List Int)))) : Q1C x0 =
 (Q05 x0.2.1).bind fun y1 =>
 (Q0v x0.2.2).bind fun y2 =>
 some (x0.1, y1, y2) := by kernel_rfl
noncomputable abbrev Q1j.s : Sg := ⟨[.lend], [.agg [.int .i64, .int .i64, .int .i64, .sl false false 90]], ⟨[.agg [.int .i64, .int .i64, .int .i64, .sl true true 90]], [none]⟩, Tryz.f70⟩
noncomputable def Q1j.gs (δ : Type) : List (Nat × Callee (GT tab) δ) := [(69, Q0J.k)]
theorem Q1j.gok (δ : Type) : Q4 Tryz.prog tab (Q1j.gs δ) := .cons Q0J.con .nil
noncomputable def Q1j.c := cx Q1j.s [] [] [] false (Q1j.gs _)
noncomputable def Q1j (x0 : Int × Int × Int × (List Int)) : Option (Int × Int × Int × (List Int)) := fnW Q1j.s Q1j.c x0
theorem Q1j.fok : FkS Q1j.s 70 := ⟨Tryz.func70, by kernel_rfl, by kernel_rfl⟩
noncomputable def Q1j.fn (x : Args tab Q1j.s.ar) : Option (ResT tab Q1j.s.rs) := Q1j x
noncomputable abbrev Q1j.k {δ : Type} : Callee (GT tab) δ := kS Q1j.s Q1j.fn
theorem Q1j.con {δ : Type} : Con Tryz.prog (KT tab) 70 (Q1j.k (δ := δ)) := Q5 (c := Q1j.c) mixed Q0 (Q1 (Q1j.gok _)) Q1j.fok rfl rfl fun _ => rfl
theorem Q1j.eq (x0 : Int × Int × Int × (List Int)) : Q1j x0 =
 (Q0J x0.2.2).bind fun y1 =>
 some (x0.1, x0.2.1, y1.1, y1.2) := by kernel_rfl
noncomputable abbrev Q12.s : Sg := ⟨[.lend], [.agg [.int .i64, .int .i64, .int .i64, .sl false false 3, .sl false false 57, .sl false false 3, .int .i64, .sl false false 90, .int .i64, .int .i64, .int .i64, .sl false false 90, .int .i64, .int .i64, .int .i64, .sl false false 90]], ⟨[.agg [.int .i64, .int .i64, .int .i64, .sl true true 3, .sl true true 30, .sl true true 3, .int .i64, .sl true true 90, .int .i64, .int .i64, .int .i64, .sl true true 90, .int .i64, .int .i64, .int .i64, .sl true true 90]], [none]⟩, Tryz.f23⟩
noncomputable def Q12.gs (δ : Type) : List (Nat × Callee (GT tab) δ) := [(67, Q1C.k), (68, Q05.k), (69, Q0J.k), (70, Q1j.k)]
theorem Q12.gok (δ : Type) : Q4 Tryz.prog tab (Q12.gs δ) := .cons Q1C.con (.cons Q05.con (.cons Q0J.con (.cons Q1j.con .nil)))
noncomputable def Q12.c := cx Q12.s [] [] [] false (Q12.gs _)
noncomputable def Q12 (x0 : Int × Int × Int × (List Int) × (List (Int × (List Int))) × (List Int) × Int × (List Int) × Int × Int × Int × (List Int) × Int × Int × Int × (List Int)) : Option (Int × Int × Int × (List Int) × (List (Int × (List Int))) × (List Int) × Int × (List Int) × Int × Int × Int × (List Int) × Int × Int × Int × (List Int)) := fnW Q12.s Q12.c x0
theorem Q12.fok : FkS Q12.s 23 := ⟨Tryz.func23, by kernel_rfl, by kernel_rfl⟩
noncomputable def Q12.fn (x : Args tab Q12.s.ar) : Option (ResT tab Q12.s.rs) := Q12 x
noncomputable abbrev Q12.k {δ : Type} : Callee (GT tab) δ := kS Q12.s Q12.fn
theorem Q12.con {δ : Type} : Con Tryz.prog (KT tab) 23 (Q12.k (δ := δ)) := Q5 (c := Q12.c) mixed Q0 (Q1 (Q12.gok _)) Q12.fok rfl rfl fun _ => rfl
theorem Q12.eq (x0 : Int × Int × Int × (List Int) × (List (Int × (List Int))) × (List Int) × Int × (List Int) × Int × Int × Int × (List Int) × Int × Int × Int × (List Int)) : Q12 x0 =
 (Q1C (x0.2.2.1, x0.2.2.2.1, x0.2.2.2.2.1)).bind fun y1 =>
 (Q05 x0.2.2.2.2.2.1).bind fun y2 =>
 (Q0J (x0.2.2.2.2.2.2.1, x0.2.2.2.2.2.2.2.1)).bind fun y3 =>
 (Q1j (x0.2.2.2.2.2.2.2.2.1, x0.2.2.2.2.2.2.2.2.2.1, x0.2.2.2.2.2.2.2.2.2.2.1, x0.2.2.2.2.2.2.2.2.2.2.2.1)).bind fun y4 =>
 (Q1j x0.2.2.2.2.2.2.2.2.2.2.2.2).bind fun y5 =>
 some (x0.1, x0.2.1, y1.1, y1.2.1, y1.2.2, y2, y3.1, y3.2, y4.1, y4.2.1, y4.2.2.1, y4.2.2.2, y5.1, y5.2.1, y5.2.2.1, y5.2.2.2) := by kernel_rfl
noncomputable abbrev Q06.s : Sg := ⟨[.lend], [vl 5], ⟨[vo 5], [none]⟩, Tryz.f24⟩
noncomputable def Q06.gs (δ : Type) : List (Nat × Callee (GT tab) δ) := []
theorem Q06.gok (δ : Type) : Q4 Tryz.prog tab (Q06.gs δ) := .nil
noncomputable def Q06.c := cx Q06.s [] [] [(3, [0, 3, 4])] false (Q06.gs _)
noncomputable def Q06 (x0 : List Int) : Option (List Int) := fnW Q06.s Q06.c x0
theorem Q06.fok : FkS Q06.s 24 := ⟨Tryz.func24, by kernel_rfl, by kernel_rfl⟩
noncomputable def Q06.fn (x : Args tab Q06.s.ar) : Option (ResT tab Q06.s.rs) := Q06 x
noncomputable abbrev Q06.k {δ : Type} : Callee (GT tab) δ := kS Q06.s Q06.fn
theorem Q06.con {δ : Type} : Con Tryz.prog (KT tab) 24 (Q06.k (δ := δ)) := Q5 (c := Q06.c) mixed Q0 (Q1 (Q06.gok _)) Q06.fok rfl rfl fun _ => rfl
noncomputable def Q06_l0 (v0 : List Int) (v1 : Int) (v2 : List Int) : Option (List Int) := lpW Q06.s Q06.c 0 (ud 17 [.vs false 5 v0, .undef, .undef, .sl 0 0, .int .i64 v1]) [.row 0 true 5 v2] 1
theorem Q06.eq (x0 : List Int) : Q06 x0 =
 bif decide ((0 : Int) ≤ (x0.length : Int)) && decide (((x0.length : Int).toNat) * 1 ≤ 140737488355328) then
 Q06_l0 x0 (0 : Int) (List.replicate ((x0.length : Int).toNat) (0 : Int))
 else
 none := by kernel_rfl
theorem Q06_l0.eq (v0 : List Int) (v1 : Int) (v2 : List Int) : Q06_l0 v0 v1 v2 =
 bif decide (v1 < (v0.length : Int)) then
 (at? v0 v1).bind fun y1 =>
 (at? v2 v1).bind fun y2 =>
 v2[v1.toNat]?.bind fun y3 =>
 Q06_l0 v0 (IntKind.i64.wrap (v1 + (1 : Int))) (v2.set v1.toNat y1)
 else
 some v2 := (Q6 Q0 (Q1 (Q06.gok _)) _ _).trans (by kernel_rfl)
noncomputable abbrev Q0w.s : Sg := ⟨[.lend, .lend], [vl 90, vl 90], ⟨[vb], [none, none]⟩, Tryz.f129⟩
noncomputable def Q0w.gs (δ : Type) : List (Nat × Callee (GT tab) δ) := []
theorem Q0w.gok (δ : Type) : Q4 Tryz.prog tab (Q0w.gs δ) := .nil
noncomputable def Q0w.c := cx Q0w.s [] [] [(4, [0, 1, 5])] false (Q0w.gs _)
noncomputable def Q0w (x0 x1 : List Int) : Option (Bool) := fnW Q0w.s Q0w.c (x0, x1)
theorem Q0w.fok : FkS Q0w.s 129 := ⟨Tryz.func129, by kernel_rfl, by kernel_rfl⟩
noncomputable def Q0w.fn (x : Args tab Q0w.s.ar) : Option (ResT tab Q0w.s.rs) := Q0w x.1 x.2
noncomputable abbrev Q0w.k {δ : Type} : Callee (GT tab) δ := kS Q0w.s Q0w.fn
theorem Q0w.con {δ : Type} : Con Tryz.prog (KT tab) 129 (Q0w.k (δ := δ)) := Q5 (c := Q0w.c) mixed Q0 (Q1 (Q0w.gok _)) Q0w.fok rfl rfl fun _ => rfl
noncomputable def Q0w_l0 (v0 v1 : List Int) (v2 : Int) : Option (Bool) := lpW Q0w.s Q0w.c 0 (ud 20 [.vs false 90 v0, .vs false 90 v1, .undef, .undef, .undef, .int .i64 v2]) [] 0
theorem Q0w.eq (x0 x1 : List Int) : Q0w x0 x1 =
 bif (x0.length : Int) != (x1.length : Int) then
 some false
 else
 Q0w_l0 x0 x1 (0 : Int) := by kernel_rfl
theorem Q0w_l0.eq (v0 v1 : List Int) (v2 : Int) : Q0w_l0 v0 v1 v2 =
 bif decide (v2 < (v0.length : Int)) then
 (at? v0 v2).bind fun y1 =>
 (at? v1 v2).bind fun y2 =>
 bif y1 != y2 then
 some false
 else
 Q0w_l0 v0 v1 (IntKind.i64.wrap (v2 + (1 : Int)))
 else
 some true := (Q6 Q0 (Q1 (Q0w.gok _)) _ _).trans (by kernel_rfl)
noncomputable abbrev Q0h.s : Sg := ⟨[.lend, .lend], [.agg [.int .i64, .sl false false 90], .agg [.int .i64, .sl false false 90]], ⟨[vb], [none, none]⟩, Tryz.f71⟩
noncomputable def Q0h.gs (δ : Type) : List (Nat × Callee (GT tab) δ) := [(129, Q0w.k)]
theorem Q0h.gok (δ : Type) : Q4 Tryz.prog tab (Q0h.gs δ) := .cons Q0w.con .nil
noncomputable def Q0h.c := cx Q0h.s [] [] [] false (Q0h.gs _)
noncomputable def Q0h (x0 x1 : Int × (List Int)) : Option (Bool) := fnW Q0h.s Q0h.c (x0, x1)
theorem Q0h.fok : FkS Q0h.s 71 := ⟨Tryz.func71, by kernel_rfl, by kernel_rfl⟩
noncomputable def Q0h.fn (x : Args tab Q0h.s.ar) : Option (ResT tab Q0h.s.rs) := Q0h x.1 x.2
noncomputable abbrev Q0h.k {δ : Type} : Callee (GT tab) δ := kS Q0h.s Q0h.fn
theorem Q0h.con {δ : Type} : Con Tryz.prog (KT tab) 71 (Q0h.k (δ := δ)) := Q5 (c := Q0h.c) mixed Q0 (Q1 (Q0h.gok _)) Q0h.fok rfl rfl fun _ => rfl
theorem Q0h.eq (x0 x1 : Int × (List Int)) : Q0h x0 x1 =
 bif x0.1 != x1.1 then
 some false
 else
 (Q0w x0.2 x1.2).bind fun y1 =>
 bif !y1 then
 some false
 else
 some true := by kernel_rfl
noncomputable abbrev QV.s : Sg := ⟨[.lend, .lend], [vl 3, vl 3], ⟨[vb], [none, none]⟩, Tryz.f73⟩
noncomputable def QV.gs (δ : Type) : List (Nat × Callee (GT tab) δ) := []
theorem QV.gok (δ : Type) : Q4 Tryz.prog tab (QV.gs δ) := .nil
noncomputable def QV.c := cx QV.s [] [] [(4, [0, 1, 5])] false (QV.gs _)
noncomputable def QV (x0 x1 : List Int) : Option (Bool) := fnW QV.s QV.c (x0, x1)
theorem QV.fok : FkS QV.s 73 := ⟨Tryz.func73, by kernel_rfl, by kernel_rfl⟩
noncomputable def QV.fn (x : Args tab QV.s.ar) : Option (ResT tab QV.s.rs) := QV x.1 x.2
noncomputable abbrev QV.k {δ : Type} : Callee (GT tab) δ := kS QV.s QV.fn
theorem QV.con {δ : Type} : Con Tryz.prog (KT tab) 73 (QV.k (δ := δ)) := Q5 (c := QV.c) mixed Q0 (Q1 (QV.gok _)) QV.fok rfl rfl fun _ => rfl
noncomputable def QV_l0 (v0 v1 : List Int) (v2 : Int) : Option (Bool) := lpW QV.s QV.c 0 (ud 20 [.vs false 3 v0, .vs false 3 v1, .undef, .undef, .undef, .int .i64 v2]) [] 0
theorem QV.eq (x0 x1 : List Int) : QV x0 x1 =
 bif (x0.length : Int) != (x1.length : Int) then
 some false
 else
 QV_l0 x0 x1 (0 : Int) := by kernel_rfl
theorem QV_l0.eq (v0 v1 : List Int) (v2 : Int) : QV_l0 v0 v1 v2 =
 bif decide (v2 < (v0.length : Int)) then
 (at? v0 v2).bind fun y1 =>
 (at? v1 v2).bind fun y2 =>
 bif y1 != y2 then
 some false
 else
 QV_l0 v0 v1 (IntKind.i64.wrap (v2 + (1 : Int)))
 else
 some true := (Q6 Q0 (Q1 (QV.gok _)) _ _).trans (by kernel_rfl)
noncomputable abbrev Q0x.s : Sg := ⟨[.lend, .lend], [vl 30, vl 30], ⟨[vb], [none, none]⟩, Tryz.f130⟩
noncomputable def Q0x.gs (δ : Type) : List (Nat × Callee (GT tab) δ) := [(71, Q0h.k)]
theorem Q0x.gok (δ : Type) : Q4 Tryz.prog tab (Q0x.gs δ) := .cons Q0h.con .nil
noncomputable def Q0x.c := cx Q0x.s [] [] [(4, [0, 1, 5])] false (Q0x.gs _)
noncomputable def Q0x (x0 x1 : List (Int × (List Int))) : Option (Bool) := fnW Q0x.s Q0x.c (x0, x1)
theorem Q0x.fok : FkS Q0x.s 130 := ⟨Tryz.func130, by kernel_rfl, by kernel_rfl⟩
noncomputable def Q0x.fn (x : Args tab Q0x.s.ar) : Option (ResT tab Q0x.s.rs) := Q0x x.1 x.2
noncomputable abbrev Q0x.k {δ : Type} : Callee (GT tab) δ := kS Q0x.s Q0x.fn
theorem Q0x.con {δ : Type} : Con Tryz.prog (KT tab) 130 (Q0x.k (δ := δ)) := Q5 (c := Q0x.c) mixed Q0 (Q1 (Q0x.gok _)) Q0x.fok rfl rfl fun _ => rfl
noncomputable def Q0x_l0 (v0 v1 : List (Int × (List Int))) (v2 : Int) : Option (Bool) := lpW Q0x.s Q0x.c 0 (ud 21 [.vs false 30 v0, .vs false 30 v1, .undef, .undef, .undef, .int .i64 v2]) [] 0
theorem Q0x.eq (x0 x1 : List (Int × (List Int))) : Q0x x0 x1 =
 bif (x0.length : Int) != (x1.length : Int) then
 some false
 else
 Q0x_l0 x0 x1 (0 : Int) := by kernel_rfl
theorem Q0x_l0.eq (v0 v1 : List (Int × (List Int))) (v2 : Int) : Q0x_l0 v0 v1 v2 =
 bif decide (v2 < (v0.length : Int)) then
 (at? v0 v2).bind fun y1 =>
 (at? v1 v2).bind fun y2 =>
 (Q0h y1 y2).bind fun y3 =>
 bif !y3 then
 some false
 else
 Q0x_l0 v0 v1 (IntKind.i64.wrap (v2 + (1 : Int)))
 else
 some true := (Q6 Q0 (Q1 (Q0x.gok _)) _ _).trans (by kernel_rfl)
noncomputable abbrev Q0V.s : Sg := ⟨[.lend, .lend], [.agg [.int .i64, .sl false false 3, .sl false false 30], .agg [.int .i64, .sl false false 3, .sl false false 30]], ⟨[vb], [none, none]⟩, Tryz.f72⟩
noncomputable def Q0V.gs (δ : Type) : List (Nat × Callee (GT tab) δ) := [(73, QV.k), (130, Q0x.k)]
theorem Q0V.gok (δ : Type) : Q4 Tryz.prog tab (Q0V.gs δ) := .cons QV.con (.cons Q0x.con .nil)
noncomputable def Q0V.c := cx Q0V.s [] [] [] false (Q0V.gs _)
noncomputable def Q0V (x0 x1 : Int × (List Int) × (List (Int × (List Int)))) : Option (Bool) := fnW Q0V.s Q0V.c (x0, x1)
theorem Q0V.fok : FkS Q0V.s 72 := ⟨Tryz.func72, by kernel_rfl, by kernel_rfl⟩
noncomputable def Q0V.fn (x : Args tab Q0V.s.ar) : Option (ResT tab Q0V.s.rs) := Q0V x.1 x.2
noncomputable abbrev Q0V.k {δ : Type} : Callee (GT tab) δ := kS Q0V.s Q0V.fn
theorem Q0V.con {δ : Type} : Con Tryz.prog (KT tab) 72 (Q0V.k (δ := δ)) := Q5 (c := Q0V.c) mixed Q0 (Q1 (Q0V.gok _)) Q0V.fok rfl rfl fun _ => rfl
theorem Q0V.eq (x0 x1 : Int × (List Int) × (List (Int × (List Int)))) : Q0V x0 x1 =
 bif x0.1 != x1.1 then
 some false
 else
 (QV x0.2.1 x1.2.1).bind fun y1 =>
 bif !y1 then
 some false
 else
 (Q0x x0.2.2 x1.2.2).bind fun y2 =>
 bif !y2 then
 some false
 else
 some true := by kernel_rfl
noncomputable abbrev Q0M.s : Sg := ⟨[.lend, .lend], [.agg [.int .i64, .int .i64, .int .i64, .sl false false 90], .agg [.int .i64, .int .i64, .int .i64, .sl false false 90]], ⟨[vb], [none, none]⟩, Tryz.f74⟩
noncomputable def Q0M.gs (δ : Type) : List (Nat × Callee (GT tab) δ) := [(71, Q0h.k)]
theorem Q0M.gok (δ : Type) : Q4 Tryz.prog tab (Q0M.gs δ) := .cons Q0h.con .nil
noncomputable def Q0M.c := cx Q0M.s [] [] [] false (Q0M.gs _)
noncomputable def Q0M (x0 x1 : Int × Int × Int × (List Int)) : Option (Bool) := fnW Q0M.s Q0M.c (x0, x1)
theorem Q0M.fok : FkS Q0M.s 74 := ⟨Tryz.func74, by kernel_rfl, by kernel_rfl⟩
noncomputable def Q0M.fn (x : Args tab Q0M.s.ar) : Option (ResT tab Q0M.s.rs) := Q0M x.1 x.2
noncomputable abbrev Q0M.k {δ : Type} : Callee (GT tab) δ := kS Q0M.s Q0M.fn
theorem Q0M.con {δ : Type} : Con Tryz.prog (KT tab) 74 (Q0M.k (δ := δ)) := Q5 (c := Q0M.c) mixed Q0 (Q1 (Q0M.gok _)) Q0M.fok rfl rfl fun _ => rfl
theorem Q0M.eq (x0 x1 : Int × Int × Int × (List Int)) : Q0M x0 x1 =
 bif x0.1 != x1.1 then
 some false
 else
 bif x0.2.1 != x1.2.1 then
 some false
 else
 (Q0h x0.2.2 x1.2.2).bind fun y1 =>
 bif !y1 then
 some false
 else
 some true := by kernel_rfl
noncomputable abbrev Q14.s : Sg := ⟨[.lend, .lend], [.agg [.int .i64, .int .i64, .int .i64, .sl false false 90, .int .i64, .sl false false 90, .int .i64, .sl false false 3, .sl false false 30, .int .i64, .sl false false 3, .sl false false 30, .sl false false 3, .int .i64, .sl false false 90, .int .i64, .int .i64, .int .i64, .sl false false 90, .int .i64, .int .i64, .int .i64, .sl false false 90], .agg [.int .i64, .int .i64, .int .i64, .sl false false 90, .int .i64, .sl false false 90, .int .i64, .sl false false 3, .sl false false 30, .int .i64, .sl false false 3, .sl false false 30, .sl false false 3, .int .i64, .sl false false 90, .int .i64, .int .i64, .int .i64, .sl false false 90, .int .i64, .int .i64, .int .i64, .sl false false 90]], ⟨[vb], [none, none]⟩, Tryz.f25⟩
noncomputable def Q14.gs (δ : Type) : List (Nat × Callee (GT tab) δ) := [(71, Q0h.k), (72, Q0V.k), (73, QV.k), (74, Q0M.k)]
theorem Q14.gok (δ : Type) : Q4 Tryz.prog tab (Q14.gs δ) := .cons Q0h.con (.cons Q0V.con (.cons QV.con (.cons Q0M.con .nil)))
noncomputable def Q14.c := cx Q14.s [] [] [] false (Q14.gs _)
noncomputable def Q14 (x0 x1 : Int × Int × Int × (List Int) × Int × (List Int) × Int × (List Int) × (List (Int × (List Int))) × Int × (List Int) × (List (Int × (List Int))) × (List Int) × Int × (List Int) × Int × Int × Int × (List Int) × Int × Int × Int × (List Int)) : Option (Bool) := fnW Q14.s Q14.c (x0, x1)
theorem Q14.fok : FkS Q14.s 25 := ⟨Tryz.func25, by kernel_rfl, by kernel_rfl⟩
noncomputable def Q14.fn (x : Args tab Q14.s.ar) : Option (ResT tab Q14.s.rs) := Q14 x.1 x.2
noncomputable abbrev Q14.k {δ : Type} : Callee (GT tab) δ := kS Q14.s Q14.fn
theorem Q14.con {δ : Type} : Con Tryz.prog (KT tab) 25 (Q14.k (δ := δ)) := Q5 (c := Q14.c) mixed Q0 (Q1 (Q14.gok _)) Q14.fok rfl rfl fun _ => rfl
theorem Q14.eq (x0 x1 : Int × Int × Int × (List Int) × Int × (List Int) × Int × (List Int) × (List (Int × (List Int))) × Int × (List Int) × (List (Int × (List Int))) × (List Int) × Int × (List Int) × Int × Int × Int × (List Int) × Int × Int × Int × (List Int)) : Q14 x0 x1 =
 bif x0.1 != x1.1 then
 some false
 else
 bif x0.2.1 != x1.2.1 then
 some false
 else
 (Q0h (x0.2.2.1, x0.2.2.2.1) (x1.2.2.1, x1.2.2.2.1)).bind fun y1 =>
 bif !y1 then
 some false
 else
 (Q0h (x0.2.2.2.2.1, x0.2.2.2.2.2.1) (x1.2.2.2.2.1, x1.2.2.2.2.2.1)).bind fun y2 =>
 bif !y2 then
 some false
 else
 (Q0V (x0.2.2.2.2.2.2.1, x0.2.2.2.2.2.2.2.1, x0.2.2.2.2.2.2.2.2.1) (x1.2.2.2.2.2.2.1, x1.2.2.2.2.2.2.2.1, x1.2.2.2.2.2.2.2.2.1)).bind fun y3 =>
 bif !y3 then
 some false
 else
 (Q0V (x0.2.2.2.2.2.2.2.2.2.1, x0.2.2.2.2.2.2.2.2.2.2.1, x0.2.2.2.2.2.2.2.2.2.2.2.1) (x1.2.2.2.2.2.2.2.2.2.1, x1.2.2.2.2.2.2.2.2.2.2.1, x1.2.2.2.2.2.2.2.2.2.2.2.1)).bind fun y4 =>
 bif !y4 then
 some false
 else
 (QV x0.2.2.2.2.2.2.2.2.2.2.2.2.1 x1.2.2.2.2.2.2.2.2.2.2.2.2.1).bind fun y5 =>
 bif !y5 then
 some false
 else
 (Q0h (x0.2.2.2.2.2.2.2.2.2.2.2.2.2.1, x0.2.2.2.2.2.2.2.2.2.2.2.2.2.2.1) (x1.2.2.2.2.2.2.2.2.2.2.2.2.2.1, x1.2.2.2.2.2.2.2.2.2.2.2.2.2.2.1)).bind fun y6 =>
 bif !y6 then
 some false
 else
 (Q0M (x0.2.2.2.2.2.2.2.2.2.2.2.2.2.2.2.1, x0.2.2.2.2.2.2.2.2.2.2.2.2.2.2.2.2.1, x0.2.2.2.2.2.2.2.2.2.2.2.2.2.2.2.2.2.1, x0.2.2.2.2.2.2.2.2.2.2.2.2.2.2.2.2.2.2.1) (x1.2.2.2.2.2.2.2.2.2.2.2.2.2.2.2.1, x1.2.2.2.2.2.2.2.2.2.2.2.2.2.2.2.2.1, x1.2.2.2.2.2.2.2.2.2.2.2.2.2.2.2.2.2.1, x1.2.2.2.2.2.2.2.2.2.2.2.2.2.2.2.2.2.2.1)).bind fun y7 =>
 bif !y7 then
 some false
 else
 (Q0M x0.2.2.2.2.2.2.2.2.2.2.2.2.2.2.2.2.2.2.2 x1.2.2.2.2.2.2.2.2.2.2.2.2.2.2.2.2.2.2.2).bind fun y8 =>
 bif !y8 then
 some false
 else
 some true := by kernel_rfl
noncomputable abbrev Q1D.s : Sg := ⟨[.lend, .lend], [.agg [.int .i64, .int .i64, .int .i64, .sl false false 3, .sl false false 30, .sl false false 3, .int .i64, .sl false false 90, .int .i64, .int .i64, .int .i64, .sl false false 90, .int .i64, .int .i64, .int .i64, .sl false false 90], .agg [.int .i64, .int .i64, .int .i64, .sl false false 3, .sl false false 30, .sl false false 3, .int .i64, .sl false false 90, .int .i64, .int .i64, .int .i64, .sl false false 90, .int .i64, .int .i64, .int .i64, .sl false false 90]], ⟨[vb], [none, none]⟩, Tryz.f26⟩
noncomputable def Q1D.gs (δ : Type) : List (Nat × Callee (GT tab) δ) := [(71, Q0h.k), (72, Q0V.k), (73, QV.k), (74, Q0M.k)]
theorem Q1D.gok (δ : Type) : Q4 Tryz.prog tab (Q1D.gs δ) := .cons Q0h.con (.cons Q0V.con (.cons QV.con (.cons Q0M.con .nil)))
noncomputable def Q1D.c := cx Q1D.s [] [] [] false (Q1D.gs _)
noncomputable def Q1D (x0 x1 : Int × Int × Int × (List Int) × (List (Int × (List Int))) × (List Int) × Int × (List Int) × Int × Int × Int × (List Int) × Int × Int × Int × (List Int)) : Option (Bool) := fnW Q1D.s Q1D.c (x0, x1)
theorem Q1D.fok : FkS Q1D.s 26 := ⟨Tryz.func26, by kernel_rfl, by kernel_rfl⟩
noncomputable def Q1D.fn (x : Args tab Q1D.s.ar) : Option (ResT tab Q1D.s.rs) := Q1D x.1 x.2
noncomputable abbrev Q1D.k {δ : Type} : Callee (GT tab) δ := kS Q1D.s Q1D.fn
theorem Q1D.con {δ : Type} : Con Tryz.prog (KT tab) 26 (Q1D.k (δ := δ)) := Q5 (c := Q1D.c) mixed Q0 (Q1 (Q1D.gok _)) Q1D.fok rfl rfl fun _ => rfl
theorem Q1D.eq (x0 x1 : Int × Int × Int × (List Int) × (List (Int × (List Int))) × (List Int) × Int × (List Int) × Int × Int × Int × (List Int) × Int × Int × Int × (List Int)) : Q1D x0 x1 =
 bif x0.1 != x1.1 then
 some false
 else
 bif x0.2.1 != x1.2.1 then
 some false
 else
 (Q0V (x0.2.2.1, x0.2.2.2.1, x0.2.2.2.2.1) (x1.2.2.1, x1.2.2.2.1, x1.2.2.2.2.1)).bind fun y1 =>
 bif !y1 then
 some false
 else
 (QV x0.2.2.2.2.2.1 x1.2.2.2.2.2.1).bind fun y2 =>
 bif !y2 then
 some false
 else
 (Q0h (x0.2.2.2.2.2.2.1, x0.2.2.2.2.2.2.2.1) (x1.2.2.2.2.2.2.1, x1.2.2.2.2.2.2.2.1)).bind fun y3 =>
 bif !y3 then
 some false
 else
 (Q0M (x0.2.2.2.2.2.2.2.2.1, x0.2.2.2.2.2.2.2.2.2.1, x0.2.2.2.2.2.2.2.2.2.2.1, x0.2.2.2.2.2.2.2.2.2.2.2.1) (x1.2.2.2.2.2.2.2.2.1, x1.2.2.2.2.2.2.2.2.2.1, x1.2.2.2.2.2.2.2.2.2.2.1, x1.2.2.2.2.2.2.2.2.2.2.2.1)).bind fun y4 =>
 bif !y4 then
 some false
 else
 (Q0M x0.2.2.2.2.2.2.2.2.2.2.2.2 x1.2.2.2.2.2.2.2.2.2.2.2.2).bind fun y5 =>
 bif !y5 then
 some false
 else
 some true := by kernel_rfl
noncomputable abbrev Q0y.s : Sg := ⟨[.lend, .lend], [vl 5, vl 5], ⟨[vb], [none, none]⟩, Tryz.f27⟩
noncomputable def Q0y.gs (δ : Type) : List (Nat × Callee (GT tab) δ) := []
theorem Q0y.gok (δ : Type) : Q4 Tryz.prog tab (Q0y.gs δ) := .nil
noncomputable def Q0y.c := cx Q0y.s [] [] [(4, [0, 1, 5])] false (Q0y.gs _)
noncomputable def Q0y (x0 x1 : List Int) : Option (Bool) := fnW Q0y.s Q0y.c (x0, x1)
theorem Q0y.fok : FkS Q0y.s 27 := ⟨Tryz.func27, by kernel_rfl, by kernel_rfl⟩
noncomputable def Q0y.fn (x : Args tab Q0y.s.ar) : Option (ResT tab Q0y.s.rs) := Q0y x.1 x.2
noncomputable abbrev Q0y.k {δ : Type} : Callee (GT tab) δ := kS Q0y.s Q0y.fn
theorem Q0y.con {δ : Type} : Con Tryz.prog (KT tab) 27 (Q0y.k (δ := δ)) := Q5 (c := Q0y.c) mixed Q0 (Q1 (Q0y.gok _)) Q0y.fok rfl rfl fun _ => rfl
noncomputable def Q0y_l0 (v0 v1 : List Int) (v2 : Int) : Option (Bool) := lpW Q0y.s Q0y.c 0 (ud 20 [.vs false 5 v0, .vs false 5 v1, .undef, .undef, .undef, .int .i64 v2]) [] 0
theorem Q0y.eq (x0 x1 : List Int) : Q0y x0 x1 =
 bif (x0.length : Int) != (x1.length : Int) then
 some false
 else
 Q0y_l0 x0 x1 (0 : Int) := by kernel_rfl
theorem Q0y_l0.eq (v0 v1 : List Int) (v2 : Int) : Q0y_l0 v0 v1 v2 =
 bif decide (v2 < (v0.length : Int)) then
 (at? v0 v2).bind fun y1 =>
 (at? v1 v2).bind fun y2 =>
 bif y1 != y2 then
 some false
 else
 Q0y_l0 v0 v1 (IntKind.i64.wrap (v2 + (1 : Int)))
 else
 some true := (Q6 Q0 (Q1 (Q0y.gok _)) _ _).trans (by kernel_rfl)
noncomputable abbrev QW.s : Sg := ⟨[.keep, .lend], [vo 3, vi], ⟨[vi], [some (vo 3), none]⟩, Tryz.f76⟩
noncomputable def QW.gs (δ : Type) : List (Nat × Callee (GT tab) δ) := []
theorem QW.gok (δ : Type) : Q4 Tryz.prog tab (QW.gs δ) := .nil
noncomputable def QW.c := cx QW.s [] [] [(2, [0, 1, 5])] false (QW.gs _)
noncomputable def QW (x0 : List Int) (x1 : Int) : Option (Int × (List Int)) := fnW QW.s QW.c (x0, x1)
theorem QW.fok : FkS QW.s 76 := ⟨Tryz.func76, by kernel_rfl, by kernel_rfl⟩
noncomputable def QW.fn (x : Args tab QW.s.ar) : Option (ResT tab QW.s.rs) := QW x.1 x.2
noncomputable abbrev QW.k {δ : Type} : Callee (GT tab) δ := kS QW.s QW.fn
theorem QW.con {δ : Type} : Con Tryz.prog (KT tab) 76 (QW.k (δ := δ)) := Q5 (c := QW.c) mixed Q0 (Q1 (QW.gok _)) QW.fok rfl rfl fun _ => rfl
noncomputable def QW_l0 (v0 v1 : Int) (v2 : List Int) : Option (Int × (List Int)) := lpW QW.s QW.c 0 (ud 13 [.sl 0 0, .int .i64 v0, .undef, .undef, .undef, .int .i64 v1]) [.row 0 true 3 v2] 1
theorem QW.eq (x0 : List Int) (x1 : Int) : QW x0 x1 =
 QW_l0 x1 (0 : Int) x0 := by kernel_rfl
theorem QW_l0.eq (v0 v1 : Int) (v2 : List Int) : QW_l0 v0 v1 v2 =
 bif decide (v1 < (v2.length : Int)) then
 (at? v2 v1).bind fun y1 =>
 v2[v1.toNat]?.bind fun y2 =>
 QW_l0 (IntKind.i64.wrap (v0 + (1 : Int))) (IntKind.i64.wrap (v1 + (1 : Int))) (v2.set v1.toNat v0)
 else
 some (v0, v2) := (Q6 Q0 (Q1 (QW.gok _)) _ _).trans (by kernel_rfl)
noncomputable abbrev Q07.s : Sg := ⟨[.keep, .lend], [vo 90, vi], ⟨[vi], [some (vo 90), none]⟩, Tryz.f132⟩
noncomputable def Q07.gs (δ : Type) : List (Nat × Callee (GT tab) δ) := []
theorem Q07.gok (δ : Type) : Q4 Tryz.prog tab (Q07.gs δ) := .nil
noncomputable def Q07.c := cx Q07.s [] [] [(2, [0, 1, 5])] false (Q07.gs _)
noncomputable def Q07 (x0 : List Int) (x1 : Int) : Option (Int × (List Int)) := fnW Q07.s Q07.c (x0, x1)
theorem Q07.fok : FkS Q07.s 132 := ⟨Tryz.func132, by kernel_rfl, by kernel_rfl⟩
noncomputable def Q07.fn (x : Args tab Q07.s.ar) : Option (ResT tab Q07.s.rs) := Q07 x.1 x.2
noncomputable abbrev Q07.k {δ : Type} : Callee (GT tab) δ := kS Q07.s Q07.fn
theorem Q07.con {δ : Type} : Con Tryz.prog (KT tab) 132 (Q07.k (δ := δ)) := Q5 (c := Q07.c) mixed Q0 (Q1 (Q07.gok _)) Q07.fok rfl rfl fun _ => rfl
noncomputable def Q07_l0 (v0 v1 : Int) (v2 : List Int) : Option (Int × (List Int)) := lpW Q07.s Q07.c 0 (ud 14 [.sl 0 0, .int .i64 v0, .undef, .undef, .undef, .int .i64 v1]) [.row 0 true 90 v2] 1
theorem Q07.eq (x0 : List Int) (x1 : Int) : Q07 x0 x1 =
 Q07_l0 x1 (0 : Int) x0 := by kernel_rfl
theorem Q07_l0.eq (v0 v1 : Int) (v2 : List Int) : Q07_l0 v0 v1 v2 =
 bif decide (v1 < (v2.length : Int)) then
 (at? v2 v1).bind fun y1 =>
 v2[v1.toNat]?.bind fun y2 =>
 Q07_l0 (IntKind.i64.wrap (v0 + (1 : Int))) (IntKind.i64.wrap (v1 + (1 : Int))) (v2.set v1.toNat (IntKind.u64.wrap v0))
 else
 some (v0, v2) := (Q6 Q0 (Q1 (Q07.gok _)) _ _).trans (by kernel_rfl)
noncomputable abbrev Q0z.s : Sg := ⟨[.keep, .lend], [vo 30, vi], ⟨[vi], [some (vo 30), none]⟩, Tryz.f131⟩
noncomputable def Q0z.gs (δ : Type) : List (Nat × Callee (GT tab) δ) := [(132, Q07.k)]
theorem Q0z.gok (δ : Type) : Q4 Tryz.prog tab (Q0z.gs δ) := .cons Q07.con .nil
noncomputable def Q0z.c := cx Q0z.s [] [] [(2, [0, 1, 5])] false (Q0z.gs _)
noncomputable def Q0z (x0 : List (Int × (List Int))) (x1 : Int) : Option (Int × (List (Int × (List Int)))) := fnW Q0z.s Q0z.c (x0, x1)
theorem Q0z.fok : FkS Q0z.s 131 := ⟨Tryz.func131, by kernel_rfl, by kernel_rfl⟩
noncomputable def Q0z.fn (x : Args tab Q0z.s.ar) : Option (ResT tab Q0z.s.rs) := Q0z x.1 x.2
noncomputable abbrev Q0z.k {δ : Type} : Callee (GT tab) δ := kS Q0z.s Q0z.fn
theorem Q0z.con {δ : Type} : Con Tryz.prog (KT tab) 131 (Q0z.k (δ := δ)) := Q5 (c := Q0z.c) mixed Q0 (Q1 (Q0z.gok _)) Q0z.fok rfl rfl fun _ => rfl
noncomputable def Q0z_l0 (v0 v1 : Int) (v2 : List (Int × (List Int))) : Option (Int × (List (Int × (List Int)))) := lpW Q0z.s Q0z.c 0 (ud 21 [.sl 0 0, .int .i64 v0, .undef, .undef, .undef, .int .i64 v1]) [.row 0 true 30 v2] 1
theorem Q0z.eq (x0 : List (Int × (List Int))) (x1 : Int) : Q0z x0 x1 =
 Q0z_l0 x1 (0 : Int) x0 := by kernel_rfl
theorem Q0z_l0.eq (v0 v1 : Int) (v2 : List (Int × (List Int))) : Q0z_l0 v0 v1 v2 =
 bif decide (v1 < (v2.length : Int)) then
 (at? v2 v1).bind fun y1 =>
 v2[v1.toNat]?.bind fun y2 =>
 (at? (v2.set v1.toNat (v0, y2.2)) v1).bind fun y3 =>
 (v2.set v1.toNat (v0, y2.2))[v1.toNat]?.bind fun y4 =>
 (Q07 y4.2 (IntKind.i64.wrap (v0 + (1 : Int)))).bind fun y5 =>
 Q0z_l0 y5.1 (IntKind.i64.wrap (v1 + (1 : Int))) ((v2.set v1.toNat (v0, y2.2)).set v1.toNat (y4.1, y5.2))
 else
 some (v0, v2) := (Q6 Q0 (Q1 (Q0z.gok _)) _ _).trans (by kernel_rfl)
noncomputable abbrev Q0W.s : Sg := ⟨[.keep, .lend], [.agg [.int .i64, .sl true true 3, .sl true true 30], vi], ⟨[vi], [some (.agg [.int .i64, .sl true true 3, .sl true true 30]), none]⟩, Tryz.f75⟩
noncomputable def Q0W.gs (δ : Type) : List (Nat × Callee (GT tab) δ) := [(76, QW.k), (131, Q0z.k)]
theorem Q0W.gok (δ : Type) : Q4 Tryz.prog tab (Q0W.gs δ) := .cons QW.con (.cons Q0z.con .nil)
noncomputable def Q0W.c := cx Q0W.s [] [] [] false (Q0W.gs _)
noncomputable def Q0W (x0 : Int × (List Int) × (List (Int × (List Int)))) (x1 : Int) : Option (Int × (Int × (List Int) × (List (Int × (List Int))))) := fnW Q0W.s Q0W.c (x0, x1)
theorem Q0W.fok : FkS Q0W.s 75 := ⟨Tryz.func75, by kernel_rfl, by kernel_rfl⟩
noncomputable def Q0W.fn (x : Args tab Q0W.s.ar) : Option (ResT tab Q0W.s.rs) := Q0W x.1 x.2
noncomputable abbrev Q0W.k {δ : Type} : Callee (GT tab) δ := kS Q0W.s Q0W.fn
theorem Q0W.con {δ : Type} : Con Tryz.prog (KT tab) 75 (Q0W.k (δ := δ)) := Q5 (c := Q0W.c) mixed Q0 (Q1 (Q0W.gok _)) Q0W.fok rfl rfl fun _ => rfl
theorem Q0W.eq (x0 : Int × (List Int) × (List (Int × (List Int)))) (x1 : Int) : Q0W x0 x1 =
 (QW x0.2.1 x1).bind fun y1 =>
 (Q0z x0.2.2 y1.1).bind fun y2 =>
 some (y2.1, (x0.1, y1.2, y2.2)) := by kernel_rfl
noncomputable abbrev Q0H.s : Sg := ⟨[.keep, .lend], [.agg [.int .i64, .sl true true 90], vi], ⟨[vi], [some (.agg [.int .i64, .sl true true 90]), none]⟩, Tryz.f77⟩
noncomputable def Q0H.gs (δ : Type) : List (Nat × Callee (GT tab) δ) := [(132, Q07.k)]
theorem Q0H.gok (δ : Type) : Q4 Tryz.prog tab (Q0H.gs δ) := .cons Q07.con .nil
noncomputable def Q0H.c := cx Q0H.s [] [] [] false (Q0H.gs _)
noncomputable def Q0H (x0 : Int × (List Int)) (x1 : Int) : Option (Int × (Int × (List Int))) := fnW Q0H.s Q0H.c (x0, x1)
theorem Q0H.fok : FkS Q0H.s 77 := ⟨Tryz.func77, by kernel_rfl, by kernel_rfl⟩
noncomputable def Q0H.fn (x : Args tab Q0H.s.ar) : Option (ResT tab Q0H.s.rs) := Q0H x.1 x.2
noncomputable abbrev Q0H.k {δ : Type} : Callee (GT tab) δ := kS Q0H.s Q0H.fn
theorem Q0H.con {δ : Type} : Con Tryz.prog (KT tab) 77 (Q0H.k (δ := δ)) := Q5 (c := Q0H.c) mixed Q0 (Q1 (Q0H.gok _)) Q0H.fok rfl rfl fun _ => rfl
theorem Q0H.eq (x0 : Int × (List Int)) (x1 : Int) : Q0H x0 x1 =
 (Q07 x0.2 x1).bind fun y1 =>
 some (y1.1, (x0.1, y1.2)) := by kernel_rfl
noncomputable abbrev Q0N.s : Sg := ⟨[.keep, .lend], [.agg [.int .i64, .int .i64, .int .i64, .sl true true 90], vi], ⟨[vi], [some (.agg [.int .i64, .int .i64, .int .i64, .sl true true 90]), none]⟩, Tryz.f78⟩
noncomputable def Q0N.gs (δ : Type) : List (Nat × Callee (GT tab) δ) := [(77, Q0H.k)]
theorem Q0N.gok (δ : Type) : Q4 Tryz.prog tab (Q0N.gs δ) := .cons Q0H.con .nil
noncomputable def Q0N.c := cx Q0N.s [] [] [] false (Q0N.gs _)
noncomputable def Q0N (x0 : Int × Int × Int × (List Int)) (x1 : Int) : Option (Int × (Int × Int × Int × (List Int))) := fnW Q0N.s Q0N.c (x0, x1)
theorem Q0N.fok : FkS Q0N.s 78 := ⟨Tryz.func78, by kernel_rfl, by kernel_rfl⟩
noncomputable def Q0N.fn (x : Args tab Q0N.s.ar) : Option (ResT tab Q0N.s.rs) := Q0N x.1 x.2
noncomputable abbrev Q0N.k {δ : Type} : Callee (GT tab) δ := kS Q0N.s Q0N.fn
theorem Q0N.con {δ : Type} : Con Tryz.prog (KT tab) 78 (Q0N.k (δ := δ)) := Q5 (c := Q0N.c) mixed Q0 (Q1 (Q0N.gok _)) Q0N.fok rfl rfl fun _ => rfl
theorem Q0N.eq (x0 : Int × Int × Int × (List Int)) (x1 : Int) : Q0N x0 x1 =
 (Q0H x0.2.2 x1).bind fun y1 =>
 some (y1.1, (x0.1, x0.2.1, x0.2.2.1, y1.2.2)) := by kernel_rfl
noncomputable abbrev Q1E.s : Sg := ⟨[.keep, .lend], [.agg [.int .i64, .int .i64, .int .i64, .sl true true 3, .sl true true 30, .sl true true 3, .int .i64, .sl true true 90, .int .i64, .int .i64, .int .i64, .sl true true 90, .int .i64, .int .i64, .int .i64, .sl true true 90], vi], ⟨[vi], [some (.agg [.int .i64, .int .i64, .int .i64, .sl true true 3, .sl true true 30, .sl true true 3, .int .i64, .sl true true 90, .int .i64, .int .i64, .int .i64, .sl true true 90, .int .i64, .int .i64, .int .i64, .sl true true 90]), none]⟩, Tryz.f28⟩
noncomputable def Q1E.gs (δ : Type) : List (Nat × Callee (GT tab) δ) := [(75, Q0W.k), (76, QW.k), (77, Q0H.k), (78, Q0N.k)]
theorem Q1E.gok (δ : Type) : Q4 Tryz.prog tab (Q1E.gs δ) := .cons Q0W.con (.cons QW.con (.cons Q0H.con (.cons Q0N.con .nil)))
noncomputable def Q1E.c := cx Q1E.s [] [] [] false (Q1E.gs _)
noncomputable def Q1E (x0 : Int × Int × Int × (List Int) × (List (Int × (List Int))) × (List Int) × Int × (List Int) × Int × Int × Int × (List Int) × Int × Int × Int × (List Int)) (x1 : Int) : Option (Int × (Int × Int × Int × (List Int) × (List (Int × (List Int))) × (List Int) × Int × (List Int) × Int × Int × Int × (List Int) × Int × Int × Int × (List Int))) := fnW Q1E.s Q1E.c (x0, x1)
theorem Q1E.fok : FkS Q1E.s 28 := ⟨Tryz.func28, by kernel_rfl, by kernel_rfl⟩
noncomputable def Q1E.fn (x : Args tab Q1E.s.ar) : Option (ResT tab Q1E.s.rs) := Q1E x.1 x.2
noncomputable abbrev Q1E.k {δ : Type} : Callee (GT tab) δ := kS Q1E.s Q1E.fn
theorem Q1E.con {δ : Type} : Con Tryz.prog (KT tab) 28 (Q1E.k (δ := δ)) := Q5 (c := Q1E.c) mixed Q0 (Q1 (Q1E.gok _)) Q1E.fok rfl rfl fun _ => rfl
theorem Q1E.eq (x0 : Int × Int × Int × (List Int) × (List (Int × (List Int))) × (List Int) × Int × (List Int) × Int × Int × Int × (List Int) × Int × Int × Int × (List Int)) (x1 : Int) : Q1E x0 x1 =
 (Q0W (x0.2.2.1, x0.2.2.2.1, x0.2.2.2.2.1) x1).bind fun y1 =>
 (QW x0.2.2.2.2.2.1 y1.1).bind fun y2 =>
 (Q0H (x0.2.2.2.2.2.2.1, x0.2.2.2.2.2.2.2.1) y2.1).bind fun y3 =>
 (Q0N (x0.2.2.2.2.2.2.2.2.1, x0.2.2.2.2.2.2.2.2.2.1, x0.2.2.2.2.2.2.2.2.2.2.1, x0.2.2.2.2.2.2.2.2.2.2.2.1) y3.1).bind fun y4 =>
 (Q0N x0.2.2.2.2.2.2.2.2.2.2.2.2 y4.1).bind fun y5 =>
 some (y5.1, (x0.1, x0.2.1, x0.2.2.1, y1.2.2.1, y1.2.2.2, y2.2, x0.2.2.2.2.2.2.1, y3.2.2, x0.2.2.2.2.2.2.2.2.1, x0.2.2.2.2.2.2.2.2.2.1, x0.2.2.2.2.2.2.2.2.2.2.1, y4.2.2.2.2, x0.2.2.2.2.2.2.2.2.2.2.2.2.1, x0.2.2.2.2.2.2.2.2.2.2.2.2.2.1, x0.2.2.2.2.2.2.2.2.2.2.2.2.2.2.1, y5.2.2.2.2)) := by kernel_rfl
noncomputable abbrev Q0A.s : Sg := ⟨[.keep, .lend], [vo 5, vi], ⟨[vi], [some (vo 5), none]⟩, Tryz.f29⟩
noncomputable def Q0A.gs (δ : Type) : List (Nat × Callee (GT tab) δ) := []
theorem Q0A.gok (δ : Type) : Q4 Tryz.prog tab (Q0A.gs δ) := .nil
noncomputable def Q0A.c := cx Q0A.s [] [] [(2, [0, 1, 5])] false (Q0A.gs _)
noncomputable def Q0A (x0 : List Int) (x1 : Int) : Option (Int × (List Int)) := fnW Q0A.s Q0A.c (x0, x1)
theorem Q0A.fok : FkS Q0A.s 29 := ⟨Tryz.func29, by kernel_rfl, by kernel_rfl⟩
noncomputable def Q0A.fn (x : Args tab Q0A.s.ar) : Option (ResT tab Q0A.s.rs) := Q0A x.1 x.2
noncomputable abbrev Q0A.k {δ : Type} : Callee (GT tab) δ := kS Q0A.s Q0A.fn
theorem Q0A.con {δ : Type} : Con Tryz.prog (KT tab) 29 (Q0A.k (δ := δ)) := Q5 (c := Q0A.c) mixed Q0 (Q1 (Q0A.gok _)) Q0A.fok rfl rfl fun _ => rfl
noncomputable def Q0A_l0 (v0 v1 : Int) (v2 : List Int) : Option (Int × (List Int)) := lpW Q0A.s Q0A.c 0 (ud 14 [.sl 0 0, .int .i64 v0, .undef, .undef, .undef, .int .i64 v1]) [.row 0 true 5 v2] 1
theorem Q0A.eq (x0 : List Int) (x1 : Int) : Q0A x0 x1 =
 Q0A_l0 x1 (0 : Int) x0 := by kernel_rfl
theorem Q0A_l0.eq (v0 v1 : Int) (v2 : List Int) : Q0A_l0 v0 v1 v2 =
 bif decide (v1 < (v2.length : Int)) then
 (at? v2 v1).bind fun y1 =>
 v2[v1.toNat]?.bind fun y2 =>
 Q0A_l0 (IntKind.i64.wrap (v0 + (1 : Int))) (IntKind.i64.wrap (v1 + (1 : Int))) (v2.set v1.toNat (IntKind.u8.wrap v0))
 else
 some (v0, v2) := (Q6 Q0 (Q1 (Q0A.gok _)) _ _).trans (by kernel_rfl)
noncomputable abbrev Q1F.s : Sg := ⟨[.keep, .lend], [.agg [.int .i64, .int .i64, .int .i64, .sl true true 90, .int .i64, .sl true true 90, .int .i64, .sl true true 3, .sl true true 30, .int .i64, .sl true true 3, .sl true true 30, .sl true true 3, .int .i64, .sl true true 90, .int .i64, .int .i64, .int .i64, .sl true true 90, .int .i64, .int .i64, .int .i64, .sl true true 90], vi], ⟨[vi], [some (.agg [.int .i64, .int .i64, .int .i64, .sl true true 90, .int .i64, .sl true true 90, .int .i64, .sl true true 3, .sl true true 30, .int .i64, .sl true true 3, .sl true true 30, .sl true true 3, .int .i64, .sl true true 90, .int .i64, .int .i64, .int .i64, .sl true true 90, .int .i64, .int .i64, .int .i64, .sl true true 90]), none]⟩, Tryz.f30⟩
noncomputable def Q1F.gs (δ : Type) : List (Nat × Callee (GT tab) δ) := [(75, Q0W.k), (76, QW.k), (77, Q0H.k), (78, Q0N.k)]
theorem Q1F.gok (δ : Type) : Q4 Tryz.prog tab (Q1F.gs δ) := .cons Q0W.con (.cons QW.con (.cons Q0H.con (.cons Q0N.con .nil)))
noncomputable def Q1F.c := cx Q1F.s [] [] [] false (Q1F.gs _)
noncomputable def Q1F (x0 : Int × Int × Int × (List Int) × Int × (List Int) × Int × (List Int) × (List (Int × (List Int))) × Int × (List Int) × (List (Int × (List Int))) × (List Int) × Int × (List Int) × Int × Int × Int × (List Int) × Int × Int × Int × (List Int)) (x1 : Int) : Option (Int × (Int × Int × Int × (List Int) × Int × (List Int) × Int × (List Int) × (List (Int × (List Int))) × Int × (List Int) × (List (Int × (List Int))) × (List Int) × Int × (List Int) × Int × Int × Int × (List Int) × Int × Int × Int × (List Int))) := fnW Q1F.s Q1F.c (x0, x1)
theorem Q1F.fok : FkS Q1F.s 30 := ⟨Tryz.func30, by kernel_rfl, by kernel_rfl⟩
noncomputable def Q1F.fn (x : Args tab Q1F.s.ar) : Option (ResT tab Q1F.s.rs) := Q1F x.1 x.2
noncomputable abbrev Q1F.k {δ : Type} : Callee (GT tab) δ := kS Q1F.s Q1F.fn
theorem Q1F.con {δ : Type} : Con Tryz.prog (KT tab) 30 (Q1F.k (δ := δ)) := Q5 (c := Q1F.c) mixed Q0 (Q1 (Q1F.gok _)) Q1F.fok rfl rfl fun _ => rfl
theorem Q1F.eq (x0 : Int × Int × Int × (List Int) × Int × (List Int) × Int × (List Int) × (List (Int × (List Int))) × Int × (List Int) × (List (Int × (List Int))) × (List Int) × Int × (List Int) × Int × Int × Int × (List Int) × Int × Int × Int × (List Int)) (x1 : Int) : Q1F x0 x1 =
 (Q0H (x0.2.2.1, x0.2.2.2.1) x1).bind fun y1 =>
 (Q0H (x0.2.2.2.2.1, x0.2.2.2.2.2.1) y1.1).bind fun y2 =>
 (Q0W (x0.2.2.2.2.2.2.1, x0.2.2.2.2.2.2.2.1, x0.2.2.2.2.2.2.2.2.1) y2.1).bind fun y3 =>
 (Q0W (x0.2.2.2.2.2.2.2.2.2.1, x0.2.2.2.2.2.2.2.2.2.2.1, x0.2.2.2.2.2.2.2.2.2.2.2.1) y3.1).bind fun y4 =>
 (QW x0.2.2.2.2.2.2.2.2.2.2.2.2.1 y4.1).bind fun y5 =>
 (Q0H (x0.2.2.2.2.2.2.2.2.2.2.2.2.2.1, x0.2.2.2.2.2.2.2.2.2.2.2.2.2.2.1) y5.1).bind fun y6 =>
 (Q0N (x0.2.2.2.2.2.2.2.2.2.2.2.2.2.2.2.1, x0.2.2.2.2.2.2.2.2.2.2.2.2.2.2.2.2.1, x0.2.2.2.2.2.2.2.2.2.2.2.2.2.2.2.2.2.1, x0.2.2.2.2.2.2.2.2.2.2.2.2.2.2.2.2.2.2.1) y6.1).bind fun y7 =>
 (Q0N x0.2.2.2.2.2.2.2.2.2.2.2.2.2.2.2.2.2.2.2 y7.1).bind fun y8 =>
 some (y8.1, (x0.1, x0.2.1, x0.2.2.1, y1.2.2, x0.2.2.2.2.1, y2.2.2, x0.2.2.2.2.2.2.1, y3.2.2.1, y3.2.2.2, x0.2.2.2.2.2.2.2.2.2.1, y4.2.2.1, y4.2.2.2, y5.2, x0.2.2.2.2.2.2.2.2.2.2.2.2.2.1, y6.2.2, x0.2.2.2.2.2.2.2.2.2.2.2.2.2.2.2.1, x0.2.2.2.2.2.2.2.2.2.2.2.2.2.2.2.2.1, x0.2.2.2.2.2.2.2.2.2.2.2.2.2.2.2.2.2.1, y7.2.2.2.2, x0.2.2.2.2.2.2.2.2.2.2.2.2.2.2.2.2.2.2.2.1, x0.2.2.2.2.2.2.2.2.2.2.2.2.2.2.2.2.2.2.2.2.1, x0.2.2.2.2.2.2.2.2.2.2.2.2.2.2.2.2.2.2.2.2.2.1, y8.2.2.2.2)) := by kernel_rfl
noncomputable abbrev Q08.s : Sg := ⟨[.lend, .lend], [vl 90, vi], ⟨[vi], [none, none]⟩, Tryz.f133⟩
noncomputable def Q08.gs (δ : Type) : List (Nat × Callee (GT tab) δ) := []
theorem Q08.gok (δ : Type) : Q4 Tryz.prog tab (Q08.gs δ) := .nil
noncomputable def Q08.c := cx Q08.s [] [] [(2, [0, 1, 5])] false (Q08.gs _)
noncomputable def Q08 (x0 : List Int) (x1 : Int) : Option (Int) := fnW Q08.s Q08.c (x0, x1)
theorem Q08.fok : FkS Q08.s 133 := ⟨Tryz.func133, by kernel_rfl, by kernel_rfl⟩
noncomputable def Q08.fn (x : Args tab Q08.s.ar) : Option (ResT tab Q08.s.rs) := Q08 x.1 x.2
noncomputable abbrev Q08.k {δ : Type} : Callee (GT tab) δ := kS Q08.s Q08.fn
theorem Q08.con {δ : Type} : Con Tryz.prog (KT tab) 133 (Q08.k (δ := δ)) := Q5 (c := Q08.c) mixed Q0 (Q1 (Q08.gok _)) Q08.fok rfl rfl fun _ => rfl
noncomputable def Q08_l0 (v0 : List Int) (v1 v2 : Int) : Option (Int) := lpW Q08.s Q08.c 0 (ud 16 [.vs false 90 v0, .int .i64 v1, .undef, .undef, .undef, .int .i64 v2]) [] 0
theorem Q08.eq (x0 : List Int) (x1 : Int) : Q08 x0 x1 =
 Q08_l0 x0 x1 (0 : Int) := by kernel_rfl
theorem Q08_l0.eq (v0 : List Int) (v1 v2 : Int) : Q08_l0 v0 v1 v2 =
 bif decide (v2 < (v0.length : Int)) then
 (at? v0 v2).bind fun y1 =>
 bif y1 != IntKind.u64.wrap v1 then
 some (-1 : Int)
 else
 Q08_l0 v0 (IntKind.i64.wrap (v1 + (1 : Int))) (IntKind.i64.wrap (v2 + (1 : Int)))
 else
 some v1 := (Q6 Q0 (Q1 (Q08.gok _)) _ _).trans (by kernel_rfl)
noncomputable abbrev Q0S.s : Sg := ⟨[.lend, .lend], [.agg [.int .i64, .sl false false 90], vi], ⟨[vi], [none, none]⟩, Tryz.f79⟩
noncomputable def Q0S.gs (δ : Type) : List (Nat × Callee (GT tab) δ) := [(133, Q08.k)]
theorem Q0S.gok (δ : Type) : Q4 Tryz.prog tab (Q0S.gs δ) := .cons Q08.con .nil
noncomputable def Q0S.c := cx Q0S.s [] [] [] false (Q0S.gs _)
noncomputable def Q0S (x0 : Int × (List Int)) (x1 : Int) : Option (Int) := fnW Q0S.s Q0S.c (x0, x1)
theorem Q0S.fok : FkS Q0S.s 79 := ⟨Tryz.func79, by kernel_rfl, by kernel_rfl⟩
noncomputable def Q0S.fn (x : Args tab Q0S.s.ar) : Option (ResT tab Q0S.s.rs) := Q0S x.1 x.2
noncomputable abbrev Q0S.k {δ : Type} : Callee (GT tab) δ := kS Q0S.s Q0S.fn
theorem Q0S.con {δ : Type} : Con Tryz.prog (KT tab) 79 (Q0S.k (δ := δ)) := Q5 (c := Q0S.c) mixed Q0 (Q1 (Q0S.gok _)) Q0S.fok rfl rfl fun _ => rfl
theorem Q0S.eq (x0 : Int × (List Int)) (x1 : Int) : Q0S x0 x1 =
 (Q08 x0.2 x1).bind fun y1 =>
 bif decide (y1 < (0 : Int)) then
 some (-1 : Int)
 else
 some y1 := by kernel_rfl
noncomputable abbrev Q09.s : Sg := ⟨[.lend, .lend], [vl 3, vi], ⟨[vi], [none, none]⟩, Tryz.f81⟩
noncomputable def Q09.gs (δ : Type) : List (Nat × Callee (GT tab) δ) := []
theorem Q09.gok (δ : Type) : Q4 Tryz.prog tab (Q09.gs δ) := .nil
noncomputable def Q09.c := cx Q09.s [] [] [(2, [0, 1, 5])] false (Q09.gs _)
noncomputable def Q09 (x0 : List Int) (x1 : Int) : Option (Int) := fnW Q09.s Q09.c (x0, x1)
theorem Q09.fok : FkS Q09.s 81 := ⟨Tryz.func81, by kernel_rfl, by kernel_rfl⟩
noncomputable def Q09.fn (x : Args tab Q09.s.ar) : Option (ResT tab Q09.s.rs) := Q09 x.1 x.2
noncomputable abbrev Q09.k {δ : Type} : Callee (GT tab) δ := kS Q09.s Q09.fn
theorem Q09.con {δ : Type} : Con Tryz.prog (KT tab) 81 (Q09.k (δ := δ)) := Q5 (c := Q09.c) mixed Q0 (Q1 (Q09.gok _)) Q09.fok rfl rfl fun _ => rfl
noncomputable def Q09_l0 (v0 : List Int) (v1 v2 : Int) : Option (Int) := lpW Q09.s Q09.c 0 (ud 15 [.vs false 3 v0, .int .i64 v1, .undef, .undef, .undef, .int .i64 v2]) [] 0
theorem Q09.eq (x0 : List Int) (x1 : Int) : Q09 x0 x1 =
 Q09_l0 x0 x1 (0 : Int) := by kernel_rfl
theorem Q09_l0.eq (v0 : List Int) (v1 v2 : Int) : Q09_l0 v0 v1 v2 =
 bif decide (v2 < (v0.length : Int)) then
 (at? v0 v2).bind fun y1 =>
 bif y1 != v1 then
 some (-1 : Int)
 else
 Q09_l0 v0 (IntKind.i64.wrap (v1 + (1 : Int))) (IntKind.i64.wrap (v2 + (1 : Int)))
 else
 some v1 := (Q6 Q0 (Q1 (Q09.gok _)) _ _).trans (by kernel_rfl)
noncomputable abbrev Q0B.s : Sg := ⟨[.lend, .lend], [vl 30, vi], ⟨[vi], [none, none]⟩, Tryz.f134⟩
noncomputable def Q0B.gs (δ : Type) : List (Nat × Callee (GT tab) δ) := [(133, Q08.k)]
theorem Q0B.gok (δ : Type) : Q4 Tryz.prog tab (Q0B.gs δ) := .cons Q08.con .nil
noncomputable def Q0B.c := cx Q0B.s [] [] [(2, [0, 1, 5])] false (Q0B.gs _)
noncomputable def Q0B (x0 : List (Int × (List Int))) (x1 : Int) : Option (Int) := fnW Q0B.s Q0B.c (x0, x1)
theorem Q0B.fok : FkS Q0B.s 134 := ⟨Tryz.func134, by kernel_rfl, by kernel_rfl⟩
noncomputable def Q0B.fn (x : Args tab Q0B.s.ar) : Option (ResT tab Q0B.s.rs) := Q0B x.1 x.2
noncomputable abbrev Q0B.k {δ : Type} : Callee (GT tab) δ := kS Q0B.s Q0B.fn
theorem Q0B.con {δ : Type} : Con Tryz.prog (KT tab) 134 (Q0B.k (δ := δ)) := Q5 (c := Q0B.c) mixed Q0 (Q1 (Q0B.gok _)) Q0B.fok rfl rfl fun _ => rfl
noncomputable def Q0B_l0 (v0 : List (Int × (List Int))) (v1 v2 : Int) : Option (Int) := lpW Q0B.s Q0B.c 0 (ud 25 [.vs false 30 v0, .int .i64 v1, .undef, .undef, .undef, .int .i64 v2]) [] 0
theorem Q0B.eq (x0 : List (Int × (List Int))) (x1 : Int) : Q0B x0 x1 =
 Q0B_l0 x0 x1 (0 : Int) := by kernel_rfl
theorem Q0B_l0.eq (v0 : List (Int × (List Int))) (v1 v2 : Int) : Q0B_l0 v0 v1 v2 =
 bif decide (v2 < (v0.length : Int)) then
 (at? v0 v2).bind fun y1 =>
 bif y1.1 != v1 then
 some (-1 : Int)
 else
 (at? v0 v2).bind fun y2 =>
 (Q08 y2.2 (IntKind.i64.wrap (v1 + (1 : Int)))).bind fun y3 =>
 bif decide (y3 < (0 : Int)) then
 some (-1 : Int)
 else
 Q0B_l0 v0 y3 (IntKind.i64.wrap (v2 + (1 : Int)))
 else
 some v1 := (Q6 Q0 (Q1 (Q0B.gok _)) _ _).trans (by kernel_rfl)
noncomputable abbrev Q1k.s : Sg := ⟨[.lend, .lend], [.agg [.int .i64, .sl false false 3, .sl false false 30], vi], ⟨[vi], [none, none]⟩, Tryz.f80⟩
noncomputable def Q1k.gs (δ : Type) : List (Nat × Callee (GT tab) δ) := [(81, Q09.k), (134, Q0B.k)]
theorem Q1k.gok (δ : Type) : Q4 Tryz.prog tab (Q1k.gs δ) := .cons Q09.con (.cons Q0B.con .nil)
noncomputable def Q1k.c := cx Q1k.s [] [] [] false (Q1k.gs _)
noncomputable def Q1k (x0 : Int × (List Int) × (List (Int × (List Int)))) (x1 : Int) : Option (Int) := fnW Q1k.s Q1k.c (x0, x1)
theorem Q1k.fok : FkS Q1k.s 80 := ⟨Tryz.func80, by kernel_rfl, by kernel_rfl⟩
noncomputable def Q1k.fn (x : Args tab Q1k.s.ar) : Option (ResT tab Q1k.s.rs) := Q1k x.1 x.2
noncomputable abbrev Q1k.k {δ : Type} : Callee (GT tab) δ := kS Q1k.s Q1k.fn
theorem Q1k.con {δ : Type} : Con Tryz.prog (KT tab) 80 (Q1k.k (δ := δ)) := Q5 (c := Q1k.c) mixed Q0 (Q1 (Q1k.gok _)) Q1k.fok rfl rfl fun _ => rfl
theorem Q1k.eq (x0 : Int × (List Int) × (List (Int × (List Int)))) (x1 : Int) : Q1k x0 x1 =
 (Q09 x0.2.1 x1).bind fun y1 =>
 bif decide (y1 < (0 : Int)) then
 some (-1 : Int)
 else
 (Q0B x0.2.2 y1).bind fun y2 =>
 bif decide (y2 < (0 : Int)) then
 some (-1 : Int)
 else
 some y2 := by kernel_rfl
noncomputable abbrev Q1l.s : Sg := ⟨[.lend, .lend], [.agg [.int .i64, .int .i64, .int .i64, .sl false false 90], vi], ⟨[vi], [none, none]⟩, Tryz.f82⟩
noncomputable def Q1l.gs (δ : Type) : List (Nat × Callee (GT tab) δ) := [(79, Q0S.k)]
theorem Q1l.gok (δ : Type) : Q4 Tryz.prog tab (Q1l.gs δ) := .cons Q0S.con .nil
noncomputable def Q1l.c := cx Q1l.s [] [] [] false (Q1l.gs _)
noncomputable def Q1l (x0 : Int × Int × Int × (List Int)) (x1 : Int) : Option (Int) := fnW Q1l.s Q1l.c (x0, x1)
theorem Q1l.fok : FkS Q1l.s 82 := ⟨Tryz.func82, by kernel_rfl, by kernel_rfl⟩
noncomputable def Q1l.fn (x : Args tab Q1l.s.ar) : Option (ResT tab Q1l.s.rs) := Q1l x.1 x.2
noncomputable abbrev Q1l.k {δ : Type} : Callee (GT tab) δ := kS Q1l.s Q1l.fn
theorem Q1l.con {δ : Type} : Con Tryz.prog (KT tab) 82 (Q1l.k (δ := δ)) := Q5 (c := Q1l.c) mixed Q0 (Q1 (Q1l.gok _)) Q1l.fok rfl rfl fun _ => rfl
theorem Q1l.eq (x0 : Int × Int × Int × (List Int)) (x1 : Int) : Q1l x0 x1 =
 (Q0S x0.2.2 x1).bind fun y1 =>
 bif decide (y1 < (0 : Int)) then
 some (-1 : Int)
 else
 some y1 := by kernel_rfl
noncomputable abbrev Q1m.s : Sg := ⟨[.lend, .lend], [.agg [.int .i64, .int .i64, .int .i64, .sl false false 90, .int .i64, .sl false false 90, .int .i64, .sl false false 3, .sl false false 30, .int .i64, .sl false false 3, .sl false false 30, .sl false false 3, .int .i64, .sl false false 90, .int .i64, .int .i64, .int .i64, .sl false false 90, .int .i64, .int .i64, .int .i64, .sl false false 90], vi], ⟨[vi], [none, none]⟩, Tryz.f31⟩
noncomputable def Q1m.gs (δ : Type) : List (Nat × Callee (GT tab) δ) := [(79, Q0S.k), (80, Q1k.k), (81, Q09.k), (82, Q1l.k)]
theorem Q1m.gok (δ : Type) : Q4 Tryz.prog tab (Q1m.gs δ) := .cons Q0S.con (.cons Q1k.con (.cons Q09.con (.cons Q1l.con .nil)))
noncomputable def Q1m.c := cx Q1m.s [] [] [] false (Q1m.gs _)
noncomputable def Q1m (x0 : Int × Int × Int × (List Int) × Int × (List Int) × Int × (List Int) × (List (Int × (List Int))) × Int × (List Int) × (List (Int × (List Int))) × (List Int) × Int × (List Int) × Int × Int × Int × (List Int) × Int × Int × Int × (List Int)) (x1 : Int) : Option (Int) := fnW Q1m.s Q1m.c (x0, x1)
theorem Q1m.fok : FkS Q1m.s 31 := ⟨Tryz.func31, by kernel_rfl, by kernel_rfl⟩
noncomputable def Q1m.fn (x : Args tab Q1m.s.ar) : Option (ResT tab Q1m.s.rs) := Q1m x.1 x.2
noncomputable abbrev Q1m.k {δ : Type} : Callee (GT tab) δ := kS Q1m.s Q1m.fn
theorem Q1m.con {δ : Type} : Con Tryz.prog (KT tab) 31 (Q1m.k (δ := δ)) := Q5 (c := Q1m.c) mixed Q0 (Q1 (Q1m.gok _)) Q1m.fok rfl rfl fun _ => rfl
theorem Q1m.eq (x0 : Int × Int × Int × (List Int) × Int × (List Int) × Int × (List Int) × (List (Int × (List Int))) × Int × (List Int) × (List (Int × (List Int))) × (List Int) × Int × (List Int) × Int × Int × Int × (List Int) × Int × Int × Int × (List Int)) (x1 : Int) : Q1m x0 x1 =
 (Q0S (x0.2.2.1, x0.2.2.2.1) x1).bind fun y1 =>
 bif decide (y1 < (0 : Int)) then
 some (-1 : Int)
 else
 (Q0S (x0.2.2.2.2.1, x0.2.2.2.2.2.1) y1).bind fun y2 =>
 bif decide (y2 < (0 : Int)) then
 some (-1 : Int)
 else
 (Q1k (x0.2.2.2.2.2.2.1, x0.2.2.2.2.2.2.2.1, x0.2.2.2.2.2.2.2.2.1) y2).bind fun y3 =>
 bif decide (y3 < (0 : Int)) then
 some (-1 : Int)
 else
 (Q1k (x0.2.2.2.2.2.2.2.2.2.1, x0.2.2.2.2.2.2.2.2.2.2.1, x0.2.2.2.2.2.2.2.2.2.2.2.1) y3).bind fun y4 =>
 bif decide (y4 < (0 : Int)) then
 some (-1 : Int)
 else
 (Q09 x0.2.2.2.2.2.2.2.2.2.2.2.2.1 y4).bind fun y5 =>
 bif decide (y5 < (0 : Int)) then
 some (-1 : Int)
 else
 (Q0S (x0.2.2.2.2.2.2.2.2.2.2.2.2.2.1, x0.2.2.2.2.2.2.2.2.2.2.2.2.2.2.1) y5).bind fun y6 =>
 bif decide (y6 < (0 : Int)) then
 some (-1 : Int)
 else
 (Q1l (x0.2.2.2.2.2.2.2.2.2.2.2.2.2.2.2.1, x0.2.2.2.2.2.2.2.2.2.2.2.2.2.2.2.2.1, x0.2.2.2.2.2.2.2.2.2.2.2.2.2.2.2.2.2.1, x0.2.2.2.2.2.2.2.2.2.2.2.2.2.2.2.2.2.2.1) y6).bind fun y7 =>
 bif decide (y7 < (0 : Int)) then
 some (-1 : Int)
 else
 (Q1l x0.2.2.2.2.2.2.2.2.2.2.2.2.2.2.2.2.2.2.2 y7).bind fun y8 =>
 bif decide (y8 < (0 : Int)) then
 some (-1 : Int)
 else
 some y8 := by kernel_rfl
end Go.Ev.W
