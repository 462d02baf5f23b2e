/- What functions of the program come to. -/
import Derived.Test.YtmdkpcneakoagaaGreatPhT
import Derived.Test.YtmdkpcneakoagaaGreatPh1
import Derived.Test.YtmdkpcneakoagaaGreatPh2
namespace Go.Ev.W
open Go.Ev Go.Proofs
set_option maxRecDepth 100000
set_option linter.unusedVariables false
noncomputable abbrev Q08.s : Sg := ⟨[.lend, .lend, .lend], [vl 5, vi, vi], ⟨[vi], [none, none, none]⟩, Tryz.f14⟩
noncomputable def Q08.gs (δ : Type) : List (Nat × KC δ) := []
theorem Q08.gok (δ : Type) : Q4 Tryz.prog tab (Q08.gs δ) := .nil
noncomputable def Q08.c := cx Q08.s [] [3] [(3, [0, 1, 2]), (5, [0, 1, 2, 7, 8])] false (Q08.gs _)
noncomputable def Q08 (x0 : List Int) (x1 x2 : Int) : Option (Int) := fnW Q08.s Q08.c (x0, x1, x2)
theorem Q08.fok : FkS Q08.s 14 := ⟨Tryz.func14, by kernel_rfl, by kernel_rfl⟩
noncomputable def Q08.fn (x : Args tab Q08.s.ar) : Option (ResT tab Q08.s.rs) := Q08 x.1 x.2.1 x.2.2
noncomputable abbrev Q08.k {δ : Type} : KC δ := kS Q08.s Q08.fn
theorem Q08.con {δ : Type} : Con Tryz.prog (KT tab) 14 (Q08.k (δ := δ)) := Q5 (c := Q08.c) mixed Q0 (Q1 (Q08.gok _)) Q08.fok rfl rfl fun _ => rfl
noncomputable def Q08_l0 (v0 : List Int) (v1 v2 : Int) : Option (Int) := lpW Q08.s Q08.c 0 (ud 35 [.vs false 5 v0, .int .i64 v1, .int .i64 v2]) [] 0
noncomputable def Q08_l1 (v0 : List Int) (v1 v2 v3 v4 : Int) : Option (Int) := lpW Q08.s Q08.c 1 (ud 29 [.vs false 5 v0, .int .i64 v1, .int .i64 v2, .undef, .undef, .undef, .undef, .int .i64 v3, .int .i64 v4]) [] 0
theorem Q08.eq (x0 : List Int) (x1 x2 : Int) : Q08 x0 x1 x2 =
 bif (x0.length : Int) == 0 then
 some 0
 else
 bif decide (x2 < 2) then
 some 0
 else
 Q08_l0 x0 x1 x2 := by kernel_rfl
theorem Q08_l0.eq (v0 : List Int) (v1 v2 : Int) : Q08_l0 v0 v1 v2 =
 Q08_l1 v0 v1 v2 0 0 := (Q7 Q0 (Q1 (Q08.gok _)) _ _).trans (by kernel_rfl)
theorem Q08_l1.eq (v0 : List Int) (v1 v2 v3 v4 : Int) : Q08_l1 v0 v1 v2 v3 v4 =
 bif decide (v4 < 3) then
 bif decide ((v0.length : Int) = 0) then
 none
 else
 (at? v0 ((IntKind.i64.wrap (v1 + v4)).tmod (v0.length : Int))).bind fun y1 =>
 Q08_l1 v0 v1 v2 (IntKind.i64.wrap ((IntKind.i64.wrap ((31 : Int) * v3)) + (IntKind.i64.wrap y1))) (IntKind.i64.wrap (v4 + 1))
 else
 bif decide (v2 = 0) then
 none
 else
 some ((IntKind.i64.wrap (v3 + v1)).tmod v2) := (Q7 Q0 (Q1 (Q08.gok _)) _ _).trans (by kernel_rfl)
noncomputable abbrev Q1I.s : Sg := ⟨[.lend], [vl 5], ⟨[vl 5], [none]⟩, Tryz.f16⟩
noncomputable def Q1I.gs (δ : Type) : List (Nat × KC δ) := []
theorem Q1I.gok (δ : Type) : Q4 Tryz.prog tab (Q1I.gs δ) := .nil
noncomputable def Q1I.c := cx Q1I.s [] [] [] false (Q1I.gs _)
noncomputable def Q1I (x0 : List Int) : Option (List Int) := fnW Q1I.s Q1I.c x0
theorem Q1I.fok : FkS Q1I.s 16 := ⟨Tryz.func16, by kernel_rfl, by kernel_rfl⟩
noncomputable def Q1I.fn (x : Args tab Q1I.s.ar) : Option (ResT tab Q1I.s.rs) := Q1I x
noncomputable abbrev Q1I.k {δ : Type} : KC δ := kS Q1I.s Q1I.fn
theorem Q1I.con {δ : Type} : Con Tryz.prog (KT tab) 16 (Q1I.k (δ := δ)) := Q5 (c := Q1I.c) mixed Q0 (Q1 (Q1I.gok _)) Q1I.fok rfl rfl fun _ => rfl
theorem Q1I.eq (x0 : List Int) : Q1I x0 =
 bif decide (0 ≤ IntKind.i64.wrap ((x0.length : Int).tdiv 2) ∧ IntKind.i64.wrap ((x0.length : Int).tdiv 2) ≤ ((x0.length : Nat) : Int)) then
 some ((x0.take x0.length).drop ((IntKind.i64.wrap ((x0.length : Int).tdiv 2)).toNat))
 else
 none := by kernel_rfl
noncomputable abbrev Q1J.s : Sg := ⟨[.keep], [.one (.ptr true 111 [.b (.b (.b (.sl false false 5))), .b (.b (.b (.int .i64))), .b (.b (.b (.int .i64)))])], ⟨[ag7, ag9], [some (.one (.ptr true 111 [.b (.b (.b (.sl false false 5))), .b (.b (.b (.int .i64))), .b (.b (.b (.int .i64)))]))]⟩, Tryz.f54⟩
noncomputable def Q1J.gs (δ : Type) : List (Nat × KC δ) := [(8, Q0K.k), (33, QR.k), (34, Qk.k), (35, Q0P.k), (37, Q1c.k), (38, QS.k), (44, Q13.k), (84, Qb.k), (95, Q0n.k), (96, Q0Q.k)]
theorem Q1J.gok (δ : Type) : Q4 Tryz.prog tab (Q1J.gs δ) := .cons Q0K.con (.cons QR.con (.cons Qk.con (.cons Q0P.con (.cons Q1c.con (.cons QS.con (.cons Q13.con (.cons Qb.con (.cons Q0n.con (.cons Q0Q.con .nil)))))))))
noncomputable def Q1J.c := cx Q1J.s [] [] [] false (Q1J.gs _)
noncomputable def Q1J (x0 : (List Int) × Int × Int) : Option ((FmA) × (RelA) × ((List Int) × Int × Int)) := fnW Q1J.s Q1J.c x0
theorem Q1J.fok : FkS Q1J.s 54 := ⟨Tryz.func54, by kernel_rfl, by kernel_rfl⟩
noncomputable def Q1J.fn (x : Args tab Q1J.s.ar) : Option (ResT tab Q1J.s.rs) := Q1J x
noncomputable abbrev Q1J.k {δ : Type} : KC δ := kS Q1J.s Q1J.fn
theorem Q1J.con {δ : Type} : Con Tryz.prog (KT tab) 54 (Q1J.k (δ := δ)) := Q5 (c := Q1J.c) mixed Q0 (Q1 (Q1J.gok _)) Q1J.fok rfl rfl fun _ => rfl
theorem Q1J.eq (x0 : (List Int) × Int × Int) : Q1J x0 =
 (QR x0 20).bind fun y1 =>
 (Q0P y1.2.2).bind fun y2 =>
 (Qk y1.1 y2.1).bind fun y3 =>
 (Qb y2.2 4).bind fun y4 =>
 (Qb y4.2 3).bind fun y5 =>
 (at? ([0, 2, 100] : List Int) y5.1).bind fun y6 =>
 ([0, 2, 100] : List Int)[y5.1.toNat]?.bind fun y7 =>
 (Q0P y5.2).bind fun y8 =>
 (Q0K y3.1 y1.2.1 y4.1 y7 y8.1).bind fun y9 =>
 (Qb y8.2 18).bind fun y10 =>
 bif y10.1 == 0 then
 (Q1c y10.2).bind fun y11 =>
 some (y11.1, y9.1, y11.2)
 else
 bif y10.1 == 1 then
 (Q0Q y10.2).bind fun y12 =>
 some (y3.1, (y9.1.1, y9.1.2.1, y9.1.2.2.1, y9.1.2.2.2.1, y12.1.1, y12.1.2, y9.1.2.2.2.2.2.2.1, y9.1.2.2.2.2.2.2.2.1, y9.1.2.2.2.2.2.2.2.2.1, y9.1.2.2.2.2.2.2.2.2.2.1, y9.1.2.2.2.2.2.2.2.2.2.2.1, y9.1.2.2.2.2.2.2.2.2.2.2.2.1, y9.1.2.2.2.2.2.2.2.2.2.2.2.2.1, y9.1.2.2.2.2.2.2.2.2.2.2.2.2.2.1, y9.1.2.2.2.2.2.2.2.2.2.2.2.2.2.2.1, y9.1.2.2.2.2.2.2.2.2.2.2.2.2.2.2.2.1, y9.1.2.2.2.2.2.2.2.2.2.2.2.2.2.2.2.2.1, y9.1.2.2.2.2.2.2.2.2.2.2.2.2.2.2.2.2.2.1, y9.1.2.2.2.2.2.2.2.2.2.2.2.2.2.2.2.2.2.2.1, y9.1.2.2.2.2.2.2.2.2.2.2.2.2.2.2.2.2.2.2.2.1, y9.1.2.2.2.2.2.2.2.2.2.2.2.2.2.2.2.2.2.2.2.2.1, y9.1.2.2.2.2.2.2.2.2.2.2.2.2.2.2.2.2.2.2.2.2.2.1, y9.1.2.2.2.2.2.2.2.2.2.2.2.2.2.2.2.2.2.2.2.2.2.2), y12.2)
 else
 bif y10.1 == 2 then
 some (y3.1, (y9.1.1, y9.1.2.1, y9.1.2.2.2.2.1, y9.1.2.2.2.2.2.1, y9.1.2.2.2.2.1, y9.1.2.2.2.2.2.1, y9.1.2.2.2.2.2.2.1, y9.1.2.2.2.2.2.2.2.1, y9.1.2.2.2.2.2.2.2.2.1, y9.1.2.2.2.2.2.2.2.2.2.1, y9.1.2.2.2.2.2.2.2.2.2.2.1, y9.1.2.2.2.2.2.2.2.2.2.2.2.1, y9.1.2.2.2.2.2.2.2.2.2.2.2.2.1, y9.1.2.2.2.2.2.2.2.2.2.2.2.2.2.1, y9.1.2.2.2.2.2.2.2.2.2.2.2.2.2.2.1, y9.1.2.2.2.2.2.2.2.2.2.2.2.2.2.2.2.1, y9.1.2.2.2.2.2.2.2.2.2.2.2.2.2.2.2.2.1, y9.1.2.2.2.2.2.2.2.2.2.2.2.2.2.2.2.2.2.1, y9.1.2.2.2.2.2.2.2.2.2.2.2.2.2.2.2.2.2.2.1, y9.1.2.2.2.2.2.2.2.2.2.2.2.2.2.2.2.2.2.2.2.1, y9.1.2.2.2.2.2.2.2.2.2.2.2.2.2.2.2.2.2.2.2.2.1, y9.1.2.2.2.2.2.2.2.2.2.2.2.2.2.2.2.2.2.2.2.2.2.1, y9.1.2.2.2.2.2.2.2.2.2.2.2.2.2.2.2.2.2.2.2.2.2.2), y10.2)
 else
 bif y10.1 == 3 then
 (Q0n y10.2).bind fun y13 =>
 some (y3.1, (y9.1.1, y9.1.2.1, y9.1.2.2.1, y9.1.2.2.2.1, y9.1.2.2.2.2.1, y9.1.2.2.2.2.2.1, y9.1.2.2.2.2.2.2.1, y9.1.2.2.2.2.2.2.2.1, y9.1.2.2.2.2.2.2.2.2.1, y13.1.1, y13.1.2.1, y13.1.2.2, y9.1.2.2.2.2.2.2.2.2.2.2.2.2.1, y9.1.2.2.2.2.2.2.2.2.2.2.2.2.2.1, y9.1.2.2.2.2.2.2.2.2.2.2.2.2.2.2.1, y9.1.2.2.2.2.2.2.2.2.2.2.2.2.2.2.2.1, y9.1.2.2.2.2.2.2.2.2.2.2.2.2.2.2.2.2.1, y9.1.2.2.2.2.2.2.2.2.2.2.2.2.2.2.2.2.2.1, y9.1.2.2.2.2.2.2.2.2.2.2.2.2.2.2.2.2.2.2.1, y9.1.2.2.2.2.2.2.2.2.2.2.2.2.2.2.2.2.2.2.2.1, y9.1.2.2.2.2.2.2.2.2.2.2.2.2.2.2.2.2.2.2.2.2.1, y9.1.2.2.2.2.2.2.2.2.2.2.2.2.2.2.2.2.2.2.2.2.2.1, y9.1.2.2.2.2.2.2.2.2.2.2.2.2.2.2.2.2.2.2.2.2.2.2), y13.2)
 else
 bif y10.1 == 4 then
 some (y3.1, (y9.1.1, y9.1.2.1, y9.1.2.2.1, y9.1.2.2.2.1, y9.1.2.2.2.2.1, y9.1.2.2.2.2.2.1, y9.1.2.2.2.2.2.2.2.2.2.1, y9.1.2.2.2.2.2.2.2.2.2.2.1, y9.1.2.2.2.2.2.2.2.2.2.2.2.1, y9.1.2.2.2.2.2.2.2.2.2.1, y9.1.2.2.2.2.2.2.2.2.2.2.1, y9.1.2.2.2.2.2.2.2.2.2.2.2.1, y9.1.2.2.2.2.2.2.2.2.2.2.2.2.1, y9.1.2.2.2.2.2.2.2.2.2.2.2.2.2.1, y9.1.2.2.2.2.2.2.2.2.2.2.2.2.2.2.1, y9.1.2.2.2.2.2.2.2.2.2.2.2.2.2.2.2.1, y9.1.2.2.2.2.2.2.2.2.2.2.2.2.2.2.2.2.1, y9.1.2.2.2.2.2.2.2.2.2.2.2.2.2.2.2.2.2.1, y9.1.2.2.2.2.2.2.2.2.2.2.2.2.2.2.2.2.2.2.1, y9.1.2.2.2.2.2.2.2.2.2.2.2.2.2.2.2.2.2.2.2.1, y9.1.2.2.2.2.2.2.2.2.2.2.2.2.2.2.2.2.2.2.2.2.1, y9.1.2.2.2.2.2.2.2.2.2.2.2.2.2.2.2.2.2.2.2.2.2.1, y9.1.2.2.2.2.2.2.2.2.2.2.2.2.2.2.2.2.2.2.2.2.2.2), y10.2)
 else
 bif y10.1 == 5 then
 (QS y10.2).bind fun y14 =>
 (Qb y14.2 2).bind fun y15 =>
 (at? ([y14.1, 2] : List Int) y15.1).bind fun y16 =>
 ([y14.1, 2] : List Int)[y15.1.toNat]?.bind fun y17 =>
 some (y3.1, (y9.1.1, y17, y9.1.2.2.1, y9.1.2.2.2.1, y9.1.2.2.2.2.1, y9.1.2.2.2.2.2.1, y9.1.2.2.2.2.2.2.1, y9.1.2.2.2.2.2.2.2.1, y9.1.2.2.2.2.2.2.2.2.1, y9.1.2.2.2.2.2.2.2.2.2.1, y9.1.2.2.2.2.2.2.2.2.2.2.1, y9.1.2.2.2.2.2.2.2.2.2.2.2.1, y9.1.2.2.2.2.2.2.2.2.2.2.2.2.1, y9.1.2.2.2.2.2.2.2.2.2.2.2.2.2.1, y9.1.2.2.2.2.2.2.2.2.2.2.2.2.2.2.1, y9.1.2.2.2.2.2.2.2.2.2.2.2.2.2.2.2.1, y9.1.2.2.2.2.2.2.2.2.2.2.2.2.2.2.2.2.1, y9.1.2.2.2.2.2.2.2.2.2.2.2.2.2.2.2.2.2.1, y9.1.2.2.2.2.2.2.2.2.2.2.2.2.2.2.2.2.2.2.1, y9.1.2.2.2.2.2.2.2.2.2.2.2.2.2.2.2.2.2.2.2.1, y9.1.2.2.2.2.2.2.2.2.2.2.2.2.2.2.2.2.2.2.2.2.1, y9.1.2.2.2.2.2.2.2.2.2.2.2.2.2.2.2.2.2.2.2.2.2.1, y9.1.2.2.2.2.2.2.2.2.2.2.2.2.2.2.2.2.2.2.2.2.2.2), y15.2)
 else
 bif y10.1 == 6 then
 some (y3.1, (IntKind.i64.wrap (y9.1.1 + 1), y9.1.2.1, y9.1.2.2.1, y9.1.2.2.2.1, y9.1.2.2.2.2.1, y9.1.2.2.2.2.2.1, y9.1.2.2.2.2.2.2.1, y9.1.2.2.2.2.2.2.2.1, y9.1.2.2.2.2.2.2.2.2.1, y9.1.2.2.2.2.2.2.2.2.2.1, y9.1.2.2.2.2.2.2.2.2.2.2.1, y9.1.2.2.2.2.2.2.2.2.2.2.2.1, y9.1.2.2.2.2.2.2.2.2.2.2.2.2.1, y9.1.2.2.2.2.2.2.2.2.2.2.2.2.2.1, y9.1.2.2.2.2.2.2.2.2.2.2.2.2.2.2.1, y9.1.2.2.2.2.2.2.2.2.2.2.2.2.2.2.2.1, y9.1.2.2.2.2.2.2.2.2.2.2.2.2.2.2.2.2.1, y9.1.2.2.2.2.2.2.2.2.2.2.2.2.2.2.2.2.2.1, y9.1.2.2.2.2.2.2.2.2.2.2.2.2.2.2.2.2.2.2.1, y9.1.2.2.2.2.2.2.2.2.2.2.2.2.2.2.2.2.2.2.2.1, y9.1.2.2.2.2.2.2.2.2.2.2.2.2.2.2.2.2.2.2.2.2.1, y9.1.2.2.2.2.2.2.2.2.2.2.2.2.2.2.2.2.2.2.2.2.2.1, y9.1.2.2.2.2.2.2.2.2.2.2.2.2.2.2.2.2.2.2.2.2.2.2), y10.2)
 else
 bif y10.1 == 7 then
 some (y3.1, (y9.1.1, y9.1.2.1, y9.1.2.2.1, y9.1.2.2.2.1, y9.1.2.2.2.2.1, y9.1.2.2.2.2.2.1, y9.1.2.2.2.2.2.2.1, y9.1.2.2.2.2.2.2.2.1, y9.1.2.2.2.2.2.2.2.2.1, y9.1.2.2.2.2.2.2.2.2.2.1, y9.1.2.2.2.2.2.2.2.2.2.2.1, y9.1.2.2.2.2.2.2.2.2.2.2.2.1, y9.1.2.2.2.2.2.2.2.2.2.2.2.2.1, y9.1.2.2.2.2.2.2.2.2.2.2.2.2.2.1, y9.1.2.2.2.2.2.2.2.2.2.2.2.2.2.2.1, y9.1.2.2.2.2.2.2.2.2.2.2.2.2.2.2.2.2.2.2.2.1, y9.1.2.2.2.2.2.2.2.2.2.2.2.2.2.2.2.2.2.2.2.2.1, y9.1.2.2.2.2.2.2.2.2.2.2.2.2.2.2.2.2.2.2.2.2.2.1, y9.1.2.2.2.2.2.2.2.2.2.2.2.2.2.2.2.2.2.2.2.2.2.2, y9.1.2.2.2.2.2.2.2.2.2.2.2.2.2.2.2.2.2.2.2.1, y9.1.2.2.2.2.2.2.2.2.2.2.2.2.2.2.2.2.2.2.2.2.1, y9.1.2.2.2.2.2.2.2.2.2.2.2.2.2.2.2.2.2.2.2.2.2.1, y9.1.2.2.2.2.2.2.2.2.2.2.2.2.2.2.2.2.2.2.2.2.2.2), y10.2)
 else
 bif y10.1 == 8 then
 (Qb y10.2 4).bind fun y18 =>
 (Q13 y1.1 y1.2.1 ([] : List (Int × Int)) (IntKind.i64.wrap ((1 : Int) + y18.1))).bind fun y19 =>
 some (y3.1, y19, y18.2)
 else
 some (y3.1, y9.1, y10.2) := by kernel_rfl
noncomputable abbrev Qr.s : Sg := ⟨[.lend, .lend], [vl 3, .agg [.int .i64, .sl false false 90, .int .i64, .sl false false 90, .sl false false 3]], ⟨[vo 3, vb], [none, none]⟩, Tryz.f172⟩
noncomputable def Qr.gs (δ : Type) : List (Nat × KC δ) := [(105, Qq.k), (171, QA.k), (180, Qx.k), (182, Q0J.k)]
theorem Qr.gok (δ : Type) : Q4 Tryz.prog tab (Qr.gs δ) := .cons Qq.con (.cons QA.con (.cons Qx.con (.cons Q0J.con .nil)))
noncomputable def Qr.c := cx Qr.s [] [3, 13] [(3, [0, 3]), (7, [0, 3, 6, 7, 8, 9]), (13, [3, 7, 8]), (16, [3, 7, 8, 10, 11, 12])] false (Qr.gs _)
noncomputable def Qr (x0 : List Int) (x1 : Int × (List Int) × Int × (List Int) × (List Int)) : Option ((List Int) × Bool) := fnW Qr.s Qr.c (x0, x1)
theorem Qr.fok : FkS Qr.s 172 := ⟨Tryz.func172, by kernel_rfl, by kernel_rfl⟩
noncomputable def Qr.fn (x : Args tab Qr.s.ar) : Option (ResT tab Qr.s.rs) := Qr x.1 x.2
noncomputable abbrev Qr.k {δ : Type} : KC δ := kS Qr.s Qr.fn
theorem Qr.con {δ : Type} : Con Tryz.prog (KT tab) 172 (Qr.k (δ := δ)) := Q5 (c := Qr.c) mixed Q0 (Q1 (Qr.gok _)) Qr.fok rfl rfl fun _ => rfl
noncomputable def Qr_l0 (v0 : List Int) (v1 : Int) (v2 : List Int) (v3 : Int) (v4 v5 : List Int) : Option ((List Int) × Bool) := lpW Qr.s Qr.c 0 (ud 116 [.vs false 3 v0, .undef, .undef, .ptr 0 0]) [.box 130 [.int .i64 v1, .vs false 90 v2, .int .i64 v3, .vs false 90 v4, .vs false 3 v5]] 1
noncomputable def Qr_l1 (v0 : List Int) (v1 v2 : Int) (v3 : List Int) (v4 : Int) (v5 v6 v7 v8 v9 : List Int) : Option ((List Int) × Bool) := lpW Qr.s Qr.c 1 (ud 110 [.vs false 3 v0, .undef, .undef, .ptr 0 0, .undef, .undef, .sl 1 0, .sl 2 0, .sl 3 0, .int .i64 v1]) [.box 130 [.int .i64 v2, .vs false 90 v3, .int .i64 v4, .vs false 90 v5, .vs false 3 v6], .row 0 true 3 v7, .row 0 true 3 v8, .row 0 true 3 v9] 4
noncomputable def Qr_l2 (v0 : Int) (v1 : List Int) (v2 : Int) (v3 v4 v5 v6 : List Int) : Option ((List Int) × Bool) := lpW Qr.s Qr.c 2 (ud 111 [.undef, .undef, .undef, .ptr 0 0, .undef, .undef, .undef, .sl 1 0, .sl 2 0]) [.box 130 [.int .i64 v0, .vs false 90 v1, .int .i64 v2, .vs false 90 v3, .vs false 3 v4], .row 0 true 3 v5, .row 0 true 3 v6] 3
noncomputable def Qr_l3 (v0 v1 v2 : Int) (v3 : List Int) (v4 : Int) (v5 v6 v7 v8 v9 : List Int) : Option ((List Int) × Bool) := lpW Qr.s Qr.c 3 (ud 107 [.undef, .undef, .undef, .ptr 0 0, .undef, .undef, .undef, .sl 1 0, .sl 2 0, .undef, .sl 3 0, .int .i64 v0, .int .i64 v1]) [.box 130 [.int .i64 v2, .vs false 90 v3, .int .i64 v4, .vs false 90 v5, .vs false 3 v6], .row 0 true 3 v7, .row 0 true 3 v8, .row 0 true 3 v9] 4
theorem Qr.eq (x0 : List Int) (x1 : Int × (List Int) × Int × (List Int) × (List Int)) : Qr x0 x1 =
 (Q0J x0).bind fun y1 =>
 bif !y1 then
 some (([] : List Int), false)
 else
 (QA (x1.1, x1.2.1)).bind fun y2 =>
 bif !y2 then
 some (([] : List Int), false)
 else
 (QA (x1.2.2.1, x1.2.2.2.1)).bind fun y3 =>
 bif !y3 then
 some (([] : List Int), false)
 else
 bif x1.1 != (x0.length : Int) then
 some (([] : List Int), false)
 else
 bif decide (x1.2.2.1 > 301) then
 some (([] : List Int), false)
 else
 Qr_l0 x0 x1.1 x1.2.1 x1.2.2.1 x1.2.2.2.1 x1.2.2.2.2 := by kernel_rfl
theorem Qr_l0.eq (v0 : List Int) (v1 : Int) (v2 : List Int) (v3 : Int) (v4 v5 : List Int) : Qr_l0 v0 v1 v2 v3 v4 v5 =
 (Qq (v1, v2)).bind fun y1 =>
 (Qq (v3, v4)).bind fun y2 =>
 Qr_l1 v0 0 v1 v2 v3 v4 v5 y1 y2 ([] : List Int) := (Q7 Q0 (Q1 (Qr.gok _)) _ _).trans (by kernel_rfl)
theorem Qr_l1.eq (v0 : List Int) (v1 v2 : Int) (v3 : List Int) (v4 : Int) (v5 v6 v7 v8 v9 : List Int) : Qr_l1 v0 v1 v2 v3 v4 v5 v6 v7 v8 v9 =
 bif decide (v1 < (v7.length : Int)) then
 (at? v7 v1).bind fun y1 =>
 v7[v1.toNat]?.bind fun y2 =>
 bif y2 == 1 then
 (at? v0 v1).bind fun y3 =>
 bif decide ((v9.length + ([y3] : List Int).length) * 8 ≤ 140737488355328) then
 Qr_l1 v0 (IntKind.i64.wrap (v1 + 1)) v2 v3 v4 v5 v6 v7 v8 (v9 ++ ([y3] : List Int))
 else
 none
 else
 Qr_l1 v0 (IntKind.i64.wrap (v1 + 1)) v2 v3 v4 v5 v6 v7 v8 v9
 else
 (Qx (v4, v5) 1 v4).bind fun y4 =>
 bif y4 != (v9.length : Int) then
 some (([] : List Int), false)
 else
 (Qx (v4, v5) 0 v4).bind fun y5 =>
 bif y5 != (v6.length : Int) then
 some (([] : List Int), false)
 else
 Qr_l2 v2 v3 v4 v5 v6 v8 v9 := (Q7 Q0 (Q1 (Qr.gok _)) _ _).trans (by kernel_rfl)
theorem Qr_l2.eq (v0 : Int) (v1 : List Int) (v2 : Int) (v3 v4 v5 v6 : List Int) : Qr_l2 v0 v1 v2 v3 v4 v5 v6 =
 Qr_l3 0 0 v0 v1 v2 v3 v4 v5 v6 ([] : List Int) := (Q7 Q0 (Q1 (Qr.gok _)) _ _).trans (by kernel_rfl)
theorem Qr_l3.eq (v0 v1 v2 : Int) (v3 : List Int) (v4 : Int) (v5 v6 v7 v8 v9 : List Int) : Qr_l3 v0 v1 v2 v3 v4 v5 v6 v7 v8 v9 =
 bif decide (v1 < (v7.length : Int)) then
 (at? v7 v1).bind fun y1 =>
 v7[v1.toNat]?.bind fun y2 =>
 bif y2 == 1 then
 (at? v8 v0).bind fun y3 =>
 v8[v0.toNat]?.bind fun y4 =>
 bif decide ((v9.length + ([y4] : List Int).length) * 8 ≤ 140737488355328) then
 Qr_l3 (IntKind.i64.wrap (v0 + 1)) (IntKind.i64.wrap (v1 + 1)) v2 v3 v4 v5 v6 v7 v8 (v9 ++ ([y4] : List Int))
 else
 none
 else
 (at? v6 (IntKind.i64.wrap (v1 - v0))).bind fun y5 =>
 bif decide ((v9.length + ([y5] : List Int).length) * 8 ≤ 140737488355328) then
 Qr_l3 v0 (IntKind.i64.wrap (v1 + 1)) v2 v3 v4 v5 v6 v7 v8 (v9 ++ ([y5] : List Int))
 else
 none
 else
 some (v9, true) := (Q7 Q0 (Q1 (Qr.gok _)) _ _).trans (by kernel_rfl)
noncomputable abbrev Q1r.s : Sg := ⟨[.lend, .lend], [ag5, ag5], ⟨[vb], [none, none]⟩, Tryz.f173⟩
noncomputable def Q1r.gs (δ : Type) : List (Nat × KC δ) := [(100, Q01.k), (143, QF.k), (144, Qg.k)]
theorem Q1r.gok (δ : Type) : Q4 Tryz.prog tab (Q1r.gs δ) := .cons Q01.con (.cons QF.con (.cons Qg.con .nil))
noncomputable def Q1r.c := cx Q1r.s [] [] [] false (Q1r.gs _)
noncomputable def Q1r (x0 x1 : Int × (List Int) × (List (Int × (List Int)))) : Option (Bool) := fnW Q1r.s Q1r.c (x0, x1)
theorem Q1r.fok : FkS Q1r.s 173 := ⟨Tryz.func173, by kernel_rfl, by kernel_rfl⟩
noncomputable def Q1r.fn (x : Args tab Q1r.s.ar) : Option (ResT tab Q1r.s.rs) := Q1r x.1 x.2
noncomputable abbrev Q1r.k {δ : Type} : KC δ := kS Q1r.s Q1r.fn
theorem Q1r.con {δ : Type} : Con Tryz.prog (KT tab) 173 (Q1r.k (δ := δ)) := Q5 (c := Q1r.c) mixed Q0 (Q1 (Q1r.gok _)) Q1r.fok rfl rfl fun _ => rfl
theorem Q1r.eq (x0 x1 : Int × (List Int) × (List (Int × (List Int)))) : Q1r x0 x1 =
 (QF x0).bind fun y1 =>
 bif y1 then
 (QF x1).bind fun y2 =>
 bif y2 then
 (Qg x0).bind fun y3 =>
 (Qg x1).bind fun y4 =>
 (Q01 y3 y4).bind fun y5 =>
 some y5
 else
 some false
 else
 some false := by kernel_rfl
noncomputable abbrev Q0b.s : Sg := ⟨[.lend, .lend], [ag7, ag9], ⟨[vo 5, vb], [none, none]⟩, Tryz.f119⟩
noncomputable def Q0b.gs (δ : Type) : List (Nat × KC δ) := [(34, Qk.k), (41, QT.k), (43, Q0I.k), (88, Qw.k), (90, Qj.k), (98, Qy.k), (99, Q12.k), (100, Q01.k), (101, QJ.k), (102, Q0Y.k), (104, Q0k.k), (105, Qq.k), (143, QF.k), (171, QA.k), (172, Qr.k), (173, Q1r.k)]
theorem Q0b.gok (δ : Type) : Q4 Tryz.prog tab (Q0b.gs δ) := .cons Qk.con (.cons QT.con (.cons Q0I.con (.cons Qw.con (.cons Qj.con (.cons Qy.con (.cons Q12.con (.cons Q01.con (.cons QJ.con (.cons Q0Y.con (.cons Q0k.con (.cons Qq.con (.cons QF.con (.cons QA.con (.cons Qr.con (.cons Q1r.con .nil)))))))))))))))
noncomputable def Q0b.c := cx Q0b.s [] [4, 8] [(4, [3, 6]), (8, [3, 6, 10])] false (Q0b.gs _)
noncomputable def Q0b (x0 : FmA) (x1 : RelA) : Option ((List Int) × Bool) := fnW Q0b.s Q0b.c (x0, x1)
theorem Q0b.fok : FkS Q0b.s 119 := ⟨Tryz.func119, by kernel_rfl, by kernel_rfl⟩
noncomputable def Q0b.fn (x : Args tab Q0b.s.ar) : Option (ResT tab Q0b.s.rs) := Q0b x.1 x.2
noncomputable abbrev Q0b.k {δ : Type} : KC δ := kS Q0b.s Q0b.fn
theorem Q0b.con {δ : Type} : Con Tryz.prog (KT tab) 119 (Q0b.k (δ := δ)) := Q5 (c := Q0b.c) mixed Q0 (Q1 (Q0b.gok _)) Q0b.fok rfl rfl fun _ => rfl
noncomputable def Q0b_l0 (v0 v1 v2 : Int) (v3 : List Int) (v4 : Int) (v5 : List Int) (v6 : Int) (v7 : List Int) (v8 : List (Int × (List Int))) (v9 : Int) (v10 : List Int) (v11 : List (Int × (List Int))) (v12 : List Int) (v13 : Int) (v14 : List Int) (v15 v16 v17 : Int) (v18 : List Int) (v19 v20 v21 : Int) (v22 v23 : List Int) : Option ((List Int) × Bool) := lpW Q0b.s Q0b.c 0 (ud 130 [.undef, .undef, .undef, .ptr 0 0, .undef, .undef, .sl 1 0]) [.box 38 [.int .i64 v0, .int .i64 v1, .int .i64 v2, .vs false 90 v3, .int .i64 v4, .vs false 90 v5, .int .i64 v6, .vs false 3 v7, .vs false 30 v8, .int .i64 v9, .vs false 3 v10, .vs false 30 v11, .vs false 3 v12, .int .i64 v13, .vs false 90 v14, .int .i64 v15, .int .i64 v16, .int .i64 v17, .vs false 90 v18, .int .i64 v19, .int .i64 v20, .int .i64 v21, .vs false 90 v22], .row 0 true 5 v23] 2
noncomputable def Q0b_l1 (v0 v1 v2 : Int) (v3 : List Int) (v4 : Int) (v5 : List Int) (v6 : Int) (v7 : List Int) (v8 : List (Int × (List Int))) (v9 : Int) (v10 : List Int) (v11 : List (Int × (List Int))) (v12 : List Int) (v13 : Int) (v14 : List Int) (v15 v16 v17 : Int) (v18 : List Int) (v19 v20 v21 : Int) (v22 v23 v24 : List Int) : Option ((List Int) × Bool) := lpW Q0b.s Q0b.c 1 (ud 126 [.undef, .undef, .undef, .ptr 0 0, .undef, .undef, .sl 1 0, .undef, .undef, .undef, .sl 2 0]) [.box 38 [.int .i64 v0, .int .i64 v1, .int .i64 v2, .vs false 90 v3, .int .i64 v4, .vs false 90 v5, .int .i64 v6, .vs false 3 v7, .vs false 30 v8, .int .i64 v9, .vs false 3 v10, .vs false 30 v11, .vs false 3 v12, .int .i64 v13, .vs false 90 v14, .int .i64 v15, .int .i64 v16, .int .i64 v17, .vs false 90 v18, .int .i64 v19, .int .i64 v20, .int .i64 v21, .vs false 90 v22], .row 0 true 5 v23, .row 0 true 5 v24] 3
theorem Q0b.eq (x0 : FmA) (x1 : RelA) : Q0b x0 x1 =
 (QT x0).bind fun y1 =>
 bif !y1.2 then
 some (([] : List Int), false)
 else
 (Q0I x1.2.1).bind fun y2 =>
 bif !y2 then
 some (([] : List Int), false)
 else
 (QF (x1.2.2.2.2.2.2.2.2.2.1, x1.2.2.2.2.2.2.2.2.2.2.1, x1.2.2.2.2.2.2.2.2.2.2.2.1)).bind fun y3 =>
 bif !y3 then
 some (([] : List Int), false)
 else
 (QA (x1.2.2.1, x1.2.2.2.1)).bind fun y4 =>
 bif !y4 then
 some (([] : List Int), false)
 else
 bif x1.2.2.1 != IntKind.i64.wrap ((y1.1.length : Int) + 1) then
 some (([] : List Int), false)
 else
 Q0b_l0 x1.1 x1.2.1 x1.2.2.1 x1.2.2.2.1 x1.2.2.2.2.1 x1.2.2.2.2.2.1 x1.2.2.2.2.2.2.1 x1.2.2.2.2.2.2.2.1 x1.2.2.2.2.2.2.2.2.1 x1.2.2.2.2.2.2.2.2.2.1 x1.2.2.2.2.2.2.2.2.2.2.1 x1.2.2.2.2.2.2.2.2.2.2.2.1 x1.2.2.2.2.2.2.2.2.2.2.2.2.1 x1.2.2.2.2.2.2.2.2.2.2.2.2.2.1 x1.2.2.2.2.2.2.2.2.2.2.2.2.2.2.1 x1.2.2.2.2.2.2.2.2.2.2.2.2.2.2.2.1 x1.2.2.2.2.2.2.2.2.2.2.2.2.2.2.2.2.1 x1.2.2.2.2.2.2.2.2.2.2.2.2.2.2.2.2.2.1 x1.2.2.2.2.2.2.2.2.2.2.2.2.2.2.2.2.2.2.1 x1.2.2.2.2.2.2.2.2.2.2.2.2.2.2.2.2.2.2.2.1 x1.2.2.2.2.2.2.2.2.2.2.2.2.2.2.2.2.2.2.2.2.1 x1.2.2.2.2.2.2.2.2.2.2.2.2.2.2.2.2.2.2.2.2.2.1 x1.2.2.2.2.2.2.2.2.2.2.2.2.2.2.2.2.2.2.2.2.2.2 y1.1 := by kernel_rfl
theorem Q0b_l0.eq (v0 v1 v2 : Int) (v3 : List Int) (v4 : Int) (v5 : List Int) (v6 : Int) (v7 : List Int) (v8 : List (Int × (List Int))) (v9 : Int) (v10 : List Int) (v11 : List (Int × (List Int))) (v12 : List Int) (v13 : Int) (v14 : List Int) (v15 v16 v17 : Int) (v18 : List Int) (v19 v20 v21 : Int) (v22 v23 : List Int) : Q0b_l0 v0 v1 v2 v3 v4 v5 v6 v7 v8 v9 v10 v11 v12 v13 v14 v15 v16 v17 v18 v19 v20 v21 v22 v23 =
 (Qw v23).bind fun y1 =>
 (Q12 (v9, v10, v11)).bind fun y2 =>
 (Qr y1 (v2, v3, v4, v5, y2)).bind fun y3 =>
 (Qy y3.1).bind fun y4 =>
 bif !y3.2 then
 some (([] : List Int), false)
 else
 bif !y4.2 then
 some (([] : List Int), false)
 else
 Q0b_l1 v0 v1 v2 v3 v4 v5 v6 v7 v8 v9 v10 v11 v12 v13 v14 v15 v16 v17 v18 v19 v20 v21 v22 v23 y4.1 := (Q7 Q0 (Q1 (Q0b.gok _)) _ _).trans (by kernel_rfl)
theorem Q0b_l1.eq (v0 v1 v2 : Int) (v3 : List Int) (v4 : Int) (v5 : List Int) (v6 : Int) (v7 : List Int) (v8 : List (Int × (List Int))) (v9 : Int) (v10 : List Int) (v11 : List (Int × (List Int))) (v12 : List Int) (v13 : Int) (v14 : List Int) (v15 v16 v17 : Int) (v18 : List Int) (v19 v20 v21 : Int) (v22 v23 v24 : List Int) : Q0b_l1 v0 v1 v2 v3 v4 v5 v6 v7 v8 v9 v10 v11 v12 v13 v14 v15 v16 v17 v18 v19 v20 v21 v22 v23 v24 =
 (Qk v24 v1).bind fun y1 =>
 (Qw v23).bind fun y2 =>
 (Qq (v2, v3)).bind fun y3 =>
 (Q0k y2 y3).bind fun y4 =>
 (Qj y4).bind fun y5 =>
 bif v0 != y1.1.1 then
 some (([] : List Int), false)
 else
 (Q01 v12 y1.1.2.2.2.2.2.1).bind fun y6 =>
 bif !y6 then
 some (([] : List Int), false)
 else
 (QJ (v13, v14) (y1.1.2.2.2.2.2.2.1, y1.1.2.2.2.2.2.2.2.1)).bind fun y7 =>
 bif !y7 then
 some (([] : List Int), false)
 else
 (Q0Y (v15, v16, v17, v18) (y1.1.2.2.2.2.2.2.2.2.1, y1.1.2.2.2.2.2.2.2.2.2.1, y1.1.2.2.2.2.2.2.2.2.2.2.1, y1.1.2.2.2.2.2.2.2.2.2.2.2.1)).bind fun y8 =>
 bif !y8 then
 some (([] : List Int), false)
 else
 (Q0Y (v19, v20, v21, v22) y1.1.2.2.2.2.2.2.2.2.2.2.2.2).bind fun y9 =>
 bif !y9 then
 some (([] : List Int), false)
 else
 (Q1r (v6, v7, v8) y5.1).bind fun y10 =>
 bif !y10 then
 some (([] : List Int), false)
 else
 some (v24, true) := (Q7 Q0 (Q1 (Q0b.gok _)) _ _).trans (by kernel_rfl)
noncomputable abbrev Q1K.s : Sg := ⟨[.lend, .lend], [ag7, ag9], ⟨[vo 5], [none, none]⟩, Tryz.f56⟩
noncomputable def Q1K.gs (δ : Type) : List (Nat × KC δ) := [(119, Q0b.k)]
theorem Q1K.gok (δ : Type) : Q4 Tryz.prog tab (Q1K.gs δ) := .cons Q0b.con .nil
noncomputable def Q1K.c := cx Q1K.s [] [] [] false (Q1K.gs _)
noncomputable def Q1K (x0 : FmA) (x1 : RelA) : Option (List Int) := fnW Q1K.s Q1K.c (x0, x1)
theorem Q1K.fok : FkS Q1K.s 56 := ⟨Tryz.func56, by kernel_rfl, by kernel_rfl⟩
noncomputable def Q1K.fn (x : Args tab Q1K.s.ar) : Option (ResT tab Q1K.s.rs) := Q1K x.1 x.2
noncomputable abbrev Q1K.k {δ : Type} : KC δ := kS Q1K.s Q1K.fn
theorem Q1K.con {δ : Type} : Con Tryz.prog (KT tab) 56 (Q1K.k (δ := δ)) := Q5 (c := Q1K.c) mixed Q0 (Q1 (Q1K.gok _)) Q1K.fok rfl rfl fun _ => rfl
theorem Q1K.eq (x0 : FmA) (x1 : RelA) : Q1K x0 x1 =
 (Q0b x0 x1).bind fun y1 =>
 some y1.1 := by kernel_rfl
noncomputable abbrev Q1L.s : Sg := ⟨[.keep, .give], [.one (.ptr true 111 [.b (.b (.b (.sl false false 5))), .b (.b (.b (.int .i64))), .b (.b (.b (.int .i64)))]), vo 5], ⟨[vo 5], [some (.one (.ptr true 111 [.b (.b (.b (.sl false false 5))), .b (.b (.b (.int .i64))), .b (.b (.b (.int .i64)))])), none]⟩, Tryz.f55⟩
noncomputable def Q1L.gs (δ : Type) : List (Nat × KC δ) := [(36, Q09.k), (83, QC.k), (84, Qb.k)]
theorem Q1L.gok (δ : Type) : Q4 Tryz.prog tab (Q1L.gs δ) := .cons Q09.con (.cons QC.con (.cons Qb.con .nil))
noncomputable def Q1L.c := cx Q1L.s [] [] [] false (Q1L.gs _)
noncomputable def Q1L (x0 : (List Int) × Int × Int) (x1 : List Int) : Option ((List Int) × ((List Int) × Int × Int)) := fnW Q1L.s Q1L.c (x0, x1)
theorem Q1L.fok : FkS Q1L.s 55 := ⟨Tryz.func55, by kernel_rfl, by kernel_rfl⟩
noncomputable def Q1L.fn (x : Args tab Q1L.s.ar) : Option (ResT tab Q1L.s.rs) := Q1L x.1 x.2
noncomputable abbrev Q1L.k {δ : Type} : KC δ := kS Q1L.s Q1L.fn
theorem Q1L.con {δ : Type} : Con Tryz.prog (KT tab) 55 (Q1L.k (δ := δ)) := Q5 (c := Q1L.c) mixed Q0 (Q1 (Q1L.gok _)) Q1L.fok rfl rfl fun _ => rfl
theorem Q1L.eq (x0 : (List Int) × Int × Int) (x1 : List Int) : Q1L x0 x1 =
 bif decide ((x1.length : Int) > 0) then
 (Q09 x0 4).bind fun y1 =>
 bif !y1.1 then
 (Qb y1.2 (if (x1.length : Int) < 256 then (x1.length : Int) else 256)).bind fun y2 =>
 (Qb y2.2 6).bind fun y3 =>
 bif decide (0 ≤ (if IntKind.i64.wrap (y2.1 + y3.1) < (x1.length : Int) then IntKind.i64.wrap (y2.1 + y3.1) else (x1.length : Int)) ∧ (if IntKind.i64.wrap (y2.1 + y3.1) < (x1.length : Int) then IntKind.i64.wrap (y2.1 + y3.1) else (x1.length : Int)) ≤ ((x1.length : Nat) : Int)) then
 bif decide (0 ≤ y2.1 ∧ y2.1 ≤ (((if IntKind.i64.wrap (y2.1 + y3.1) < (x1.length : Int) then IntKind.i64.wrap (y2.1 + y3.1) else (x1.length : Int)).toNat : Nat) : Int)) then
 bif decide ((([] : List Int).length + ((x1.drop y2.1.toNat).take (((if IntKind.i64.wrap (y2.1 + y3.1) < (x1.length : Int) then IntKind.i64.wrap (y2.1 + y3.1) else (x1.length : Int)).toNat) - y2.1.toNat)).length) * 1 ≤ 140737488355328) then
 (Q09 y3.2 6).bind fun y4 =>
 bif y4.1 then
 bif decide (((([] : List Int) ++ ((x1.drop y2.1.toNat).take (((if IntKind.i64.wrap (y2.1 + y3.1) < (x1.length : Int) then IntKind.i64.wrap (y2.1 + y3.1) else (x1.length : Int)).toNat) - y2.1.toNat))).length + ([98] : List Int).length) * 1 ≤ 140737488355328) then
 some ((([] : List Int) ++ ((x1.drop y2.1.toNat).take (((if IntKind.i64.wrap (y2.1 + y3.1) < (x1.length : Int) then IntKind.i64.wrap (y2.1 + y3.1) else (x1.length : Int)).toNat) - y2.1.toNat))) ++ ([98] : List Int), y4.2)
 else
 none
 else
 some (([] : List Int) ++ ((x1.drop y2.1.toNat).take (((if IntKind.i64.wrap (y2.1 + y3.1) < (x1.length : Int) then IntKind.i64.wrap (y2.1 + y3.1) else (x1.length : Int)).toNat) - y2.1.toNat)), y4.2)
 else
 none
 else
 none
 else
 none
 else
 (QC y1.2 4).bind fun y5 =>
 some (y5.1, y5.2)
 else
 (QC x0 4).bind fun y6 =>
 some (y6.1, y6.2) := by kernel_rfl
noncomputable abbrev Q1M.s : Sg := ⟨[.lend], [vl 5], ⟨[ag7, ag9, vo 5], [none]⟩, Tryz.f15⟩
noncomputable def Q1M.gs (δ : Type) : List (Nat × KC δ) := [(32, Q1a.k), (54, Q1J.k), (55, Q1L.k), (56, Q1K.k)]
theorem Q1M.gok (δ : Type) : Q4 Tryz.prog tab (Q1M.gs δ) := .cons Q1a.con (.cons Q1J.con (.cons Q1L.con (.cons Q1K.con .nil)))
noncomputable def Q1M.c := cx Q1M.s [] [] [] false (Q1M.gs _)
noncomputable def Q1M (x0 : List Int) : Option ((FmA) × (RelA) × (List Int)) := fnW Q1M.s Q1M.c x0
theorem Q1M.fok : FkS Q1M.s 15 := ⟨Tryz.func15, by kernel_rfl, by kernel_rfl⟩
noncomputable def Q1M.fn (x : Args tab Q1M.s.ar) : Option (ResT tab Q1M.s.rs) := Q1M x
noncomputable abbrev Q1M.k {δ : Type} : KC δ := kS Q1M.s Q1M.fn
theorem Q1M.con {δ : Type} : Con Tryz.prog (KT tab) 15 (Q1M.k (δ := δ)) := Q5 (c := Q1M.c) mixed Q0 (Q1 (Q1M.gok _)) Q1M.fok rfl rfl fun _ => rfl
theorem Q1M.eq (x0 : List Int) : Q1M x0 =
 (Q1a x0).bind fun y1 =>
 (Q1J y1).bind fun y2 =>
 (Q1K y2.1 y2.2.1).bind fun y3 =>
 (Q1L y2.2.2 y3).bind fun y4 =>
 some (y2.1, y2.2.1, y4.1) := by kernel_rfl
noncomputable abbrev Q1s.s : Sg := ⟨[.lend, .lend, .lend], [ag7, ag9, vi], ⟨[vi], [none, none, none]⟩, Tryz.f17⟩
noncomputable def Q1s.gs (δ : Type) : List (Nat × KC δ) := [(57, Q0C.k), (58, QB.k), (59, Qu.k)]
theorem Q1s.gok (δ : Type) : Q4 Tryz.prog tab (Q1s.gs δ) := .cons Q0C.con (.cons QB.con (.cons Qu.con .nil))
noncomputable def Q1s.c := cx Q1s.s [] [] [] false (Q1s.gs _)
noncomputable def Q1s (x0 : FmA) (x1 : RelA) (x2 : Int) : Option (Int) := fnW Q1s.s Q1s.c (x0, x1, x2)
theorem Q1s.fok : FkS Q1s.s 17 := ⟨Tryz.func17, by kernel_rfl, by kernel_rfl⟩
noncomputable def Q1s.fn (x : Args tab Q1s.s.ar) : Option (ResT tab Q1s.s.rs) := Q1s x.1 x.2.1 x.2.2
noncomputable abbrev Q1s.k {δ : Type} : KC δ := kS Q1s.s Q1s.fn
theorem Q1s.con {δ : Type} : Con Tryz.prog (KT tab) 17 (Q1s.k (δ := δ)) := Q5 (c := Q1s.c) mixed Q0 (Q1 (Q1s.gok _)) Q1s.fok rfl rfl fun _ => rfl
theorem Q1s.eq (x0 : FmA) (x1 : RelA) (x2 : Int) : Q1s x0 x1 x2 =
 (Q0C x1 x0).bind fun y1 =>
 bif !y1.2 then
 some (-1 : Int)
 else
 (QB x2 0 (y1.1.length : Int)).bind fun y2 =>
 bif !y2 then
 some (-1 : Int)
 else
 (Qu y1.1).bind fun y3 =>
 (at? y3 x2).bind fun y4 =>
 y3[x2.toNat]?.bind fun y5 =>
 some y5 := by kernel_rfl
noncomputable abbrev Q10.s : Sg := ⟨[.lend, .lend], [ag9, ag7], ⟨[ag3], [none, none]⟩, Tryz.f61⟩
noncomputable def Q10.gs (δ : Type) : List (Nat × KC δ) := [(57, Q0C.k), (111, Qv.k)]
theorem Q10.gok (δ : Type) : Q4 Tryz.prog tab (Q10.gs δ) := .cons Q0C.con (.cons Qv.con .nil)
noncomputable def Q10.c := cx Q10.s [] [] [] false (Q10.gs _)
noncomputable def Q10 (x0 : RelA) (x1 : FmA) : Option (FmA) := fnW Q10.s Q10.c (x0, x1)
theorem Q10.fok : FkS Q10.s 61 := ⟨Tryz.func61, by kernel_rfl, by kernel_rfl⟩
noncomputable def Q10.fn (x : Args tab Q10.s.ar) : Option (ResT tab Q10.s.rs) := Q10 x.1 x.2
noncomputable abbrev Q10.k {δ : Type} : KC δ := kS Q10.s Q10.fn
theorem Q10.con {δ : Type} : Con Tryz.prog (KT tab) 61 (Q10.k (δ := δ)) := Q5 (c := Q10.c) mixed Q0 (Q1 (Q10.gok _)) Q10.fok rfl rfl fun _ => rfl
theorem Q10.eq (x0 : RelA) (x1 : FmA) : Q10 x0 x1 =
 (Q0C x0 x1).bind fun y1 =>
 bif !y1.2 then
 some (0, 0, 0, ([] : List Int), ([] : List (Int × (List Int))), ([] : List Int), 0, ([] : List Int), 0, 0, 0, ([] : List Int), 0, 0, 0, ([] : List Int))
 else
 (Qv y1.1 x0.2.1).bind fun y2 =>
 some y2 := by kernel_rfl
noncomputable abbrev Q1Y.s : Sg := ⟨[.lend, .lend], [ag7, vi], ⟨[vi], [none, none]⟩, Tryz.f60⟩
noncomputable def Q1Y.gs (δ : Type) : List (Nat × KC δ) := [(46, QP.k), (58, QB.k), (59, Qu.k), (123, Q0l.k)]
theorem Q1Y.gok (δ : Type) : Q4 Tryz.prog tab (Q1Y.gs δ) := .cons QP.con (.cons QB.con (.cons Qu.con (.cons Q0l.con .nil)))
noncomputable def Q1Y.c := cx Q1Y.s [] [] [] false (Q1Y.gs _)
noncomputable def Q1Y (x0 : FmA) (x1 : Int) : Option (Int) := fnW Q1Y.s Q1Y.c (x0, x1)
theorem Q1Y.fok : FkS Q1Y.s 60 := ⟨Tryz.func60, by kernel_rfl, by kernel_rfl⟩
noncomputable def Q1Y.fn (x : Args tab Q1Y.s.ar) : Option (ResT tab Q1Y.s.rs) := Q1Y x.1 x.2
noncomputable abbrev Q1Y.k {δ : Type} : KC δ := kS Q1Y.s Q1Y.fn
theorem Q1Y.con {δ : Type} : Con Tryz.prog (KT tab) 60 (Q1Y.k (δ := δ)) := Q5 (c := Q1Y.c) mixed Q0 (Q1 (Q1Y.gok _)) Q1Y.fok rfl rfl fun _ => rfl
theorem Q1Y.eq (x0 : FmA) (x1 : Int) : Q1Y x0 x1 =
 (QP x0).bind fun y1 =>
 bif !y1.2 then
 some (-1 : Int)
 else
 (QB x1 0 (y1.1.length : Int)).bind fun y2 =>
 bif !y2 then
 some (-1 : Int)
 else
 (Qu y1.1).bind fun y3 =>
 (Q0l y3).bind fun y4 =>
 (at? y4 x1).bind fun y5 =>
 y4[x1.toNat]?.bind fun y6 =>
 some y6 := by kernel_rfl
noncomputable abbrev Q1t.s : Sg := ⟨[.lend, .lend, .lend], [ag7, ag9, vi], ⟨[vi], [none, none, none]⟩, Tryz.f18⟩
noncomputable def Q1t.gs (δ : Type) : List (Nat × KC δ) := [(60, Q1Y.k), (61, Q10.k)]
theorem Q1t.gok (δ : Type) : Q4 Tryz.prog tab (Q1t.gs δ) := .cons Q1Y.con (.cons Q10.con .nil)
noncomputable def Q1t.c := cx Q1t.s [] [] [] false (Q1t.gs _)
noncomputable def Q1t (x0 : FmA) (x1 : RelA) (x2 : Int) : Option (Int) := fnW Q1t.s Q1t.c (x0, x1, x2)
theorem Q1t.fok : FkS Q1t.s 18 := ⟨Tryz.func18, by kernel_rfl, by kernel_rfl⟩
noncomputable def Q1t.fn (x : Args tab Q1t.s.ar) : Option (ResT tab Q1t.s.rs) := Q1t x.1 x.2.1 x.2.2
noncomputable abbrev Q1t.k {δ : Type} : KC δ := kS Q1t.s Q1t.fn
theorem Q1t.con {δ : Type} : Con Tryz.prog (KT tab) 18 (Q1t.k (δ := δ)) := Q5 (c := Q1t.c) mixed Q0 (Q1 (Q1t.gok _)) Q1t.fok rfl rfl fun _ => rfl
theorem Q1t.eq (x0 : FmA) (x1 : RelA) (x2 : Int) : Q1t x0 x1 x2 =
 (Q10 x1 x0).bind fun y1 =>
 (Q1Y y1 x2).bind fun y2 =>
 some y2 := by kernel_rfl
noncomputable abbrev Q1Z.s : Sg := ⟨[.lend, .lend], [vl 5, vl 5], ⟨[vb], [none, none]⟩, Tryz.f203⟩
noncomputable def Q1Z.gs (δ : Type) : List (Nat × KC δ) := []
theorem Q1Z.gok (δ : Type) : Q4 Tryz.prog tab (Q1Z.gs δ) := .nil
noncomputable def Q1Z.c := cx Q1Z.s [] [] [] false (Q1Z.gs _)
noncomputable def Q1Z (x0 x1 : List Int) : Option (Bool) := fnW Q1Z.s Q1Z.c (x0, x1)
theorem Q1Z.fok : FkS Q1Z.s 203 := ⟨Tryz.func203, by kernel_rfl, by kernel_rfl⟩
noncomputable def Q1Z.fn (x : Args tab Q1Z.s.ar) : Option (ResT tab Q1Z.s.rs) := Q1Z x.1 x.2
noncomputable abbrev Q1Z.k {δ : Type} : KC δ := kS Q1Z.s Q1Z.fn
theorem Q1Z.con {δ : Type} : Con Tryz.prog (KT tab) 203 (Q1Z.k (δ := δ)) := Q5 (c := Q1Z.c) mixed Q0 (Q1 (Q1Z.gok _)) Q1Z.fok rfl rfl fun _ => rfl
theorem Q1Z.eq (x0 x1 : List Int) : Q1Z x0 x1 =
 some ((Q2k (x0.map fun x => x)).toList == (Q2k (x1.map fun x => x)).toList) := by kernel_rfl
noncomputable abbrev Q1N.s : Sg := ⟨[.lend, .lend], [vl 5, vl 5], ⟨[vb], [none, none]⟩, Tryz.f178⟩
noncomputable def Q1N.gs (δ : Type) : List (Nat × KC δ) := [(203, Q1Z.k)]
theorem Q1N.gok (δ : Type) : Q4 Tryz.prog tab (Q1N.gs δ) := .cons Q1Z.con .nil
noncomputable def Q1N.c := cx Q1N.s [] [] [] false (Q1N.gs _)
noncomputable def Q1N (x0 x1 : List Int) : Option (Bool) := fnW Q1N.s Q1N.c (x0, x1)
theorem Q1N.fok : FkS Q1N.s 178 := ⟨Tryz.func178, by kernel_rfl, by kernel_rfl⟩
noncomputable def Q1N.fn (x : Args tab Q1N.s.ar) : Option (ResT tab Q1N.s.rs) := Q1N x.1 x.2
noncomputable abbrev Q1N.k {δ : Type} : KC δ := kS Q1N.s Q1N.fn
theorem Q1N.con {δ : Type} : Con Tryz.prog (KT tab) 178 (Q1N.k (δ := δ)) := Q5 (c := Q1N.c) mixed Q0 (Q1 (Q1N.gok _)) Q1N.fok rfl rfl fun _ => rfl
theorem Q1N.eq (x0 x1 : List Int) : Q1N x0 x1 =
 bif decide ((x0.length : Int) ≥ (x1.length : Int)) then
 bif decide (0 ≤ (x1.length : Int) ∧ (x1.length : Int) ≤ ((x0.length : Nat) : Int)) then
 (Q1Z ((x0.take ((x1.length : Int).toNat)).drop 0) x1).bind fun y1 =>
 some y1
 else
 none
 else
 some false := by kernel_rfl
noncomputable abbrev Q0v.s : Sg := ⟨[.lend, .lend], [vl 5, vl 5], ⟨[vo 3], [none, none]⟩, Tryz.f124⟩
noncomputable def Q0v.gs (δ : Type) : List (Nat × KC δ) := [(112, Q0W.k), (178, Q1N.k)]
theorem Q0v.gok (δ : Type) : Q4 Tryz.prog tab (Q0v.gs δ) := .cons Q0W.con (.cons Q1N.con .nil)
noncomputable def Q0v.c := cx Q0v.s [] [] [(5, [0, 1, 5, 12, 13])] false (Q0v.gs _)
noncomputable def Q0v (x0 x1 : List Int) : Option (List Int) := fnW Q0v.s Q0v.c (x0, x1)
theorem Q0v.fok : FkS Q0v.s 124 := ⟨Tryz.func124, by kernel_rfl, by kernel_rfl⟩
noncomputable def Q0v.fn (x : Args tab Q0v.s.ar) : Option (ResT tab Q0v.s.rs) := Q0v x.1 x.2
noncomputable abbrev Q0v.k {δ : Type} : KC δ := kS Q0v.s Q0v.fn
theorem Q0v.con {δ : Type} : Con Tryz.prog (KT tab) 124 (Q0v.k (δ := δ)) := Q5 (c := Q0v.c) mixed Q0 (Q1 (Q0v.gok _)) Q0v.fok rfl rfl fun _ => rfl
noncomputable def Q0v_l0 (v0 v1 : List Int) (v2 v3 : Int) (v4 : List Int) : Option (List Int) := lpW Q0v.s Q0v.c 0 (ud 13 [.vs false 5 v0, .vs false 5 v1, .undef, .undef, .undef, .sl 0 0, .undef, .undef, .undef, .undef, .undef, .undef, .int .i64 v2, .int .i64 v3]) [.row 0 true 3 v4] 1
theorem Q0v.eq (x0 x1 : List Int) : Q0v x0 x1 =
 (Q0W x0).bind fun y1 =>
 bif !y1 then
 some ([] : List Int)
 else
 Q0v_l0 x0 x1 (IntKind.i64.wrap ((x0.length : Int) + 1)) 0 ([] : List Int) := by kernel_rfl
theorem Q0v_l0.eq (v0 v1 : List Int) (v2 v3 : Int) (v4 : List Int) : Q0v_l0 v0 v1 v2 v3 v4 =
 bif decide (v3 < v2) then
 bif decide (0 ≤ v3 ∧ v3 ≤ ((v0.length : Nat) : Int)) then
 (Q1N ((v0.take v0.length).drop v3.toNat) v1).bind fun y1 =>
 bif y1 then
 bif decide ((v4.length + ([v3] : List Int).length) * 8 ≤ 140737488355328) then
 Q0v_l0 v0 v1 v2 (IntKind.i64.wrap (v3 + 1)) (v4 ++ ([v3] : List Int))
 else
 none
 else
 Q0v_l0 v0 v1 v2 (IntKind.i64.wrap (v3 + 1)) v4
 else
 none
 else
 some v4 := (Q7 Q0 (Q1 (Q0v.gok _)) _ _).trans (by kernel_rfl)
noncomputable abbrev Q20.s : Sg := ⟨[.lend, .lend], [ag7, vl 5], ⟨[vo 3], [none, none]⟩, Tryz.f62⟩
noncomputable def Q20.gs (δ : Type) : List (Nat × KC δ) := [(46, QP.k), (124, Q0v.k)]
theorem Q20.gok (δ : Type) : Q4 Tryz.prog tab (Q20.gs δ) := .cons QP.con (.cons Q0v.con .nil)
noncomputable def Q20.c := cx Q20.s [] [] [] false (Q20.gs _)
noncomputable def Q20 (x0 : FmA) (x1 : List Int) : Option (List Int) := fnW Q20.s Q20.c (x0, x1)
theorem Q20.fok : FkS Q20.s 62 := ⟨Tryz.func62, by kernel_rfl, by kernel_rfl⟩
noncomputable def Q20.fn (x : Args tab Q20.s.ar) : Option (ResT tab Q20.s.rs) := Q20 x.1 x.2
noncomputable abbrev Q20.k {δ : Type} : KC δ := kS Q20.s Q20.fn
theorem Q20.con {δ : Type} : Con Tryz.prog (KT tab) 62 (Q20.k (δ := δ)) := Q5 (c := Q20.c) mixed Q0 (Q1 (Q20.gok _)) Q20.fok rfl rfl fun _ => rfl
theorem Q20.eq (x0 : FmA) (x1 : List Int) : Q20 x0 x1 =
 (QP x0).bind fun y1 =>
 bif !y1.2 then
 some ([] : List Int)
 else
 (Q0v y1.1 x1).bind fun y2 =>
 some y2 := by kernel_rfl
noncomputable abbrev Q1u.s : Sg := ⟨[.lend, .lend, .lend], [ag7, ag9, vl 5], ⟨[vo 3], [none, none, none]⟩, Tryz.f20⟩
noncomputable def Q1u.gs (δ : Type) : List (Nat × KC δ) := [(61, Q10.k), (62, Q20.k)]
theorem Q1u.gok (δ : Type) : Q4 Tryz.prog tab (Q1u.gs δ) := .cons Q10.con (.cons Q20.con .nil)
noncomputable def Q1u.c := cx Q1u.s [] [] [] false (Q1u.gs _)
noncomputable def Q1u (x0 : FmA) (x1 : RelA) (x2 : List Int) : Option (List Int) := fnW Q1u.s Q1u.c (x0, x1, x2)
theorem Q1u.fok : FkS Q1u.s 20 := ⟨Tryz.func20, by kernel_rfl, by kernel_rfl⟩
noncomputable def Q1u.fn (x : Args tab Q1u.s.ar) : Option (ResT tab Q1u.s.rs) := Q1u x.1 x.2.1 x.2.2
noncomputable abbrev Q1u.k {δ : Type} : KC δ := kS Q1u.s Q1u.fn
theorem Q1u.con {δ : Type} : Con Tryz.prog (KT tab) 20 (Q1u.k (δ := δ)) := Q5 (c := Q1u.c) mixed Q0 (Q1 (Q1u.gok _)) Q1u.fok rfl rfl fun _ => rfl
theorem Q1u.eq (x0 : FmA) (x1 : RelA) (x2 : List Int) : Q1u x0 x1 x2 =
 (Q10 x1 x0).bind fun y1 =>
 (Q20 y1 x2).bind fun y2 =>
 some y2 := by kernel_rfl
noncomputable abbrev Q0D.s : Sg := ⟨[.lend, .lend], [vl 3, vl 3], ⟨[vb], [none, none]⟩, Tryz.f19⟩
noncomputable def Q0D.gs (δ : Type) : List (Nat × KC δ) := []
theorem Q0D.gok (δ : Type) : Q4 Tryz.prog tab (Q0D.gs δ) := .nil
noncomputable def Q0D.c := cx Q0D.s [] [] [(4, [0, 1, 5])] false (Q0D.gs _)
noncomputable def Q0D (x0 x1 : List Int) : Option (Bool) := fnW Q0D.s Q0D.c (x0, x1)
theorem Q0D.fok : FkS Q0D.s 19 := ⟨Tryz.func19, by kernel_rfl, by kernel_rfl⟩
noncomputable def Q0D.fn (x : Args tab Q0D.s.ar) : Option (ResT tab Q0D.s.rs) := Q0D x.1 x.2
noncomputable abbrev Q0D.k {δ : Type} : KC δ := kS Q0D.s Q0D.fn
theorem Q0D.con {δ : Type} : Con Tryz.prog (KT tab) 19 (Q0D.k (δ := δ)) := Q5 (c := Q0D.c) mixed Q0 (Q1 (Q0D.gok _)) Q0D.fok rfl rfl fun _ => rfl
noncomputable def Q0D_l0 (v0 v1 : List Int) (v2 : Int) : Option (Bool) := lpW Q0D.s Q0D.c 0 (ud 20 [.vs false 3 v0, .vs false 3 v1, .undef, .undef, .undef, .int .i64 v2]) [] 0
theorem Q0D.eq (x0 x1 : List Int) : Q0D x0 x1 =
 bif (x0.length : Int) != (x1.length : Int) then
 some false
 else
 Q0D_l0 x0 x1 0 := by kernel_rfl
theorem Q0D_l0.eq (v0 v1 : List Int) (v2 : Int) : Q0D_l0 v0 v1 v2 =
 bif decide (v2 < (v0.length : Int)) then
 (at? v0 v2).bind fun y1 =>
 (at? v1 v2).bind fun y2 =>
 bif y1 != y2 then
 some false
 else
 Q0D_l0 v0 v1 (IntKind.i64.wrap (v2 + 1))
 else
 some true := (Q7 Q0 (Q1 (Q0D.gok _)) _ _).trans (by kernel_rfl)
end Go.Ev.W
