/- What functions of the program come to. -/
import Derived.Test.YthhbmllipmhikaaGreatPkT
import Derived.Test.YthhbmllipmhikaaGreatPk1
import Derived.Test.YthhbmllipmhikaaGreatPk2
namespace Go.Ev.W
open Go.Ev Go.Proofs
set_option maxRecDepth 100000
set_option linter.unusedVariables false
noncomputable abbrev Q0J.s : Sg := ⟨[.lend], [vl 5], ⟨[vb], [none]⟩, Tryz.f3⟩
noncomputable def Q0J.gs (δ : Type) : List (Nat × Callee (GT tab) δ) := [(4, Q14.k), (5, Q1f.k), (6, Q13.k), (7, QU.k), (8, Q1m.k), (9, Q1n.k), (10, Q0E.k)]
theorem Q0J.gok (δ : Type) : Q4 Tryz.prog tab (Q0J.gs δ) := .cons Q14.con (.cons Q1f.con (.cons Q13.con (.cons QU.con (.cons Q1m.con (.cons Q1n.con (.cons Q0E.con .nil))))))
noncomputable def Q0J.c := cx Q0J.s [] [7] [(7, [3, 4, 5, 6, 7])] false (Q0J.gs _)
noncomputable def Q0J (x0 : List Int) : Option (Bool) := fnW Q0J.s Q0J.c x0
theorem Q0J.fok : FkS Q0J.s 3 := ⟨Tryz.func3, by kernel_rfl, by kernel_rfl⟩
noncomputable def Q0J.fn (x : Args tab Q0J.s.ar) : Option (ResT tab Q0J.s.rs) := Q0J x
noncomputable abbrev Q0J.as := Q0J.s.ar
noncomputable def Q0J_l0 (v0 v1 v2 v3 v4 v5 : Int) (v6 : List Int) (v7 : List (Int × (List Int))) (v8 : List Int) (v9 : Int) (v10 : List Int) (v11 v12 v13 : Int) (v14 : List Int) (v15 v16 v17 : Int) (v18 : List Int) (v19 v20 v21 : Int) (v22 : List Int) (v23 : Int) (v24 : List Int) (v25 : Int) (v26 : List Int) (v27 : List (Int × (List Int))) (v28 : Int) (v29 : List Int) (v30 : List (Int × (List Int))) (v31 : List Int) (v32 : Int) (v33 : List Int) (v34 v35 v36 : Int) (v37 : List Int) (v38 v39 v40 : Int) (v41 : List Int) : Option (Bool) := lpW Q0J.s Q0J.c 0 (ud 69 [.undef, .undef, .undef, .ptr 0 0, .ptr 1 0, .int .i64 v0, .int .i64 v1, .int .i64 v2]) [.box 34 [.int .i64 v3, .int .i64 v4, .int .i64 v5, .vs false 3 v6, .vs false 30 v7, .vs false 3 v8, .int .i64 v9, .vs false 92 v10, .int .i64 v11, .int .i64 v12, .int .i64 v13, .vs false 92 v14, .int .i64 v15, .int .i64 v16, .int .i64 v17, .vs false 92 v18], .box 36 [.int .i64 v19, .int .i64 v20, .int .i64 v21, .vs false 92 v22, .int .i64 v23, .vs false 92 v24, .int .i64 v25, .vs false 3 v26, .vs false 30 v27, .int .i64 v28, .vs false 3 v29, .vs false 30 v30, .vs false 3 v31, .int .i64 v32, .vs false 92 v33, .int .i64 v34, .int .i64 v35, .int .i64 v36, .vs false 92 v37, .int .i64 v38, .int .i64 v39, .int .i64 v40, .vs false 92 v41]] 2
theorem Q0J.eq (x0 : List Int) : Q0J x0 =
 (Q14 x0).bind fun y1 =>
 bif y1 then
 some true
 else
 (Q1f x0).bind fun y2 =>
 (Q13 y2.1 y2.2.1 y2.2.2.1 y2.2.2.2).bind fun y3 =>
 (QU y2.1 y2.2.1 y2.2.2.1 y2.2.2.2).bind fun y4 =>
 bif y3 != y4 then
 (QU y2.1 y2.2.1 y2.2.2.1 y2.2.2.2).bind fun y5 =>
 some (y3 == y5)
 else
 bif decide (y3 < (0 : Int)) then
 (QU y2.1 y2.2.1 y2.2.2.1 y2.2.2.2).bind fun y6 =>
 some (y3 == y6)
 else
 Q0J_l0 y2.2.2.1 y2.2.2.2 y3 y2.1.1 y2.1.2.1 y2.1.2.2.1 y2.1.2.2.2.1 y2.1.2.2.2.2.1 y2.1.2.2.2.2.2.1 y2.1.2.2.2.2.2.2.1 y2.1.2.2.2.2.2.2.2.1 y2.1.2.2.2.2.2.2.2.2.1 y2.1.2.2.2.2.2.2.2.2.2.1 y2.1.2.2.2.2.2.2.2.2.2.2.1 y2.1.2.2.2.2.2.2.2.2.2.2.2.1 y2.1.2.2.2.2.2.2.2.2.2.2.2.2.1 y2.1.2.2.2.2.2.2.2.2.2.2.2.2.2.1 y2.1.2.2.2.2.2.2.2.2.2.2.2.2.2.2.1 y2.1.2.2.2.2.2.2.2.2.2.2.2.2.2.2.2 y2.2.1.1 y2.2.1.2.1 y2.2.1.2.2.1 y2.2.1.2.2.2.1 y2.2.1.2.2.2.2.1 y2.2.1.2.2.2.2.2.1 y2.2.1.2.2.2.2.2.2.1 y2.2.1.2.2.2.2.2.2.2.1 y2.2.1.2.2.2.2.2.2.2.2.1 y2.2.1.2.2.2.2.2.2.2.2.2.1 y2.2.1.2.2.2.2.2.2.2.2.2.2.1 y2.2.1.2.2.2.2.2.2.2.2.2.2.2.1 y2.2.1.2.2.2.2.2.2.2.2.2.2.2.2.1 y2.2.1.2.2.2.2.2.2.2.2.2.2.2.2.2.1 y2.2.1.2.2.2.2.2.2.2.2.2.2.2.2.2.2.1 y2.2.1.2.2.2.2.2.2.2.2.2.2.2.2.2.2.2.1 y2.2.1.2.2.2.2.2.2.2.2.2.2.2.2.2.2.2.2.1 y2.2.1.2.2.2.2.2.2.2.2.2.2.2.2.2.2.2.2.2.1 y2.2.1.2.2.2.2.2.2.2.2.2.2.2.2.2.2.2.2.2.2.1 y2.2.1.2.2.2.2.2.2.2.2.2.2.2.2.2.2.2.2.2.2.2.1 y2.2.1.2.2.2.2.2.2.2.2.2.2.2.2.2.2.2.2.2.2.2.2.1 y2.2.1.2.2.2.2.2.2.2.2.2.2.2.2.2.2.2.2.2.2.2.2.2.1 y2.2.1.2.2.2.2.2.2.2.2.2.2.2.2.2.2.2.2.2.2.2.2.2.2 := by kernel_rfl
theorem Q0J_l0.eq (v0 v1 v2 v3 v4 v5 : Int) (v6 : List Int) (v7 : List (Int × (List Int))) (v8 : List Int) (v9 : Int) (v10 : List Int) (v11 v12 v13 : Int) (v14 : List Int) (v15 v16 v17 : Int) (v18 : List Int) (v19 v20 v21 : Int) (v22 : List Int) (v23 : Int) (v24 : List Int) (v25 : Int) (v26 : List Int) (v27 : List (Int × (List Int))) (v28 : Int) (v29 : List Int) (v30 : List (Int × (List Int))) (v31 : List Int) (v32 : Int) (v33 : List Int) (v34 v35 v36 : Int) (v37 : List Int) (v38 v39 v40 : Int) (v41 : List Int) : Q0J_l0 v0 v1 v2 v3 v4 v5 v6 v7 v8 v9 v10 v11 v12 v13 v14 v15 v16 v17 v18 v19 v20 v21 v22 v23 v24 v25 v26 v27 v28 v29 v30 v31 v32 v33 v34 v35 v36 v37 v38 v39 v40 v41 =
 (Q1m (v23, v24) (1 : Int) v1).bind fun y1 =>
 bif decide (y1 > (0 : Int)) then
 (Q1n (v21, v22) (1 : Int) (IntKind.i64.wrap (y1 - (1 : Int)))).bind fun y2 =>
 (Q0E (v5, v6, v7) v0 (IntKind.i64.wrap (y2 + (1 : Int)))).bind fun y3 =>
 (Q0E (v25, v26, v27) v0 (IntKind.i64.wrap ((IntKind.i64.wrap (y2 + (1 : Int))) - y1))).bind fun y4 =>
 (Q0E (v28, v29, v30) v0 (IntKind.i64.wrap (v1 - y1))).bind fun y5 =>
 some (v2 == IntKind.i64.wrap ((IntKind.i64.wrap (y3 - y4)) + y5))
 else
 (Q0E (v5, v6, v7) v0 (0 : Int)).bind fun y6 =>
 (Q0E (v25, v26, v27) v0 (IntKind.i64.wrap ((0 : Int) - y1))).bind fun y7 =>
 (Q0E (v28, v29, v30) v0 (IntKind.i64.wrap (v1 - y1))).bind fun y8 =>
 some (v2 == IntKind.i64.wrap ((IntKind.i64.wrap (y6 - y7)) + y8)) := (Q7 Q1 (Q0 (Q0J.gok _)) _ _).trans (by kernel_rfl)
end Go.Ev.W
