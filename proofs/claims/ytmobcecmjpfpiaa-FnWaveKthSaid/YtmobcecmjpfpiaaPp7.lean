/- What functions of the program come to. -/
import Derived.Test.YtmobcecmjpfpiaaPpT
import Derived.Test.YtmobcecmjpfpiaaPp3
import Derived.Test.YtmobcecmjpfpiaaPp5
namespace Go.Ev.W
open Go.Ev Go.Proofs
set_option maxRecDepth 100000
set_option linter.unusedVariables false

noncomputable abbrev laws_big.s : Sg := ⟨[.lend], [vl 5], ⟨[vb], [none]⟩, Try.f16⟩
noncomputable def laws_big.gs (δ : Type) : List (Nat × Callee (GT tab) δ) := []
theorem laws_big.gok (δ : Type) : AllCon Try.prog tab (laws_big.gs δ) := .nil
noncomputable def laws_big.c := cx laws_big.s [] [] false (laws_big.gs _)
noncomputable def laws_big (x0 : List Int) : Option (Bool) := fnW laws_big.s laws_big.c x0
theorem laws_big.fok : FkS laws_big.s 16 := ⟨Try.func16, by kernel_rfl, by kernel_rfl⟩
noncomputable def laws_big.fn (x : Args tab laws_big.s.ar) : Option (ResT tab laws_big.s.rs) := laws_big x
noncomputable abbrev laws_big.k {δ : Type} : Callee (GT tab) δ := kS laws_big.s laws_big.fn
theorem laws_big.con {δ : Type} : Con Try.prog (KT tab) 16 (laws_big.k (δ := δ)) := con_shape (c := laws_big.c) mixed tysOk (getG_con (laws_big.gok _)) laws_big.fok rfl rfl fun _ => rfl
theorem laws_big.eq (x0 : List Int) : laws_big x0 =
    some (decide ((x0.length : Int) > (1048576 : Int))) := by kernel_rfl

noncomputable abbrev spec_l01Open.s : Sg := ⟨[.lend], [vl 5], ⟨[.one (.ptr true 122 [.b (.b (.b (.sl false false 5))), .b (.b (.b (.int .i64))), .b (.b (.b (.int .i64)))])], [none]⟩, Try.f52⟩
noncomputable def spec_l01Open.gs (δ : Type) : List (Nat × Callee (GT tab) δ) := []
theorem spec_l01Open.gok (δ : Type) : AllCon Try.prog tab (spec_l01Open.gs δ) := .nil
noncomputable def spec_l01Open.c := cx spec_l01Open.s [] [] false (spec_l01Open.gs _)
noncomputable def spec_l01Open (x0 : List Int) : Option ((List Int) × Int × Int) := fnW spec_l01Open.s spec_l01Open.c x0
theorem spec_l01Open.fok : FkS spec_l01Open.s 52 := ⟨Try.func52, by kernel_rfl, by kernel_rfl⟩
noncomputable def spec_l01Open.fn (x : Args tab spec_l01Open.s.ar) : Option (ResT tab spec_l01Open.s.rs) := spec_l01Open x
noncomputable abbrev spec_l01Open.k {δ : Type} : Callee (GT tab) δ := kS spec_l01Open.s spec_l01Open.fn
theorem spec_l01Open.con {δ : Type} : Con Try.prog (KT tab) 52 (spec_l01Open.k (δ := δ)) := con_shape (c := spec_l01Open.c) mixed tysOk (getG_con (spec_l01Open.gok _)) spec_l01Open.fok rfl rfl fun _ => rfl
theorem spec_l01Open.eq (x0 : List Int) : spec_l01Open x0 =
    some (x0, (0 : Int), IntKind.i64.wrap ((89 : Int) + ((x0.length : Int).tmod (1000 : Int)))) := by kernel_rfl

noncomputable abbrev spec_l01Cur_pick.s : Sg := ⟨[.keep, .lend], [.one (.ptr true 122 [.b (.b (.b (.sl false false 5))), .b (.b (.b (.int .i64))), .b (.b (.b (.int .i64)))]), vi], ⟨[vi], [some (.one (.ptr true 122 [.b (.b (.b (.sl false false 5))), .b (.b (.b (.int .i64))), .b (.b (.b (.int .i64)))])), none]⟩, Try.f82⟩
noncomputable def spec_l01Cur_pick.gs (δ : Type) : List (Nat × Callee (GT tab) δ) := []
theorem spec_l01Cur_pick.gok (δ : Type) : AllCon Try.prog tab (spec_l01Cur_pick.gs δ) := .nil
noncomputable def spec_l01Cur_pick.c := cx spec_l01Cur_pick.s [] [] false (spec_l01Cur_pick.gs _)
noncomputable def spec_l01Cur_pick (x0 : (List Int) × Int × Int) (x1 : Int) : Option (Int × ((List Int) × Int × Int)) := fnW spec_l01Cur_pick.s spec_l01Cur_pick.c (x0, x1)
theorem spec_l01Cur_pick.fok : FkS spec_l01Cur_pick.s 82 := ⟨Try.func82, by kernel_rfl, by kernel_rfl⟩
noncomputable def spec_l01Cur_pick.fn (x : Args tab spec_l01Cur_pick.s.ar) : Option (ResT tab spec_l01Cur_pick.s.rs) := spec_l01Cur_pick x.1 x.2
noncomputable abbrev spec_l01Cur_pick.k {δ : Type} : Callee (GT tab) δ := kS spec_l01Cur_pick.s spec_l01Cur_pick.fn
theorem spec_l01Cur_pick.con {δ : Type} : Con Try.prog (KT tab) 82 (spec_l01Cur_pick.k (δ := δ)) := con_shape (c := spec_l01Cur_pick.c) mixed tysOk (getG_con (spec_l01Cur_pick.gok _)) spec_l01Cur_pick.fok rfl rfl fun _ => rfl
theorem spec_l01Cur_pick.eq (x0 : (List Int) × Int × Int) (x1 : Int) : spec_l01Cur_pick x0 x1 =
    bif decide (x1 < (2 : Int)) then
      some ((0 : Int), x0)
    else
      bif decide (x0.2.1 < (x0.1.length : Int)) then
        (at? x0.1 x0.2.1).bind fun y1 =>
        bif decide (x1 = (0 : Int)) then
          none
        else
          some ((IntKind.i64.wrap y1).tmod x1, (x0.1, IntKind.i64.wrap (x0.2.1 + (1 : Int)), x0.2.2))
      else
        bif decide ((x0.1.length : Int) > (0 : Int)) then
          bif decide ((x0.1.length : Int) = (0 : Int)) then
            none
          else
            (at? x0.1 (x0.2.1.tmod (x0.1.length : Int))).bind fun y2 =>
            bif decide (x1 = (0 : Int)) then
              none
            else
              some ((IntKind.i64.wrap ((IntKind.i64.wrap (((IntKind.i64.wrap ((IntKind.i64.wrap (x0.2.2 * (1103 : Int))) + (12345 : Int))).tmod (65521 : Int)).tdiv (7 : Int))) + (IntKind.i64.wrap y2))).tmod x1, (x0.1, IntKind.i64.wrap (x0.2.1 + (1 : Int)), (IntKind.i64.wrap ((IntKind.i64.wrap (x0.2.2 * (1103 : Int))) + (12345 : Int))).tmod (65521 : Int)))
        else
          bif decide (x1 = (0 : Int)) then
            none
          else
            some ((0 : Int).tmod x1, (x0.1, IntKind.i64.wrap (x0.2.1 + (1 : Int)), (IntKind.i64.wrap ((IntKind.i64.wrap (x0.2.2 * (1103 : Int))) + (12345 : Int))).tmod (65521 : Int))) := by kernel_rfl

noncomputable abbrev spec_l01Cur_once.s : Sg := ⟨[.keep, .lend], [.one (.ptr true 122 [.b (.b (.b (.sl false false 5))), .b (.b (.b (.int .i64))), .b (.b (.b (.int .i64)))]), vi], ⟨[vb], [some (.one (.ptr true 122 [.b (.b (.b (.sl false false 5))), .b (.b (.b (.int .i64))), .b (.b (.b (.int .i64)))])), none]⟩, Try.f100⟩
noncomputable def spec_l01Cur_once.gs (δ : Type) : List (Nat × Callee (GT tab) δ) := [(82, spec_l01Cur_pick.k)]
theorem spec_l01Cur_once.gok (δ : Type) : AllCon Try.prog tab (spec_l01Cur_once.gs δ) := .cons spec_l01Cur_pick.con .nil
noncomputable def spec_l01Cur_once.c := cx spec_l01Cur_once.s [] [] false (spec_l01Cur_once.gs _)
noncomputable def spec_l01Cur_once (x0 : (List Int) × Int × Int) (x1 : Int) : Option (Bool × ((List Int) × Int × Int)) := fnW spec_l01Cur_once.s spec_l01Cur_once.c (x0, x1)
theorem spec_l01Cur_once.fok : FkS spec_l01Cur_once.s 100 := ⟨Try.func100, by kernel_rfl, by kernel_rfl⟩
noncomputable def spec_l01Cur_once.fn (x : Args tab spec_l01Cur_once.s.ar) : Option (ResT tab spec_l01Cur_once.s.rs) := spec_l01Cur_once x.1 x.2
noncomputable abbrev spec_l01Cur_once.k {δ : Type} : Callee (GT tab) δ := kS spec_l01Cur_once.s spec_l01Cur_once.fn
theorem spec_l01Cur_once.con {δ : Type} : Con Try.prog (KT tab) 100 (spec_l01Cur_once.k (δ := δ)) := con_shape (c := spec_l01Cur_once.c) mixed tysOk (getG_con (spec_l01Cur_once.gok _)) spec_l01Cur_once.fok rfl rfl fun _ => rfl
theorem spec_l01Cur_once.eq (x0 : (List Int) × Int × Int) (x1 : Int) : spec_l01Cur_once x0 x1 =
    (spec_l01Cur_pick x0 x1).bind fun y1 =>
    some (y1.1 == IntKind.i64.wrap (x1 - (1 : Int)), y1.2) := by kernel_rfl

noncomputable abbrev spec_l01Bool.s : Sg := ⟨[.lend], [vb], ⟨[vi], [none]⟩, Try.f121⟩
noncomputable def spec_l01Bool.gs (δ : Type) : List (Nat × Callee (GT tab) δ) := []
theorem spec_l01Bool.gok (δ : Type) : AllCon Try.prog tab (spec_l01Bool.gs δ) := .nil
noncomputable def spec_l01Bool.c := cx spec_l01Bool.s [] [] false (spec_l01Bool.gs _)
noncomputable def spec_l01Bool (x0 : Bool) : Option (Int) := fnW spec_l01Bool.s spec_l01Bool.c x0
theorem spec_l01Bool.fok : FkS spec_l01Bool.s 121 := ⟨Try.func121, by kernel_rfl, by kernel_rfl⟩
noncomputable def spec_l01Bool.fn (x : Args tab spec_l01Bool.s.ar) : Option (ResT tab spec_l01Bool.s.rs) := spec_l01Bool x
noncomputable abbrev spec_l01Bool.k {δ : Type} : Callee (GT tab) δ := kS spec_l01Bool.s spec_l01Bool.fn
theorem spec_l01Bool.con {δ : Type} : Con Try.prog (KT tab) 121 (spec_l01Bool.k (δ := δ)) := con_shape (c := spec_l01Bool.c) mixed tysOk (getG_con (spec_l01Bool.gok _)) spec_l01Bool.fok rfl rfl fun _ => rfl
theorem spec_l01Bool.eq (x0 : Bool) : spec_l01Bool x0 =
    bif x0 then
      some (1 : Int)
    else
      some (0 : Int) := by kernel_rfl

noncomputable abbrev spec_l01Cur_row.s : Sg := ⟨[.keep], [.one (.ptr true 122 [.b (.b (.b (.sl false false 5))), .b (.b (.b (.int .i64))), .b (.b (.b (.int .i64)))])], ⟨[vo 3], [some (.one (.ptr true 122 [.b (.b (.b (.sl false false 5))), .b (.b (.b (.int .i64))), .b (.b (.b (.int .i64)))]))]⟩, Try.f97⟩
noncomputable def spec_l01Cur_row.gs (δ : Type) : List (Nat × Callee (GT tab) δ) := [(82, spec_l01Cur_pick.k), (100, spec_l01Cur_once.k), (121, spec_l01Bool.k)]
theorem spec_l01Cur_row.gok (δ : Type) : AllCon Try.prog tab (spec_l01Cur_row.gs δ) := .cons spec_l01Cur_pick.con (.cons spec_l01Cur_once.con (.cons spec_l01Bool.con .nil))
noncomputable def spec_l01Cur_row.c := cx spec_l01Cur_row.s [] [(4, [0, 3, 4, 5]), (11, [0, 3])] false (spec_l01Cur_row.gs _)
noncomputable def spec_l01Cur_row (x0 : (List Int) × Int × Int) : Option ((List Int) × ((List Int) × Int × Int)) := fnW spec_l01Cur_row.s spec_l01Cur_row.c x0
theorem spec_l01Cur_row.fok : FkS spec_l01Cur_row.s 97 := ⟨Try.func97, by kernel_rfl, by kernel_rfl⟩
noncomputable def spec_l01Cur_row.fn (x : Args tab spec_l01Cur_row.s.ar) : Option (ResT tab spec_l01Cur_row.s.rs) := spec_l01Cur_row x
noncomputable abbrev spec_l01Cur_row.k {δ : Type} : Callee (GT tab) δ := kS spec_l01Cur_row.s spec_l01Cur_row.fn
theorem spec_l01Cur_row.con {δ : Type} : Con Try.prog (KT tab) 97 (spec_l01Cur_row.k (δ := δ)) := con_shape (c := spec_l01Cur_row.c) mixed tysOk (getG_con (spec_l01Cur_row.gok _)) spec_l01Cur_row.fok rfl rfl fun _ => rfl
noncomputable def spec_l01Cur_row_l0 (v0 v1 : Int) (v2 : List Int) (v3 v4 : Int) (v5 : List Int) : Option ((List Int) × ((List Int) × Int × Int)) := lpW spec_l01Cur_row.s spec_l01Cur_row.c 0 (ud 42 [.ptr 0 0, .undef, .undef, .sl 1 0, .int .i64 v0, .int .i64 v1]) [.box 122 [.vs false 5 v2, .int .i64 v3, .int .i64 v4], .row 0 true 3 v5] 2
noncomputable def spec_l01Cur_row_l1 (v0 : List Int) (v1 v2 : Int) (v3 : List Int) : Option ((List Int) × ((List Int) × Int × Int)) := lpW spec_l01Cur_row.s spec_l01Cur_row.c 1 (ud 44 [.ptr 0 0, .undef, .undef, .sl 1 0]) [.box 122 [.vs false 5 v0, .int .i64 v1, .int .i64 v2], .row 0 true 3 v3] 2
theorem spec_l01Cur_row.eq (x0 : (List Int) × Int × Int) : spec_l01Cur_row x0 =
    (spec_l01Cur_pick x0 (4 : Int)).bind fun y1 =>
    (spec_l01Cur_pick y1.2 (3 : Int)).bind fun y2 =>
    (at? ([(5 : Int), (40 : Int), (140 : Int)] : List Int) y2.1).bind fun y3 =>
    ([(5 : Int), (40 : Int), (140 : Int)] : List Int)[y2.1.toNat]?.bind fun y4 =>
    (spec_l01Cur_pick y2.2 y4).bind fun y5 =>
    spec_l01Cur_row_l0 y1.1 y5.1 y5.2.1 y5.2.2.1 y5.2.2.2 ([] : List Int) := by kernel_rfl
theorem spec_l01Cur_row_l0.eq (v0 v1 : Int) (v2 : List Int) (v3 v4 : Int) (v5 : List Int) : spec_l01Cur_row_l0 v0 v1 v2 v3 v4 v5 =
    bif decide (v1 > (0 : Int)) then
      (spec_l01Cur_pick (v2, v3, v4) (2 : Int)).bind fun y1 =>
      bif v0 == (0 : Int) then
        (spec_l01Cur_once y1.2 (9 : Int)).bind fun y2 =>
        (spec_l01Bool y2.1).bind fun y3 =>
        bif decide ((v5.length + ([y3] : List Int).length) * 8 ≤ 140737488355328) then
          spec_l01Cur_row_l0 v0 (IntKind.i64.wrap (v1 - (1 : Int))) y2.2.1 y2.2.2.1 y2.2.2.2 (v5 ++ ([y3] : List Int))
        else
          none
      else
        bif decide ((v5.length + ([y1.1] : List Int).length) * 8 ≤ 140737488355328) then
          spec_l01Cur_row_l0 v0 (IntKind.i64.wrap (v1 - (1 : Int))) y1.2.1 y1.2.2.1 y1.2.2.2 (v5 ++ ([y1.1] : List Int))
        else
          none
    else
      (spec_l01Cur_once (v2, v3, v4) (60 : Int)).bind fun y4 =>
      bif y4.1 then
        spec_l01Cur_row_l1 y4.2.1 y4.2.2.1 y4.2.2.2 v5
      else
        some (v5, y4.2) := (Lw_eq tysOk (getG_con (spec_l01Cur_row.gok _)) _ _).trans (by kernel_rfl)
theorem spec_l01Cur_row_l1.eq (v0 : List Int) (v1 v2 : Int) (v3 : List Int) : spec_l01Cur_row_l1 v0 v1 v2 v3 =
    (spec_l01Cur_pick (v0, v1, v2) (2 : Int)).bind fun y1 =>
    bif decide ((v3.length : Int) < IntKind.i64.wrap ((5000 : Int) + y1.1)) then
      bif decide ((v3.length + ([IntKind.i64.wrap (((v3.length : Int).tmod (3 : Int)).tdiv (2 : Int))] : List Int).length) * 8 ≤ 140737488355328) then
        spec_l01Cur_row_l1 y1.2.1 y1.2.2.1 y1.2.2.2 (v3 ++ ([IntKind.i64.wrap (((v3.length : Int).tmod (3 : Int)).tdiv (2 : Int))] : List Int))
      else
        none
    else
      some (v3, y1.2) := (Lw_eq tysOk (getG_con (spec_l01Cur_row.gok _)) _ _).trans (by kernel_rfl)

noncomputable abbrev spec_l01Cur_raw.s : Sg := ⟨[.keep], [.one (.ptr true 122 [.b (.b (.b (.sl false false 5))), .b (.b (.b (.int .i64))), .b (.b (.b (.int .i64)))])], ⟨[vi], [some (.one (.ptr true 122 [.b (.b (.b (.sl false false 5))), .b (.b (.b (.int .i64))), .b (.b (.b (.int .i64)))]))]⟩, Try.f83⟩
noncomputable def spec_l01Cur_raw.gs (δ : Type) : List (Nat × Callee (GT tab) δ) := [(82, spec_l01Cur_pick.k)]
theorem spec_l01Cur_raw.gok (δ : Type) : AllCon Try.prog tab (spec_l01Cur_raw.gs δ) := .cons spec_l01Cur_pick.con .nil
noncomputable def spec_l01Cur_raw.c := cx spec_l01Cur_raw.s [] [] false (spec_l01Cur_raw.gs _)
noncomputable def spec_l01Cur_raw (x0 : (List Int) × Int × Int) : Option (Int × ((List Int) × Int × Int)) := fnW spec_l01Cur_raw.s spec_l01Cur_raw.c x0
theorem spec_l01Cur_raw.fok : FkS spec_l01Cur_raw.s 83 := ⟨Try.func83, by kernel_rfl, by kernel_rfl⟩
noncomputable def spec_l01Cur_raw.fn (x : Args tab spec_l01Cur_raw.s.ar) : Option (ResT tab spec_l01Cur_raw.s.rs) := spec_l01Cur_raw x
noncomputable abbrev spec_l01Cur_raw.k {δ : Type} : Callee (GT tab) δ := kS spec_l01Cur_raw.s spec_l01Cur_raw.fn
theorem spec_l01Cur_raw.con {δ : Type} : Con Try.prog (KT tab) 83 (spec_l01Cur_raw.k (δ := δ)) := con_shape (c := spec_l01Cur_raw.c) mixed tysOk (getG_con (spec_l01Cur_raw.gok _)) spec_l01Cur_raw.fok rfl rfl fun _ => rfl
theorem spec_l01Cur_raw.eq (x0 : (List Int) × Int × Int) : spec_l01Cur_raw x0 =
    (spec_l01Cur_pick x0 (8 : Int)).bind fun y1 =>
    bif y1.1 == (0 : Int) then
      (spec_l01Cur_pick y1.2 (256 : Int)).bind fun y2 =>
      some (IntKind.i64.wrap (y2.1 - (128 : Int)), y2.2)
    else
      bif y1.1 == (1 : Int) then
        (spec_l01Cur_pick y1.2 (8 : Int)).bind fun y3 =>
        (at? ([(9223372036854775807 : Int), (-9223372036854775808 : Int), (4611686018427387904 : Int), (4294967295 : Int), (4294967296 : Int), (-1000 : Int), (1000 : Int), (257 : Int)] : List Int) y3.1).bind fun y4 =>
        ([(9223372036854775807 : Int), (-9223372036854775808 : Int), (4611686018427387904 : Int), (4294967295 : Int), (4294967296 : Int), (-1000 : Int), (1000 : Int), (257 : Int)] : List Int)[y3.1.toNat]?.bind fun y5 =>
        some (y5, y3.2)
      else
        (spec_l01Cur_pick y1.2 (14 : Int)).bind fun y6 =>
        some (IntKind.i64.wrap (y6.1 - (3 : Int)), y6.2) := by kernel_rfl

noncomputable abbrev spec_l01Cur_badBits.s : Sg := ⟨[.keep], [.one (.ptr true 122 [.b (.b (.b (.sl false false 5))), .b (.b (.b (.int .i64))), .b (.b (.b (.int .i64)))])], ⟨[.agg [.int .i64, .sl true true 94]], [some (.one (.ptr true 122 [.b (.b (.b (.sl false false 5))), .b (.b (.b (.int .i64))), .b (.b (.b (.int .i64)))]))]⟩, Try.f53⟩
noncomputable def spec_l01Cur_badBits.gs (δ : Type) : List (Nat × Callee (GT tab) δ) := [(56, spec_BitsOf.k), (82, spec_l01Cur_pick.k), (83, spec_l01Cur_raw.k), (97, spec_l01Cur_row.k)]
theorem spec_l01Cur_badBits.gok (δ : Type) : AllCon Try.prog tab (spec_l01Cur_badBits.gs δ) := .cons spec_BitsOf.con (.cons spec_l01Cur_pick.con (.cons spec_l01Cur_raw.con (.cons spec_l01Cur_row.con .nil)))
noncomputable def spec_l01Cur_badBits.c := cx spec_l01Cur_badBits.s [] [] false (spec_l01Cur_badBits.gs _)
noncomputable def spec_l01Cur_badBits (x0 : (List Int) × Int × Int) : Option ((Int × (List Int)) × ((List Int) × Int × Int)) := fnW spec_l01Cur_badBits.s spec_l01Cur_badBits.c x0
theorem spec_l01Cur_badBits.fok : FkS spec_l01Cur_badBits.s 53 := ⟨Try.func53, by kernel_rfl, by kernel_rfl⟩
noncomputable def spec_l01Cur_badBits.fn (x : Args tab spec_l01Cur_badBits.s.ar) : Option (ResT tab spec_l01Cur_badBits.s.rs) := spec_l01Cur_badBits x
noncomputable abbrev spec_l01Cur_badBits.k {δ : Type} : Callee (GT tab) δ := kS spec_l01Cur_badBits.s spec_l01Cur_badBits.fn
theorem spec_l01Cur_badBits.con {δ : Type} : Con Try.prog (KT tab) 53 (spec_l01Cur_badBits.k (δ := δ)) := con_shape (c := spec_l01Cur_badBits.c) mixed tysOk (getG_con (spec_l01Cur_badBits.gok _)) spec_l01Cur_badBits.fok rfl rfl fun _ => rfl
theorem spec_l01Cur_badBits.eq (x0 : (List Int) × Int × Int) : spec_l01Cur_badBits x0 =
    (spec_l01Cur_row x0).bind fun y1 =>
    (spec_BitsOf y1.1).bind fun y2 =>
    (spec_l01Cur_pick y1.2 (14 : Int)).bind fun y3 =>
    bif y3.1 == (0 : Int) then
      (spec_l01Cur_raw y3.2).bind fun y4 =>
      (spec_l01Cur_pick y4.2 (3 : Int)).bind fun y5 =>
      (at? ([y4.1, IntKind.i64.wrap (y2.1.1 + (1 : Int)), IntKind.i64.wrap (y2.1.1 - (1 : Int))] : List Int) y5.1).bind fun y6 =>
      ([y4.1, IntKind.i64.wrap (y2.1.1 + (1 : Int)), IntKind.i64.wrap (y2.1.1 - (1 : Int))] : List Int)[y5.1.toNat]?.bind fun y7 =>
      some ((y7, y2.1.2), y5.2)
    else
      bif y3.1 == (1 : Int) then
        (spec_l01Cur_pick y3.2 (2 : Int)).bind fun y8 =>
        bif decide ((y2.1.2.length + ([IntKind.u64.wrap y8.1] : List Int).length) * 8 ≤ 140737488355328) then
          some ((y2.1.1, y2.1.2 ++ ([IntKind.u64.wrap y8.1] : List Int)), y8.2)
        else
          none
      else
        bif y3.1 == (2 : Int) then
          bif decide ((y2.1.2.length : Int) > (0 : Int)) then
            (spec_l01Cur_pick y3.2 (y2.1.2.length : Int)).bind fun y9 =>
            (at? y2.1.2 y9.1).bind fun y10 =>
            y2.1.2[y9.1.toNat]?.bind fun y11 =>
            some ((y2.1.1, y2.1.2.set y9.1.toNat (18446744073709551615 : Int)), y9.2)
          else
            some (y2.1, y3.2)
        else
          some (y2.1, y3.2) := by kernel_rfl

noncomputable abbrev spec_l01Cur_size.s : Sg := ⟨[.keep, .lend], [.one (.ptr true 122 [.b (.b (.b (.sl false false 5))), .b (.b (.b (.int .i64))), .b (.b (.b (.int .i64)))]), vi], ⟨[vi], [some (.one (.ptr true 122 [.b (.b (.b (.sl false false 5))), .b (.b (.b (.int .i64))), .b (.b (.b (.int .i64)))])), none]⟩, Try.f122⟩
noncomputable def spec_l01Cur_size.gs (δ : Type) : List (Nat × Callee (GT tab) δ) := [(82, spec_l01Cur_pick.k)]
theorem spec_l01Cur_size.gok (δ : Type) : AllCon Try.prog tab (spec_l01Cur_size.gs δ) := .cons spec_l01Cur_pick.con .nil
noncomputable def spec_l01Cur_size.c := cx spec_l01Cur_size.s [] [] false (spec_l01Cur_size.gs _)
noncomputable def spec_l01Cur_size (x0 : (List Int) × Int × Int) (x1 : Int) : Option (Int × ((List Int) × Int × Int)) := fnW spec_l01Cur_size.s spec_l01Cur_size.c (x0, x1)
theorem spec_l01Cur_size.fok : FkS spec_l01Cur_size.s 122 := ⟨Try.func122, by kernel_rfl, by kernel_rfl⟩
noncomputable def spec_l01Cur_size.fn (x : Args tab spec_l01Cur_size.s.ar) : Option (ResT tab spec_l01Cur_size.s.rs) := spec_l01Cur_size x.1 x.2
noncomputable abbrev spec_l01Cur_size.k {δ : Type} : Callee (GT tab) δ := kS spec_l01Cur_size.s spec_l01Cur_size.fn
theorem spec_l01Cur_size.con {δ : Type} : Con Try.prog (KT tab) 122 (spec_l01Cur_size.k (δ := δ)) := con_shape (c := spec_l01Cur_size.c) mixed tysOk (getG_con (spec_l01Cur_size.gok _)) spec_l01Cur_size.fok rfl rfl fun _ => rfl
theorem spec_l01Cur_size.eq (x0 : (List Int) × Int × Int) (x1 : Int) : spec_l01Cur_size x0 x1 =
    (spec_l01Cur_pick x0 (IntKind.i64.wrap ((if IntKind.i64.wrap ((1 : Int) + (IntKind.i64.wrap ((x0.1.length : Int).tdiv (8 : Int)))) < x1 then IntKind.i64.wrap ((1 : Int) + (IntKind.i64.wrap ((x0.1.length : Int).tdiv (8 : Int)))) else x1) + (1 : Int)))).bind fun y1 =>
    some (y1.1, y1.2) := by kernel_rfl

noncomputable abbrev spec_l01Cur_wide.s : Sg := ⟨[.keep, .lend], [.one (.ptr true 122 [.b (.b (.b (.sl false false 5))), .b (.b (.b (.int .i64))), .b (.b (.b (.int .i64)))]), vi], ⟨[vi], [some (.one (.ptr true 122 [.b (.b (.b (.sl false false 5))), .b (.b (.b (.int .i64))), .b (.b (.b (.int .i64)))])), none]⟩, Try.f123⟩
noncomputable def spec_l01Cur_wide.gs (δ : Type) : List (Nat × Callee (GT tab) δ) := [(82, spec_l01Cur_pick.k)]
theorem spec_l01Cur_wide.gok (δ : Type) : AllCon Try.prog tab (spec_l01Cur_wide.gs δ) := .cons spec_l01Cur_pick.con .nil
noncomputable def spec_l01Cur_wide.c := cx spec_l01Cur_wide.s [] [] false (spec_l01Cur_wide.gs _)
noncomputable def spec_l01Cur_wide (x0 : (List Int) × Int × Int) (x1 : Int) : Option (Int × ((List Int) × Int × Int)) := fnW spec_l01Cur_wide.s spec_l01Cur_wide.c (x0, x1)
theorem spec_l01Cur_wide.fok : FkS spec_l01Cur_wide.s 123 := ⟨Try.func123, by kernel_rfl, by kernel_rfl⟩
noncomputable def spec_l01Cur_wide.fn (x : Args tab spec_l01Cur_wide.s.ar) : Option (ResT tab spec_l01Cur_wide.s.rs) := spec_l01Cur_wide x.1 x.2
noncomputable abbrev spec_l01Cur_wide.k {δ : Type} : Callee (GT tab) δ := kS spec_l01Cur_wide.s spec_l01Cur_wide.fn
theorem spec_l01Cur_wide.con {δ : Type} : Con Try.prog (KT tab) 123 (spec_l01Cur_wide.k (δ := δ)) := con_shape (c := spec_l01Cur_wide.c) mixed tysOk (getG_con (spec_l01Cur_wide.gok _)) spec_l01Cur_wide.fok rfl rfl fun _ => rfl
theorem spec_l01Cur_wide.eq (x0 : (List Int) × Int × Int) (x1 : Int) : spec_l01Cur_wide x0 x1 =
    (spec_l01Cur_pick x0 (256 : Int)).bind fun y1 =>
    (spec_l01Cur_pick y1.2 (256 : Int)).bind fun y2 =>
    (spec_l01Cur_pick y2.2 (256 : Int)).bind fun y3 =>
    bif decide (x1 = (0 : Int)) then
      none
    else
      some ((IntKind.i64.wrap ((IntKind.i64.wrap ((IntKind.i64.wrap ((65536 : Int) * y1.1)) + (IntKind.i64.wrap ((256 : Int) * y2.1)))) + y3.1)).tmod x1, y3.2) := by kernel_rfl

noncomputable abbrev spec_l01Cur_numbers.s : Sg := ⟨[.keep, .lend, .lend], [.one (.ptr true 122 [.b (.b (.b (.sl false false 5))), .b (.b (.b (.int .i64))), .b (.b (.b (.int .i64)))]), vi, vi], ⟨[vo 3], [some (.one (.ptr true 122 [.b (.b (.b (.sl false false 5))), .b (.b (.b (.int .i64))), .b (.b (.b (.int .i64)))])), none, none]⟩, Try.f99⟩
noncomputable def spec_l01Cur_numbers.gs (δ : Type) : List (Nat × Callee (GT tab) δ) := [(122, spec_l01Cur_size.k), (123, spec_l01Cur_wide.k)]
theorem spec_l01Cur_numbers.gok (δ : Type) : AllCon Try.prog tab (spec_l01Cur_numbers.gs δ) := .cons spec_l01Cur_size.con (.cons spec_l01Cur_wide.con .nil)
noncomputable def spec_l01Cur_numbers.c := cx spec_l01Cur_numbers.s [] [(3, [0, 2, 7, 8])] false (spec_l01Cur_numbers.gs _)
noncomputable def spec_l01Cur_numbers (x0 : (List Int) × Int × Int) (x1 x2 : Int) : Option ((List Int) × ((List Int) × Int × Int)) := fnW spec_l01Cur_numbers.s spec_l01Cur_numbers.c (x0, x1, x2)
theorem spec_l01Cur_numbers.fok : FkS spec_l01Cur_numbers.s 99 := ⟨Try.func99, by kernel_rfl, by kernel_rfl⟩
noncomputable def spec_l01Cur_numbers.fn (x : Args tab spec_l01Cur_numbers.s.ar) : Option (ResT tab spec_l01Cur_numbers.s.rs) := spec_l01Cur_numbers x.1 x.2.1 x.2.2
noncomputable abbrev spec_l01Cur_numbers.k {δ : Type} : Callee (GT tab) δ := kS spec_l01Cur_numbers.s spec_l01Cur_numbers.fn
theorem spec_l01Cur_numbers.con {δ : Type} : Con Try.prog (KT tab) 99 (spec_l01Cur_numbers.k (δ := δ)) := con_shape (c := spec_l01Cur_numbers.c) mixed tysOk (getG_con (spec_l01Cur_numbers.gok _)) spec_l01Cur_numbers.fok rfl rfl fun _ => rfl
noncomputable def spec_l01Cur_numbers_l0 (v0 v1 : Int) (v2 : List Int) (v3 v4 : Int) (v5 : List Int) : Option ((List Int) × ((List Int) × Int × Int)) := lpW spec_l01Cur_numbers.s spec_l01Cur_numbers.c 0 (ud 16 [.ptr 0 0, .undef, .int .i64 v0, .undef, .undef, .undef, .undef, .sl 1 0, .int .i64 v1]) [.box 122 [.vs false 5 v2, .int .i64 v3, .int .i64 v4], .row 0 true 3 v5] 2
theorem spec_l01Cur_numbers.eq (x0 : (List Int) × Int × Int) (x1 x2 : Int) : spec_l01Cur_numbers x0 x1 x2 =
    (spec_l01Cur_size x0 x1).bind fun y1 =>
    spec_l01Cur_numbers_l0 x2 y1.1 y1.2.1 y1.2.2.1 y1.2.2.2 ([] : List Int) := by kernel_rfl
theorem spec_l01Cur_numbers_l0.eq (v0 v1 : Int) (v2 : List Int) (v3 v4 : Int) (v5 : List Int) : spec_l01Cur_numbers_l0 v0 v1 v2 v3 v4 v5 =
    bif decide (v1 > (0 : Int)) then
      (spec_l01Cur_wide (v2, v3, v4) (if v0 > (1 : Int) then v0 else (1 : Int))).bind fun y1 =>
      bif decide ((v5.length + ([y1.1] : List Int).length) * 8 ≤ 140737488355328) then
        spec_l01Cur_numbers_l0 v0 (IntKind.i64.wrap (v1 - (1 : Int))) y1.2.1 y1.2.2.1 y1.2.2.2 (v5 ++ ([y1.1] : List Int))
      else
        none
    else
      some (v5, (v2, v3, v4)) := (Lw_eq tysOk (getG_con (spec_l01Cur_numbers.gok _)) _ _).trans (by kernel_rfl)

noncomputable abbrev spec_l01Cur_textOf.s : Sg := ⟨[.keep, .lend], [.one (.ptr true 122 [.b (.b (.b (.sl false false 5))), .b (.b (.b (.int .i64))), .b (.b (.b (.int .i64)))]), vi], ⟨[vo 5], [some (.one (.ptr true 122 [.b (.b (.b (.sl false false 5))), .b (.b (.b (.int .i64))), .b (.b (.b (.int .i64)))])), none]⟩, Try.f102⟩
noncomputable def spec_l01Cur_textOf.gs (δ : Type) : List (Nat × Callee (GT tab) δ) := [(82, spec_l01Cur_pick.k), (100, spec_l01Cur_once.k), (122, spec_l01Cur_size.k)]
theorem spec_l01Cur_textOf.gok (δ : Type) : AllCon Try.prog tab (spec_l01Cur_textOf.gs δ) := .cons spec_l01Cur_pick.con (.cons spec_l01Cur_once.con (.cons spec_l01Cur_size.con .nil))
noncomputable def spec_l01Cur_textOf.c := cx spec_l01Cur_textOf.s [] [(4, [0, 1, 5, 6, 7])] false (spec_l01Cur_textOf.gs _)
noncomputable def spec_l01Cur_textOf (x0 : (List Int) × Int × Int) (x1 : Int) : Option ((List Int) × ((List Int) × Int × Int)) := fnW spec_l01Cur_textOf.s spec_l01Cur_textOf.c (x0, x1)
theorem spec_l01Cur_textOf.fok : FkS spec_l01Cur_textOf.s 102 := ⟨Try.func102, by kernel_rfl, by kernel_rfl⟩
noncomputable def spec_l01Cur_textOf.fn (x : Args tab spec_l01Cur_textOf.s.ar) : Option (ResT tab spec_l01Cur_textOf.s.rs) := spec_l01Cur_textOf x.1 x.2
noncomputable abbrev spec_l01Cur_textOf.k {δ : Type} : Callee (GT tab) δ := kS spec_l01Cur_textOf.s spec_l01Cur_textOf.fn
theorem spec_l01Cur_textOf.con {δ : Type} : Con Try.prog (KT tab) 102 (spec_l01Cur_textOf.k (δ := δ)) := con_shape (c := spec_l01Cur_textOf.c) mixed tysOk (getG_con (spec_l01Cur_textOf.gok _)) spec_l01Cur_textOf.fok rfl rfl fun _ => rfl
noncomputable def spec_l01Cur_textOf_l0 (v0 : Int) (v1 : ByteArray) (v2 : Int) (v3 : List Int) (v4 v5 : Int) (v6 : List Int) : Option ((List Int) × ((List Int) × Int × Int)) := lpW spec_l01Cur_textOf.s spec_l01Cur_textOf.c 0 (ud 55 [.ptr 0 0, .int .i64 v0, .undef, .undef, .undef, .sl 1 0, .str v1, .int .i64 v2]) [.box 122 [.vs false 5 v3, .int .i64 v4, .int .i64 v5], .row 0 true 5 v6] 2
theorem spec_l01Cur_textOf.eq (x0 : (List Int) × Int × Int) (x1 : Int) : spec_l01Cur_textOf x0 x1 =
    (spec_l01Cur_pick x0 (5 : Int)).bind fun y1 =>
    (at? ([(⟨#[97]⟩ : ByteArray), (⟨#[97, 98]⟩ : ByteArray), (⟨#[97, 98, 99]⟩ : ByteArray), (⟨#[97, 99, 103, 116]⟩ : ByteArray), (⟨#[0, 255]⟩ : ByteArray)] : List ByteArray) y1.1).bind fun y2 =>
    ([(⟨#[97]⟩ : ByteArray), (⟨#[97, 98]⟩ : ByteArray), (⟨#[97, 98, 99]⟩ : ByteArray), (⟨#[97, 99, 103, 116]⟩ : ByteArray), (⟨#[0, 255]⟩ : ByteArray)] : List ByteArray)[y1.1.toNat]?.bind fun y3 =>
    (spec_l01Cur_size y1.2 x1).bind fun y4 =>
    spec_l01Cur_textOf_l0 x1 y3 y4.1 y4.2.1 y4.2.2.1 y4.2.2.2 ([] : List Int) := by kernel_rfl
theorem spec_l01Cur_textOf_l0.eq (v0 : Int) (v1 : ByteArray) (v2 : Int) (v3 : List Int) (v4 v5 : Int) (v6 : List Int) : spec_l01Cur_textOf_l0 v0 v1 v2 v3 v4 v5 v6 =
    bif decide (v2 > (0 : Int)) then
      bif decide ((v6.length : Int) > (3 : Int)) then
        (spec_l01Cur_once (v3, v4, v5) (6 : Int)).bind fun y1 =>
        bif y1.1 then
          (spec_l01Cur_pick y1.2 (v6.length : Int)).bind fun y2 =>
          (spec_l01Cur_pick y2.2 (6 : Int)).bind fun y3 =>
          bif decide (0 ≤ (if IntKind.i64.wrap ((IntKind.i64.wrap (y2.1 + (1 : Int))) + y3.1) < (v6.length : Int) then IntKind.i64.wrap ((IntKind.i64.wrap (y2.1 + (1 : Int))) + y3.1) else (v6.length : Int)) ∧ (if IntKind.i64.wrap ((IntKind.i64.wrap (y2.1 + (1 : Int))) + y3.1) < (v6.length : Int) then IntKind.i64.wrap ((IntKind.i64.wrap (y2.1 + (1 : Int))) + y3.1) else (v6.length : Int)) ≤ ((v6.length : Nat) : Int)) then
            bif decide (0 ≤ y2.1 ∧ y2.1 ≤ (((if IntKind.i64.wrap ((IntKind.i64.wrap (y2.1 + (1 : Int))) + y3.1) < (v6.length : Int) then IntKind.i64.wrap ((IntKind.i64.wrap (y2.1 + (1 : Int))) + y3.1) else (v6.length : Int)).toNat : Nat) : Int)) then
              bif decide ((v6.length + ((v6.drop y2.1.toNat).take (((if IntKind.i64.wrap ((IntKind.i64.wrap (y2.1 + (1 : Int))) + y3.1) < (v6.length : Int) then IntKind.i64.wrap ((IntKind.i64.wrap (y2.1 + (1 : Int))) + y3.1) else (v6.length : Int)).toNat) - y2.1.toNat)).length) * 1 ≤ 140737488355328) then
                spec_l01Cur_textOf_l0 v0 v1 (IntKind.i64.wrap (v2 - (1 : Int))) y3.2.1 y3.2.2.1 y3.2.2.2 (v6 ++ ((v6.drop y2.1.toNat).take (((if IntKind.i64.wrap ((IntKind.i64.wrap (y2.1 + (1 : Int))) + y3.1) < (v6.length : Int) then IntKind.i64.wrap ((IntKind.i64.wrap (y2.1 + (1 : Int))) + y3.1) else (v6.length : Int)).toNat) - y2.1.toNat)))
              else
                none
            else
              none
          else
            none
        else
          (spec_l01Cur_pick y1.2 (v1.size : Int)).bind fun y4 =>
          (at? v1.data.toList y4.1).bind fun y5 =>
          bif decide ((v6.length + ([(y5.toNat : Int)] : List Int).length) * 1 ≤ 140737488355328) then
            spec_l01Cur_textOf_l0 v0 v1 (IntKind.i64.wrap (v2 - (1 : Int))) y4.2.1 y4.2.2.1 y4.2.2.2 (v6 ++ ([(y5.toNat : Int)] : List Int))
          else
            none
      else
        (spec_l01Cur_pick (v3, v4, v5) (v1.size : Int)).bind fun y6 =>
        (at? v1.data.toList y6.1).bind fun y7 =>
        bif decide ((v6.length + ([(y7.toNat : Int)] : List Int).length) * 1 ≤ 140737488355328) then
          spec_l01Cur_textOf_l0 v0 v1 (IntKind.i64.wrap (v2 - (1 : Int))) y6.2.1 y6.2.2.1 y6.2.2.2 (v6 ++ ([(y7.toNat : Int)] : List Int))
        else
          none
    else
      bif decide ((v6.length : Int) > v0) then
        bif decide (0 ≤ v0 ∧ v0 ≤ ((v6.length : Nat) : Int)) then
          some (v6.take (v0.toNat - 0), (v3, v4, v5))
        else
          none
      else
        some (v6, (v3, v4, v5)) := (Lw_eq tysOk (getG_con (spec_l01Cur_textOf.gok _)) _ _).trans (by kernel_rfl)

noncomputable abbrev spec_TextOk.s : Sg := ⟨[.lend], [vl 5], ⟨[vb], [none]⟩, Try.f135⟩
noncomputable def spec_TextOk.gs (δ : Type) : List (Nat × Callee (GT tab) δ) := []
theorem spec_TextOk.gok (δ : Type) : AllCon Try.prog tab (spec_TextOk.gs δ) := .nil
noncomputable def spec_TextOk.c := cx spec_TextOk.s [] [] false (spec_TextOk.gs _)
noncomputable def spec_TextOk (x0 : List Int) : Option (Bool) := fnW spec_TextOk.s spec_TextOk.c x0
theorem spec_TextOk.fok : FkS spec_TextOk.s 135 := ⟨Try.func135, by kernel_rfl, by kernel_rfl⟩
noncomputable def spec_TextOk.fn (x : Args tab spec_TextOk.s.ar) : Option (ResT tab spec_TextOk.s.rs) := spec_TextOk x
noncomputable abbrev spec_TextOk.k {δ : Type} : Callee (GT tab) δ := kS spec_TextOk.s spec_TextOk.fn
theorem spec_TextOk.con {δ : Type} : Con Try.prog (KT tab) 135 (spec_TextOk.k (δ := δ)) := con_shape (c := spec_TextOk.c) mixed tysOk (getG_con (spec_TextOk.gok _)) spec_TextOk.fok rfl rfl fun _ => rfl
theorem spec_TextOk.eq (x0 : List Int) : spec_TextOk x0 =
    some (decide ((x0.length : Int) ≤ (300 : Int))) := by kernel_rfl

noncomputable abbrev spec_l05Cmp.s : Sg := ⟨[.lend, .lend], [vl 5, vl 5], ⟨[vi], [none, none]⟩, Try.f136⟩
noncomputable def spec_l05Cmp.gs (δ : Type) : List (Nat × Callee (GT tab) δ) := []
theorem spec_l05Cmp.gok (δ : Type) : AllCon Try.prog tab (spec_l05Cmp.gs δ) := .nil
noncomputable def spec_l05Cmp.c := cx spec_l05Cmp.s [4] [(2, [0, 1, 5]), (4, [0, 1, 5])] false (spec_l05Cmp.gs _)
noncomputable def spec_l05Cmp (x0 x1 : List Int) : Option (Int) := fnW spec_l05Cmp.s spec_l05Cmp.c (x0, x1)
theorem spec_l05Cmp.fok : FkS spec_l05Cmp.s 136 := ⟨Try.func136, by kernel_rfl, by kernel_rfl⟩
noncomputable def spec_l05Cmp.fn (x : Args tab spec_l05Cmp.s.ar) : Option (ResT tab spec_l05Cmp.s.rs) := spec_l05Cmp x.1 x.2
noncomputable abbrev spec_l05Cmp.k {δ : Type} : Callee (GT tab) δ := kS spec_l05Cmp.s spec_l05Cmp.fn
theorem spec_l05Cmp.con {δ : Type} : Con Try.prog (KT tab) 136 (spec_l05Cmp.k (δ := δ)) := con_shape (c := spec_l05Cmp.c) mixed tysOk (getG_con (spec_l05Cmp.gok _)) spec_l05Cmp.fok rfl rfl fun _ => rfl
noncomputable def spec_l05Cmp_l0 (v0 v1 : List Int) (v2 : Int) : Option (Int) := lpW spec_l05Cmp.s spec_l05Cmp.c 0 (ud 40 [.vs false 5 v0, .vs false 5 v1, .undef, .undef, .undef, .int .i64 v2]) [] 0
noncomputable def spec_l05Cmp_l1 (v0 v1 : List Int) (v2 : Int) : Option (Int) := lpW spec_l05Cmp.s spec_l05Cmp.c 1 (ud 40 [.vs false 5 v0, .vs false 5 v1, .undef, .undef, .undef, .int .i64 v2]) [] 0
theorem spec_l05Cmp.eq (x0 x1 : List Int) : spec_l05Cmp x0 x1 =
    spec_l05Cmp_l0 x0 x1 (0 : Int) := by kernel_rfl
theorem spec_l05Cmp_l0.eq (v0 v1 : List Int) (v2 : Int) : spec_l05Cmp_l0 v0 v1 v2 =
    bif decide (v2 < (v0.length : Int)) then
      bif decide (v2 < (v1.length : Int)) then
        spec_l05Cmp_l1 v0 v1 v2
      else
        bif decide ((v0.length : Int) < (v1.length : Int)) then
          some (-1 : Int)
        else
          bif decide ((v0.length : Int) > (v1.length : Int)) then
            some (1 : Int)
          else
            some (0 : Int)
    else
      bif decide ((v0.length : Int) < (v1.length : Int)) then
        some (-1 : Int)
      else
        bif decide ((v0.length : Int) > (v1.length : Int)) then
          some (1 : Int)
        else
          some (0 : Int) := (Lw_eq tysOk (getG_con (spec_l05Cmp.gok _)) _ _).trans (by kernel_rfl)
theorem spec_l05Cmp_l1.eq (v0 v1 : List Int) (v2 : Int) : spec_l05Cmp_l1 v0 v1 v2 =
    (at? v0 v2).bind fun y1 =>
    (at? v1 v2).bind fun y2 =>
    bif decide (y1 < y2) then
      some (-1 : Int)
    else
      (at? v0 v2).bind fun y3 =>
      (at? v1 v2).bind fun y4 =>
      bif decide (y3 > y4) then
        some (1 : Int)
      else
        spec_l05Cmp_l0 v0 v1 (IntKind.i64.wrap (v2 + (1 : Int))) := (Lw_eq tysOk (getG_con (spec_l05Cmp.gok _)) _ _).trans (by kernel_rfl)

noncomputable abbrev spec_SuffixRows.s : Sg := ⟨[.lend], [vl 5], ⟨[vo 3], [none]⟩, Try.f124⟩
noncomputable def spec_SuffixRows.gs (δ : Type) : List (Nat × Callee (GT tab) δ) := [(135, spec_TextOk.k), (136, spec_l05Cmp.k)]
theorem spec_SuffixRows.gok (δ : Type) : AllCon Try.prog tab (spec_SuffixRows.gs δ) := .cons spec_TextOk.con (.cons spec_l05Cmp.con .nil)
noncomputable def spec_SuffixRows.c := cx spec_SuffixRows.s [] [(5, [0, 3, 4]), (9, [0, 3, 4, 5, 6])] false (spec_SuffixRows.gs _)
noncomputable def spec_SuffixRows (x0 : List Int) : Option (List Int) := fnW spec_SuffixRows.s spec_SuffixRows.c x0
theorem spec_SuffixRows.fok : FkS spec_SuffixRows.s 124 := ⟨Try.func124, by kernel_rfl, by kernel_rfl⟩
noncomputable def spec_SuffixRows.fn (x : Args tab spec_SuffixRows.s.ar) : Option (ResT tab spec_SuffixRows.s.rs) := spec_SuffixRows x
noncomputable abbrev spec_SuffixRows.k {δ : Type} : Callee (GT tab) δ := kS spec_SuffixRows.s spec_SuffixRows.fn
theorem spec_SuffixRows.con {δ : Type} : Con Try.prog (KT tab) 124 (spec_SuffixRows.k (δ := δ)) := con_shape (c := spec_SuffixRows.c) mixed tysOk (getG_con (spec_SuffixRows.gok _)) spec_SuffixRows.fok rfl rfl fun _ => rfl
noncomputable def spec_SuffixRows_l0 (v0 : List Int) (v1 : Int) (v2 : List Int) : Option (List Int) := lpW spec_SuffixRows.s spec_SuffixRows.c 0 (ud 51 [.vs false 5 v0, .undef, .undef, .sl 0 0, .int .i64 v1]) [.row 0 true 3 v2] 1
noncomputable def spec_SuffixRows_l1 (v0 : List Int) (v1 v2 v3 : Int) (v4 : List Int) : Option (List Int) := lpW spec_SuffixRows.s spec_SuffixRows.c 1 (ud 49 [.vs false 5 v0, .undef, .undef, .sl 0 0, .int .i64 v1, .int .i64 v2, .int .i64 v3]) [.row 0 true 3 v4] 1
theorem spec_SuffixRows.eq (x0 : List Int) : spec_SuffixRows x0 =
    (spec_TextOk x0).bind fun y1 =>
    bif !y1 then
      some ([] : List Int)
    else
      spec_SuffixRows_l0 x0 (x0.length : Int) ([] : List Int) := by kernel_rfl
theorem spec_SuffixRows_l0.eq (v0 : List Int) (v1 : Int) (v2 : List Int) : spec_SuffixRows_l0 v0 v1 v2 =
    bif decide (v1 ≥ (0 : Int)) then
      spec_SuffixRows_l1 v0 v1 (0 : Int) (v2.length : Int) v2
    else
      some v2 := (Lw_eq tysOk (getG_con (spec_SuffixRows.gok _)) _ _).trans (by kernel_rfl)
theorem spec_SuffixRows_l1.eq (v0 : List Int) (v1 v2 v3 : Int) (v4 : List Int) : spec_SuffixRows_l1 v0 v1 v2 v3 v4 =
    bif decide (v2 < v3) then
      (at? v4 (IntKind.i64.wrap ((IntKind.i64.wrap (v2 + v3)).tdiv (2 : Int)))).bind fun y1 =>
      v4[(IntKind.i64.wrap ((IntKind.i64.wrap (v2 + v3)).tdiv (2 : Int))).toNat]?.bind fun y2 =>
      bif decide (0 ≤ y2 ∧ y2 ≤ ((v0.length : Nat) : Int)) then
        bif decide (0 ≤ v1 ∧ v1 ≤ ((v0.length : Nat) : Int)) then
          (spec_l05Cmp ((v0.take v0.length).drop y2.toNat) ((v0.take v0.length).drop v1.toNat)).bind fun y3 =>
          bif decide (y3 < (0 : Int)) then
            spec_SuffixRows_l1 v0 v1 (IntKind.i64.wrap ((IntKind.i64.wrap ((IntKind.i64.wrap (v2 + v3)).tdiv (2 : Int))) + (1 : Int))) v3 v4
          else
            spec_SuffixRows_l1 v0 v1 v2 (IntKind.i64.wrap ((IntKind.i64.wrap (v2 + v3)).tdiv (2 : Int))) v4
        else
          none
      else
        none
    else
      bif decide (0 ≤ v2 ∧ v2 ≤ ((v4.length : Nat) : Int)) then
        bif decide ((([v1] : List Int).length + ((v4.drop v2.toNat).take (v4.length - v2.toNat)).length) * 8 ≤ 140737488355328) then
          bif decide (0 ≤ v2 ∧ v2 ≤ ((v4.length : Nat) : Int)) then
            bif decide ((([] : List Int).length + ((v4.drop 0).take (v2.toNat - 0)).length) * 8 ≤ 140737488355328) then
              bif decide (((([] : List Int) ++ ((v4.drop 0).take (v2.toNat - 0))).length + (([v1] : List Int) ++ ((v4.drop v2.toNat).take (v4.length - v2.toNat))).length) * 8 ≤ 140737488355328) then
                spec_SuffixRows_l0 v0 (IntKind.i64.wrap (v1 - (1 : Int))) ((([] : List Int) ++ ((v4.drop 0).take (v2.toNat - 0))) ++ (([v1] : List Int) ++ ((v4.drop v2.toNat).take (v4.length - v2.toNat))))
              else
                none
            else
              none
          else
            none
        else
          none
      else
        none := (Lw_eq tysOk (getG_con (spec_SuffixRows.gok _)) _ _).trans (by kernel_rfl)

noncomputable abbrev spec_BwtOf.s : Sg := ⟨[.lend], [vl 5], ⟨[vo 3], [none]⟩, Try.f101⟩
noncomputable def spec_BwtOf.gs (δ : Type) : List (Nat × Callee (GT tab) δ) := [(124, spec_SuffixRows.k)]
theorem spec_BwtOf.gok (δ : Type) : AllCon Try.prog tab (spec_BwtOf.gs δ) := .cons spec_SuffixRows.con .nil
noncomputable def spec_BwtOf.c := cx spec_BwtOf.s [] [(4, [0, 3, 4, 5])] false (spec_BwtOf.gs _)
noncomputable def spec_BwtOf (x0 : List Int) : Option (List Int) := fnW spec_BwtOf.s spec_BwtOf.c x0
theorem spec_BwtOf.fok : FkS spec_BwtOf.s 101 := ⟨Try.func101, by kernel_rfl, by kernel_rfl⟩
noncomputable def spec_BwtOf.fn (x : Args tab spec_BwtOf.s.ar) : Option (ResT tab spec_BwtOf.s.rs) := spec_BwtOf x
noncomputable abbrev spec_BwtOf.k {δ : Type} : Callee (GT tab) δ := kS spec_BwtOf.s spec_BwtOf.fn
theorem spec_BwtOf.con {δ : Type} : Con Try.prog (KT tab) 101 (spec_BwtOf.k (δ := δ)) := con_shape (c := spec_BwtOf.c) mixed tysOk (getG_con (spec_BwtOf.gok _)) spec_BwtOf.fok rfl rfl fun _ => rfl
noncomputable def spec_BwtOf_l0 (v0 : List Int) (v1 : Int) (v2 v3 : List Int) : Option (List Int) := lpW spec_BwtOf.s spec_BwtOf.c 0 (ud 31 [.vs false 5 v0, .undef, .undef, .sl 0 0, .sl 1 0, .int .i64 v1]) [.row 0 true 3 v2, .row 0 true 3 v3] 2
theorem spec_BwtOf.eq (x0 : List Int) : spec_BwtOf x0 =
    (spec_SuffixRows x0).bind fun y1 =>
    spec_BwtOf_l0 x0 (0 : Int) y1 ([] : List Int) := by kernel_rfl
theorem spec_BwtOf_l0.eq (v0 : List Int) (v1 : Int) (v2 v3 : List Int) : spec_BwtOf_l0 v0 v1 v2 v3 =
    bif decide (v1 < (v2.length : Int)) then
      (at? v2 v1).bind fun y1 =>
      v2[v1.toNat]?.bind fun y2 =>
      bif y2 == (0 : Int) then
        bif decide ((v3.length + ([(0 : Int)] : List Int).length) * 8 ≤ 140737488355328) then
          spec_BwtOf_l0 v0 (IntKind.i64.wrap (v1 + (1 : Int))) v2 (v3 ++ ([(0 : Int)] : List Int))
        else
          none
      else
        (at? v2 v1).bind fun y3 =>
        v2[v1.toNat]?.bind fun y4 =>
        (at? v0 (IntKind.i64.wrap (y4 - (1 : Int)))).bind fun y5 =>
        bif decide ((v3.length + ([IntKind.i64.wrap ((IntKind.i64.wrap y5) + (1 : Int))] : List Int).length) * 8 ≤ 140737488355328) then
          spec_BwtOf_l0 v0 (IntKind.i64.wrap (v1 + (1 : Int))) v2 (v3 ++ ([IntKind.i64.wrap ((IntKind.i64.wrap y5) + (1 : Int))] : List Int))
        else
          none
    else
      some v3 := (Lw_eq tysOk (getG_con (spec_BwtOf.gok _)) _ _).trans (by kernel_rfl)

noncomputable abbrev spec_WaveOf.s : Sg := ⟨[.lend], [vl 3], ⟨[.agg [.int .i64, .sl true true 3, .sl true true 32], vb], [none]⟩, Try.f103⟩
noncomputable def spec_WaveOf.gs (δ : Type) : List (Nat × Callee (GT tab) δ) := [(56, spec_BitsOf.k), (88, spec_l02Pow.k)]
theorem spec_WaveOf.gok (δ : Type) : AllCon Try.prog tab (spec_WaveOf.gs δ) := .cons spec_BitsOf.con (.cons spec_l02Pow.con .nil)
noncomputable def spec_WaveOf.c := cx spec_WaveOf.s [] [(4, [0, 2, 4]), (11, [2, 5, 6, 7]), (17, [2, 5, 6, 7, 8, 9, 10, 11])] false (spec_WaveOf.gs _)
noncomputable def spec_WaveOf (x0 : List Int) : Option ((Int × (List Int) × (List (Int × (List Int)))) × Bool) := fnW spec_WaveOf.s spec_WaveOf.c x0
theorem spec_WaveOf.fok : FkS spec_WaveOf.s 103 := ⟨Try.func103, by kernel_rfl, by kernel_rfl⟩
noncomputable def spec_WaveOf.fn (x : Args tab spec_WaveOf.s.ar) : Option (ResT tab spec_WaveOf.s.rs) := spec_WaveOf x
noncomputable abbrev spec_WaveOf.k {δ : Type} : Callee (GT tab) δ := kS spec_WaveOf.s spec_WaveOf.fn
theorem spec_WaveOf.con {δ : Type} : Con Try.prog (KT tab) 103 (spec_WaveOf.k (δ := δ)) := con_shape (c := spec_WaveOf.c) mixed tysOk (getG_con (spec_WaveOf.gok _)) spec_WaveOf.fok rfl rfl fun _ => rfl
noncomputable def spec_WaveOf_l0 (v0 : List Int) (v1 v2 : Int) (v3 : List Int) (v4 : List (Int × (List Int))) : Option ((Int × (List Int) × (List (Int × (List Int)))) × Bool) := lpW spec_WaveOf.s spec_WaveOf.c 0 (ud 103 [.vs false 3 v0, .undef, .ptr 0 0, .undef, .int .i64 v1]) [.box 49 [.int .i64 v2, .sl 1 0, .sl 2 0], .row 0 true 3 v3, .row 0 true 32 v4] 3
noncomputable def spec_WaveOf_l1 (v0 v1 : Int) (v2 : List Int) (v3 : List (Int × (List Int))) (v4 : Int) (v5 : List Int) (v6 : List (Int × (List Int))) (v7 : List Int) : Option ((Int × (List Int) × (List (Int × (List Int)))) × Bool) := lpW spec_WaveOf.s spec_WaveOf.c 1 (ud 100 [.undef, .undef, .ptr 0 0, .undef, .undef, .ptr 3 0, .sl 6 0, .int .i64 v0]) [.box 49 [.int .i64 v1, .sl 1 0, .sl 2 0], .row 0 true 3 v2, .row 0 true 32 v3, .box 49 [.int .i64 v4, .sl 4 0, .sl 5 0], .row 0 true 3 v5, .row 0 true 32 v6, .row 0 true 3 v7] 7
noncomputable def spec_WaveOf_l2 (v0 v1 v2 : Int) (v3 : List Int) (v4 : List (Int × (List Int))) (v5 : Int) (v6 : List Int) (v7 : List (Int × (List Int))) (v8 v9 v10 v11 : List Int) : Option ((Int × (List Int) × (List (Int × (List Int)))) × Bool) := lpW spec_WaveOf.s spec_WaveOf.c 2 (ud 96 [.undef, .undef, .ptr 0 0, .undef, .undef, .ptr 3 0, .sl 6 0, .int .i64 v0, .sl 7 0, .sl 8 0, .sl 9 0, .int .i64 v1]) [.box 49 [.int .i64 v2, .sl 1 0, .sl 2 0], .row 0 true 3 v3, .row 0 true 32 v4, .box 49 [.int .i64 v5, .sl 4 0, .sl 5 0], .row 0 true 3 v6, .row 0 true 32 v7, .row 0 true 3 v8, .row 0 true 3 v9, .row 0 true 3 v10, .row 0 true 3 v11] 10
theorem spec_WaveOf.eq (x0 : List Int) : spec_WaveOf x0 =
    bif decide ((x0.length : Int) > (1000 : Int)) then
      some (((0 : Int), ([] : List Int), ([] : List (Int × (List Int)))), false)
    else
      spec_WaveOf_l0 x0 (0 : Int) (0 : Int) ([] : List Int) ([] : List (Int × (List Int))) := by kernel_rfl
theorem spec_WaveOf_l0.eq (v0 : List Int) (v1 v2 : Int) (v3 : List Int) (v4 : List (Int × (List Int))) : spec_WaveOf_l0 v0 v1 v2 v3 v4 =
    bif decide (v1 < (v0.length : Int)) then
      (at? v0 v1).bind fun y1 =>
      bif decide (y1 < (0 : Int)) then
        some (((0 : Int), ([] : List Int), ([] : List (Int × (List Int)))), false)
      else
        (at? v0 v1).bind fun y2 =>
        bif decide (y2 > (511 : Int)) then
          some (((0 : Int), ([] : List Int), ([] : List (Int × (List Int)))), false)
        else
          spec_WaveOf_l0 v0 (IntKind.i64.wrap (v1 + (1 : Int))) v2 v3 v4
    else
      bif decide ((([] : List Int).length + v0.length) * 8 ≤ 140737488355328) then
        spec_WaveOf_l1 (0 : Int) v2 v3 v4 (v0.length : Int) ([] : List Int) ([] : List (Int × (List Int))) (([] : List Int) ++ v0)
      else
        none := (Lw_eq tysOk (getG_con (spec_WaveOf.gok _)) _ _).trans (by kernel_rfl)
theorem spec_WaveOf_l1.eq (v0 v1 : Int) (v2 : List Int) (v3 : List (Int × (List Int))) (v4 : Int) (v5 : List Int) (v6 : List (Int × (List Int))) (v7 : List Int) : spec_WaveOf_l1 v0 v1 v2 v3 v4 v5 v6 v7 =
    bif decide (v0 < (9 : Int)) then
      spec_WaveOf_l2 v0 (0 : Int) v1 v2 v3 v4 v5 v6 v7 ([] : List Int) ([] : List Int) ([] : List Int)
    else
      some ((v4, v5, v6), true) := (Lw_eq tysOk (getG_con (spec_WaveOf.gok _)) _ _).trans (by kernel_rfl)
theorem spec_WaveOf_l2.eq (v0 v1 v2 : Int) (v3 : List Int) (v4 : List (Int × (List Int))) (v5 : Int) (v6 : List Int) (v7 : List (Int × (List Int))) (v8 v9 v10 v11 : List Int) : spec_WaveOf_l2 v0 v1 v2 v3 v4 v5 v6 v7 v8 v9 v10 v11 =
    bif decide (v1 < (v8.length : Int)) then
      (at? v8 v1).bind fun y1 =>
      v8[v1.toNat]?.bind fun y2 =>
      (spec_l02Pow (IntKind.i64.wrap ((8 : Int) - v0))).bind fun y3 =>
      bif decide (y3 = (0 : Int)) then
        none
      else
        bif decide ((v9.length + ([(IntKind.i64.wrap (y2.tdiv y3)).tmod (2 : Int)] : List Int).length) * 8 ≤ 140737488355328) then
          bif (IntKind.i64.wrap (y2.tdiv y3)).tmod (2 : Int) == (0 : Int) then
            (at? v8 v1).bind fun y4 =>
            v8[v1.toNat]?.bind fun y5 =>
            bif decide ((v10.length + ([y5] : List Int).length) * 8 ≤ 140737488355328) then
              spec_WaveOf_l2 v0 (IntKind.i64.wrap (v1 + (1 : Int))) v2 v3 v4 v5 v6 v7 v8 (v9 ++ ([(IntKind.i64.wrap (y2.tdiv y3)).tmod (2 : Int)] : List Int)) (v10 ++ ([y5] : List Int)) v11
            else
              none
          else
            (at? v8 v1).bind fun y6 =>
            v8[v1.toNat]?.bind fun y7 =>
            bif decide ((v11.length + ([y7] : List Int).length) * 8 ≤ 140737488355328) then
              spec_WaveOf_l2 v0 (IntKind.i64.wrap (v1 + (1 : Int))) v2 v3 v4 v5 v6 v7 v8 (v9 ++ ([(IntKind.i64.wrap (y2.tdiv y3)).tmod (2 : Int)] : List Int)) v10 (v11 ++ ([y7] : List Int))
            else
              none
        else
          none
    else
      (spec_BitsOf v9).bind fun y8 =>
      bif decide ((v7.length + ([(y8.1.1, y8.1.2)] : List (Int × (List Int))).length) * 32 ≤ 140737488355328) then
        bif decide ((v6.length + ([(v10.length : Int)] : List Int).length) * 8 ≤ 140737488355328) then
          bif decide ((v10.length + v11.length) * 8 ≤ 140737488355328) then
            spec_WaveOf_l1 (IntKind.i64.wrap (v0 + (1 : Int))) v2 v3 v4 v5 (v6 ++ ([(v10.length : Int)] : List Int)) (v7 ++ ([(y8.1.1, y8.1.2)] : List (Int × (List Int)))) (v10 ++ v11)
          else
            none
        else
          none
      else
        none := (Lw_eq tysOk (getG_con (spec_WaveOf.gok _)) _ _).trans (by kernel_rfl)

noncomputable abbrev spec_l01Cur_wave.s : Sg := ⟨[.keep], [.one (.ptr true 122 [.b (.b (.b (.sl false false 5))), .b (.b (.b (.int .i64))), .b (.b (.b (.int .i64)))])], ⟨[.agg [.int .i64, .sl true true 3, .sl true true 32]], [some (.one (.ptr true 122 [.b (.b (.b (.sl false false 5))), .b (.b (.b (.int .i64))), .b (.b (.b (.int .i64)))]))]⟩, Try.f55⟩
noncomputable def spec_l01Cur_wave.gs (δ : Type) : List (Nat × Callee (GT tab) δ) := [(53, spec_l01Cur_badBits.k), (82, spec_l01Cur_pick.k), (83, spec_l01Cur_raw.k), (99, spec_l01Cur_numbers.k), (100, spec_l01Cur_once.k), (101, spec_BwtOf.k), (102, spec_l01Cur_textOf.k), (103, spec_WaveOf.k)]
theorem spec_l01Cur_wave.gok (δ : Type) : AllCon Try.prog tab (spec_l01Cur_wave.gs δ) := .cons spec_l01Cur_badBits.con (.cons spec_l01Cur_pick.con (.cons spec_l01Cur_raw.con (.cons spec_l01Cur_numbers.con (.cons spec_l01Cur_once.con (.cons spec_BwtOf.con (.cons spec_l01Cur_textOf.con (.cons spec_WaveOf.con .nil)))))))
noncomputable def spec_l01Cur_wave.c := cx spec_l01Cur_wave.s [4] [(4, [0, 2, 3])] false (spec_l01Cur_wave.gs _)
noncomputable def spec_l01Cur_wave (x0 : (List Int) × Int × Int) : Option ((Int × (List Int) × (List (Int × (List Int)))) × ((List Int) × Int × Int)) := fnW spec_l01Cur_wave.s spec_l01Cur_wave.c x0
theorem spec_l01Cur_wave.fok : FkS spec_l01Cur_wave.s 55 := ⟨Try.func55, by kernel_rfl, by kernel_rfl⟩
noncomputable def spec_l01Cur_wave.fn (x : Args tab spec_l01Cur_wave.s.ar) : Option (ResT tab spec_l01Cur_wave.s.rs) := spec_l01Cur_wave x
noncomputable abbrev spec_l01Cur_wave.k {δ : Type} : Callee (GT tab) δ := kS spec_l01Cur_wave.s spec_l01Cur_wave.fn
theorem spec_l01Cur_wave.con {δ : Type} : Con Try.prog (KT tab) 55 (spec_l01Cur_wave.k (δ := δ)) := con_shape (c := spec_l01Cur_wave.c) mixed tysOk (getG_con (spec_l01Cur_wave.gok _)) spec_l01Cur_wave.fok rfl rfl fun _ => rfl
noncomputable def spec_l01Cur_wave_l0 (v0 : List Int) (v1 v2 v3 : Int) (v4 : List Int) (v5 : List (Int × (List Int))) (v6 : List Int) : Option ((Int × (List Int) × (List (Int × (List Int)))) × ((List Int) × Int × Int)) := lpW spec_l01Cur_wave.s spec_l01Cur_wave.c 0 (ud 64 [.ptr 0 0, .undef, .ptr 1 0, .sl 4 0]) [.box 122 [.vs false 5 v0, .int .i64 v1, .int .i64 v2], .box 49 [.int .i64 v3, .sl 2 0, .sl 3 0], .row 0 true 3 v4, .row 0 true 32 v5, .row 0 true 3 v6] 5
theorem spec_l01Cur_wave.eq (x0 : (List Int) × Int × Int) : spec_l01Cur_wave x0 =
    (spec_l01Cur_pick x0 (3 : Int)).bind fun y1 =>
    (at? ([(3 : Int), (100 : Int), (512 : Int)] : List Int) y1.1).bind fun y2 =>
    ([(3 : Int), (100 : Int), (512 : Int)] : List Int)[y1.1.toNat]?.bind fun y3 =>
    (spec_l01Cur_numbers y1.2 (24 : Int) y3).bind fun y4 =>
    (spec_l01Cur_once y4.2 (3 : Int)).bind fun y5 =>
    bif y5.1 then
      (spec_l01Cur_textOf y5.2 (24 : Int)).bind fun y6 =>
      (spec_BwtOf y6.1).bind fun y7 =>
      spec_l01Cur_wave_l0 y6.2.1 y6.2.2.1 y6.2.2.2 (0 : Int) ([] : List Int) ([] : List (Int × (List Int))) y7
    else
      spec_l01Cur_wave_l0 y5.2.1 y5.2.2.1 y5.2.2.2 (0 : Int) ([] : List Int) ([] : List (Int × (List Int))) y4.1 := by kernel_rfl
theorem spec_l01Cur_wave_l0.eq (v0 : List Int) (v1 v2 v3 : Int) (v4 : List Int) (v5 : List (Int × (List Int))) (v6 : List Int) : spec_l01Cur_wave_l0 v0 v1 v2 v3 v4 v5 v6 =
    (spec_WaveOf v6).bind fun y1 =>
    (spec_l01Cur_pick (v0, v1, v2) (14 : Int)).bind fun y2 =>
    bif y2.1 == (0 : Int) then
      (spec_l01Cur_pick y2.2 (3 : Int)).bind fun y3 =>
      some ((IntKind.i64.wrap ((IntKind.i64.wrap (y1.1.1 + y3.1)) - (1 : Int)), y1.1.2.1, y1.1.2.2), y3.2)
    else
      bif y2.1 == (1 : Int) then
        (spec_l01Cur_pick y2.2 (9 : Int)).bind fun y4 =>
        (spec_l01Cur_raw y4.2).bind fun y5 =>
        (at? y1.1.2.1 y4.1).bind fun y6 =>
        y1.1.2.1[y4.1.toNat]?.bind fun y7 =>
        some ((y1.1.1, y1.1.2.1.set y4.1.toNat y5.1, y1.1.2.2), y5.2)
      else
        bif y2.1 == (2 : Int) then
          (spec_l01Cur_pick y2.2 (9 : Int)).bind fun y8 =>
          (spec_l01Cur_badBits y8.2).bind fun y9 =>
          (at? y1.1.2.2 y8.1).bind fun y10 =>
          y1.1.2.2[y8.1.toNat]?.bind fun y11 =>
          some ((y1.1.1, y1.1.2.1, y1.1.2.2.set y8.1.toNat (y9.1.1, y9.1.2)), y9.2)
        else
          bif y2.1 == (3 : Int) then
            (spec_l01Cur_pick y2.2 (9 : Int)).bind fun y12 =>
            bif decide (0 ≤ y12.1 ∧ y12.1 ≤ ((y1.1.2.2.length : Nat) : Int)) then
              some ((y1.1.1, y1.1.2.1, y1.1.2.2.take (y12.1.toNat - 0)), y12.2)
            else
              none
          else
            bif y2.1 == (4 : Int) then
              bif decide ((y1.1.2.1.length + ([(0 : Int)] : List Int).length) * 8 ≤ 140737488355328) then
                some ((y1.1.1, y1.1.2.1 ++ ([(0 : Int)] : List Int), y1.1.2.2), y2.2)
              else
                none
            else
              some (y1.1, y2.2) := (Lw_eq tysOk (getG_con (spec_l01Cur_wave.gok _)) _ _).trans (by kernel_rfl)

end Go.Ev.W
