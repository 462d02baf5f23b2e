/- What functions of the program come to. -/
import Derived.Test.YtddhebliggkadaaGreatPqT
import Derived.Test.YtddhebliggkadaaGreatEvCmp
import Derived.Test.YtddhebliggkadaaGreatEvGrow
import Derived.Test.YtddhebliggkadaaGreatEvSort
import Derived.Test.YtddhebliggkadaaGreatPqL
namespace Go.Ev.W
open Go.Ev Go.Proofs
set_option maxRecDepth 100000
set_option linter.unusedVariables false

noncomputable abbrev laws_big.s : Sg := ⟨[.lend], [vl 5], ⟨[vb], [none]⟩, Tryz.f15⟩
noncomputable def laws_big.gs (δ : Type) : List (Nat × Callee (GT tab) δ) := []
theorem laws_big.gok (δ : Type) : AllCon Tryz.prog tab (laws_big.gs δ) := .nil
noncomputable def laws_big.c := cx laws_big.s [] [] false (laws_big.gs _)
noncomputable def laws_big (x0 : List Int) : Option (Bool) := fnW laws_big.s laws_big.c x0
theorem laws_big.fok : FkS laws_big.s 15 := ⟨Tryz.func15, by kernel_rfl, by kernel_rfl⟩
noncomputable def laws_big.fn (x : Args tab laws_big.s.ar) : Option (ResT tab laws_big.s.rs) := laws_big x
noncomputable abbrev laws_big.k {δ : Type} : Callee (GT tab) δ := kS laws_big.s laws_big.fn
theorem laws_big.con {δ : Type} : Con Tryz.prog (KT tab) 15 (laws_big.k (δ := δ)) := con_shape (c := laws_big.c) mixed tysOk (getG_con (laws_big.gok _)) laws_big.fok rfl rfl fun _ => rfl
theorem laws_big.eq (x0 : List Int) : laws_big x0 =
    some (decide ((x0.length : Int) > (1048576 : Int))) := by kernel_rfl

noncomputable abbrev spec_l01Open.s : Sg := ⟨[.lend], [vl 5], ⟨[.one (.ptr true 116 [.b (.b (.b (.sl false false 5))), .b (.b (.b (.int .i64))), .b (.b (.b (.int .i64)))])], [none]⟩, Tryz.f55⟩
noncomputable def spec_l01Open.gs (δ : Type) : List (Nat × Callee (GT tab) δ) := []
theorem spec_l01Open.gok (δ : Type) : AllCon Tryz.prog tab (spec_l01Open.gs δ) := .nil
noncomputable def spec_l01Open.c := cx spec_l01Open.s [] [] false (spec_l01Open.gs _)
noncomputable def spec_l01Open (x0 : List Int) : Option ((List Int) × Int × Int) := fnW spec_l01Open.s spec_l01Open.c x0
theorem spec_l01Open.fok : FkS spec_l01Open.s 55 := ⟨Tryz.func55, by kernel_rfl, by kernel_rfl⟩
noncomputable def spec_l01Open.fn (x : Args tab spec_l01Open.s.ar) : Option (ResT tab spec_l01Open.s.rs) := spec_l01Open x
noncomputable abbrev spec_l01Open.k {δ : Type} : Callee (GT tab) δ := kS spec_l01Open.s spec_l01Open.fn
theorem spec_l01Open.con {δ : Type} : Con Tryz.prog (KT tab) 55 (spec_l01Open.k (δ := δ)) := con_shape (c := spec_l01Open.c) mixed tysOk (getG_con (spec_l01Open.gok _)) spec_l01Open.fok rfl rfl fun _ => rfl
theorem spec_l01Open.eq (x0 : List Int) : spec_l01Open x0 =
    some (x0, (0 : Int), IntKind.i64.wrap ((89 : Int) + ((x0.length : Int).tmod (1000 : Int)))) := by kernel_rfl

noncomputable abbrev spec_l01Cur_pick.s : Sg := ⟨[.keep, .lend], [.one (.ptr true 116 [.b (.b (.b (.sl false false 5))), .b (.b (.b (.int .i64))), .b (.b (.b (.int .i64)))]), vi], ⟨[vi], [some (.one (.ptr true 116 [.b (.b (.b (.sl false false 5))), .b (.b (.b (.int .i64))), .b (.b (.b (.int .i64)))])), none]⟩, Tryz.f114⟩
noncomputable def spec_l01Cur_pick.gs (δ : Type) : List (Nat × Callee (GT tab) δ) := []
theorem spec_l01Cur_pick.gok (δ : Type) : AllCon Tryz.prog tab (spec_l01Cur_pick.gs δ) := .nil
noncomputable def spec_l01Cur_pick.c := cx spec_l01Cur_pick.s [] [] false (spec_l01Cur_pick.gs _)
noncomputable def spec_l01Cur_pick (x0 : (List Int) × Int × Int) (x1 : Int) : Option (Int × ((List Int) × Int × Int)) := fnW spec_l01Cur_pick.s spec_l01Cur_pick.c (x0, x1)
theorem spec_l01Cur_pick.fok : FkS spec_l01Cur_pick.s 114 := ⟨Tryz.func114, by kernel_rfl, by kernel_rfl⟩
noncomputable def spec_l01Cur_pick.fn (x : Args tab spec_l01Cur_pick.s.ar) : Option (ResT tab spec_l01Cur_pick.s.rs) := spec_l01Cur_pick x.1 x.2
noncomputable abbrev spec_l01Cur_pick.k {δ : Type} : Callee (GT tab) δ := kS spec_l01Cur_pick.s spec_l01Cur_pick.fn
theorem spec_l01Cur_pick.con {δ : Type} : Con Tryz.prog (KT tab) 114 (spec_l01Cur_pick.k (δ := δ)) := con_shape (c := spec_l01Cur_pick.c) mixed tysOk (getG_con (spec_l01Cur_pick.gok _)) spec_l01Cur_pick.fok rfl rfl fun _ => rfl
theorem spec_l01Cur_pick.eq (x0 : (List Int) × Int × Int) (x1 : Int) : spec_l01Cur_pick x0 x1 =
    bif decide (x1 < (2 : Int)) then
      some ((0 : Int), x0)
    else
      bif decide (x0.2.1 < (x0.1.length : Int)) then
        (at? x0.1 x0.2.1).bind fun y1 =>
        bif decide (x1 = (0 : Int)) then
          none
        else
          some ((IntKind.i64.wrap y1).tmod x1, (x0.1, IntKind.i64.wrap (x0.2.1 + (1 : Int)), x0.2.2))
      else
        bif decide ((x0.1.length : Int) > (0 : Int)) then
          bif decide ((x0.1.length : Int) = (0 : Int)) then
            none
          else
            (at? x0.1 (x0.2.1.tmod (x0.1.length : Int))).bind fun y2 =>
            bif decide (x1 = (0 : Int)) then
              none
            else
              some ((IntKind.i64.wrap ((IntKind.i64.wrap (((IntKind.i64.wrap ((IntKind.i64.wrap (x0.2.2 * (1103 : Int))) + (12345 : Int))).tmod (65521 : Int)).tdiv (7 : Int))) + (IntKind.i64.wrap y2))).tmod x1, (x0.1, IntKind.i64.wrap (x0.2.1 + (1 : Int)), (IntKind.i64.wrap ((IntKind.i64.wrap (x0.2.2 * (1103 : Int))) + (12345 : Int))).tmod (65521 : Int)))
        else
          bif decide (x1 = (0 : Int)) then
            none
          else
            some ((0 : Int).tmod x1, (x0.1, IntKind.i64.wrap (x0.2.1 + (1 : Int)), (IntKind.i64.wrap ((IntKind.i64.wrap (x0.2.2 * (1103 : Int))) + (12345 : Int))).tmod (65521 : Int))) := by kernel_rfl

noncomputable abbrev spec_l01Cur_size.s : Sg := ⟨[.keep, .lend], [.one (.ptr true 116 [.b (.b (.b (.sl false false 5))), .b (.b (.b (.int .i64))), .b (.b (.b (.int .i64)))]), vi], ⟨[vi], [some (.one (.ptr true 116 [.b (.b (.b (.sl false false 5))), .b (.b (.b (.int .i64))), .b (.b (.b (.int .i64)))])), none]⟩, Tryz.f173⟩
noncomputable def spec_l01Cur_size.gs (δ : Type) : List (Nat × Callee (GT tab) δ) := [(114, spec_l01Cur_pick.k)]
theorem spec_l01Cur_size.gok (δ : Type) : AllCon Tryz.prog tab (spec_l01Cur_size.gs δ) := .cons spec_l01Cur_pick.con .nil
noncomputable def spec_l01Cur_size.c := cx spec_l01Cur_size.s [] [] false (spec_l01Cur_size.gs _)
noncomputable def spec_l01Cur_size (x0 : (List Int) × Int × Int) (x1 : Int) : Option (Int × ((List Int) × Int × Int)) := fnW spec_l01Cur_size.s spec_l01Cur_size.c (x0, x1)
theorem spec_l01Cur_size.fok : FkS spec_l01Cur_size.s 173 := ⟨Tryz.func173, by kernel_rfl, by kernel_rfl⟩
noncomputable def spec_l01Cur_size.fn (x : Args tab spec_l01Cur_size.s.ar) : Option (ResT tab spec_l01Cur_size.s.rs) := spec_l01Cur_size x.1 x.2
noncomputable abbrev spec_l01Cur_size.k {δ : Type} : Callee (GT tab) δ := kS spec_l01Cur_size.s spec_l01Cur_size.fn
theorem spec_l01Cur_size.con {δ : Type} : Con Tryz.prog (KT tab) 173 (spec_l01Cur_size.k (δ := δ)) := con_shape (c := spec_l01Cur_size.c) mixed tysOk (getG_con (spec_l01Cur_size.gok _)) spec_l01Cur_size.fok rfl rfl fun _ => rfl
theorem spec_l01Cur_size.eq (x0 : (List Int) × Int × Int) (x1 : Int) : spec_l01Cur_size x0 x1 =
    (spec_l01Cur_pick x0 (IntKind.i64.wrap ((if IntKind.i64.wrap ((1 : Int) + (IntKind.i64.wrap ((x0.1.length : Int).tdiv (8 : Int)))) < x1 then IntKind.i64.wrap ((1 : Int) + (IntKind.i64.wrap ((x0.1.length : Int).tdiv (8 : Int)))) else x1) + (1 : Int)))).bind fun y1 =>
    some (y1.1, y1.2) := by kernel_rfl

noncomputable abbrev spec_l01Cur_once.s : Sg := ⟨[.keep, .lend], [.one (.ptr true 116 [.b (.b (.b (.sl false false 5))), .b (.b (.b (.int .i64))), .b (.b (.b (.int .i64)))]), vi], ⟨[vb], [some (.one (.ptr true 116 [.b (.b (.b (.sl false false 5))), .b (.b (.b (.int .i64))), .b (.b (.b (.int .i64)))])), none]⟩, Tryz.f119⟩
noncomputable def spec_l01Cur_once.gs (δ : Type) : List (Nat × Callee (GT tab) δ) := [(114, spec_l01Cur_pick.k)]
theorem spec_l01Cur_once.gok (δ : Type) : AllCon Tryz.prog tab (spec_l01Cur_once.gs δ) := .cons spec_l01Cur_pick.con .nil
noncomputable def spec_l01Cur_once.c := cx spec_l01Cur_once.s [] [] false (spec_l01Cur_once.gs _)
noncomputable def spec_l01Cur_once (x0 : (List Int) × Int × Int) (x1 : Int) : Option (Bool × ((List Int) × Int × Int)) := fnW spec_l01Cur_once.s spec_l01Cur_once.c (x0, x1)
theorem spec_l01Cur_once.fok : FkS spec_l01Cur_once.s 119 := ⟨Tryz.func119, by kernel_rfl, by kernel_rfl⟩
noncomputable def spec_l01Cur_once.fn (x : Args tab spec_l01Cur_once.s.ar) : Option (ResT tab spec_l01Cur_once.s.rs) := spec_l01Cur_once x.1 x.2
noncomputable abbrev spec_l01Cur_once.k {δ : Type} : Callee (GT tab) δ := kS spec_l01Cur_once.s spec_l01Cur_once.fn
theorem spec_l01Cur_once.con {δ : Type} : Con Tryz.prog (KT tab) 119 (spec_l01Cur_once.k (δ := δ)) := con_shape (c := spec_l01Cur_once.c) mixed tysOk (getG_con (spec_l01Cur_once.gok _)) spec_l01Cur_once.fok rfl rfl fun _ => rfl
theorem spec_l01Cur_once.eq (x0 : (List Int) × Int × Int) (x1 : Int) : spec_l01Cur_once x0 x1 =
    (spec_l01Cur_pick x0 x1).bind fun y1 =>
    some (y1.1 == IntKind.i64.wrap (x1 - (1 : Int)), y1.2) := by kernel_rfl

noncomputable abbrev spec_l01Cur_textOf.s : Sg := ⟨[.keep, .lend], [.one (.ptr true 116 [.b (.b (.b (.sl false false 5))), .b (.b (.b (.int .i64))), .b (.b (.b (.int .i64)))]), vi], ⟨[vo 5], [some (.one (.ptr true 116 [.b (.b (.b (.sl false false 5))), .b (.b (.b (.int .i64))), .b (.b (.b (.int .i64)))])), none]⟩, Tryz.f112⟩
noncomputable def spec_l01Cur_textOf.gs (δ : Type) : List (Nat × Callee (GT tab) δ) := [(114, spec_l01Cur_pick.k), (119, spec_l01Cur_once.k), (173, spec_l01Cur_size.k)]
theorem spec_l01Cur_textOf.gok (δ : Type) : AllCon Tryz.prog tab (spec_l01Cur_textOf.gs δ) := .cons spec_l01Cur_pick.con (.cons spec_l01Cur_once.con (.cons spec_l01Cur_size.con .nil))
noncomputable def spec_l01Cur_textOf.c := cx spec_l01Cur_textOf.s [] [(4, [0, 1, 5, 6, 7])] false (spec_l01Cur_textOf.gs _)
noncomputable def spec_l01Cur_textOf (x0 : (List Int) × Int × Int) (x1 : Int) : Option ((List Int) × ((List Int) × Int × Int)) := fnW spec_l01Cur_textOf.s spec_l01Cur_textOf.c (x0, x1)
theorem spec_l01Cur_textOf.fok : FkS spec_l01Cur_textOf.s 112 := ⟨Tryz.func112, by kernel_rfl, by kernel_rfl⟩
noncomputable def spec_l01Cur_textOf.fn (x : Args tab spec_l01Cur_textOf.s.ar) : Option (ResT tab spec_l01Cur_textOf.s.rs) := spec_l01Cur_textOf x.1 x.2
noncomputable abbrev spec_l01Cur_textOf.k {δ : Type} : Callee (GT tab) δ := kS spec_l01Cur_textOf.s spec_l01Cur_textOf.fn
theorem spec_l01Cur_textOf.con {δ : Type} : Con Tryz.prog (KT tab) 112 (spec_l01Cur_textOf.k (δ := δ)) := con_shape (c := spec_l01Cur_textOf.c) mixed tysOk (getG_con (spec_l01Cur_textOf.gok _)) spec_l01Cur_textOf.fok rfl rfl fun _ => rfl
noncomputable def spec_l01Cur_textOf_l0 (v0 : Int) (v1 : ByteArray) (v2 : Int) (v3 : List Int) (v4 v5 : Int) (v6 : List Int) : Option ((List Int) × ((List Int) × Int × Int)) := lpW spec_l01Cur_textOf.s spec_l01Cur_textOf.c 0 (ud 55 [.ptr 0 0, .int .i64 v0, .undef, .undef, .undef, .sl 1 0, .str v1, .int .i64 v2]) [.box 116 [.vs false 5 v3, .int .i64 v4, .int .i64 v5], .row 0 true 5 v6] 2
theorem spec_l01Cur_textOf.eq (x0 : (List Int) × Int × Int) (x1 : Int) : spec_l01Cur_textOf x0 x1 =
    (spec_l01Cur_pick x0 (5 : Int)).bind fun y1 =>
    (at? ([(⟨#[97]⟩ : ByteArray), (⟨#[97, 98]⟩ : ByteArray), (⟨#[97, 98, 99]⟩ : ByteArray), (⟨#[97, 99, 103, 116]⟩ : ByteArray), (⟨#[0, 255]⟩ : ByteArray)] : List ByteArray) y1.1).bind fun y2 =>
    ([(⟨#[97]⟩ : ByteArray), (⟨#[97, 98]⟩ : ByteArray), (⟨#[97, 98, 99]⟩ : ByteArray), (⟨#[97, 99, 103, 116]⟩ : ByteArray), (⟨#[0, 255]⟩ : ByteArray)] : List ByteArray)[y1.1.toNat]?.bind fun y3 =>
    (spec_l01Cur_size y1.2 x1).bind fun y4 =>
    spec_l01Cur_textOf_l0 x1 y3 y4.1 y4.2.1 y4.2.2.1 y4.2.2.2 ([] : List Int) := by kernel_rfl
theorem spec_l01Cur_textOf_l0.eq (v0 : Int) (v1 : ByteArray) (v2 : Int) (v3 : List Int) (v4 v5 : Int) (v6 : List Int) : spec_l01Cur_textOf_l0 v0 v1 v2 v3 v4 v5 v6 =
    bif decide (v2 > (0 : Int)) then
      bif decide ((v6.length : Int) > (3 : Int)) then
        (spec_l01Cur_once (v3, v4, v5) (6 : Int)).bind fun y1 =>
        bif y1.1 then
          (spec_l01Cur_pick y1.2 (v6.length : Int)).bind fun y2 =>
          (spec_l01Cur_pick y2.2 (6 : Int)).bind fun y3 =>
          bif decide (0 ≤ (if IntKind.i64.wrap ((IntKind.i64.wrap (y2.1 + (1 : Int))) + y3.1) < (v6.length : Int) then IntKind.i64.wrap ((IntKind.i64.wrap (y2.1 + (1 : Int))) + y3.1) else (v6.length : Int)) ∧ (if IntKind.i64.wrap ((IntKind.i64.wrap (y2.1 + (1 : Int))) + y3.1) < (v6.length : Int) then IntKind.i64.wrap ((IntKind.i64.wrap (y2.1 + (1 : Int))) + y3.1) else (v6.length : Int)) ≤ ((v6.length : Nat) : Int)) then
            bif decide (0 ≤ y2.1 ∧ y2.1 ≤ (((if IntKind.i64.wrap ((IntKind.i64.wrap (y2.1 + (1 : Int))) + y3.1) < (v6.length : Int) then IntKind.i64.wrap ((IntKind.i64.wrap (y2.1 + (1 : Int))) + y3.1) else (v6.length : Int)).toNat : Nat) : Int)) then
              bif decide ((v6.length + ((v6.drop y2.1.toNat).take (((if IntKind.i64.wrap ((IntKind.i64.wrap (y2.1 + (1 : Int))) + y3.1) < (v6.length : Int) then IntKind.i64.wrap ((IntKind.i64.wrap (y2.1 + (1 : Int))) + y3.1) else (v6.length : Int)).toNat) - y2.1.toNat)).length) * 1 ≤ 140737488355328) then
                spec_l01Cur_textOf_l0 v0 v1 (IntKind.i64.wrap (v2 - (1 : Int))) y3.2.1 y3.2.2.1 y3.2.2.2 (v6 ++ ((v6.drop y2.1.toNat).take (((if IntKind.i64.wrap ((IntKind.i64.wrap (y2.1 + (1 : Int))) + y3.1) < (v6.length : Int) then IntKind.i64.wrap ((IntKind.i64.wrap (y2.1 + (1 : Int))) + y3.1) else (v6.length : Int)).toNat) - y2.1.toNat)))
              else
                none
            else
              none
          else
            none
        else
          (spec_l01Cur_pick y1.2 (v1.size : Int)).bind fun y4 =>
          (at? v1.data.toList y4.1).bind fun y5 =>
          bif decide ((v6.length + ([(y5.toNat : Int)] : List Int).length) * 1 ≤ 140737488355328) then
            spec_l01Cur_textOf_l0 v0 v1 (IntKind.i64.wrap (v2 - (1 : Int))) y4.2.1 y4.2.2.1 y4.2.2.2 (v6 ++ ([(y5.toNat : Int)] : List Int))
          else
            none
      else
        (spec_l01Cur_pick (v3, v4, v5) (v1.size : Int)).bind fun y6 =>
        (at? v1.data.toList y6.1).bind fun y7 =>
        bif decide ((v6.length + ([(y7.toNat : Int)] : List Int).length) * 1 ≤ 140737488355328) then
          spec_l01Cur_textOf_l0 v0 v1 (IntKind.i64.wrap (v2 - (1 : Int))) y6.2.1 y6.2.2.1 y6.2.2.2 (v6 ++ ([(y7.toNat : Int)] : List Int))
        else
          none
    else
      bif decide ((v6.length : Int) > v0) then
        bif decide (0 ≤ v0 ∧ v0 ≤ ((v6.length : Nat) : Int)) then
          some (v6.take (v0.toNat - 0), (v3, v4, v5))
        else
          none
      else
        some (v6, (v3, v4, v5)) := (Lw_eq tysOk (getG_con (spec_l01Cur_textOf.gok _)) _ _).trans (by kernel_rfl)

noncomputable abbrev spec_l01Cur_rate.s : Sg := ⟨[.keep], [.one (.ptr true 116 [.b (.b (.b (.sl false false 5))), .b (.b (.b (.int .i64))), .b (.b (.b (.int .i64)))])], ⟨[vi], [some (.one (.ptr true 116 [.b (.b (.b (.sl false false 5))), .b (.b (.b (.int .i64))), .b (.b (.b (.int .i64)))]))]⟩, Tryz.f113⟩
noncomputable def spec_l01Cur_rate.gs (δ : Type) : List (Nat × Callee (GT tab) δ) := [(114, spec_l01Cur_pick.k)]
theorem spec_l01Cur_rate.gok (δ : Type) : AllCon Tryz.prog tab (spec_l01Cur_rate.gs δ) := .cons spec_l01Cur_pick.con .nil
noncomputable def spec_l01Cur_rate.c := cx spec_l01Cur_rate.s [] [] false (spec_l01Cur_rate.gs _)
noncomputable def spec_l01Cur_rate (x0 : (List Int) × Int × Int) : Option (Int × ((List Int) × Int × Int)) := fnW spec_l01Cur_rate.s spec_l01Cur_rate.c x0
theorem spec_l01Cur_rate.fok : FkS spec_l01Cur_rate.s 113 := ⟨Tryz.func113, by kernel_rfl, by kernel_rfl⟩
noncomputable def spec_l01Cur_rate.fn (x : Args tab spec_l01Cur_rate.s.ar) : Option (ResT tab spec_l01Cur_rate.s.rs) := spec_l01Cur_rate x
noncomputable abbrev spec_l01Cur_rate.k {δ : Type} : Callee (GT tab) δ := kS spec_l01Cur_rate.s spec_l01Cur_rate.fn
theorem spec_l01Cur_rate.con {δ : Type} : Con Tryz.prog (KT tab) 113 (spec_l01Cur_rate.k (δ := δ)) := con_shape (c := spec_l01Cur_rate.c) mixed tysOk (getG_con (spec_l01Cur_rate.gok _)) spec_l01Cur_rate.fok rfl rfl fun _ => rfl
theorem spec_l01Cur_rate.eq (x0 : (List Int) × Int × Int) : spec_l01Cur_rate x0 =
    (spec_l01Cur_pick x0 (5 : Int)).bind fun y1 =>
    (at? ([(1 : Int), (2 : Int), (3 : Int), (8 : Int), (64 : Int)] : List Int) y1.1).bind fun y2 =>
    ([(1 : Int), (2 : Int), (3 : Int), (8 : Int), (64 : Int)] : List Int)[y1.1.toNat]?.bind fun y3 =>
    some (y3, y1.2) := by kernel_rfl

noncomputable abbrev spec_TextOk.s : Sg := ⟨[.lend], [vl 5], ⟨[vb], [none]⟩, Tryz.f130⟩
noncomputable def spec_TextOk.gs (δ : Type) : List (Nat × Callee (GT tab) δ) := []
theorem spec_TextOk.gok (δ : Type) : AllCon Tryz.prog tab (spec_TextOk.gs δ) := .nil
noncomputable def spec_TextOk.c := cx spec_TextOk.s [] [] false (spec_TextOk.gs _)
noncomputable def spec_TextOk (x0 : List Int) : Option (Bool) := fnW spec_TextOk.s spec_TextOk.c x0
theorem spec_TextOk.fok : FkS spec_TextOk.s 130 := ⟨Tryz.func130, by kernel_rfl, by kernel_rfl⟩
noncomputable def spec_TextOk.fn (x : Args tab spec_TextOk.s.ar) : Option (ResT tab spec_TextOk.s.rs) := spec_TextOk x
noncomputable abbrev spec_TextOk.k {δ : Type} : Callee (GT tab) δ := kS spec_TextOk.s spec_TextOk.fn
theorem spec_TextOk.con {δ : Type} : Con Tryz.prog (KT tab) 130 (spec_TextOk.k (δ := δ)) := con_shape (c := spec_TextOk.c) mixed tysOk (getG_con (spec_TextOk.gok _)) spec_TextOk.fok rfl rfl fun _ => rfl
theorem spec_TextOk.eq (x0 : List Int) : spec_TextOk x0 =
    some (decide ((x0.length : Int) ≤ (300 : Int))) := by kernel_rfl

noncomputable abbrev spec_l09Rate.s : Sg := ⟨[.lend], [vi], ⟨[vb], [none]⟩, Tryz.f124⟩
noncomputable def spec_l09Rate.gs (δ : Type) : List (Nat × Callee (GT tab) δ) := []
theorem spec_l09Rate.gok (δ : Type) : AllCon Tryz.prog tab (spec_l09Rate.gs δ) := .nil
noncomputable def spec_l09Rate.c := cx spec_l09Rate.s [] [] false (spec_l09Rate.gs _)
noncomputable def spec_l09Rate (x0 : Int) : Option (Bool) := fnW spec_l09Rate.s spec_l09Rate.c x0
theorem spec_l09Rate.fok : FkS spec_l09Rate.s 124 := ⟨Tryz.func124, by kernel_rfl, by kernel_rfl⟩
noncomputable def spec_l09Rate.fn (x : Args tab spec_l09Rate.s.ar) : Option (ResT tab spec_l09Rate.s.rs) := spec_l09Rate x
noncomputable abbrev spec_l09Rate.k {δ : Type} : Callee (GT tab) δ := kS spec_l09Rate.s spec_l09Rate.fn
theorem spec_l09Rate.con {δ : Type} : Con Tryz.prog (KT tab) 124 (spec_l09Rate.k (δ := δ)) := con_shape (c := spec_l09Rate.c) mixed tysOk (getG_con (spec_l09Rate.gok _)) spec_l09Rate.fok rfl rfl fun _ => rfl
theorem spec_l09Rate.eq (x0 : Int) : spec_l09Rate x0 =
    bif decide (x0 ≥ (1 : Int)) then
      some (decide (x0 ≤ (64 : Int)))
    else
      some false := by kernel_rfl

noncomputable abbrev spec_l05Cmp.s : Sg := ⟨[.lend, .lend], [vl 5, vl 5], ⟨[vi], [none, none]⟩, Tryz.f131⟩
noncomputable def spec_l05Cmp.gs (δ : Type) : List (Nat × Callee (GT tab) δ) := []
theorem spec_l05Cmp.gok (δ : Type) : AllCon Tryz.prog tab (spec_l05Cmp.gs δ) := .nil
noncomputable def spec_l05Cmp.c := cx spec_l05Cmp.s [4] [(2, [0, 1, 5]), (4, [0, 1, 5])] false (spec_l05Cmp.gs _)
noncomputable def spec_l05Cmp (x0 x1 : List Int) : Option (Int) := fnW spec_l05Cmp.s spec_l05Cmp.c (x0, x1)
theorem spec_l05Cmp.fok : FkS spec_l05Cmp.s 131 := ⟨Tryz.func131, by kernel_rfl, by kernel_rfl⟩
noncomputable def spec_l05Cmp.fn (x : Args tab spec_l05Cmp.s.ar) : Option (ResT tab spec_l05Cmp.s.rs) := spec_l05Cmp x.1 x.2
noncomputable abbrev spec_l05Cmp.k {δ : Type} : Callee (GT tab) δ := kS spec_l05Cmp.s spec_l05Cmp.fn
theorem spec_l05Cmp.con {δ : Type} : Con Tryz.prog (KT tab) 131 (spec_l05Cmp.k (δ := δ)) := con_shape (c := spec_l05Cmp.c) mixed tysOk (getG_con (spec_l05Cmp.gok _)) spec_l05Cmp.fok rfl rfl fun _ => rfl
noncomputable def spec_l05Cmp_l0 (v0 v1 : List Int) (v2 : Int) : Option (Int) := lpW spec_l05Cmp.s spec_l05Cmp.c 0 (ud 40 [.vs false 5 v0, .vs false 5 v1, .undef, .undef, .undef, .int .i64 v2]) [] 0
noncomputable def spec_l05Cmp_l1 (v0 v1 : List Int) (v2 : Int) : Option (Int) := lpW spec_l05Cmp.s spec_l05Cmp.c 1 (ud 40 [.vs false 5 v0, .vs false 5 v1, .undef, .undef, .undef, .int .i64 v2]) [] 0
theorem spec_l05Cmp.eq (x0 x1 : List Int) : spec_l05Cmp x0 x1 =
    spec_l05Cmp_l0 x0 x1 (0 : Int) := by kernel_rfl
theorem spec_l05Cmp_l0.eq (v0 v1 : List Int) (v2 : Int) : spec_l05Cmp_l0 v0 v1 v2 =
    bif decide (v2 < (v0.length : Int)) then
      bif decide (v2 < (v1.length : Int)) then
        spec_l05Cmp_l1 v0 v1 v2
      else
        bif decide ((v0.length : Int) < (v1.length : Int)) then
          some (-1 : Int)
        else
          bif decide ((v0.length : Int) > (v1.length : Int)) then
            some (1 : Int)
          else
            some (0 : Int)
    else
      bif decide ((v0.length : Int) < (v1.length : Int)) then
        some (-1 : Int)
      else
        bif decide ((v0.length : Int) > (v1.length : Int)) then
          some (1 : Int)
        else
          some (0 : Int) := (Lw_eq tysOk (getG_con (spec_l05Cmp.gok _)) _ _).trans (by kernel_rfl)
theorem spec_l05Cmp_l1.eq (v0 v1 : List Int) (v2 : Int) : spec_l05Cmp_l1 v0 v1 v2 =
    (at? v0 v2).bind fun y1 =>
    (at? v1 v2).bind fun y2 =>
    bif decide (y1 < y2) then
      some (-1 : Int)
    else
      (at? v0 v2).bind fun y3 =>
      (at? v1 v2).bind fun y4 =>
      bif decide (y3 > y4) then
        some (1 : Int)
      else
        spec_l05Cmp_l0 v0 v1 (IntKind.i64.wrap (v2 + (1 : Int))) := (Lw_eq tysOk (getG_con (spec_l05Cmp.gok _)) _ _).trans (by kernel_rfl)

noncomputable abbrev spec_SuffixRows.s : Sg := ⟨[.lend], [vl 5], ⟨[vo 3], [none]⟩, Tryz.f65⟩
noncomputable def spec_SuffixRows.gs (δ : Type) : List (Nat × Callee (GT tab) δ) := [(130, spec_TextOk.k), (131, spec_l05Cmp.k)]
theorem spec_SuffixRows.gok (δ : Type) : AllCon Tryz.prog tab (spec_SuffixRows.gs δ) := .cons spec_TextOk.con (.cons spec_l05Cmp.con .nil)
noncomputable def spec_SuffixRows.c := cx spec_SuffixRows.s [] [(5, [0, 3, 4]), (9, [0, 3, 4, 5, 6])] false (spec_SuffixRows.gs _)
noncomputable def spec_SuffixRows (x0 : List Int) : Option (List Int) := fnW spec_SuffixRows.s spec_SuffixRows.c x0
theorem spec_SuffixRows.fok : FkS spec_SuffixRows.s 65 := ⟨Tryz.func65, by kernel_rfl, by kernel_rfl⟩
noncomputable def spec_SuffixRows.fn (x : Args tab spec_SuffixRows.s.ar) : Option (ResT tab spec_SuffixRows.s.rs) := spec_SuffixRows x
noncomputable abbrev spec_SuffixRows.k {δ : Type} : Callee (GT tab) δ := kS spec_SuffixRows.s spec_SuffixRows.fn
theorem spec_SuffixRows.con {δ : Type} : Con Tryz.prog (KT tab) 65 (spec_SuffixRows.k (δ := δ)) := con_shape (c := spec_SuffixRows.c) mixed tysOk (getG_con (spec_SuffixRows.gok _)) spec_SuffixRows.fok rfl rfl fun _ => rfl
noncomputable def spec_SuffixRows_l0 (v0 : List Int) (v1 : Int) (v2 : List Int) : Option (List Int) := lpW spec_SuffixRows.s spec_SuffixRows.c 0 (ud 51 [.vs false 5 v0, .undef, .undef, .sl 0 0, .int .i64 v1]) [.row 0 true 3 v2] 1
noncomputable def spec_SuffixRows_l1 (v0 : List Int) (v1 v2 v3 : Int) (v4 : List Int) : Option (List Int) := lpW spec_SuffixRows.s spec_SuffixRows.c 1 (ud 49 [.vs false 5 v0, .undef, .undef, .sl 0 0, .int .i64 v1, .int .i64 v2, .int .i64 v3]) [.row 0 true 3 v4] 1
theorem spec_SuffixRows.eq (x0 : List Int) : spec_SuffixRows x0 =
    (spec_TextOk x0).bind fun y1 =>
    bif !y1 then
      some ([] : List Int)
    else
      spec_SuffixRows_l0 x0 (x0.length : Int) ([] : List Int) := by kernel_rfl
theorem spec_SuffixRows_l0.eq (v0 : List Int) (v1 : Int) (v2 : List Int) : spec_SuffixRows_l0 v0 v1 v2 =
    bif decide (v1 ≥ (0 : Int)) then
      spec_SuffixRows_l1 v0 v1 (0 : Int) (v2.length : Int) v2
    else
      some v2 := (Lw_eq tysOk (getG_con (spec_SuffixRows.gok _)) _ _).trans (by kernel_rfl)
theorem spec_SuffixRows_l1.eq (v0 : List Int) (v1 v2 v3 : Int) (v4 : List Int) : spec_SuffixRows_l1 v0 v1 v2 v3 v4 =
    bif decide (v2 < v3) then
      (at? v4 (IntKind.i64.wrap ((IntKind.i64.wrap (v2 + v3)).tdiv (2 : Int)))).bind fun y1 =>
      v4[(IntKind.i64.wrap ((IntKind.i64.wrap (v2 + v3)).tdiv (2 : Int))).toNat]?.bind fun y2 =>
      bif decide (0 ≤ y2 ∧ y2 ≤ ((v0.length : Nat) : Int)) then
        bif decide (0 ≤ v1 ∧ v1 ≤ ((v0.length : Nat) : Int)) then
          (spec_l05Cmp ((v0.take v0.length).drop y2.toNat) ((v0.take v0.length).drop v1.toNat)).bind fun y3 =>
          bif decide (y3 < (0 : Int)) then
            spec_SuffixRows_l1 v0 v1 (IntKind.i64.wrap ((IntKind.i64.wrap ((IntKind.i64.wrap (v2 + v3)).tdiv (2 : Int))) + (1 : Int))) v3 v4
          else
            spec_SuffixRows_l1 v0 v1 v2 (IntKind.i64.wrap ((IntKind.i64.wrap (v2 + v3)).tdiv (2 : Int))) v4
        else
          none
      else
        none
    else
      bif decide (0 ≤ v2 ∧ v2 ≤ ((v4.length : Nat) : Int)) then
        bif decide ((([v1] : List Int).length + ((v4.drop v2.toNat).take (v4.length - v2.toNat)).length) * 8 ≤ 140737488355328) then
          bif decide (0 ≤ v2 ∧ v2 ≤ ((v4.length : Nat) : Int)) then
            bif decide ((([] : List Int).length + ((v4.drop 0).take (v2.toNat - 0)).length) * 8 ≤ 140737488355328) then
              bif decide (((([] : List Int) ++ ((v4.drop 0).take (v2.toNat - 0))).length + (([v1] : List Int) ++ ((v4.drop v2.toNat).take (v4.length - v2.toNat))).length) * 8 ≤ 140737488355328) then
                spec_SuffixRows_l0 v0 (IntKind.i64.wrap (v1 - (1 : Int))) ((([] : List Int) ++ ((v4.drop 0).take (v2.toNat - 0))) ++ (([v1] : List Int) ++ ((v4.drop v2.toNat).take (v4.length - v2.toNat))))
              else
                none
            else
              none
          else
            none
        else
          none
      else
        none := (Lw_eq tysOk (getG_con (spec_SuffixRows.gok _)) _ _).trans (by kernel_rfl)

noncomputable abbrev spec_Inverse.s : Sg := ⟨[.lend], [vl 3], ⟨[vo 3, vb], [none]⟩, Tryz.f89⟩
noncomputable def spec_Inverse.gs (δ : Type) : List (Nat × Callee (GT tab) δ) := []
theorem spec_Inverse.gok (δ : Type) : AllCon Tryz.prog tab (spec_Inverse.gs δ) := .nil
noncomputable def spec_Inverse.c := cx spec_Inverse.s [] [(5, [0, 4, 5]), (9, [0, 4, 5, 6, 7])] false (spec_Inverse.gs _)
noncomputable def spec_Inverse (x0 : List Int) : Option ((List Int) × Bool) := fnW spec_Inverse.s spec_Inverse.c x0
theorem spec_Inverse.fok : FkS spec_Inverse.s 89 := ⟨Tryz.func89, by kernel_rfl, by kernel_rfl⟩
noncomputable def spec_Inverse.fn (x : Args tab spec_Inverse.s.ar) : Option (ResT tab spec_Inverse.s.rs) := spec_Inverse x
noncomputable abbrev spec_Inverse.k {δ : Type} : Callee (GT tab) δ := kS spec_Inverse.s spec_Inverse.fn
theorem spec_Inverse.con {δ : Type} : Con Tryz.prog (KT tab) 89 (spec_Inverse.k (δ := δ)) := con_shape (c := spec_Inverse.c) mixed tysOk (getG_con (spec_Inverse.gok _)) spec_Inverse.fok rfl rfl fun _ => rfl
noncomputable def spec_Inverse_l0 (v0 : List Int) (v1 : Int) (v2 : List Int) : Option ((List Int) × Bool) := lpW spec_Inverse.s spec_Inverse.c 0 (ud 32 [.vs false 3 v0, .undef, .undef, .undef, .sl 0 0, .int .i64 v1]) [.row 0 true 3 v2] 1
noncomputable def spec_Inverse_l1 (v0 : List Int) (v1 v2 v3 : Int) (v4 : List Int) : Option ((List Int) × Bool) := lpW spec_Inverse.s spec_Inverse.c 1 (ud 30 [.vs false 3 v0, .undef, .undef, .undef, .sl 0 0, .int .i64 v1, .int .i64 v2, .int .i64 v3]) [.row 0 true 3 v4] 1
theorem spec_Inverse.eq (x0 : List Int) : spec_Inverse x0 =
    bif decide ((x0.length : Int) > (301 : Int)) then
      some (([] : List Int), false)
    else
      spec_Inverse_l0 x0 (0 : Int) ([] : List Int) := by kernel_rfl
theorem spec_Inverse_l0.eq (v0 : List Int) (v1 : Int) (v2 : List Int) : spec_Inverse_l0 v0 v1 v2 =
    bif decide (v1 < (v0.length : Int)) then
      spec_Inverse_l1 v0 v1 (-1 : Int) (0 : Int) v2
    else
      some (v2, true) := (Lw_eq tysOk (getG_con (spec_Inverse.gok _)) _ _).trans (by kernel_rfl)
theorem spec_Inverse_l1.eq (v0 : List Int) (v1 v2 v3 : Int) (v4 : List Int) : spec_Inverse_l1 v0 v1 v2 v3 v4 =
    bif decide (v3 < (v0.length : Int)) then
      (at? v0 v3).bind fun y1 =>
      bif y1 == v1 then
        spec_Inverse_l1 v0 v1 v3 (IntKind.i64.wrap (v3 + (1 : Int))) v4
      else
        spec_Inverse_l1 v0 v1 v2 (IntKind.i64.wrap (v3 + (1 : Int))) v4
    else
      bif decide (v2 < (0 : Int)) then
        some (([] : List Int), false)
      else
        bif decide ((v4.length + ([v2] : List Int).length) * 8 ≤ 140737488355328) then
          spec_Inverse_l0 v0 (IntKind.i64.wrap (v1 + (1 : Int))) (v4 ++ ([v2] : List Int))
        else
          none := (Lw_eq tysOk (getG_con (spec_Inverse.gok _)) _ _).trans (by kernel_rfl)

noncomputable abbrev spec_BwtOf.s : Sg := ⟨[.lend], [vl 5], ⟨[vo 3], [none]⟩, Tryz.f81⟩
noncomputable def spec_BwtOf.gs (δ : Type) : List (Nat × Callee (GT tab) δ) := [(65, spec_SuffixRows.k)]
theorem spec_BwtOf.gok (δ : Type) : AllCon Tryz.prog tab (spec_BwtOf.gs δ) := .cons spec_SuffixRows.con .nil
noncomputable def spec_BwtOf.c := cx spec_BwtOf.s [] [(4, [0, 3, 4, 5])] false (spec_BwtOf.gs _)
noncomputable def spec_BwtOf (x0 : List Int) : Option (List Int) := fnW spec_BwtOf.s spec_BwtOf.c x0
theorem spec_BwtOf.fok : FkS spec_BwtOf.s 81 := ⟨Tryz.func81, by kernel_rfl, by kernel_rfl⟩
noncomputable def spec_BwtOf.fn (x : Args tab spec_BwtOf.s.ar) : Option (ResT tab spec_BwtOf.s.rs) := spec_BwtOf x
noncomputable abbrev spec_BwtOf.k {δ : Type} : Callee (GT tab) δ := kS spec_BwtOf.s spec_BwtOf.fn
theorem spec_BwtOf.con {δ : Type} : Con Tryz.prog (KT tab) 81 (spec_BwtOf.k (δ := δ)) := con_shape (c := spec_BwtOf.c) mixed tysOk (getG_con (spec_BwtOf.gok _)) spec_BwtOf.fok rfl rfl fun _ => rfl
noncomputable def spec_BwtOf_l0 (v0 : List Int) (v1 : Int) (v2 v3 : List Int) : Option (List Int) := lpW spec_BwtOf.s spec_BwtOf.c 0 (ud 31 [.vs false 5 v0, .undef, .undef, .sl 0 0, .sl 1 0, .int .i64 v1]) [.row 0 true 3 v2, .row 0 true 3 v3] 2
theorem spec_BwtOf.eq (x0 : List Int) : spec_BwtOf x0 =
    (spec_SuffixRows x0).bind fun y1 =>
    spec_BwtOf_l0 x0 (0 : Int) y1 ([] : List Int) := by kernel_rfl
theorem spec_BwtOf_l0.eq (v0 : List Int) (v1 : Int) (v2 v3 : List Int) : spec_BwtOf_l0 v0 v1 v2 v3 =
    bif decide (v1 < (v2.length : Int)) then
      (at? v2 v1).bind fun y1 =>
      v2[v1.toNat]?.bind fun y2 =>
      bif y2 == (0 : Int) then
        bif decide ((v3.length + ([(0 : Int)] : List Int).length) * 8 ≤ 140737488355328) then
          spec_BwtOf_l0 v0 (IntKind.i64.wrap (v1 + (1 : Int))) v2 (v3 ++ ([(0 : Int)] : List Int))
        else
          none
      else
        (at? v2 v1).bind fun y3 =>
        v2[v1.toNat]?.bind fun y4 =>
        (at? v0 (IntKind.i64.wrap (y4 - (1 : Int)))).bind fun y5 =>
        bif decide ((v3.length + ([IntKind.i64.wrap ((IntKind.i64.wrap y5) + (1 : Int))] : List Int).length) * 8 ≤ 140737488355328) then
          spec_BwtOf_l0 v0 (IntKind.i64.wrap (v1 + (1 : Int))) v2 (v3 ++ ([IntKind.i64.wrap ((IntKind.i64.wrap y5) + (1 : Int))] : List Int))
        else
          none
    else
      some v3 := (Lw_eq tysOk (getG_con (spec_BwtOf.gok _)) _ _).trans (by kernel_rfl)

noncomputable abbrev spec_SymsOk.s : Sg := ⟨[.lend], [vl 3], ⟨[vb], [none]⟩, Tryz.f137⟩
noncomputable def spec_SymsOk.gs (δ : Type) : List (Nat × Callee (GT tab) δ) := []
theorem spec_SymsOk.gok (δ : Type) : AllCon Tryz.prog tab (spec_SymsOk.gs δ) := .nil
noncomputable def spec_SymsOk.c := cx spec_SymsOk.s [] [(4, [0, 3])] false (spec_SymsOk.gs _)
noncomputable def spec_SymsOk (x0 : List Int) : Option (Bool) := fnW spec_SymsOk.s spec_SymsOk.c x0
theorem spec_SymsOk.fok : FkS spec_SymsOk.s 137 := ⟨Tryz.func137, by kernel_rfl, by kernel_rfl⟩
noncomputable def spec_SymsOk.fn (x : Args tab spec_SymsOk.s.ar) : Option (ResT tab spec_SymsOk.s.rs) := spec_SymsOk x
noncomputable abbrev spec_SymsOk.k {δ : Type} : Callee (GT tab) δ := kS spec_SymsOk.s spec_SymsOk.fn
theorem spec_SymsOk.con {δ : Type} : Con Tryz.prog (KT tab) 137 (spec_SymsOk.k (δ := δ)) := con_shape (c := spec_SymsOk.c) mixed tysOk (getG_con (spec_SymsOk.gok _)) spec_SymsOk.fok rfl rfl fun _ => rfl
noncomputable def spec_SymsOk_l0 (v0 : List Int) (v1 : Int) : Option (Bool) := lpW spec_SymsOk.s spec_SymsOk.c 0 (ud 21 [.vs false 3 v0, .undef, .undef, .int .i64 v1]) [] 0
theorem spec_SymsOk.eq (x0 : List Int) : spec_SymsOk x0 =
    bif decide ((x0.length : Int) > (301 : Int)) then
      some false
    else
      spec_SymsOk_l0 x0 (0 : Int) := by kernel_rfl
theorem spec_SymsOk_l0.eq (v0 : List Int) (v1 : Int) : spec_SymsOk_l0 v0 v1 =
    bif decide (v1 < (v0.length : Int)) then
      (at? v0 v1).bind fun y1 =>
      bif decide (y1 < (0 : Int)) then
        some false
      else
        (at? v0 v1).bind fun y2 =>
        bif decide (y2 > (256 : Int)) then
          some false
        else
          spec_SymsOk_l0 v0 (IntKind.i64.wrap (v1 + (1 : Int)))
    else
      some true := (Lw_eq tysOk (getG_con (spec_SymsOk.gok _)) _ _).trans (by kernel_rfl)

noncomputable abbrev spec_Counts.s : Sg := ⟨[.lend], [vl 3], ⟨[vo 3], [none]⟩, Tryz.f167⟩
noncomputable def spec_Counts.gs (δ : Type) : List (Nat × Callee (GT tab) δ) := [(137, spec_SymsOk.k)]
theorem spec_Counts.gok (δ : Type) : AllCon Tryz.prog tab (spec_Counts.gs δ) := .cons spec_SymsOk.con .nil
noncomputable def spec_Counts.c := cx spec_Counts.s [] [(5, [0, 3, 4]), (9, [0, 3, 4, 5, 6])] false (spec_Counts.gs _)
noncomputable def spec_Counts (x0 : List Int) : Option (List Int) := fnW spec_Counts.s spec_Counts.c x0
theorem spec_Counts.fok : FkS spec_Counts.s 167 := ⟨Tryz.func167, by kernel_rfl, by kernel_rfl⟩
noncomputable def spec_Counts.fn (x : Args tab spec_Counts.s.ar) : Option (ResT tab spec_Counts.s.rs) := spec_Counts x
noncomputable abbrev spec_Counts.k {δ : Type} : Callee (GT tab) δ := kS spec_Counts.s spec_Counts.fn
theorem spec_Counts.con {δ : Type} : Con Tryz.prog (KT tab) 167 (spec_Counts.k (δ := δ)) := con_shape (c := spec_Counts.c) mixed tysOk (getG_con (spec_Counts.gok _)) spec_Counts.fok rfl rfl fun _ => rfl
noncomputable def spec_Counts_l0 (v0 : List Int) (v1 : Int) (v2 : List Int) : Option (List Int) := lpW spec_Counts.s spec_Counts.c 0 (ud 29 [.vs false 3 v0, .undef, .undef, .sl 0 0, .int .i64 v1]) [.row 0 true 3 v2] 1
noncomputable def spec_Counts_l1 (v0 : List Int) (v1 v2 v3 : Int) (v4 : List Int) : Option (List Int) := lpW spec_Counts.s spec_Counts.c 1 (ud 27 [.vs false 3 v0, .undef, .undef, .sl 0 0, .int .i64 v1, .int .i64 v2, .int .i64 v3]) [.row 0 true 3 v4] 1
theorem spec_Counts.eq (x0 : List Int) : spec_Counts x0 =
    (spec_SymsOk x0).bind fun y1 =>
    bif !y1 then
      some ([] : List Int)
    else
      spec_Counts_l0 x0 (0 : Int) ([] : List Int) := by kernel_rfl
theorem spec_Counts_l0.eq (v0 : List Int) (v1 : Int) (v2 : List Int) : spec_Counts_l0 v0 v1 v2 =
    bif decide (v1 ≤ (257 : Int)) then
      spec_Counts_l1 v0 v1 (0 : Int) (0 : Int) v2
    else
      some v2 := (Lw_eq tysOk (getG_con (spec_Counts.gok _)) _ _).trans (by kernel_rfl)
theorem spec_Counts_l1.eq (v0 : List Int) (v1 v2 v3 : Int) (v4 : List Int) : spec_Counts_l1 v0 v1 v2 v3 v4 =
    bif decide (v3 < (v0.length : Int)) then
      (at? v0 v3).bind fun y1 =>
      bif decide (y1 < v1) then
        spec_Counts_l1 v0 v1 (IntKind.i64.wrap (v2 + (1 : Int))) (IntKind.i64.wrap (v3 + (1 : Int))) v4
      else
        spec_Counts_l1 v0 v1 v2 (IntKind.i64.wrap (v3 + (1 : Int))) v4
    else
      bif decide ((v4.length + ([v2] : List Int).length) * 8 ≤ 140737488355328) then
        spec_Counts_l0 v0 (IntKind.i64.wrap (v1 + (1 : Int))) (v4 ++ ([v2] : List Int))
      else
        none := (Lw_eq tysOk (getG_con (spec_Counts.gok _)) _ _).trans (by kernel_rfl)

noncomputable abbrev spec_l02Pow.s : Sg := ⟨[.lend], [vi], ⟨[vi], [none]⟩, Tryz.f176⟩
noncomputable def spec_l02Pow.gs (δ : Type) : List (Nat × Callee (GT tab) δ) := []
theorem spec_l02Pow.gok (δ : Type) : AllCon Tryz.prog tab (spec_l02Pow.gs δ) := .nil
noncomputable def spec_l02Pow.c := cx spec_l02Pow.s [] [(2, [0, 3])] false (spec_l02Pow.gs _)
noncomputable def spec_l02Pow (x0 : Int) : Option (Int) := fnW spec_l02Pow.s spec_l02Pow.c x0
theorem spec_l02Pow.fok : FkS spec_l02Pow.s 176 := ⟨Tryz.func176, by kernel_rfl, by kernel_rfl⟩
noncomputable def spec_l02Pow.fn (x : Args tab spec_l02Pow.s.ar) : Option (ResT tab spec_l02Pow.s.rs) := spec_l02Pow x
noncomputable abbrev spec_l02Pow.k {δ : Type} : Callee (GT tab) δ := kS spec_l02Pow.s spec_l02Pow.fn
theorem spec_l02Pow.con {δ : Type} : Con Tryz.prog (KT tab) 176 (spec_l02Pow.k (δ := δ)) := con_shape (c := spec_l02Pow.c) mixed tysOk (getG_con (spec_l02Pow.gok _)) spec_l02Pow.fok rfl rfl fun _ => rfl
noncomputable def spec_l02Pow_l0 (v0 v1 : Int) : Option (Int) := lpW spec_l02Pow.s spec_l02Pow.c 0 (ud 7 [.int .i64 v0, .undef, .undef, .int .i64 v1]) [] 0
theorem spec_l02Pow.eq (x0 : Int) : spec_l02Pow x0 =
    spec_l02Pow_l0 x0 (1 : Int) := by kernel_rfl
theorem spec_l02Pow_l0.eq (v0 v1 : Int) : spec_l02Pow_l0 v0 v1 =
    bif decide (v0 > (0 : Int)) then
      spec_l02Pow_l0 (IntKind.i64.wrap (v0 - (1 : Int))) (IntKind.i64.wrap ((2 : Int) * v1))
    else
      some v1 := (Lw_eq tysOk (getG_con (spec_l02Pow.gok _)) _ _).trans (by kernel_rfl)

noncomputable abbrev spec_l01Power.s : Sg := ⟨[.lend], [vi], ⟨[.one (.b (.b (.b (.b (.int .u64)))))], [none]⟩, Tryz.f198⟩
noncomputable def spec_l01Power.gs (δ : Type) : List (Nat × Callee (GT tab) δ) := []
theorem spec_l01Power.gok (δ : Type) : AllCon Tryz.prog tab (spec_l01Power.gs δ) := .nil
noncomputable def spec_l01Power.c := cx spec_l01Power.s [] [(2, [0, 3])] false (spec_l01Power.gs _)
noncomputable def spec_l01Power (x0 : Int) : Option (Int) := fnW spec_l01Power.s spec_l01Power.c x0
theorem spec_l01Power.fok : FkS spec_l01Power.s 198 := ⟨Tryz.func198, by kernel_rfl, by kernel_rfl⟩
noncomputable def spec_l01Power.fn (x : Args tab spec_l01Power.s.ar) : Option (ResT tab spec_l01Power.s.rs) := spec_l01Power x
noncomputable abbrev spec_l01Power.k {δ : Type} : Callee (GT tab) δ := kS spec_l01Power.s spec_l01Power.fn
theorem spec_l01Power.con {δ : Type} : Con Tryz.prog (KT tab) 198 (spec_l01Power.k (δ := δ)) := con_shape (c := spec_l01Power.c) mixed tysOk (getG_con (spec_l01Power.gok _)) spec_l01Power.fok rfl rfl fun _ => rfl
noncomputable def spec_l01Power_l0 (v0 v1 : Int) : Option (Int) := lpW spec_l01Power.s spec_l01Power.c 0 (ud 7 [.int .i64 v0, .undef, .undef, .int .u64 v1]) [] 0
theorem spec_l01Power.eq (x0 : Int) : spec_l01Power x0 =
    spec_l01Power_l0 x0 (1 : Int) := by kernel_rfl
theorem spec_l01Power_l0.eq (v0 v1 : Int) : spec_l01Power_l0 v0 v1 =
    bif decide (v0 > (0 : Int)) then
      spec_l01Power_l0 (IntKind.i64.wrap (v0 - (1 : Int))) (IntKind.u64.wrap ((2 : Int) * v1))
    else
      some v1 := (Lw_eq tysOk (getG_con (spec_l01Power.gok _)) _ _).trans (by kernel_rfl)

noncomputable abbrev spec_BitsOf.s : Sg := ⟨[.lend], [vl 3], ⟨[.agg [.int .i64, .sl true true 126], vb], [none]⟩, Tryz.f170⟩
noncomputable def spec_BitsOf.gs (δ : Type) : List (Nat × Callee (GT tab) δ) := [(198, spec_l01Power.k)]
theorem spec_BitsOf.gok (δ : Type) : AllCon Tryz.prog tab (spec_BitsOf.gs δ) := .cons spec_l01Power.con .nil
noncomputable def spec_BitsOf.c := cx spec_BitsOf.s [9] [(5, [0, 2, 4, 5]), (9, [0, 2, 4, 5])] false (spec_BitsOf.gs _)
noncomputable def spec_BitsOf (x0 : List Int) : Option ((Int × (List Int)) × Bool) := fnW spec_BitsOf.s spec_BitsOf.c x0
theorem spec_BitsOf.fok : FkS spec_BitsOf.s 170 := ⟨Tryz.func170, by kernel_rfl, by kernel_rfl⟩
noncomputable def spec_BitsOf.fn (x : Args tab spec_BitsOf.s.ar) : Option (ResT tab spec_BitsOf.s.rs) := spec_BitsOf x
noncomputable abbrev spec_BitsOf.k {δ : Type} : Callee (GT tab) δ := kS spec_BitsOf.s spec_BitsOf.fn
theorem spec_BitsOf.con {δ : Type} : Con Tryz.prog (KT tab) 170 (spec_BitsOf.k (δ := δ)) := con_shape (c := spec_BitsOf.c) mixed tysOk (getG_con (spec_BitsOf.gok _)) spec_BitsOf.fok rfl rfl fun _ => rfl
noncomputable def spec_BitsOf_l0 (v0 : List Int) (v1 v2 : Int) (v3 : List Int) (v4 : Int) (v5 : List Int) : Option ((Int × (List Int)) × Bool) := lpW spec_BitsOf.s spec_BitsOf.c 0 (ud 55 [.vs false 3 v0, .undef, .ptr 0 0, .undef, .ptr 2 0, .int .i64 v1]) [.box 30 [.int .i64 v2, .sl 1 0], .row 0 true 126 v3, .box 30 [.int .i64 v4, .sl 3 0], .row 0 true 126 v5] 4
noncomputable def spec_BitsOf_l1 (v0 : List Int) (v1 v2 : Int) (v3 : List Int) (v4 : Int) (v5 : List Int) : Option ((Int × (List Int)) × Bool) := lpW spec_BitsOf.s spec_BitsOf.c 1 (ud 55 [.vs false 3 v0, .undef, .ptr 0 0, .undef, .ptr 2 0, .int .i64 v1]) [.box 30 [.int .i64 v2, .sl 1 0], .row 0 true 126 v3, .box 30 [.int .i64 v4, .sl 3 0], .row 0 true 126 v5] 4
theorem spec_BitsOf.eq (x0 : List Int) : spec_BitsOf x0 =
    bif decide ((x0.length : Int) > (5000 : Int)) then
      some (((0 : Int), ([] : List Int)), false)
    else
      spec_BitsOf_l0 x0 (0 : Int) (0 : Int) ([] : List Int) (x0.length : Int) ([] : List Int) := by kernel_rfl
theorem spec_BitsOf_l0.eq (v0 : List Int) (v1 v2 : Int) (v3 : List Int) (v4 : Int) (v5 : List Int) : spec_BitsOf_l0 v0 v1 v2 v3 v4 v5 =
    bif decide (v1 < (v0.length : Int)) then
      (at? v0 v1).bind fun y1 =>
      bif y1 != (0 : Int) then
        (at? v0 v1).bind fun y2 =>
        bif y2 != (1 : Int) then
          some (((0 : Int), ([] : List Int)), false)
        else
          spec_BitsOf_l1 v0 v1 v2 v3 v4 v5
      else
        spec_BitsOf_l1 v0 v1 v2 v3 v4 v5
    else
      some ((v4, v5), true) := (Lw_eq tysOk (getG_con (spec_BitsOf.gok _)) _ _).trans (by kernel_rfl)
theorem spec_BitsOf_l1.eq (v0 : List Int) (v1 v2 : Int) (v3 : List Int) (v4 : Int) (v5 : List Int) : spec_BitsOf_l1 v0 v1 v2 v3 v4 v5 =
    bif v1.tmod (64 : Int) == (0 : Int) then
      bif decide ((v5.length + ([(0 : Int)] : List Int).length) * 8 ≤ 140737488355328) then
        (at? v0 v1).bind fun y1 =>
        bif y1 == (1 : Int) then
          (at? (v5 ++ ([(0 : Int)] : List Int)) (IntKind.i64.wrap (v1.tdiv (64 : Int)))).bind fun y2 =>
          (v5 ++ ([(0 : Int)] : List Int))[(IntKind.i64.wrap (v1.tdiv (64 : Int))).toNat]?.bind fun y3 =>
          (spec_l01Power (v1.tmod (64 : Int))).bind fun y4 =>
          (at? (v5 ++ ([(0 : Int)] : List Int)) (IntKind.i64.wrap (v1.tdiv (64 : Int)))).bind fun y5 =>
          (v5 ++ ([(0 : Int)] : List Int))[(IntKind.i64.wrap (v1.tdiv (64 : Int))).toNat]?.bind fun y6 =>
          spec_BitsOf_l0 v0 (IntKind.i64.wrap (v1 + (1 : Int))) v2 v3 v4 ((v5 ++ ([(0 : Int)] : List Int)).set ((IntKind.i64.wrap (v1.tdiv (64 : Int))).toNat) (IntKind.u64.wrap (y3 + y4)))
        else
          spec_BitsOf_l0 v0 (IntKind.i64.wrap (v1 + (1 : Int))) v2 v3 v4 (v5 ++ ([(0 : Int)] : List Int))
      else
        none
    else
      (at? v0 v1).bind fun y7 =>
      bif y7 == (1 : Int) then
        (at? v5 (IntKind.i64.wrap (v1.tdiv (64 : Int)))).bind fun y8 =>
        v5[(IntKind.i64.wrap (v1.tdiv (64 : Int))).toNat]?.bind fun y9 =>
        (spec_l01Power (v1.tmod (64 : Int))).bind fun y10 =>
        (at? v5 (IntKind.i64.wrap (v1.tdiv (64 : Int)))).bind fun y11 =>
        v5[(IntKind.i64.wrap (v1.tdiv (64 : Int))).toNat]?.bind fun y12 =>
        spec_BitsOf_l0 v0 (IntKind.i64.wrap (v1 + (1 : Int))) v2 v3 v4 (v5.set ((IntKind.i64.wrap (v1.tdiv (64 : Int))).toNat) (IntKind.u64.wrap (y9 + y10)))
      else
        spec_BitsOf_l0 v0 (IntKind.i64.wrap (v1 + (1 : Int))) v2 v3 v4 v5 := (Lw_eq tysOk (getG_con (spec_BitsOf.gok _)) _ _).trans (by kernel_rfl)

noncomputable abbrev spec_WaveOf.s : Sg := ⟨[.lend], [vl 3], ⟨[.agg [.int .i64, .sl true true 3, .sl true true 30], vb], [none]⟩, Tryz.f168⟩
noncomputable def spec_WaveOf.gs (δ : Type) : List (Nat × Callee (GT tab) δ) := [(170, spec_BitsOf.k), (176, spec_l02Pow.k)]
theorem spec_WaveOf.gok (δ : Type) : AllCon Tryz.prog tab (spec_WaveOf.gs δ) := .cons spec_BitsOf.con (.cons spec_l02Pow.con .nil)
noncomputable def spec_WaveOf.c := cx spec_WaveOf.s [] [(4, [0, 2, 4]), (11, [2, 5, 6, 7]), (17, [2, 5, 6, 7, 8, 9, 10, 11])] false (spec_WaveOf.gs _)
noncomputable def spec_WaveOf (x0 : List Int) : Option ((Int × (List Int) × (List (Int × (List Int)))) × Bool) := fnW spec_WaveOf.s spec_WaveOf.c x0
theorem spec_WaveOf.fok : FkS spec_WaveOf.s 168 := ⟨Tryz.func168, by kernel_rfl, by kernel_rfl⟩
noncomputable def spec_WaveOf.fn (x : Args tab spec_WaveOf.s.ar) : Option (ResT tab spec_WaveOf.s.rs) := spec_WaveOf x
noncomputable abbrev spec_WaveOf.k {δ : Type} : Callee (GT tab) δ := kS spec_WaveOf.s spec_WaveOf.fn
theorem spec_WaveOf.con {δ : Type} : Con Tryz.prog (KT tab) 168 (spec_WaveOf.k (δ := δ)) := con_shape (c := spec_WaveOf.c) mixed tysOk (getG_con (spec_WaveOf.gok _)) spec_WaveOf.fok rfl rfl fun _ => rfl
noncomputable def spec_WaveOf_l0 (v0 : List Int) (v1 v2 : Int) (v3 : List Int) (v4 : List (Int × (List Int))) : Option ((Int × (List Int) × (List (Int × (List Int)))) × Bool) := lpW spec_WaveOf.s spec_WaveOf.c 0 (ud 103 [.vs false 3 v0, .undef, .ptr 0 0, .undef, .int .i64 v1]) [.box 27 [.int .i64 v2, .sl 1 0, .sl 2 0], .row 0 true 3 v3, .row 0 true 30 v4] 3
noncomputable def spec_WaveOf_l1 (v0 v1 : Int) (v2 : List Int) (v3 : List (Int × (List Int))) (v4 : Int) (v5 : List Int) (v6 : List (Int × (List Int))) (v7 : List Int) : Option ((Int × (List Int) × (List (Int × (List Int)))) × Bool) := lpW spec_WaveOf.s spec_WaveOf.c 1 (ud 100 [.undef, .undef, .ptr 0 0, .undef, .undef, .ptr 3 0, .sl 6 0, .int .i64 v0]) [.box 27 [.int .i64 v1, .sl 1 0, .sl 2 0], .row 0 true 3 v2, .row 0 true 30 v3, .box 27 [.int .i64 v4, .sl 4 0, .sl 5 0], .row 0 true 3 v5, .row 0 true 30 v6, .row 0 true 3 v7] 7
noncomputable def spec_WaveOf_l2 (v0 v1 v2 : Int) (v3 : List Int) (v4 : List (Int × (List Int))) (v5 : Int) (v6 : List Int) (v7 : List (Int × (List Int))) (v8 v9 v10 v11 : List Int) : Option ((Int × (List Int) × (List (Int × (List Int)))) × Bool) := lpW spec_WaveOf.s spec_WaveOf.c 2 (ud 96 [.undef, .undef, .ptr 0 0, .undef, .undef, .ptr 3 0, .sl 6 0, .int .i64 v0, .sl 7 0, .sl 8 0, .sl 9 0, .int .i64 v1]) [.box 27 [.int .i64 v2, .sl 1 0, .sl 2 0], .row 0 true 3 v3, .row 0 true 30 v4, .box 27 [.int .i64 v5, .sl 4 0, .sl 5 0], .row 0 true 3 v6, .row 0 true 30 v7, .row 0 true 3 v8, .row 0 true 3 v9, .row 0 true 3 v10, .row 0 true 3 v11] 10
theorem spec_WaveOf.eq (x0 : List Int) : spec_WaveOf x0 =
    bif decide ((x0.length : Int) > (1000 : Int)) then
      some (((0 : Int), ([] : List Int), ([] : List (Int × (List Int)))), false)
    else
      spec_WaveOf_l0 x0 (0 : Int) (0 : Int) ([] : List Int) ([] : List (Int × (List Int))) := by kernel_rfl
theorem spec_WaveOf_l0.eq (v0 : List Int) (v1 v2 : Int) (v3 : List Int) (v4 : List (Int × (List Int))) : spec_WaveOf_l0 v0 v1 v2 v3 v4 =
    bif decide (v1 < (v0.length : Int)) then
      (at? v0 v1).bind fun y1 =>
      bif decide (y1 < (0 : Int)) then
        some (((0 : Int), ([] : List Int), ([] : List (Int × (List Int)))), false)
      else
        (at? v0 v1).bind fun y2 =>
        bif decide (y2 > (511 : Int)) then
          some (((0 : Int), ([] : List Int), ([] : List (Int × (List Int)))), false)
        else
          spec_WaveOf_l0 v0 (IntKind.i64.wrap (v1 + (1 : Int))) v2 v3 v4
    else
      bif decide ((([] : List Int).length + v0.length) * 8 ≤ 140737488355328) then
        spec_WaveOf_l1 (0 : Int) v2 v3 v4 (v0.length : Int) ([] : List Int) ([] : List (Int × (List Int))) (([] : List Int) ++ v0)
      else
        none := (Lw_eq tysOk (getG_con (spec_WaveOf.gok _)) _ _).trans (by kernel_rfl)
theorem spec_WaveOf_l1.eq (v0 v1 : Int) (v2 : List Int) (v3 : List (Int × (List Int))) (v4 : Int) (v5 : List Int) (v6 : List (Int × (List Int))) (v7 : List Int) : spec_WaveOf_l1 v0 v1 v2 v3 v4 v5 v6 v7 =
    bif decide (v0 < (9 : Int)) then
      spec_WaveOf_l2 v0 (0 : Int) v1 v2 v3 v4 v5 v6 v7 ([] : List Int) ([] : List Int) ([] : List Int)
    else
      some ((v4, v5, v6), true) := (Lw_eq tysOk (getG_con (spec_WaveOf.gok _)) _ _).trans (by kernel_rfl)
theorem spec_WaveOf_l2.eq (v0 v1 v2 : Int) (v3 : List Int) (v4 : List (Int × (List Int))) (v5 : Int) (v6 : List Int) (v7 : List (Int × (List Int))) (v8 v9 v10 v11 : List Int) : spec_WaveOf_l2 v0 v1 v2 v3 v4 v5 v6 v7 v8 v9 v10 v11 =
    bif decide (v1 < (v8.length : Int)) then
      (at? v8 v1).bind fun y1 =>
      v8[v1.toNat]?.bind fun y2 =>
      (spec_l02Pow (IntKind.i64.wrap ((8 : Int) - v0))).bind fun y3 =>
      bif decide (y3 = (0 : Int)) then
        none
      else
        bif decide ((v9.length + ([(IntKind.i64.wrap (y2.tdiv y3)).tmod (2 : Int)] : List Int).length) * 8 ≤ 140737488355328) then
          bif (IntKind.i64.wrap (y2.tdiv y3)).tmod (2 : Int) == (0 : Int) then
            (at? v8 v1).bind fun y4 =>
            v8[v1.toNat]?.bind fun y5 =>
            bif decide ((v10.length + ([y5] : List Int).length) * 8 ≤ 140737488355328) then
              spec_WaveOf_l2 v0 (IntKind.i64.wrap (v1 + (1 : Int))) v2 v3 v4 v5 v6 v7 v8 (v9 ++ ([(IntKind.i64.wrap (y2.tdiv y3)).tmod (2 : Int)] : List Int)) (v10 ++ ([y5] : List Int)) v11
            else
              none
          else
            (at? v8 v1).bind fun y6 =>
            v8[v1.toNat]?.bind fun y7 =>
            bif decide ((v11.length + ([y7] : List Int).length) * 8 ≤ 140737488355328) then
              spec_WaveOf_l2 v0 (IntKind.i64.wrap (v1 + (1 : Int))) v2 v3 v4 v5 v6 v7 v8 (v9 ++ ([(IntKind.i64.wrap (y2.tdiv y3)).tmod (2 : Int)] : List Int)) v10 (v11 ++ ([y7] : List Int))
            else
              none
        else
          none
    else
      (spec_BitsOf v9).bind fun y8 =>
      bif decide ((v7.length + ([(y8.1.1, y8.1.2)] : List (Int × (List Int))).length) * 32 ≤ 140737488355328) then
        bif decide ((v6.length + ([(v10.length : Int)] : List Int).length) * 8 ≤ 140737488355328) then
          bif decide ((v10.length + v11.length) * 8 ≤ 140737488355328) then
            spec_WaveOf_l1 (IntKind.i64.wrap (v0 + (1 : Int))) v2 v3 v4 v5 (v6 ++ ([(v10.length : Int)] : List Int)) (v7 ++ ([(y8.1.1, y8.1.2)] : List (Int × (List Int)))) (v10 ++ v11)
          else
            none
        else
          none
      else
        none := (Lw_eq tysOk (getG_con (spec_WaveOf.gok _)) _ _).trans (by kernel_rfl)

noncomputable abbrev spec_l01Bool.s : Sg := ⟨[.lend], [vb], ⟨[vi], [none]⟩, Tryz.f169⟩
noncomputable def spec_l01Bool.gs (δ : Type) : List (Nat × Callee (GT tab) δ) := []
theorem spec_l01Bool.gok (δ : Type) : AllCon Tryz.prog tab (spec_l01Bool.gs δ) := .nil
noncomputable def spec_l01Bool.c := cx spec_l01Bool.s [] [] false (spec_l01Bool.gs _)
noncomputable def spec_l01Bool (x0 : Bool) : Option (Int) := fnW spec_l01Bool.s spec_l01Bool.c x0
theorem spec_l01Bool.fok : FkS spec_l01Bool.s 169 := ⟨Tryz.func169, by kernel_rfl, by kernel_rfl⟩
noncomputable def spec_l01Bool.fn (x : Args tab spec_l01Bool.s.ar) : Option (ResT tab spec_l01Bool.s.rs) := spec_l01Bool x
noncomputable abbrev spec_l01Bool.k {δ : Type} : Callee (GT tab) δ := kS spec_l01Bool.s spec_l01Bool.fn
theorem spec_l01Bool.con {δ : Type} : Con Tryz.prog (KT tab) 169 (spec_l01Bool.k (δ := δ)) := con_shape (c := spec_l01Bool.c) mixed tysOk (getG_con (spec_l01Bool.gok _)) spec_l01Bool.fok rfl rfl fun _ => rfl
theorem spec_l01Bool.eq (x0 : Bool) : spec_l01Bool x0 =
    bif x0 then
      some (1 : Int)
    else
      some (0 : Int) := by kernel_rfl

noncomputable abbrev spec_WidthOf.s : Sg := ⟨[.lend], [vi], ⟨[vi], [none]⟩, Tryz.f172⟩
noncomputable def spec_WidthOf.gs (δ : Type) : List (Nat × Callee (GT tab) δ) := []
theorem spec_WidthOf.gok (δ : Type) : AllCon Tryz.prog tab (spec_WidthOf.gs δ) := .nil
noncomputable def spec_WidthOf.c := cx spec_WidthOf.s [] [(4, [0, 3])] false (spec_WidthOf.gs _)
noncomputable def spec_WidthOf (x0 : Int) : Option (Int) := fnW spec_WidthOf.s spec_WidthOf.c x0
theorem spec_WidthOf.fok : FkS spec_WidthOf.s 172 := ⟨Tryz.func172, by kernel_rfl, by kernel_rfl⟩
noncomputable def spec_WidthOf.fn (x : Args tab spec_WidthOf.s.ar) : Option (ResT tab spec_WidthOf.s.rs) := spec_WidthOf x
noncomputable abbrev spec_WidthOf.k {δ : Type} : Callee (GT tab) δ := kS spec_WidthOf.s spec_WidthOf.fn
theorem spec_WidthOf.con {δ : Type} : Con Tryz.prog (KT tab) 172 (spec_WidthOf.k (δ := δ)) := con_shape (c := spec_WidthOf.c) mixed tysOk (getG_con (spec_WidthOf.gok _)) spec_WidthOf.fok rfl rfl fun _ => rfl
noncomputable def spec_WidthOf_l0 (v0 v1 : Int) : Option (Int) := lpW spec_WidthOf.s spec_WidthOf.c 0 (ud 9 [.int .i64 v0, .undef, .undef, .int .i64 v1]) [] 0
theorem spec_WidthOf.eq (x0 : Int) : spec_WidthOf x0 =
    bif decide (x0 < (0 : Int)) then
      some (-1 : Int)
    else
      spec_WidthOf_l0 x0 (0 : Int) := by kernel_rfl
theorem spec_WidthOf_l0.eq (v0 v1 : Int) : spec_WidthOf_l0 v0 v1 =
    bif decide (v0 > (0 : Int)) then
      spec_WidthOf_l0 (IntKind.i64.wrap (v0.tdiv (2 : Int))) (IntKind.i64.wrap (v1 + (1 : Int)))
    else
      some v1 := (Lw_eq tysOk (getG_con (spec_WidthOf.gok _)) _ _).trans (by kernel_rfl)

noncomputable abbrev spec_PackOf.s : Sg := ⟨[.lend, .lend], [vl 3, vi], ⟨[.agg [.int .i64, .int .i64, .int .i64, .sl true true 126], vb], [none, none]⟩, Tryz.f171⟩
noncomputable def spec_PackOf.gs (δ : Type) : List (Nat × Callee (GT tab) δ) := [(170, spec_BitsOf.k), (176, spec_l02Pow.k)]
theorem spec_PackOf.gok (δ : Type) : AllCon Tryz.prog tab (spec_PackOf.gs δ) := .cons spec_BitsOf.con (.cons spec_l02Pow.con .nil)
noncomputable def spec_PackOf.c := cx spec_PackOf.s [3, 10] [(3, [0, 1, 4]), (5, [0, 1, 4, 6, 7]), (10, [0, 1, 4, 6, 7, 8]), (11, [0, 1, 4, 6, 7, 8, 9])] false (spec_PackOf.gs _)
noncomputable def spec_PackOf (x0 : List Int) (x1 : Int) : Option ((Int × Int × Int × (List Int)) × Bool) := fnW spec_PackOf.s spec_PackOf.c (x0, x1)
theorem spec_PackOf.fok : FkS spec_PackOf.s 171 := ⟨Tryz.func171, by kernel_rfl, by kernel_rfl⟩
noncomputable def spec_PackOf.fn (x : Args tab spec_PackOf.s.ar) : Option (ResT tab spec_PackOf.s.rs) := spec_PackOf x.1 x.2
noncomputable abbrev spec_PackOf.k {δ : Type} : Callee (GT tab) δ := kS spec_PackOf.s spec_PackOf.fn
theorem spec_PackOf.con {δ : Type} : Con Tryz.prog (KT tab) 171 (spec_PackOf.k (δ := δ)) := con_shape (c := spec_PackOf.c) mixed tysOk (getG_con (spec_PackOf.gok _)) spec_PackOf.fok rfl rfl fun _ => rfl
noncomputable def spec_PackOf_l0 (v0 : List Int) (v1 v2 v3 v4 : Int) (v5 : List Int) : Option ((Int × Int × Int × (List Int)) × Bool) := lpW spec_PackOf.s spec_PackOf.c 0 (ud 68 [.vs false 3 v0, .int .i64 v1, .undef, .undef, .ptr 0 0]) [.box 32 [.int .i64 v2, .int .i64 v3, .int .i64 v4, .sl 1 0], .row 0 true 126 v5] 2
noncomputable def spec_PackOf_l1 (v0 : List Int) (v1 v2 v3 v4 v5 : Int) (v6 v7 : List Int) : Option ((Int × Int × Int × (List Int)) × Bool) := lpW spec_PackOf.s spec_PackOf.c 1 (ud 65 [.vs false 3 v0, .int .i64 v1, .undef, .undef, .ptr 0 0, .undef, .sl 2 0, .int .i64 v2]) [.box 32 [.int .i64 v3, .int .i64 v4, .int .i64 v5, .sl 1 0], .row 0 true 126 v6, .row 0 true 3 v7] 3
noncomputable def spec_PackOf_l2 (v0 : List Int) (v1 v2 v3 v4 v5 v6 : Int) (v7 v8 : List Int) : Option ((Int × Int × Int × (List Int)) × Bool) := lpW spec_PackOf.s spec_PackOf.c 2 (ud 64 [.vs false 3 v0, .int .i64 v1, .undef, .undef, .ptr 0 0, .undef, .sl 2 0, .int .i64 v2, .int .i64 v3]) [.box 32 [.int .i64 v4, .int .i64 v5, .int .i64 v6, .sl 1 0], .row 0 true 126 v7, .row 0 true 3 v8] 3
noncomputable def spec_PackOf_l3 (v0 : List Int) (v1 v2 v3 v4 v5 v6 v7 : Int) (v8 v9 : List Int) : Option ((Int × Int × Int × (List Int)) × Bool) := lpW spec_PackOf.s spec_PackOf.c 3 (ud 63 [.vs false 3 v0, .int .i64 v1, .undef, .undef, .ptr 0 0, .undef, .sl 2 0, .int .i64 v2, .int .i64 v3, .int .i64 v4]) [.box 32 [.int .i64 v5, .int .i64 v6, .int .i64 v7, .sl 1 0], .row 0 true 126 v8, .row 0 true 3 v9] 3
theorem spec_PackOf.eq (x0 : List Int) (x1 : Int) : spec_PackOf x0 x1 =
    bif decide (x1 < (0 : Int)) then
      some (((0 : Int), (0 : Int), (0 : Int), ([] : List Int)), false)
    else
      bif decide (x1 > (32 : Int)) then
        some (((0 : Int), (0 : Int), (0 : Int), ([] : List Int)), false)
      else
        bif decide ((x0.length : Int) > (5000 : Int)) then
          some (((0 : Int), (0 : Int), (0 : Int), ([] : List Int)), false)
        else
          bif decide (IntKind.i64.wrap ((x0.length : Int) * x1) > (5000 : Int)) then
            some (((0 : Int), (0 : Int), (0 : Int), ([] : List Int)), false)
          else
            spec_PackOf_l0 x0 x1 (0 : Int) (0 : Int) (0 : Int) ([] : List Int) := by kernel_rfl
theorem spec_PackOf_l0.eq (v0 : List Int) (v1 v2 v3 v4 : Int) (v5 : List Int) : spec_PackOf_l0 v0 v1 v2 v3 v4 v5 =
    spec_PackOf_l1 v0 v1 (0 : Int) v2 v3 v4 v5 ([] : List Int) := (Lw_eq tysOk (getG_con (spec_PackOf.gok _)) _ _).trans (by kernel_rfl)
theorem spec_PackOf_l1.eq (v0 : List Int) (v1 v2 v3 v4 v5 : Int) (v6 v7 : List Int) : spec_PackOf_l1 v0 v1 v2 v3 v4 v5 v6 v7 =
    bif decide (v2 < (v0.length : Int)) then
      (at? v0 v2).bind fun y1 =>
      bif decide (y1 < (0 : Int)) then
        some (((0 : Int), (0 : Int), (0 : Int), ([] : List Int)), false)
      else
        (spec_l02Pow v1).bind fun y2 =>
        bif decide (y1 ≥ y2) then
          some (((0 : Int), (0 : Int), (0 : Int), ([] : List Int)), false)
        else
          spec_PackOf_l2 v0 v1 v2 y1 v3 v4 v5 v6 v7
    else
      (spec_BitsOf v7).bind fun y3 =>
      some ((v1, (v0.length : Int), y3.1.1, y3.1.2), true) := (Lw_eq tysOk (getG_con (spec_PackOf.gok _)) _ _).trans (by kernel_rfl)
theorem spec_PackOf_l2.eq (v0 : List Int) (v1 v2 v3 v4 v5 v6 : Int) (v7 v8 : List Int) : spec_PackOf_l2 v0 v1 v2 v3 v4 v5 v6 v7 v8 =
    spec_PackOf_l3 v0 v1 v2 v3 (0 : Int) v4 v5 v6 v7 v8 := (Lw_eq tysOk (getG_con (spec_PackOf.gok _)) _ _).trans (by kernel_rfl)
theorem spec_PackOf_l3.eq (v0 : List Int) (v1 v2 v3 v4 v5 v6 v7 : Int) (v8 v9 : List Int) : spec_PackOf_l3 v0 v1 v2 v3 v4 v5 v6 v7 v8 v9 =
    bif decide (v4 < v1) then
      bif decide ((v9.length + ([v3.tmod (2 : Int)] : List Int).length) * 8 ≤ 140737488355328) then
        spec_PackOf_l3 v0 v1 v2 (IntKind.i64.wrap (v3.tdiv (2 : Int))) (IntKind.i64.wrap (v4 + (1 : Int))) v5 v6 v7 v8 (v9 ++ ([v3.tmod (2 : Int)] : List Int))
      else
        none
    else
      spec_PackOf_l1 v0 v1 (IntKind.i64.wrap (v2 + (1 : Int))) v5 v6 v7 v8 v9 := (Lw_eq tysOk (getG_con (spec_PackOf.gok _)) _ _).trans (by kernel_rfl)

noncomputable abbrev spec_FmOf.s : Sg := ⟨[.lend, .lend], [vl 5, vi], ⟨[.agg [.int .i64, .int .i64, .int .i64, .sl true true 3, .sl true true 30, .sl true true 3, .int .i64, .sl true true 126, .int .i64, .int .i64, .int .i64, .sl true true 126, .int .i64, .int .i64, .int .i64, .sl true true 126], vb], [none, none]⟩, Tryz.f111⟩
noncomputable def spec_FmOf.gs (δ : Type) : List (Nat × Callee (GT tab) δ) := [(65, spec_SuffixRows.k), (81, spec_BwtOf.k), (89, spec_Inverse.k), (124, spec_l09Rate.k), (130, spec_TextOk.k), (167, spec_Counts.k), (168, spec_WaveOf.k), (169, spec_l01Bool.k), (170, spec_BitsOf.k), (171, spec_PackOf.k), (172, spec_WidthOf.k)]
theorem spec_FmOf.gok (δ : Type) : AllCon Tryz.prog tab (spec_FmOf.gs δ) := .cons spec_SuffixRows.con (.cons spec_BwtOf.con (.cons spec_Inverse.con (.cons spec_l09Rate.con (.cons spec_TextOk.con (.cons spec_Counts.con (.cons spec_WaveOf.con (.cons spec_l01Bool.con (.cons spec_BitsOf.con (.cons spec_PackOf.con (.cons spec_WidthOf.con .nil))))))))))
noncomputable def spec_FmOf.c := cx spec_FmOf.s [3] [(3, [0, 1, 4]), (11, [0, 1, 4, 6, 7, 10, 11, 12, 13]), (18, [0, 1, 4, 7, 10, 11, 12, 14, 15])] false (spec_FmOf.gs _)
noncomputable def spec_FmOf (x0 : List Int) (x1 : Int) : Option ((Int × Int × Int × (List Int) × (List (Int × (List Int))) × (List Int) × Int × (List Int) × Int × Int × Int × (List Int) × Int × Int × Int × (List Int)) × Bool) := fnW spec_FmOf.s spec_FmOf.c (x0, x1)
theorem spec_FmOf.fok : FkS spec_FmOf.s 111 := ⟨Tryz.func111, by kernel_rfl, by kernel_rfl⟩
noncomputable def spec_FmOf.fn (x : Args tab spec_FmOf.s.ar) : Option (ResT tab spec_FmOf.s.rs) := spec_FmOf x.1 x.2
noncomputable abbrev spec_FmOf.k {δ : Type} : Callee (GT tab) δ := kS spec_FmOf.s spec_FmOf.fn
theorem spec_FmOf.con {δ : Type} : Con Tryz.prog (KT tab) 111 (spec_FmOf.k (δ := δ)) := con_shape (c := spec_FmOf.c) mixed tysOk (getG_con (spec_FmOf.gok _)) spec_FmOf.fok rfl rfl fun _ => rfl
noncomputable def spec_FmOf_l0 (v0 : List Int) (v1 v2 v3 v4 v5 v6 v7 v8 v9 v10 v11 : Int) (v12 : List Int) (v13 : List (Int × (List Int))) (v14 v15 v16 v17 : List Int) : Option ((Int × Int × Int × (List Int) × (List (Int × (List Int))) × (List Int) × Int × (List Int) × Int × Int × Int × (List Int) × Int × Int × Int × (List Int)) × Bool) := lpW spec_FmOf.s spec_FmOf.c 0 (ud 116 [.vs false 5 v0, .int .i64 v1, .undef, .undef, .ptr 0 0]) [.box 34 [.int .i64 v2, .int .i64 v3, .int .i64 v4, .sl 1 0, .sl 2 0, .sl 3 0, .int .i64 v5, .sl 4 0, .int .i64 v6, .int .i64 v7, .int .i64 v8, .sl 5 0, .int .i64 v9, .int .i64 v10, .int .i64 v11, .sl 6 0], .row 0 true 3 v12, .row 0 true 30 v13, .row 0 true 3 v14, .row 0 true 126 v15, .row 0 true 126 v16, .row 0 true 126 v17] 7
noncomputable def spec_FmOf_l1 (v0 : List Int) (v1 v2 v3 v4 v5 v6 v7 v8 v9 v10 v11 v12 : Int) (v13 : List Int) (v14 : List (Int × (List Int))) (v15 v16 v17 v18 v19 v20 : List Int) (v21 v22 v23 v24 v25 v26 v27 v28 v29 v30 : Int) (v31 : List Int) (v32 : List (Int × (List Int))) (v33 v34 v35 v36 v37 v38 : List Int) : Option ((Int × Int × Int × (List Int) × (List (Int × (List Int))) × (List Int) × Int × (List Int) × Int × Int × Int × (List Int) × Int × Int × Int × (List Int)) × Bool) := lpW spec_FmOf.s spec_FmOf.c 1 (ud 107 [.vs false 5 v0, .int .i64 v1, .undef, .undef, .ptr 0 0, .undef, .sl 7 0, .sl 8 0, .undef, .undef, .ptr 9 0, .sl 16 0, .sl 17 0, .int .i64 v2]) [.box 34 [.int .i64 v3, .int .i64 v4, .int .i64 v5, .sl 1 0, .sl 2 0, .sl 3 0, .int .i64 v6, .sl 4 0, .int .i64 v7, .int .i64 v8, .int .i64 v9, .sl 5 0, .int .i64 v10, .int .i64 v11, .int .i64 v12, .sl 6 0], .row 0 true 3 v13, .row 0 true 30 v14, .row 0 true 3 v15, .row 0 true 126 v16, .row 0 true 126 v17, .row 0 true 126 v18, .row 0 true 3 v19, .row 0 true 3 v20, .box 34 [.int .i64 v21, .int .i64 v22, .int .i64 v23, .sl 10 0, .sl 11 0, .sl 12 0, .int .i64 v24, .sl 13 0, .int .i64 v25, .int .i64 v26, .int .i64 v27, .sl 14 0, .int .i64 v28, .int .i64 v29, .int .i64 v30, .sl 15 0], .row 0 true 3 v31, .row 0 true 30 v32, .row 0 true 3 v33, .row 0 true 126 v34, .row 0 true 126 v35, .row 0 true 126 v36, .row 0 true 3 v37, .row 0 true 3 v38] 18
noncomputable def spec_FmOf_l2 (v0 : List Int) (v1 v2 v3 v4 v5 v6 v7 v8 v9 v10 v11 v12 : Int) (v13 : List Int) (v14 : List (Int × (List Int))) (v15 v16 v17 v18 v19 : List Int) (v20 v21 v22 v23 v24 v25 v26 v27 v28 v29 : Int) (v30 : List Int) (v31 : List (Int × (List Int))) (v32 v33 v34 v35 v36 v37 v38 : List Int) : Option ((Int × Int × Int × (List Int) × (List (Int × (List Int))) × (List Int) × Int × (List Int) × Int × Int × Int × (List Int) × Int × Int × Int × (List Int)) × Bool) := lpW spec_FmOf.s spec_FmOf.c 2 (ud 105 [.vs false 5 v0, .int .i64 v1, .undef, .undef, .ptr 0 0, .undef, .undef, .sl 7 0, .undef, .undef, .ptr 8 0, .sl 15 0, .sl 16 0, .undef, .sl 17 0, .int .i64 v2]) [.box 34 [.int .i64 v3, .int .i64 v4, .int .i64 v5, .sl 1 0, .sl 2 0, .sl 3 0, .int .i64 v6, .sl 4 0, .int .i64 v7, .int .i64 v8, .int .i64 v9, .sl 5 0, .int .i64 v10, .int .i64 v11, .int .i64 v12, .sl 6 0], .row 0 true 3 v13, .row 0 true 30 v14, .row 0 true 3 v15, .row 0 true 126 v16, .row 0 true 126 v17, .row 0 true 126 v18, .row 0 true 3 v19, .box 34 [.int .i64 v20, .int .i64 v21, .int .i64 v22, .sl 9 0, .sl 10 0, .sl 11 0, .int .i64 v23, .sl 12 0, .int .i64 v24, .int .i64 v25, .int .i64 v26, .sl 13 0, .int .i64 v27, .int .i64 v28, .int .i64 v29, .sl 14 0], .row 0 true 3 v30, .row 0 true 30 v31, .row 0 true 3 v32, .row 0 true 126 v33, .row 0 true 126 v34, .row 0 true 126 v35, .row 0 true 3 v36, .row 0 true 3 v37, .row 0 true 3 v38] 18
theorem spec_FmOf.eq (x0 : List Int) (x1 : Int) : spec_FmOf x0 x1 =
    (spec_TextOk x0).bind fun y1 =>
    bif !y1 then
      some (((0 : Int), (0 : Int), (0 : Int), ([] : List Int), ([] : List (Int × (List Int))), ([] : List Int), (0 : Int), ([] : List Int), (0 : Int), (0 : Int), (0 : Int), ([] : List Int), (0 : Int), (0 : Int), (0 : Int), ([] : List Int)), false)
    else
      (spec_l09Rate x1).bind fun y2 =>
      bif !y2 then
        some (((0 : Int), (0 : Int), (0 : Int), ([] : List Int), ([] : List (Int × (List Int))), ([] : List Int), (0 : Int), ([] : List Int), (0 : Int), (0 : Int), (0 : Int), ([] : List Int), (0 : Int), (0 : Int), (0 : Int), ([] : List Int)), false)
      else
        spec_FmOf_l0 x0 x1 (0 : Int) (0 : Int) (0 : Int) (0 : Int) (0 : Int) (0 : Int) (0 : Int) (0 : Int) (0 : Int) (0 : Int) ([] : List Int) ([] : List (Int × (List Int))) ([] : List Int) ([] : List Int) ([] : List Int) ([] : List Int) := by kernel_rfl
theorem spec_FmOf_l0.eq (v0 : List Int) (v1 v2 v3 v4 v5 v6 v7 v8 v9 v10 v11 : Int) (v12 : List Int) (v13 : List (Int × (List Int))) (v14 v15 v16 v17 : List Int) : spec_FmOf_l0 v0 v1 v2 v3 v4 v5 v6 v7 v8 v9 v10 v11 v12 v13 v14 v15 v16 v17 =
    (spec_SuffixRows v0).bind fun y1 =>
    (spec_Inverse y1).bind fun y2 =>
    (spec_BwtOf v0).bind fun y3 =>
    (spec_Counts y3).bind fun y4 =>
    (spec_WaveOf y3).bind fun y5 =>
    spec_FmOf_l1 v0 v1 (0 : Int) v2 v3 v4 v5 v6 v7 v8 v9 v10 v11 v12 v13 v14 v15 v16 v17 y1 y2.1 (v0.length : Int) v1 y5.1.1 (0 : Int) (0 : Int) (0 : Int) (0 : Int) (0 : Int) (0 : Int) (0 : Int) y5.1.2.1 y5.1.2.2 y4 ([] : List Int) ([] : List Int) ([] : List Int) ([] : List Int) ([] : List Int) := (Lw_eq tysOk (getG_con (spec_FmOf.gok _)) _ _).trans (by kernel_rfl)
theorem spec_FmOf_l1.eq (v0 : List Int) (v1 v2 v3 v4 v5 v6 v7 v8 v9 v10 v11 v12 : Int) (v13 : List Int) (v14 : List (Int × (List Int))) (v15 v16 v17 v18 v19 v20 : List Int) (v21 v22 v23 v24 v25 v26 v27 v28 v29 v30 : Int) (v31 : List Int) (v32 : List (Int × (List Int))) (v33 v34 v35 v36 v37 v38 : List Int) : spec_FmOf_l1 v0 v1 v2 v3 v4 v5 v6 v7 v8 v9 v10 v11 v12 v13 v14 v15 v16 v17 v18 v19 v20 v21 v22 v23 v24 v25 v26 v27 v28 v29 v30 v31 v32 v33 v34 v35 v36 v37 v38 =
    bif decide (v2 < (v19.length : Int)) then
      (at? v19 v2).bind fun y1 =>
      v19[v2.toNat]?.bind fun y2 =>
      bif decide (v1 = (0 : Int)) then
        none
      else
        (spec_l01Bool (y2.tmod v1 == (0 : Int))).bind fun y3 =>
        bif decide ((v37.length + ([y3] : List Int).length) * 8 ≤ 140737488355328) then
          (at? v19 v2).bind fun y4 =>
          v19[v2.toNat]?.bind fun y5 =>
          bif decide (v1 = (0 : Int)) then
            none
          else
            bif y5.tmod v1 == (0 : Int) then
              (at? v19 v2).bind fun y6 =>
              v19[v2.toNat]?.bind fun y7 =>
              bif decide (v1 = (0 : Int)) then
                none
              else
                bif decide ((v38.length + ([IntKind.i64.wrap (y7.tdiv v1)] : List Int).length) * 8 ≤ 140737488355328) then
                  spec_FmOf_l1 v0 v1 (IntKind.i64.wrap (v2 + (1 : Int))) v3 v4 v5 v6 v7 v8 v9 v10 v11 v12 v13 v14 v15 v16 v17 v18 v19 v20 v21 v22 v23 v24 v25 v26 v27 v28 v29 v30 v31 v32 v33 v34 v35 v36 (v37 ++ ([y3] : List Int)) (v38 ++ ([IntKind.i64.wrap (y7.tdiv v1)] : List Int))
                else
                  none
            else
              spec_FmOf_l1 v0 v1 (IntKind.i64.wrap (v2 + (1 : Int))) v3 v4 v5 v6 v7 v8 v9 v10 v11 v12 v13 v14 v15 v16 v17 v18 v19 v20 v21 v22 v23 v24 v25 v26 v27 v28 v29 v30 v31 v32 v33 v34 v35 v36 (v37 ++ ([y3] : List Int)) v38
        else
          none
    else
      spec_FmOf_l2 v0 v1 (0 : Int) v3 v4 v5 v6 v7 v8 v9 v10 v11 v12 v13 v14 v15 v16 v17 v18 v20 v21 v22 v23 v24 v25 v26 v27 v28 v29 v30 v31 v32 v33 v34 v35 v36 v37 v38 ([] : List Int) := (Lw_eq tysOk (getG_con (spec_FmOf.gok _)) _ _).trans (by kernel_rfl)
theorem spec_FmOf_l2.eq (v0 : List Int) (v1 v2 v3 v4 v5 v6 v7 v8 v9 v10 v11 v12 : Int) (v13 : List Int) (v14 : List (Int × (List Int))) (v15 v16 v17 v18 v19 : List Int) (v20 v21 v22 v23 v24 v25 v26 v27 v28 v29 : Int) (v30 : List Int) (v31 : List (Int × (List Int))) (v32 v33 v34 v35 v36 v37 v38 : List Int) : spec_FmOf_l2 v0 v1 v2 v3 v4 v5 v6 v7 v8 v9 v10 v11 v12 v13 v14 v15 v16 v17 v18 v19 v20 v21 v22 v23 v24 v25 v26 v27 v28 v29 v30 v31 v32 v33 v34 v35 v36 v37 v38 =
    bif decide (v2 ≤ (v0.length : Int)) then
      (at? v19 v2).bind fun y1 =>
      v19[v2.toNat]?.bind fun y2 =>
      bif decide ((v38.length + ([y2] : List Int).length) * 8 ≤ 140737488355328) then
        spec_FmOf_l2 v0 v1 (IntKind.i64.wrap (v2 + v1)) v3 v4 v5 v6 v7 v8 v9 v10 v11 v12 v13 v14 v15 v16 v17 v18 v19 v20 v21 v22 v23 v24 v25 v26 v27 v28 v29 v30 v31 v32 v33 v34 v35 v36 v37 (v38 ++ ([y2] : List Int))
      else
        none
    else
      (spec_BitsOf v36).bind fun y3 =>
      (spec_WidthOf (v0.length : Int)).bind fun y4 =>
      (spec_PackOf v37 y4).bind fun y5 =>
      (spec_WidthOf (v0.length : Int)).bind fun y6 =>
      (spec_PackOf v38 y6).bind fun y7 =>
      some ((v20, v21, v22, v30, v31, v32, y3.1.1, y3.1.2, y5.1.1, y5.1.2.1, y5.1.2.2.1, y5.1.2.2.2, y7.1.1, y7.1.2.1, y7.1.2.2.1, y7.1.2.2.2), true) := (Lw_eq tysOk (getG_con (spec_FmOf.gok _)) _ _).trans (by kernel_rfl)

noncomputable abbrev spec_l01Cur_raw.s : Sg := ⟨[.keep], [.one (.ptr true 116 [.b (.b (.b (.sl false false 5))), .b (.b (.b (.int .i64))), .b (.b (.b (.int .i64)))])], ⟨[vi], [some (.one (.ptr true 116 [.b (.b (.b (.sl false false 5))), .b (.b (.b (.int .i64))), .b (.b (.b (.int .i64)))]))]⟩, Tryz.f115⟩
noncomputable def spec_l01Cur_raw.gs (δ : Type) : List (Nat × Callee (GT tab) δ) := [(114, spec_l01Cur_pick.k)]
theorem spec_l01Cur_raw.gok (δ : Type) : AllCon Tryz.prog tab (spec_l01Cur_raw.gs δ) := .cons spec_l01Cur_pick.con .nil
noncomputable def spec_l01Cur_raw.c := cx spec_l01Cur_raw.s [] [] false (spec_l01Cur_raw.gs _)
noncomputable def spec_l01Cur_raw (x0 : (List Int) × Int × Int) : Option (Int × ((List Int) × Int × Int)) := fnW spec_l01Cur_raw.s spec_l01Cur_raw.c x0
theorem spec_l01Cur_raw.fok : FkS spec_l01Cur_raw.s 115 := ⟨Tryz.func115, by kernel_rfl, by kernel_rfl⟩
noncomputable def spec_l01Cur_raw.fn (x : Args tab spec_l01Cur_raw.s.ar) : Option (ResT tab spec_l01Cur_raw.s.rs) := spec_l01Cur_raw x
noncomputable abbrev spec_l01Cur_raw.k {δ : Type} : Callee (GT tab) δ := kS spec_l01Cur_raw.s spec_l01Cur_raw.fn
theorem spec_l01Cur_raw.con {δ : Type} : Con Tryz.prog (KT tab) 115 (spec_l01Cur_raw.k (δ := δ)) := con_shape (c := spec_l01Cur_raw.c) mixed tysOk (getG_con (spec_l01Cur_raw.gok _)) spec_l01Cur_raw.fok rfl rfl fun _ => rfl
theorem spec_l01Cur_raw.eq (x0 : (List Int) × Int × Int) : spec_l01Cur_raw x0 =
    (spec_l01Cur_pick x0 (8 : Int)).bind fun y1 =>
    bif y1.1 == (0 : Int) then
      (spec_l01Cur_pick y1.2 (256 : Int)).bind fun y2 =>
      some (IntKind.i64.wrap (y2.1 - (128 : Int)), y2.2)
    else
      bif y1.1 == (1 : Int) then
        (spec_l01Cur_pick y1.2 (8 : Int)).bind fun y3 =>
        (at? ([(9223372036854775807 : Int), (-9223372036854775808 : Int), (4611686018427387904 : Int), (4294967295 : Int), (4294967296 : Int), (-1000 : Int), (1000 : Int), (257 : Int)] : List Int) y3.1).bind fun y4 =>
        ([(9223372036854775807 : Int), (-9223372036854775808 : Int), (4611686018427387904 : Int), (4294967295 : Int), (4294967296 : Int), (-1000 : Int), (1000 : Int), (257 : Int)] : List Int)[y3.1.toNat]?.bind fun y5 =>
        some (y5, y3.2)
      else
        (spec_l01Cur_pick y1.2 (14 : Int)).bind fun y6 =>
        some (IntKind.i64.wrap (y6.1 - (3 : Int)), y6.2) := by kernel_rfl

noncomputable abbrev spec_l01Cur_wide.s : Sg := ⟨[.keep, .lend], [.one (.ptr true 116 [.b (.b (.b (.sl false false 5))), .b (.b (.b (.int .i64))), .b (.b (.b (.int .i64)))]), vi], ⟨[vi], [some (.one (.ptr true 116 [.b (.b (.b (.sl false false 5))), .b (.b (.b (.int .i64))), .b (.b (.b (.int .i64)))])), none]⟩, Tryz.f199⟩
noncomputable def spec_l01Cur_wide.gs (δ : Type) : List (Nat × Callee (GT tab) δ) := [(114, spec_l01Cur_pick.k)]
theorem spec_l01Cur_wide.gok (δ : Type) : AllCon Tryz.prog tab (spec_l01Cur_wide.gs δ) := .cons spec_l01Cur_pick.con .nil
noncomputable def spec_l01Cur_wide.c := cx spec_l01Cur_wide.s [] [] false (spec_l01Cur_wide.gs _)
noncomputable def spec_l01Cur_wide (x0 : (List Int) × Int × Int) (x1 : Int) : Option (Int × ((List Int) × Int × Int)) := fnW spec_l01Cur_wide.s spec_l01Cur_wide.c (x0, x1)
theorem spec_l01Cur_wide.fok : FkS spec_l01Cur_wide.s 199 := ⟨Tryz.func199, by kernel_rfl, by kernel_rfl⟩
noncomputable def spec_l01Cur_wide.fn (x : Args tab spec_l01Cur_wide.s.ar) : Option (ResT tab spec_l01Cur_wide.s.rs) := spec_l01Cur_wide x.1 x.2
noncomputable abbrev spec_l01Cur_wide.k {δ : Type} : Callee (GT tab) δ := kS spec_l01Cur_wide.s spec_l01Cur_wide.fn
theorem spec_l01Cur_wide.con {δ : Type} : Con Tryz.prog (KT tab) 199 (spec_l01Cur_wide.k (δ := δ)) := con_shape (c := spec_l01Cur_wide.c) mixed tysOk (getG_con (spec_l01Cur_wide.gok _)) spec_l01Cur_wide.fok rfl rfl fun _ => rfl
theorem spec_l01Cur_wide.eq (x0 : (List Int) × Int × Int) (x1 : Int) : spec_l01Cur_wide x0 x1 =
    (spec_l01Cur_pick x0 (256 : Int)).bind fun y1 =>
    (spec_l01Cur_pick y1.2 (256 : Int)).bind fun y2 =>
    (spec_l01Cur_pick y2.2 (256 : Int)).bind fun y3 =>
    bif decide (x1 = (0 : Int)) then
      none
    else
      some ((IntKind.i64.wrap ((IntKind.i64.wrap ((IntKind.i64.wrap ((65536 : Int) * y1.1)) + (IntKind.i64.wrap ((256 : Int) * y2.1)))) + y3.1)).tmod x1, y3.2) := by kernel_rfl

noncomputable abbrev spec_l01Cur_numbers.s : Sg := ⟨[.keep, .lend, .lend], [.one (.ptr true 116 [.b (.b (.b (.sl false false 5))), .b (.b (.b (.int .i64))), .b (.b (.b (.int .i64)))]), vi, vi], ⟨[vo 3], [some (.one (.ptr true 116 [.b (.b (.b (.sl false false 5))), .b (.b (.b (.int .i64))), .b (.b (.b (.int .i64)))])), none, none]⟩, Tryz.f174⟩
noncomputable def spec_l01Cur_numbers.gs (δ : Type) : List (Nat × Callee (GT tab) δ) := [(173, spec_l01Cur_size.k), (199, spec_l01Cur_wide.k)]
theorem spec_l01Cur_numbers.gok (δ : Type) : AllCon Tryz.prog tab (spec_l01Cur_numbers.gs δ) := .cons spec_l01Cur_size.con (.cons spec_l01Cur_wide.con .nil)
noncomputable def spec_l01Cur_numbers.c := cx spec_l01Cur_numbers.s [] [(3, [0, 2, 7, 8])] false (spec_l01Cur_numbers.gs _)
noncomputable def spec_l01Cur_numbers (x0 : (List Int) × Int × Int) (x1 x2 : Int) : Option ((List Int) × ((List Int) × Int × Int)) := fnW spec_l01Cur_numbers.s spec_l01Cur_numbers.c (x0, x1, x2)
theorem spec_l01Cur_numbers.fok : FkS spec_l01Cur_numbers.s 174 := ⟨Tryz.func174, by kernel_rfl, by kernel_rfl⟩
noncomputable def spec_l01Cur_numbers.fn (x : Args tab spec_l01Cur_numbers.s.ar) : Option (ResT tab spec_l01Cur_numbers.s.rs) := spec_l01Cur_numbers x.1 x.2.1 x.2.2
noncomputable abbrev spec_l01Cur_numbers.k {δ : Type} : Callee (GT tab) δ := kS spec_l01Cur_numbers.s spec_l01Cur_numbers.fn
theorem spec_l01Cur_numbers.con {δ : Type} : Con Tryz.prog (KT tab) 174 (spec_l01Cur_numbers.k (δ := δ)) := con_shape (c := spec_l01Cur_numbers.c) mixed tysOk (getG_con (spec_l01Cur_numbers.gok _)) spec_l01Cur_numbers.fok rfl rfl fun _ => rfl
noncomputable def spec_l01Cur_numbers_l0 (v0 v1 : Int) (v2 : List Int) (v3 v4 : Int) (v5 : List Int) : Option ((List Int) × ((List Int) × Int × Int)) := lpW spec_l01Cur_numbers.s spec_l01Cur_numbers.c 0 (ud 16 [.ptr 0 0, .undef, .int .i64 v0, .undef, .undef, .undef, .undef, .sl 1 0, .int .i64 v1]) [.box 116 [.vs false 5 v2, .int .i64 v3, .int .i64 v4], .row 0 true 3 v5] 2
theorem spec_l01Cur_numbers.eq (x0 : (List Int) × Int × Int) (x1 x2 : Int) : spec_l01Cur_numbers x0 x1 x2 =
    (spec_l01Cur_size x0 x1).bind fun y1 =>
    spec_l01Cur_numbers_l0 x2 y1.1 y1.2.1 y1.2.2.1 y1.2.2.2 ([] : List Int) := by kernel_rfl
theorem spec_l01Cur_numbers_l0.eq (v0 v1 : Int) (v2 : List Int) (v3 v4 : Int) (v5 : List Int) : spec_l01Cur_numbers_l0 v0 v1 v2 v3 v4 v5 =
    bif decide (v1 > (0 : Int)) then
      (spec_l01Cur_wide (v2, v3, v4) (if v0 > (1 : Int) then v0 else (1 : Int))).bind fun y1 =>
      bif decide ((v5.length + ([y1.1] : List Int).length) * 8 ≤ 140737488355328) then
        spec_l01Cur_numbers_l0 v0 (IntKind.i64.wrap (v1 - (1 : Int))) y1.2.1 y1.2.2.1 y1.2.2.2 (v5 ++ ([y1.1] : List Int))
      else
        none
    else
      some (v5, (v2, v3, v4)) := (Lw_eq tysOk (getG_con (spec_l01Cur_numbers.gok _)) _ _).trans (by kernel_rfl)

noncomputable abbrev spec_l01Cur_row.s : Sg := ⟨[.keep], [.one (.ptr true 116 [.b (.b (.b (.sl false false 5))), .b (.b (.b (.int .i64))), .b (.b (.b (.int .i64)))])], ⟨[vo 3], [some (.one (.ptr true 116 [.b (.b (.b (.sl false false 5))), .b (.b (.b (.int .i64))), .b (.b (.b (.int .i64)))]))]⟩, Tryz.f175⟩
noncomputable def spec_l01Cur_row.gs (δ : Type) : List (Nat × Callee (GT tab) δ) := [(114, spec_l01Cur_pick.k), (119, spec_l01Cur_once.k), (169, spec_l01Bool.k)]
theorem spec_l01Cur_row.gok (δ : Type) : AllCon Tryz.prog tab (spec_l01Cur_row.gs δ) := .cons spec_l01Cur_pick.con (.cons spec_l01Cur_once.con (.cons spec_l01Bool.con .nil))
noncomputable def spec_l01Cur_row.c := cx spec_l01Cur_row.s [] [(4, [0, 3, 4, 5]), (11, [0, 3])] false (spec_l01Cur_row.gs _)
noncomputable def spec_l01Cur_row (x0 : (List Int) × Int × Int) : Option ((List Int) × ((List Int) × Int × Int)) := fnW spec_l01Cur_row.s spec_l01Cur_row.c x0
theorem spec_l01Cur_row.fok : FkS spec_l01Cur_row.s 175 := ⟨Tryz.func175, by kernel_rfl, by kernel_rfl⟩
noncomputable def spec_l01Cur_row.fn (x : Args tab spec_l01Cur_row.s.ar) : Option (ResT tab spec_l01Cur_row.s.rs) := spec_l01Cur_row x
noncomputable abbrev spec_l01Cur_row.k {δ : Type} : Callee (GT tab) δ := kS spec_l01Cur_row.s spec_l01Cur_row.fn
theorem spec_l01Cur_row.con {δ : Type} : Con Tryz.prog (KT tab) 175 (spec_l01Cur_row.k (δ := δ)) := con_shape (c := spec_l01Cur_row.c) mixed tysOk (getG_con (spec_l01Cur_row.gok _)) spec_l01Cur_row.fok rfl rfl fun _ => rfl
noncomputable def spec_l01Cur_row_l0 (v0 v1 : Int) (v2 : List Int) (v3 v4 : Int) (v5 : List Int) : Option ((List Int) × ((List Int) × Int × Int)) := lpW spec_l01Cur_row.s spec_l01Cur_row.c 0 (ud 42 [.ptr 0 0, .undef, .undef, .sl 1 0, .int .i64 v0, .int .i64 v1]) [.box 116 [.vs false 5 v2, .int .i64 v3, .int .i64 v4], .row 0 true 3 v5] 2
noncomputable def spec_l01Cur_row_l1 (v0 : List Int) (v1 v2 : Int) (v3 : List Int) : Option ((List Int) × ((List Int) × Int × Int)) := lpW spec_l01Cur_row.s spec_l01Cur_row.c 1 (ud 44 [.ptr 0 0, .undef, .undef, .sl 1 0]) [.box 116 [.vs false 5 v0, .int .i64 v1, .int .i64 v2], .row 0 true 3 v3] 2
theorem spec_l01Cur_row.eq (x0 : (List Int) × Int × Int) : spec_l01Cur_row x0 =
    (spec_l01Cur_pick x0 (4 : Int)).bind fun y1 =>
    (spec_l01Cur_pick y1.2 (3 : Int)).bind fun y2 =>
    (at? ([(5 : Int), (40 : Int), (140 : Int)] : List Int) y2.1).bind fun y3 =>
    ([(5 : Int), (40 : Int), (140 : Int)] : List Int)[y2.1.toNat]?.bind fun y4 =>
    (spec_l01Cur_pick y2.2 y4).bind fun y5 =>
    spec_l01Cur_row_l0 y1.1 y5.1 y5.2.1 y5.2.2.1 y5.2.2.2 ([] : List Int) := by kernel_rfl
theorem spec_l01Cur_row_l0.eq (v0 v1 : Int) (v2 : List Int) (v3 v4 : Int) (v5 : List Int) : spec_l01Cur_row_l0 v0 v1 v2 v3 v4 v5 =
    bif decide (v1 > (0 : Int)) then
      (spec_l01Cur_pick (v2, v3, v4) (2 : Int)).bind fun y1 =>
      bif v0 == (0 : Int) then
        (spec_l01Cur_once y1.2 (9 : Int)).bind fun y2 =>
        (spec_l01Bool y2.1).bind fun y3 =>
        bif decide ((v5.length + ([y3] : List Int).length) * 8 ≤ 140737488355328) then
          spec_l01Cur_row_l0 v0 (IntKind.i64.wrap (v1 - (1 : Int))) y2.2.1 y2.2.2.1 y2.2.2.2 (v5 ++ ([y3] : List Int))
        else
          none
      else
        bif decide ((v5.length + ([y1.1] : List Int).length) * 8 ≤ 140737488355328) then
          spec_l01Cur_row_l0 v0 (IntKind.i64.wrap (v1 - (1 : Int))) y1.2.1 y1.2.2.1 y1.2.2.2 (v5 ++ ([y1.1] : List Int))
        else
          none
    else
      (spec_l01Cur_once (v2, v3, v4) (60 : Int)).bind fun y4 =>
      bif y4.1 then
        spec_l01Cur_row_l1 y4.2.1 y4.2.2.1 y4.2.2.2 v5
      else
        some (v5, y4.2) := (Lw_eq tysOk (getG_con (spec_l01Cur_row.gok _)) _ _).trans (by kernel_rfl)
theorem spec_l01Cur_row_l1.eq (v0 : List Int) (v1 v2 : Int) (v3 : List Int) : spec_l01Cur_row_l1 v0 v1 v2 v3 =
    (spec_l01Cur_pick (v0, v1, v2) (2 : Int)).bind fun y1 =>
    bif decide ((v3.length : Int) < IntKind.i64.wrap ((5000 : Int) + y1.1)) then
      bif decide ((v3.length + ([IntKind.i64.wrap (((v3.length : Int).tmod (3 : Int)).tdiv (2 : Int))] : List Int).length) * 8 ≤ 140737488355328) then
        spec_l01Cur_row_l1 y1.2.1 y1.2.2.1 y1.2.2.2 (v3 ++ ([IntKind.i64.wrap (((v3.length : Int).tmod (3 : Int)).tdiv (2 : Int))] : List Int))
      else
        none
    else
      some (v3, y1.2) := (Lw_eq tysOk (getG_con (spec_l01Cur_row.gok _)) _ _).trans (by kernel_rfl)

noncomputable abbrev spec_l01Cur_badBits.s : Sg := ⟨[.keep], [.one (.ptr true 116 [.b (.b (.b (.sl false false 5))), .b (.b (.b (.int .i64))), .b (.b (.b (.int .i64)))])], ⟨[.agg [.int .i64, .sl true true 126]], [some (.one (.ptr true 116 [.b (.b (.b (.sl false false 5))), .b (.b (.b (.int .i64))), .b (.b (.b (.int .i64)))]))]⟩, Tryz.f117⟩
noncomputable def spec_l01Cur_badBits.gs (δ : Type) : List (Nat × Callee (GT tab) δ) := [(114, spec_l01Cur_pick.k), (115, spec_l01Cur_raw.k), (170, spec_BitsOf.k), (175, spec_l01Cur_row.k)]
theorem spec_l01Cur_badBits.gok (δ : Type) : AllCon Tryz.prog tab (spec_l01Cur_badBits.gs δ) := .cons spec_l01Cur_pick.con (.cons spec_l01Cur_raw.con (.cons spec_BitsOf.con (.cons spec_l01Cur_row.con .nil)))
noncomputable def spec_l01Cur_badBits.c := cx spec_l01Cur_badBits.s [] [] false (spec_l01Cur_badBits.gs _)
noncomputable def spec_l01Cur_badBits (x0 : (List Int) × Int × Int) : Option ((Int × (List Int)) × ((List Int) × Int × Int)) := fnW spec_l01Cur_badBits.s spec_l01Cur_badBits.c x0
theorem spec_l01Cur_badBits.fok : FkS spec_l01Cur_badBits.s 117 := ⟨Tryz.func117, by kernel_rfl, by kernel_rfl⟩
noncomputable def spec_l01Cur_badBits.fn (x : Args tab spec_l01Cur_badBits.s.ar) : Option (ResT tab spec_l01Cur_badBits.s.rs) := spec_l01Cur_badBits x
noncomputable abbrev spec_l01Cur_badBits.k {δ : Type} : Callee (GT tab) δ := kS spec_l01Cur_badBits.s spec_l01Cur_badBits.fn
theorem spec_l01Cur_badBits.con {δ : Type} : Con Tryz.prog (KT tab) 117 (spec_l01Cur_badBits.k (δ := δ)) := con_shape (c := spec_l01Cur_badBits.c) mixed tysOk (getG_con (spec_l01Cur_badBits.gok _)) spec_l01Cur_badBits.fok rfl rfl fun _ => rfl
theorem spec_l01Cur_badBits.eq (x0 : (List Int) × Int × Int) : spec_l01Cur_badBits x0 =
    (spec_l01Cur_row x0).bind fun y1 =>
    (spec_BitsOf y1.1).bind fun y2 =>
    (spec_l01Cur_pick y1.2 (14 : Int)).bind fun y3 =>
    bif y3.1 == (0 : Int) then
      (spec_l01Cur_raw y3.2).bind fun y4 =>
      (spec_l01Cur_pick y4.2 (3 : Int)).bind fun y5 =>
      (at? ([y4.1, IntKind.i64.wrap (y2.1.1 + (1 : Int)), IntKind.i64.wrap (y2.1.1 - (1 : Int))] : List Int) y5.1).bind fun y6 =>
      ([y4.1, IntKind.i64.wrap (y2.1.1 + (1 : Int)), IntKind.i64.wrap (y2.1.1 - (1 : Int))] : List Int)[y5.1.toNat]?.bind fun y7 =>
      some ((y7, y2.1.2), y5.2)
    else
      bif y3.1 == (1 : Int) then
        (spec_l01Cur_pick y3.2 (2 : Int)).bind fun y8 =>
        bif decide ((y2.1.2.length + ([IntKind.u64.wrap y8.1] : List Int).length) * 8 ≤ 140737488355328) then
          some ((y2.1.1, y2.1.2 ++ ([IntKind.u64.wrap y8.1] : List Int)), y8.2)
        else
          none
      else
        bif y3.1 == (2 : Int) then
          bif decide ((y2.1.2.length : Int) > (0 : Int)) then
            (spec_l01Cur_pick y3.2 (y2.1.2.length : Int)).bind fun y9 =>
            (at? y2.1.2 y9.1).bind fun y10 =>
            y2.1.2[y9.1.toNat]?.bind fun y11 =>
            some ((y2.1.1, y2.1.2.set y9.1.toNat (18446744073709551615 : Int)), y9.2)
          else
            some (y2.1, y3.2)
        else
          some (y2.1, y3.2) := by kernel_rfl

noncomputable abbrev spec_l01Cur_wave.s : Sg := ⟨[.keep], [.one (.ptr true 116 [.b (.b (.b (.sl false false 5))), .b (.b (.b (.int .i64))), .b (.b (.b (.int .i64)))])], ⟨[.agg [.int .i64, .sl true true 3, .sl true true 30]], [some (.one (.ptr true 116 [.b (.b (.b (.sl false false 5))), .b (.b (.b (.int .i64))), .b (.b (.b (.int .i64)))]))]⟩, Tryz.f116⟩
noncomputable def spec_l01Cur_wave.gs (δ : Type) : List (Nat × Callee (GT tab) δ) := [(81, spec_BwtOf.k), (112, spec_l01Cur_textOf.k), (114, spec_l01Cur_pick.k), (115, spec_l01Cur_raw.k), (117, spec_l01Cur_badBits.k), (119, spec_l01Cur_once.k), (168, spec_WaveOf.k), (174, spec_l01Cur_numbers.k)]
theorem spec_l01Cur_wave.gok (δ : Type) : AllCon Tryz.prog tab (spec_l01Cur_wave.gs δ) := .cons spec_BwtOf.con (.cons spec_l01Cur_textOf.con (.cons spec_l01Cur_pick.con (.cons spec_l01Cur_raw.con (.cons spec_l01Cur_badBits.con (.cons spec_l01Cur_once.con (.cons spec_WaveOf.con (.cons spec_l01Cur_numbers.con .nil)))))))
noncomputable def spec_l01Cur_wave.c := cx spec_l01Cur_wave.s [4] [(4, [0, 2, 3])] false (spec_l01Cur_wave.gs _)
noncomputable def spec_l01Cur_wave (x0 : (List Int) × Int × Int) : Option ((Int × (List Int) × (List (Int × (List Int)))) × ((List Int) × Int × Int)) := fnW spec_l01Cur_wave.s spec_l01Cur_wave.c x0
theorem spec_l01Cur_wave.fok : FkS spec_l01Cur_wave.s 116 := ⟨Tryz.func116, by kernel_rfl, by kernel_rfl⟩
noncomputable def spec_l01Cur_wave.fn (x : Args tab spec_l01Cur_wave.s.ar) : Option (ResT tab spec_l01Cur_wave.s.rs) := spec_l01Cur_wave x
noncomputable abbrev spec_l01Cur_wave.k {δ : Type} : Callee (GT tab) δ := kS spec_l01Cur_wave.s spec_l01Cur_wave.fn
theorem spec_l01Cur_wave.con {δ : Type} : Con Tryz.prog (KT tab) 116 (spec_l01Cur_wave.k (δ := δ)) := con_shape (c := spec_l01Cur_wave.c) mixed tysOk (getG_con (spec_l01Cur_wave.gok _)) spec_l01Cur_wave.fok rfl rfl fun _ => rfl
noncomputable def spec_l01Cur_wave_l0 (v0 : List Int) (v1 v2 v3 : Int) (v4 : List Int) (v5 : List (Int × (List Int))) (v6 : List Int) : Option ((Int × (List Int) × (List (Int × (List Int)))) × ((List Int) × Int × Int)) := lpW spec_l01Cur_wave.s spec_l01Cur_wave.c 0 (ud 64 [.ptr 0 0, .undef, .ptr 1 0, .sl 4 0]) [.box 116 [.vs false 5 v0, .int .i64 v1, .int .i64 v2], .box 27 [.int .i64 v3, .sl 2 0, .sl 3 0], .row 0 true 3 v4, .row 0 true 30 v5, .row 0 true 3 v6] 5
theorem spec_l01Cur_wave.eq (x0 : (List Int) × Int × Int) : spec_l01Cur_wave x0 =
    (spec_l01Cur_pick x0 (3 : Int)).bind fun y1 =>
    (at? ([(3 : Int), (100 : Int), (512 : Int)] : List Int) y1.1).bind fun y2 =>
    ([(3 : Int), (100 : Int), (512 : Int)] : List Int)[y1.1.toNat]?.bind fun y3 =>
    (spec_l01Cur_numbers y1.2 (24 : Int) y3).bind fun y4 =>
    (spec_l01Cur_once y4.2 (3 : Int)).bind fun y5 =>
    bif y5.1 then
      (spec_l01Cur_textOf y5.2 (24 : Int)).bind fun y6 =>
      (spec_BwtOf y6.1).bind fun y7 =>
      spec_l01Cur_wave_l0 y6.2.1 y6.2.2.1 y6.2.2.2 (0 : Int) ([] : List Int) ([] : List (Int × (List Int))) y7
    else
      spec_l01Cur_wave_l0 y5.2.1 y5.2.2.1 y5.2.2.2 (0 : Int) ([] : List Int) ([] : List (Int × (List Int))) y4.1 := by kernel_rfl
theorem spec_l01Cur_wave_l0.eq (v0 : List Int) (v1 v2 v3 : Int) (v4 : List Int) (v5 : List (Int × (List Int))) (v6 : List Int) : spec_l01Cur_wave_l0 v0 v1 v2 v3 v4 v5 v6 =
    (spec_WaveOf v6).bind fun y1 =>
    (spec_l01Cur_pick (v0, v1, v2) (14 : Int)).bind fun y2 =>
    bif y2.1 == (0 : Int) then
      (spec_l01Cur_pick y2.2 (3 : Int)).bind fun y3 =>
      some ((IntKind.i64.wrap ((IntKind.i64.wrap (y1.1.1 + y3.1)) - (1 : Int)), y1.1.2.1, y1.1.2.2), y3.2)
    else
      bif y2.1 == (1 : Int) then
        (spec_l01Cur_pick y2.2 (9 : Int)).bind fun y4 =>
        (spec_l01Cur_raw y4.2).bind fun y5 =>
        (at? y1.1.2.1 y4.1).bind fun y6 =>
        y1.1.2.1[y4.1.toNat]?.bind fun y7 =>
        some ((y1.1.1, y1.1.2.1.set y4.1.toNat y5.1, y1.1.2.2), y5.2)
      else
        bif y2.1 == (2 : Int) then
          (spec_l01Cur_pick y2.2 (9 : Int)).bind fun y8 =>
          (spec_l01Cur_badBits y8.2).bind fun y9 =>
          (at? y1.1.2.2 y8.1).bind fun y10 =>
          y1.1.2.2[y8.1.toNat]?.bind fun y11 =>
          some ((y1.1.1, y1.1.2.1, y1.1.2.2.set y8.1.toNat (y9.1.1, y9.1.2)), y9.2)
        else
          bif y2.1 == (3 : Int) then
            (spec_l01Cur_pick y2.2 (9 : Int)).bind fun y12 =>
            bif decide (0 ≤ y12.1 ∧ y12.1 ≤ ((y1.1.2.2.length : Nat) : Int)) then
              some ((y1.1.1, y1.1.2.1, y1.1.2.2.take (y12.1.toNat - 0)), y12.2)
            else
              none
          else
            bif y2.1 == (4 : Int) then
              bif decide ((y1.1.2.1.length + ([(0 : Int)] : List Int).length) * 8 ≤ 140737488355328) then
                some ((y1.1.1, y1.1.2.1 ++ ([(0 : Int)] : List Int), y1.1.2.2), y2.2)
              else
                none
            else
              some (y1.1, y2.2) := (Lw_eq tysOk (getG_con (spec_l01Cur_wave.gok _)) _ _).trans (by kernel_rfl)

noncomputable abbrev spec_l01Cur_badPacked.s : Sg := ⟨[.keep], [.one (.ptr true 116 [.b (.b (.b (.sl false false 5))), .b (.b (.b (.int .i64))), .b (.b (.b (.int .i64)))])], ⟨[.agg [.int .i64, .int .i64, .int .i64, .sl true true 126]], [some (.one (.ptr true 116 [.b (.b (.b (.sl false false 5))), .b (.b (.b (.int .i64))), .b (.b (.b (.int .i64)))]))]⟩, Tryz.f118⟩
noncomputable def spec_l01Cur_badPacked.gs (δ : Type) : List (Nat × Callee (GT tab) δ) := [(114, spec_l01Cur_pick.k), (115, spec_l01Cur_raw.k), (117, spec_l01Cur_badBits.k), (171, spec_PackOf.k), (174, spec_l01Cur_numbers.k), (176, spec_l02Pow.k)]
theorem spec_l01Cur_badPacked.gok (δ : Type) : AllCon Tryz.prog tab (spec_l01Cur_badPacked.gs δ) := .cons spec_l01Cur_pick.con (.cons spec_l01Cur_raw.con (.cons spec_l01Cur_badBits.con (.cons spec_PackOf.con (.cons spec_l01Cur_numbers.con (.cons spec_l02Pow.con .nil)))))
noncomputable def spec_l01Cur_badPacked.c := cx spec_l01Cur_badPacked.s [] [] false (spec_l01Cur_badPacked.gs _)
noncomputable def spec_l01Cur_badPacked (x0 : (List Int) × Int × Int) : Option ((Int × Int × Int × (List Int)) × ((List Int) × Int × Int)) := fnW spec_l01Cur_badPacked.s spec_l01Cur_badPacked.c x0
theorem spec_l01Cur_badPacked.fok : FkS spec_l01Cur_badPacked.s 118 := ⟨Tryz.func118, by kernel_rfl, by kernel_rfl⟩
noncomputable def spec_l01Cur_badPacked.fn (x : Args tab spec_l01Cur_badPacked.s.ar) : Option (ResT tab spec_l01Cur_badPacked.s.rs) := spec_l01Cur_badPacked x
noncomputable abbrev spec_l01Cur_badPacked.k {δ : Type} : Callee (GT tab) δ := kS spec_l01Cur_badPacked.s spec_l01Cur_badPacked.fn
theorem spec_l01Cur_badPacked.con {δ : Type} : Con Tryz.prog (KT tab) 118 (spec_l01Cur_badPacked.k (δ := δ)) := con_shape (c := spec_l01Cur_badPacked.c) mixed tysOk (getG_con (spec_l01Cur_badPacked.gok _)) spec_l01Cur_badPacked.fok rfl rfl fun _ => rfl
theorem spec_l01Cur_badPacked.eq (x0 : (List Int) × Int × Int) : spec_l01Cur_badPacked x0 =
    (spec_l01Cur_pick x0 (5 : Int)).bind fun y1 =>
    (at? ([(0 : Int), (1 : Int), (3 : Int), (7 : Int), (24 : Int)] : List Int) y1.1).bind fun y2 =>
    ([(0 : Int), (1 : Int), (3 : Int), (7 : Int), (24 : Int)] : List Int)[y1.1.toNat]?.bind fun y3 =>
    (spec_l02Pow y3).bind fun y4 =>
    (spec_l01Cur_numbers y1.2 (20 : Int) y4).bind fun y5 =>
    (spec_PackOf y5.1 y3).bind fun y6 =>
    (spec_l01Cur_pick y5.2 (12 : Int)).bind fun y7 =>
    bif y7.1 == (0 : Int) then
      (spec_l01Cur_raw y7.2).bind fun y8 =>
      (spec_l01Cur_pick y8.2 (3 : Int)).bind fun y9 =>
      (at? ([y8.1, (32 : Int), (33 : Int)] : List Int) y9.1).bind fun y10 =>
      ([y8.1, (32 : Int), (33 : Int)] : List Int)[y9.1.toNat]?.bind fun y11 =>
      some ((y11, y6.1.2.1, y6.1.2.2.1, y6.1.2.2.2), y9.2)
    else
      bif y7.1 == (1 : Int) then
        (spec_l01Cur_raw y7.2).bind fun y12 =>
        (spec_l01Cur_pick y12.2 (2 : Int)).bind fun y13 =>
        (at? ([y12.1, IntKind.i64.wrap (y6.1.2.1 + (1 : Int))] : List Int) y13.1).bind fun y14 =>
        ([y12.1, IntKind.i64.wrap (y6.1.2.1 + (1 : Int))] : List Int)[y13.1.toNat]?.bind fun y15 =>
        some ((y6.1.1, y15, y6.1.2.2.1, y6.1.2.2.2), y13.2)
      else
        bif y7.1 == (2 : Int) then
          (spec_l01Cur_badBits y7.2).bind fun y16 =>
          some ((y6.1.1, y6.1.2.1, y16.1.1, y16.1.2), y16.2)
        else
          some (y6.1, y7.2) := by kernel_rfl

noncomputable abbrev spec_l01Cur_fm.s : Sg := ⟨[.keep], [.one (.ptr true 116 [.b (.b (.b (.sl false false 5))), .b (.b (.b (.int .i64))), .b (.b (.b (.int .i64)))])], ⟨[.agg [.int .i64, .int .i64, .int .i64, .sl false false 3, .sl false false 30, .sl false false 3, .int .i64, .sl false false 126, .int .i64, .int .i64, .int .i64, .sl false false 126, .int .i64, .int .i64, .int .i64, .sl false false 126]], [some (.one (.ptr true 116 [.b (.b (.b (.sl false false 5))), .b (.b (.b (.int .i64))), .b (.b (.b (.int .i64)))]))]⟩, Tryz.f56⟩
noncomputable def spec_l01Cur_fm.gs (δ : Type) : List (Nat × Callee (GT tab) δ) := [(111, spec_FmOf.k), (112, spec_l01Cur_textOf.k), (113, spec_l01Cur_rate.k), (114, spec_l01Cur_pick.k), (115, spec_l01Cur_raw.k), (116, spec_l01Cur_wave.k), (117, spec_l01Cur_badBits.k), (118, spec_l01Cur_badPacked.k)]
theorem spec_l01Cur_fm.gok (δ : Type) : AllCon Tryz.prog tab (spec_l01Cur_fm.gs δ) := .cons spec_FmOf.con (.cons spec_l01Cur_textOf.con (.cons spec_l01Cur_rate.con (.cons spec_l01Cur_pick.con (.cons spec_l01Cur_raw.con (.cons spec_l01Cur_wave.con (.cons spec_l01Cur_badBits.con (.cons spec_l01Cur_badPacked.con .nil)))))))
noncomputable def spec_l01Cur_fm.c := cx spec_l01Cur_fm.s [] [] false (spec_l01Cur_fm.gs _)
noncomputable def spec_l01Cur_fm (x0 : (List Int) × Int × Int) : Option ((Int × Int × Int × (List Int) × (List (Int × (List Int))) × (List Int) × Int × (List Int) × Int × Int × Int × (List Int) × Int × Int × Int × (List Int)) × ((List Int) × Int × Int)) := fnW spec_l01Cur_fm.s spec_l01Cur_fm.c x0
theorem spec_l01Cur_fm.fok : FkS spec_l01Cur_fm.s 56 := ⟨Tryz.func56, by kernel_rfl, by kernel_rfl⟩
noncomputable def spec_l01Cur_fm.fn (x : Args tab spec_l01Cur_fm.s.ar) : Option (ResT tab spec_l01Cur_fm.s.rs) := spec_l01Cur_fm x
noncomputable abbrev spec_l01Cur_fm.k {δ : Type} : Callee (GT tab) δ := kS spec_l01Cur_fm.s spec_l01Cur_fm.fn
theorem spec_l01Cur_fm.con {δ : Type} : Con Tryz.prog (KT tab) 56 (spec_l01Cur_fm.k (δ := δ)) := con_shape (c := spec_l01Cur_fm.c) mixed tysOk (getG_con (spec_l01Cur_fm.gok _)) spec_l01Cur_fm.fok rfl rfl fun _ => rfl
theorem spec_l01Cur_fm.eq (x0 : (List Int) × Int × Int) : spec_l01Cur_fm x0 =
    (spec_l01Cur_textOf x0 (24 : Int)).bind fun y1 =>
    (spec_l01Cur_rate y1.2).bind fun y2 =>
    (spec_FmOf y1.1 y2.1).bind fun y3 =>
    (spec_l01Cur_pick y2.2 (16 : Int)).bind fun y4 =>
    bif y4.1 == (0 : Int) then
      (spec_l01Cur_pick y4.2 (3 : Int)).bind fun y5 =>
      some ((IntKind.i64.wrap ((IntKind.i64.wrap (y3.1.1 + y5.1)) - (1 : Int)), y3.1.2.1, y3.1.2.2.1, y3.1.2.2.2.1, y3.1.2.2.2.2.1, y3.1.2.2.2.2.2.1, y3.1.2.2.2.2.2.2.1, y3.1.2.2.2.2.2.2.2.1, y3.1.2.2.2.2.2.2.2.2.1, y3.1.2.2.2.2.2.2.2.2.2.1, y3.1.2.2.2.2.2.2.2.2.2.2.1, y3.1.2.2.2.2.2.2.2.2.2.2.2.1, y3.1.2.2.2.2.2.2.2.2.2.2.2.2.1, y3.1.2.2.2.2.2.2.2.2.2.2.2.2.2.1, y3.1.2.2.2.2.2.2.2.2.2.2.2.2.2.2.1, y3.1.2.2.2.2.2.2.2.2.2.2.2.2.2.2.2), y5.2)
    else
      bif y4.1 == (1 : Int) then
        (spec_l01Cur_raw y4.2).bind fun y6 =>
        (spec_l01Cur_pick y6.2 (4 : Int)).bind fun y7 =>
        (at? ([y6.1, (64 : Int), (65 : Int), (2 : Int)] : List Int) y7.1).bind fun y8 =>
        ([y6.1, (64 : Int), (65 : Int), (2 : Int)] : List Int)[y7.1.toNat]?.bind fun y9 =>
        some ((y3.1.1, y9, y3.1.2.2.1, y3.1.2.2.2.1, y3.1.2.2.2.2.1, y3.1.2.2.2.2.2.1, y3.1.2.2.2.2.2.2.1, y3.1.2.2.2.2.2.2.2.1, y3.1.2.2.2.2.2.2.2.2.1, y3.1.2.2.2.2.2.2.2.2.2.1, y3.1.2.2.2.2.2.2.2.2.2.2.1, y3.1.2.2.2.2.2.2.2.2.2.2.2.1, y3.1.2.2.2.2.2.2.2.2.2.2.2.2.1, y3.1.2.2.2.2.2.2.2.2.2.2.2.2.2.1, y3.1.2.2.2.2.2.2.2.2.2.2.2.2.2.2.1, y3.1.2.2.2.2.2.2.2.2.2.2.2.2.2.2.2), y7.2)
      else
        bif y4.1 == (2 : Int) then
          (spec_l01Cur_wave y4.2).bind fun y10 =>
          some ((y3.1.1, y3.1.2.1, y10.1.1, y10.1.2.1, y10.1.2.2, y3.1.2.2.2.2.2.1, y3.1.2.2.2.2.2.2.1, y3.1.2.2.2.2.2.2.2.1, y3.1.2.2.2.2.2.2.2.2.1, y3.1.2.2.2.2.2.2.2.2.2.1, y3.1.2.2.2.2.2.2.2.2.2.2.1, y3.1.2.2.2.2.2.2.2.2.2.2.2.1, y3.1.2.2.2.2.2.2.2.2.2.2.2.2.1, y3.1.2.2.2.2.2.2.2.2.2.2.2.2.2.1, y3.1.2.2.2.2.2.2.2.2.2.2.2.2.2.2.1, y3.1.2.2.2.2.2.2.2.2.2.2.2.2.2.2.2), y10.2)
        else
          bif y4.1 == (3 : Int) then
            (spec_l01Cur_pick y4.2 (250 : Int)).bind fun y11 =>
            (spec_l01Cur_raw y11.2).bind fun y12 =>
            (at? y3.1.2.2.2.2.2.1 y11.1).bind fun y13 =>
            y3.1.2.2.2.2.2.1[y11.1.toNat]?.bind fun y14 =>
            some ((y3.1.1, y3.1.2.1, y3.1.2.2.1, y3.1.2.2.2.1, y3.1.2.2.2.2.1, y3.1.2.2.2.2.2.1.set y11.1.toNat y12.1, y3.1.2.2.2.2.2.2.1, y3.1.2.2.2.2.2.2.2.1, y3.1.2.2.2.2.2.2.2.2.1, y3.1.2.2.2.2.2.2.2.2.2.1, y3.1.2.2.2.2.2.2.2.2.2.2.1, y3.1.2.2.2.2.2.2.2.2.2.2.2.1, y3.1.2.2.2.2.2.2.2.2.2.2.2.2.1, y3.1.2.2.2.2.2.2.2.2.2.2.2.2.2.1, y3.1.2.2.2.2.2.2.2.2.2.2.2.2.2.2.1, y3.1.2.2.2.2.2.2.2.2.2.2.2.2.2.2.2), y12.2)
          else
            bif y4.1 == (4 : Int) then
              (spec_l01Cur_badBits y4.2).bind fun y15 =>
              some ((y3.1.1, y3.1.2.1, y3.1.2.2.1, y3.1.2.2.2.1, y3.1.2.2.2.2.1, y3.1.2.2.2.2.2.1, y15.1.1, y15.1.2, y3.1.2.2.2.2.2.2.2.2.1, y3.1.2.2.2.2.2.2.2.2.2.1, y3.1.2.2.2.2.2.2.2.2.2.2.1, y3.1.2.2.2.2.2.2.2.2.2.2.2.1, y3.1.2.2.2.2.2.2.2.2.2.2.2.2.1, y3.1.2.2.2.2.2.2.2.2.2.2.2.2.2.1, y3.1.2.2.2.2.2.2.2.2.2.2.2.2.2.2.1, y3.1.2.2.2.2.2.2.2.2.2.2.2.2.2.2.2), y15.2)
            else
              bif y4.1 == (5 : Int) then
                (spec_l01Cur_badPacked y4.2).bind fun y16 =>
                some ((y3.1.1, y3.1.2.1, y3.1.2.2.1, y3.1.2.2.2.1, y3.1.2.2.2.2.1, y3.1.2.2.2.2.2.1, y3.1.2.2.2.2.2.2.1, y3.1.2.2.2.2.2.2.2.1, y16.1.1, y16.1.2.1, y16.1.2.2.1, y16.1.2.2.2, y3.1.2.2.2.2.2.2.2.2.2.2.2.2.1, y3.1.2.2.2.2.2.2.2.2.2.2.2.2.2.1, y3.1.2.2.2.2.2.2.2.2.2.2.2.2.2.2.1, y3.1.2.2.2.2.2.2.2.2.2.2.2.2.2.2.2), y16.2)
              else
                bif y4.1 == (6 : Int) then
                  some ((y3.1.1, y3.1.2.1, y3.1.2.2.1, y3.1.2.2.2.1, y3.1.2.2.2.2.1, y3.1.2.2.2.2.2.1, y3.1.2.2.2.2.2.2.1, y3.1.2.2.2.2.2.2.2.1, y3.1.2.2.2.2.2.2.2.2.1, y3.1.2.2.2.2.2.2.2.2.2.1, y3.1.2.2.2.2.2.2.2.2.2.2.1, y3.1.2.2.2.2.2.2.2.2.2.2.2.1, y3.1.2.2.2.2.2.2.2.2.1, y3.1.2.2.2.2.2.2.2.2.2.1, y3.1.2.2.2.2.2.2.2.2.2.2.1, y3.1.2.2.2.2.2.2.2.2.2.2.2.1), y4.2)
                else
                  some (y3.1, y4.2) := by kernel_rfl

noncomputable abbrev spec_l01List.s : Sg := ⟨[.lend], [.agg [.int .i64, .sl false false 126]], ⟨[vo 3], [none]⟩, Tryz.f196⟩
noncomputable def spec_l01List.gs (δ : Type) : List (Nat × Callee (GT tab) δ) := []
theorem spec_l01List.gok (δ : Type) : AllCon Tryz.prog tab (spec_l01List.gs δ) := .nil
noncomputable def spec_l01List.c := cx spec_l01List.s [] [(3, [1, 3, 4]), (7, [1, 3, 4, 5, 6])] false (spec_l01List.gs _)
noncomputable def spec_l01List (x0 : Int × (List Int)) : Option (List Int) := fnW spec_l01List.s spec_l01List.c x0
theorem spec_l01List.fok : FkS spec_l01List.s 196 := ⟨Tryz.func196, by kernel_rfl, by kernel_rfl⟩
noncomputable def spec_l01List.fn (x : Args tab spec_l01List.s.ar) : Option (ResT tab spec_l01List.s.rs) := spec_l01List x
noncomputable abbrev spec_l01List.k {δ : Type} : Callee (GT tab) δ := kS spec_l01List.s spec_l01List.fn
theorem spec_l01List.con {δ : Type} : Con Tryz.prog (KT tab) 196 (spec_l01List.k (δ := δ)) := con_shape (c := spec_l01List.c) mixed tysOk (getG_con (spec_l01List.gok _)) spec_l01List.fok rfl rfl fun _ => rfl
noncomputable def spec_l01List_l0 (v0 v1 : Int) (v2 v3 : List Int) : Option (List Int) := lpW spec_l01List.s spec_l01List.c 0 (ud 30 [.undef, .ptr 0 0, .undef, .sl 1 0, .int .i64 v0]) [.box 30 [.int .i64 v1, .vs false 126 v2], .row 0 true 3 v3] 2
noncomputable def spec_l01List_l1 (v0 v1 v2 v3 : Int) (v4 v5 : List Int) : Option (List Int) := lpW spec_l01List.s spec_l01List.c 1 (ud 28 [.undef, .ptr 0 0, .undef, .sl 1 0, .int .i64 v0, .int .u64 v1, .int .i64 v2]) [.box 30 [.int .i64 v3, .vs false 126 v4], .row 0 true 3 v5] 2
theorem spec_l01List.eq (x0 : Int × (List Int)) : spec_l01List x0 =
    spec_l01List_l0 (0 : Int) x0.1 x0.2 ([] : List Int) := by kernel_rfl
theorem spec_l01List_l0.eq (v0 v1 : Int) (v2 v3 : List Int) : spec_l01List_l0 v0 v1 v2 v3 =
    bif decide (v0 < v1) then
      (at? v2 (IntKind.i64.wrap (v0.tdiv (64 : Int)))).bind fun y1 =>
      spec_l01List_l1 v0 y1 (v0.tmod (64 : Int)) v1 v2 v3
    else
      some v3 := (Lw_eq tysOk (getG_con (spec_l01List.gok _)) _ _).trans (by kernel_rfl)
theorem spec_l01List_l1.eq (v0 v1 v2 v3 : Int) (v4 v5 : List Int) : spec_l01List_l1 v0 v1 v2 v3 v4 v5 =
    bif decide (v2 > (0 : Int)) then
      spec_l01List_l1 v0 (IntKind.u64.wrap (v1.tdiv (2 : Int))) (IntKind.i64.wrap (v2 - (1 : Int))) v3 v4 v5
    else
      bif decide ((v5.length + ([IntKind.i64.wrap (v1.tmod (2 : Int))] : List Int).length) * 8 ≤ 140737488355328) then
        spec_l01List_l0 (IntKind.i64.wrap (v0 + (1 : Int))) v3 v4 (v5 ++ ([IntKind.i64.wrap (v1.tmod (2 : Int))] : List Int))
      else
        none := (Lw_eq tysOk (getG_con (spec_l01List.gok _)) _ _).trans (by kernel_rfl)

noncomputable abbrev spec_BitsOk.s : Sg := ⟨[.lend], [.agg [.int .i64, .sl false false 126]], ⟨[vb], [none]⟩, Tryz.f194⟩
noncomputable def spec_BitsOk.gs (δ : Type) : List (Nat × Callee (GT tab) δ) := [(170, spec_BitsOf.k), (196, spec_l01List.k)]
theorem spec_BitsOk.gok (δ : Type) : AllCon Tryz.prog tab (spec_BitsOk.gs δ) := .cons spec_BitsOf.con (.cons spec_l01List.con .nil)
noncomputable def spec_BitsOk.c := cx spec_BitsOk.s [3] [(3, [1]), (5, [1, 3, 5])] false (spec_BitsOk.gs _)
noncomputable def spec_BitsOk (x0 : Int × (List Int)) : Option (Bool) := fnW spec_BitsOk.s spec_BitsOk.c x0
theorem spec_BitsOk.fok : FkS spec_BitsOk.s 194 := ⟨Tryz.func194, by kernel_rfl, by kernel_rfl⟩
noncomputable def spec_BitsOk.fn (x : Args tab spec_BitsOk.s.ar) : Option (ResT tab spec_BitsOk.s.rs) := spec_BitsOk x
noncomputable abbrev spec_BitsOk.k {δ : Type} : Callee (GT tab) δ := kS spec_BitsOk.s spec_BitsOk.fn
theorem spec_BitsOk.con {δ : Type} : Con Tryz.prog (KT tab) 194 (spec_BitsOk.k (δ := δ)) := con_shape (c := spec_BitsOk.c) mixed tysOk (getG_con (spec_BitsOk.gok _)) spec_BitsOk.fok rfl rfl fun _ => rfl
noncomputable def spec_BitsOk_l0 (v0 : Int) (v1 : List Int) : Option (Bool) := lpW spec_BitsOk.s spec_BitsOk.c 0 (ud 46 [.undef, .ptr 0 0]) [.box 30 [.int .i64 v0, .vs false 126 v1]] 1
noncomputable def spec_BitsOk_l1 (v0 v1 : Int) (v2 : List Int) (v3 : Int) (v4 : List Int) : Option (Bool) := lpW spec_BitsOk.s spec_BitsOk.c 1 (ud 42 [.undef, .ptr 0 0, .undef, .ptr 1 0, .undef, .int .i64 v0]) [.box 30 [.int .i64 v1, .vs false 126 v2], .box 30 [.int .i64 v3, .sl 2 0], .row 0 true 126 v4] 3
theorem spec_BitsOk.eq (x0 : Int × (List Int)) : spec_BitsOk x0 =
    bif decide (x0.1 < (0 : Int)) then
      some false
    else
      bif decide (x0.1 > (5000 : Int)) then
        some false
      else
        bif (x0.2.length : Int) != IntKind.i64.wrap ((IntKind.i64.wrap (x0.1 + (63 : Int))).tdiv (64 : Int)) then
          some false
        else
          spec_BitsOk_l0 x0.1 x0.2 := by kernel_rfl
theorem spec_BitsOk_l0.eq (v0 : Int) (v1 : List Int) : spec_BitsOk_l0 v0 v1 =
    (spec_l01List (v0, v1)).bind fun y1 =>
    (spec_BitsOf y1).bind fun y2 =>
    spec_BitsOk_l1 (0 : Int) v0 v1 y2.1.1 y2.1.2 := (Lw_eq tysOk (getG_con (spec_BitsOk.gok _)) _ _).trans (by kernel_rfl)
theorem spec_BitsOk_l1.eq (v0 v1 : Int) (v2 : List Int) (v3 : Int) (v4 : List Int) : spec_BitsOk_l1 v0 v1 v2 v3 v4 =
    bif decide (v0 < (v2.length : Int)) then
      (at? v2 v0).bind fun y1 =>
      (at? v4 v0).bind fun y2 =>
      v4[v0.toNat]?.bind fun y3 =>
      bif y1 != y3 then
        some false
      else
        spec_BitsOk_l1 (IntKind.i64.wrap (v0 + (1 : Int))) v1 v2 v3 v4
    else
      some true := (Lw_eq tysOk (getG_con (spec_BitsOk.gok _)) _ _).trans (by kernel_rfl)

noncomputable abbrev spec_l01Bit.s : Sg := ⟨[.lend], [vi], ⟨[vb], [none]⟩, Tryz.f215⟩
noncomputable def spec_l01Bit.gs (δ : Type) : List (Nat × Callee (GT tab) δ) := []
theorem spec_l01Bit.gok (δ : Type) : AllCon Tryz.prog tab (spec_l01Bit.gs δ) := .nil
noncomputable def spec_l01Bit.c := cx spec_l01Bit.s [] [] false (spec_l01Bit.gs _)
noncomputable def spec_l01Bit (x0 : Int) : Option (Bool) := fnW spec_l01Bit.s spec_l01Bit.c x0
theorem spec_l01Bit.fok : FkS spec_l01Bit.s 215 := ⟨Tryz.func215, by kernel_rfl, by kernel_rfl⟩
noncomputable def spec_l01Bit.fn (x : Args tab spec_l01Bit.s.ar) : Option (ResT tab spec_l01Bit.s.rs) := spec_l01Bit x
noncomputable abbrev spec_l01Bit.k {δ : Type} : Callee (GT tab) δ := kS spec_l01Bit.s spec_l01Bit.fn
theorem spec_l01Bit.con {δ : Type} : Con Tryz.prog (KT tab) 215 (spec_l01Bit.k (δ := δ)) := con_shape (c := spec_l01Bit.c) mixed tysOk (getG_con (spec_l01Bit.gok _)) spec_l01Bit.fok rfl rfl fun _ => rfl
theorem spec_l01Bit.eq (x0 : Int) : spec_l01Bit x0 =
    bif x0 == (0 : Int) then
      some true
    else
      some (x0 == (1 : Int)) := by kernel_rfl

noncomputable abbrev spec_Rank.s : Sg := ⟨[.lend, .lend, .lend], [.agg [.int .i64, .sl false false 126], vi, vi], ⟨[vi], [none, none, none]⟩, Tryz.f195⟩
noncomputable def spec_Rank.gs (δ : Type) : List (Nat × Callee (GT tab) δ) := [(194, spec_BitsOk.k), (196, spec_l01List.k), (215, spec_l01Bit.k)]
theorem spec_Rank.gok (δ : Type) : AllCon Tryz.prog tab (spec_Rank.gs δ) := .cons spec_BitsOk.con (.cons spec_l01List.con (.cons spec_l01Bit.con .nil))
noncomputable def spec_Rank.c := cx spec_Rank.s [3] [(3, [1, 2, 3]), (6, [1, 2, 7, 8, 9])] false (spec_Rank.gs _)
noncomputable def spec_Rank (x0 : Int × (List Int)) (x1 x2 : Int) : Option (Int) := fnW spec_Rank.s spec_Rank.c (x0, x1, x2)
theorem spec_Rank.fok : FkS spec_Rank.s 195 := ⟨Tryz.func195, by kernel_rfl, by kernel_rfl⟩
noncomputable def spec_Rank.fn (x : Args tab spec_Rank.s.ar) : Option (ResT tab spec_Rank.s.rs) := spec_Rank x.1 x.2.1 x.2.2
noncomputable abbrev spec_Rank.k {δ : Type} : Callee (GT tab) δ := kS spec_Rank.s spec_Rank.fn
theorem spec_Rank.con {δ : Type} : Con Tryz.prog (KT tab) 195 (spec_Rank.k (δ := δ)) := con_shape (c := spec_Rank.c) mixed tysOk (getG_con (spec_Rank.gok _)) spec_Rank.fok rfl rfl fun _ => rfl
noncomputable def spec_Rank_l0 (v0 v1 v2 : Int) (v3 : List Int) : Option (Int) := lpW spec_Rank.s spec_Rank.c 0 (ud 40 [.undef, .int .i64 v0, .int .i64 v1, .ptr 0 0]) [.box 30 [.int .i64 v2, .vs false 126 v3]] 1
noncomputable def spec_Rank_l1 (v0 v1 v2 v3 : Int) (v4 : List Int) : Option (Int) := lpW spec_Rank.s spec_Rank.c 1 (ud 34 [.undef, .int .i64 v0, .int .i64 v1, .undef, .undef, .undef, .undef, .sl 0 0, .int .i64 v2, .int .i64 v3]) [.row 0 true 3 v4] 1
theorem spec_Rank.eq (x0 : Int × (List Int)) (x1 x2 : Int) : spec_Rank x0 x1 x2 =
    (spec_BitsOk x0).bind fun y1 =>
    bif !y1 then
      some (-1 : Int)
    else
      (spec_l01Bit x1).bind fun y2 =>
      bif !y2 then
        some (-1 : Int)
      else
        bif decide (x2 < (0 : Int)) then
          some (-1 : Int)
        else
          bif decide (x2 > x0.1) then
            some (-1 : Int)
          else
            spec_Rank_l0 x1 x2 x0.1 x0.2 := by kernel_rfl
theorem spec_Rank_l0.eq (v0 v1 v2 : Int) (v3 : List Int) : spec_Rank_l0 v0 v1 v2 v3 =
    (spec_l01List (v2, v3)).bind fun y1 =>
    spec_Rank_l1 v0 v1 (0 : Int) (0 : Int) y1 := (Lw_eq tysOk (getG_con (spec_Rank.gok _)) _ _).trans (by kernel_rfl)
theorem spec_Rank_l1.eq (v0 v1 v2 v3 : Int) (v4 : List Int) : spec_Rank_l1 v0 v1 v2 v3 v4 =
    bif decide (v3 < v1) then
      (at? v4 v3).bind fun y1 =>
      v4[v3.toNat]?.bind fun y2 =>
      bif y2 == v0 then
        spec_Rank_l1 v0 v1 (IntKind.i64.wrap (v2 + (1 : Int))) (IntKind.i64.wrap (v3 + (1 : Int))) v4
      else
        spec_Rank_l1 v0 v1 v2 (IntKind.i64.wrap (v3 + (1 : Int))) v4
    else
      some v2 := (Lw_eq tysOk (getG_con (spec_Rank.gok _)) _ _).trans (by kernel_rfl)

noncomputable abbrev spec_WaveOk.s : Sg := ⟨[.lend], [.agg [.int .i64, .sl false false 3, .sl false false 30]], ⟨[vb], [none]⟩, Tryz.f161⟩
noncomputable def spec_WaveOk.gs (δ : Type) : List (Nat × Callee (GT tab) δ) := [(194, spec_BitsOk.k), (195, spec_Rank.k)]
theorem spec_WaveOk.gok (δ : Type) : AllCon Tryz.prog tab (spec_WaveOk.gs δ) := .cons spec_BitsOk.con (.cons spec_Rank.con .nil)
noncomputable def spec_WaveOk.c := cx spec_WaveOk.s [3] [(3, [1]), (4, [1, 3])] false (spec_WaveOk.gs _)
noncomputable def spec_WaveOk (x0 : Int × (List Int) × (List (Int × (List Int)))) : Option (Bool) := fnW spec_WaveOk.s spec_WaveOk.c x0
theorem spec_WaveOk.fok : FkS spec_WaveOk.s 161 := ⟨Tryz.func161, by kernel_rfl, by kernel_rfl⟩
noncomputable def spec_WaveOk.fn (x : Args tab spec_WaveOk.s.ar) : Option (ResT tab spec_WaveOk.s.rs) := spec_WaveOk x
noncomputable abbrev spec_WaveOk.k {δ : Type} : Callee (GT tab) δ := kS spec_WaveOk.s spec_WaveOk.fn
theorem spec_WaveOk.con {δ : Type} : Con Tryz.prog (KT tab) 161 (spec_WaveOk.k (δ := δ)) := con_shape (c := spec_WaveOk.c) mixed tysOk (getG_con (spec_WaveOk.gok _)) spec_WaveOk.fok rfl rfl fun _ => rfl
noncomputable def spec_WaveOk_l0 (v0 : Int) (v1 : List Int) (v2 : List (Int × (List Int))) : Option (Bool) := lpW spec_WaveOk.s spec_WaveOk.c 0 (ud 60 [.undef, .ptr 0 0]) [.box 27 [.int .i64 v0, .vs false 3 v1, .vs false 30 v2]] 1
noncomputable def spec_WaveOk_l1 (v0 v1 : Int) (v2 : List Int) (v3 : List (Int × (List Int))) : Option (Bool) := lpW spec_WaveOk.s spec_WaveOk.c 1 (ud 58 [.undef, .ptr 0 0, .undef, .int .i64 v0]) [.box 27 [.int .i64 v1, .vs false 3 v2, .vs false 30 v3]] 1
theorem spec_WaveOk.eq (x0 : Int × (List Int) × (List (Int × (List Int)))) : spec_WaveOk x0 =
    bif decide (x0.1 < (0 : Int)) then
      some false
    else
      bif decide (x0.1 > (1000 : Int)) then
        some false
      else
        bif (x0.2.2.length : Int) != (9 : Int) then
          some false
        else
          bif (x0.2.1.length : Int) != (9 : Int) then
            some false
          else
            spec_WaveOk_l0 x0.1 x0.2.1 x0.2.2 := by kernel_rfl
theorem spec_WaveOk_l0.eq (v0 : Int) (v1 : List Int) (v2 : List (Int × (List Int))) : spec_WaveOk_l0 v0 v1 v2 =
    spec_WaveOk_l1 (0 : Int) v0 v1 v2 := (Lw_eq tysOk (getG_con (spec_WaveOk.gok _)) _ _).trans (by kernel_rfl)
theorem spec_WaveOk_l1.eq (v0 v1 : Int) (v2 : List Int) (v3 : List (Int × (List Int))) : spec_WaveOk_l1 v0 v1 v2 v3 =
    bif decide (v0 < (9 : Int)) then
      (at? v3 v0).bind fun y1 =>
      bif y1.1 != v1 then
        some false
      else
        (at? v3 v0).bind fun y2 =>
        (spec_BitsOk y2).bind fun y3 =>
        bif !y3 then
          some false
        else
          (at? v3 v0).bind fun y4 =>
          (spec_Rank y4 (0 : Int) v1).bind fun y5 =>
          (at? v2 v0).bind fun y6 =>
          bif y5 != y6 then
            some false
          else
            spec_WaveOk_l1 (IntKind.i64.wrap (v0 + (1 : Int))) v1 v2 v3
    else
      some true := (Lw_eq tysOk (getG_con (spec_WaveOk.gok _)) _ _).trans (by kernel_rfl)

noncomputable abbrev spec_l07List.s : Sg := ⟨[.lend], [.agg [.int .i64, .sl false false 3, .sl false false 30]], ⟨[vo 3], [none]⟩, Tryz.f182⟩
noncomputable def spec_l07List.gs (δ : Type) : List (Nat × Callee (GT tab) δ) := [(196, spec_l01List.k)]
theorem spec_l07List.gok (δ : Type) : AllCon Tryz.prog tab (spec_l07List.gs δ) := .cons spec_l01List.con .nil
noncomputable def spec_l07List.c := cx spec_l07List.s [] [(4, [1, 3, 4, 5]), (8, [1, 3, 4, 6]), (13, [1, 3, 4, 6, 7, 8, 9]), (19, [1, 3, 4, 6, 7, 8, 9, 10, 11, 12, 13])] false (spec_l07List.gs _)
noncomputable def spec_l07List (x0 : Int × (List Int) × (List (Int × (List Int)))) : Option (List Int) := fnW spec_l07List.s spec_l07List.c x0
theorem spec_l07List.fok : FkS spec_l07List.s 182 := ⟨Tryz.func182, by kernel_rfl, by kernel_rfl⟩
noncomputable def spec_l07List.fn (x : Args tab spec_l07List.s.ar) : Option (ResT tab spec_l07List.s.rs) := spec_l07List x
noncomputable abbrev spec_l07List.k {δ : Type} : Callee (GT tab) δ := kS spec_l07List.s spec_l07List.fn
theorem spec_l07List.con {δ : Type} : Con Tryz.prog (KT tab) 182 (spec_l07List.k (δ := δ)) := con_shape (c := spec_l07List.c) mixed tysOk (getG_con (spec_l07List.gok _)) spec_l07List.fok rfl rfl fun _ => rfl
noncomputable def spec_l07List_l0 (v0 v1 : Int) (v2 : List Int) (v3 : List (Int × (List Int))) (v4 : List Int) (v5 : List (List Int)) : Option (List Int) := lpW spec_l07List.s spec_l07List.c 0 (ud 88 [.undef, .ptr 0 0, .undef, .sl 1 0, .sl 2 0, .int .i64 v0]) [.box 27 [.int .i64 v1, .vs false 3 v2, .vs false 30 v3], .row 0 true 3 v4, .row 0 true 24 v5] 3
noncomputable def spec_l07List_l1 (v0 v1 : Int) (v2 : List Int) (v3 : List (Int × (List Int))) (v4 : List Int) (v5 : List (List Int)) : Option (List Int) := lpW spec_l07List.s spec_l07List.c 1 (ud 87 [.undef, .ptr 0 0, .undef, .sl 1 0, .sl 2 0, .undef, .int .i64 v0]) [.box 27 [.int .i64 v1, .vs false 3 v2, .vs false 30 v3], .row 0 true 3 v4, .row 0 true 24 v5] 3
noncomputable def spec_l07List_l2 (v0 v1 v2 v3 v4 : Int) (v5 : List Int) (v6 : List (Int × (List Int))) (v7 : List Int) (v8 : List (List Int)) : Option (List Int) := lpW spec_l07List.s spec_l07List.c 2 (ud 84 [.undef, .ptr 0 0, .undef, .sl 1 0, .sl 2 0, .undef, .int .i64 v0, .int .i64 v1, .int .i64 v2, .int .i64 v3]) [.box 27 [.int .i64 v4, .vs false 3 v5, .vs false 30 v6], .row 0 true 3 v7, .row 0 true 24 v8] 3
noncomputable def spec_l07List_l3 (v0 v1 v2 v3 v4 v5 v6 v7 v8 : Int) (v9 : List Int) (v10 : List (Int × (List Int))) (v11 : List Int) (v12 : List (List Int)) : Option (List Int) := lpW spec_l07List.s spec_l07List.c 3 (ud 80 [.undef, .ptr 0 0, .undef, .sl 1 0, .sl 2 0, .undef, .int .i64 v0, .int .i64 v1, .int .i64 v2, .int .i64 v3, .int .i64 v4, .int .i64 v5, .int .i64 v6, .int .i64 v7]) [.box 27 [.int .i64 v8, .vs false 3 v9, .vs false 30 v10], .row 0 true 3 v11, .row 0 true 24 v12] 3
theorem spec_l07List.eq (x0 : Int × (List Int) × (List (Int × (List Int)))) : spec_l07List x0 =
    spec_l07List_l0 (0 : Int) x0.1 x0.2.1 x0.2.2 ([] : List Int) ([] : List (List Int)) := by kernel_rfl
theorem spec_l07List_l0.eq (v0 v1 : Int) (v2 : List Int) (v3 : List (Int × (List Int))) (v4 : List Int) (v5 : List (List Int)) : spec_l07List_l0 v0 v1 v2 v3 v4 v5 =
    bif decide (v0 < (9 : Int)) then
      (at? v3 v0).bind fun y1 =>
      (spec_l01List y1).bind fun y2 =>
      bif decide ((v5.length + ([y2] : List (List Int)).length) * 24 ≤ 140737488355328) then
        spec_l07List_l0 (IntKind.i64.wrap (v0 + (1 : Int))) v1 v2 v3 v4 (v5 ++ ([y2] : List (List Int)))
      else
        none
    else
      spec_l07List_l1 (0 : Int) v1 v2 v3 v4 v5 := (Lw_eq tysOk (getG_con (spec_l07List.gok _)) _ _).trans (by kernel_rfl)
theorem spec_l07List_l1.eq (v0 v1 : Int) (v2 : List Int) (v3 : List (Int × (List Int))) (v4 : List Int) (v5 : List (List Int)) : spec_l07List_l1 v0 v1 v2 v3 v4 v5 =
    bif decide (v0 < v1) then
      spec_l07List_l2 v0 v0 (0 : Int) (0 : Int) v1 v2 v3 v4 v5
    else
      some v4 := (Lw_eq tysOk (getG_con (spec_l07List.gok _)) _ _).trans (by kernel_rfl)
theorem spec_l07List_l2.eq (v0 v1 v2 v3 v4 : Int) (v5 : List Int) (v6 : List (Int × (List Int))) (v7 : List Int) (v8 : List (List Int)) : spec_l07List_l2 v0 v1 v2 v3 v4 v5 v6 v7 v8 =
    bif decide (v3 < (9 : Int)) then
      (at? v8 v3).bind fun y1 =>
      v8[v3.toNat]?.bind fun y2 =>
      (at? y2 v1).bind fun y3 =>
      y2[v1.toNat]?.bind fun y4 =>
      spec_l07List_l3 v0 v1 v2 v3 y4 (0 : Int) (0 : Int) (0 : Int) v4 v5 v6 v7 (v8.set v3.toNat y2)
    else
      bif decide ((v7.length + ([v2] : List Int).length) * 8 ≤ 140737488355328) then
        spec_l07List_l1 (IntKind.i64.wrap (v0 + (1 : Int))) v4 v5 v6 (v7 ++ ([v2] : List Int)) v8
      else
        none := (Lw_eq tysOk (getG_con (spec_l07List.gok _)) _ _).trans (by kernel_rfl)
theorem spec_l07List_l3.eq (v0 v1 v2 v3 v4 v5 v6 v7 v8 : Int) (v9 : List Int) (v10 : List (Int × (List Int))) (v11 : List Int) (v12 : List (List Int)) : spec_l07List_l3 v0 v1 v2 v3 v4 v5 v6 v7 v8 v9 v10 v11 v12 =
    bif decide (v7 < v8) then
      (at? v12 v3).bind fun y1 =>
      v12[v3.toNat]?.bind fun y2 =>
      (at? y2 v7).bind fun y3 =>
      y2[v7.toNat]?.bind fun y4 =>
      bif y4 == (0 : Int) then
        bif decide (v7 < v1) then
          (at? (v12.set v3.toNat y2) v3).bind fun y5 =>
          (v12.set v3.toNat y2)[v3.toNat]?.bind fun y6 =>
          (at? y6 v7).bind fun y7 =>
          y6[v7.toNat]?.bind fun y8 =>
          bif y8 == v4 then
            spec_l07List_l3 v0 v1 v2 v3 v4 (IntKind.i64.wrap (v5 + (1 : Int))) (IntKind.i64.wrap (v6 + (1 : Int))) (IntKind.i64.wrap (v7 + (1 : Int))) v8 v9 v10 v11 ((v12.set v3.toNat y2).set v3.toNat y6)
          else
            spec_l07List_l3 v0 v1 v2 v3 v4 v5 (IntKind.i64.wrap (v6 + (1 : Int))) (IntKind.i64.wrap (v7 + (1 : Int))) v8 v9 v10 v11 ((v12.set v3.toNat y2).set v3.toNat y6)
        else
          spec_l07List_l3 v0 v1 v2 v3 v4 v5 (IntKind.i64.wrap (v6 + (1 : Int))) (IntKind.i64.wrap (v7 + (1 : Int))) v8 v9 v10 v11 (v12.set v3.toNat y2)
      else
        bif decide (v7 < v1) then
          (at? (v12.set v3.toNat y2) v3).bind fun y9 =>
          (v12.set v3.toNat y2)[v3.toNat]?.bind fun y10 =>
          (at? y10 v7).bind fun y11 =>
          y10[v7.toNat]?.bind fun y12 =>
          bif y12 == v4 then
            spec_l07List_l3 v0 v1 v2 v3 v4 (IntKind.i64.wrap (v5 + (1 : Int))) v6 (IntKind.i64.wrap (v7 + (1 : Int))) v8 v9 v10 v11 ((v12.set v3.toNat y2).set v3.toNat y10)
          else
            spec_l07List_l3 v0 v1 v2 v3 v4 v5 v6 (IntKind.i64.wrap (v7 + (1 : Int))) v8 v9 v10 v11 ((v12.set v3.toNat y2).set v3.toNat y10)
        else
          spec_l07List_l3 v0 v1 v2 v3 v4 v5 v6 (IntKind.i64.wrap (v7 + (1 : Int))) v8 v9 v10 v11 (v12.set v3.toNat y2)
    else
      bif v4 == (1 : Int) then
        spec_l07List_l2 v0 (IntKind.i64.wrap (v6 + v5)) (IntKind.i64.wrap ((IntKind.i64.wrap ((2 : Int) * v2)) + v4)) (IntKind.i64.wrap (v3 + (1 : Int))) v8 v9 v10 v11 v12
      else
        spec_l07List_l2 v0 v5 (IntKind.i64.wrap ((IntKind.i64.wrap ((2 : Int) * v2)) + v4)) (IntKind.i64.wrap (v3 + (1 : Int))) v8 v9 v10 v11 v12 := (Lw_eq tysOk (getG_con (spec_l07List.gok _)) _ _).trans (by kernel_rfl)

noncomputable abbrev spec_WaveList.s : Sg := ⟨[.lend], [.agg [.int .i64, .sl false false 3, .sl false false 30]], ⟨[vo 3], [none]⟩, Tryz.f126⟩
noncomputable def spec_WaveList.gs (δ : Type) : List (Nat × Callee (GT tab) δ) := [(161, spec_WaveOk.k), (182, spec_l07List.k)]
theorem spec_WaveList.gok (δ : Type) : AllCon Tryz.prog tab (spec_WaveList.gs δ) := .cons spec_WaveOk.con (.cons spec_l07List.con .nil)
noncomputable def spec_WaveList.c := cx spec_WaveList.s [] [] false (spec_WaveList.gs _)
noncomputable def spec_WaveList (x0 : Int × (List Int) × (List (Int × (List Int)))) : Option (List Int) := fnW spec_WaveList.s spec_WaveList.c x0
theorem spec_WaveList.fok : FkS spec_WaveList.s 126 := ⟨Tryz.func126, by kernel_rfl, by kernel_rfl⟩
noncomputable def spec_WaveList.fn (x : Args tab spec_WaveList.s.ar) : Option (ResT tab spec_WaveList.s.rs) := spec_WaveList x
noncomputable abbrev spec_WaveList.k {δ : Type} : Callee (GT tab) δ := kS spec_WaveList.s spec_WaveList.fn
theorem spec_WaveList.con {δ : Type} : Con Tryz.prog (KT tab) 126 (spec_WaveList.k (δ := δ)) := con_shape (c := spec_WaveList.c) mixed tysOk (getG_con (spec_WaveList.gok _)) spec_WaveList.fok rfl rfl fun _ => rfl
theorem spec_WaveList.eq (x0 : Int × (List Int) × (List (Int × (List Int)))) : spec_WaveList x0 =
    (spec_WaveOk x0).bind fun y1 =>
    bif !y1 then
      some ([] : List Int)
    else
      (spec_l07List x0).bind fun y2 =>
      some y2 := by kernel_rfl

noncomputable abbrev spec_LfOf.s : Sg := ⟨[.lend], [vl 3], ⟨[vo 3], [none]⟩, Tryz.f80⟩
noncomputable def spec_LfOf.gs (δ : Type) : List (Nat × Callee (GT tab) δ) := [(137, spec_SymsOk.k)]
theorem spec_LfOf.gok (δ : Type) : AllCon Tryz.prog tab (spec_LfOf.gs δ) := .cons spec_SymsOk.con .nil
noncomputable def spec_LfOf.c := cx spec_LfOf.s [] [(5, [0, 3, 4]), (9, [0, 3, 4, 5, 6])] false (spec_LfOf.gs _)
noncomputable def spec_LfOf (x0 : List Int) : Option (List Int) := fnW spec_LfOf.s spec_LfOf.c x0
theorem spec_LfOf.fok : FkS spec_LfOf.s 80 := ⟨Tryz.func80, by kernel_rfl, by kernel_rfl⟩
noncomputable def spec_LfOf.fn (x : Args tab spec_LfOf.s.ar) : Option (ResT tab spec_LfOf.s.rs) := spec_LfOf x
noncomputable abbrev spec_LfOf.k {δ : Type} : Callee (GT tab) δ := kS spec_LfOf.s spec_LfOf.fn
theorem spec_LfOf.con {δ : Type} : Con Tryz.prog (KT tab) 80 (spec_LfOf.k (δ := δ)) := con_shape (c := spec_LfOf.c) mixed tysOk (getG_con (spec_LfOf.gok _)) spec_LfOf.fok rfl rfl fun _ => rfl
noncomputable def spec_LfOf_l0 (v0 : List Int) (v1 : Int) (v2 : List Int) : Option (List Int) := lpW spec_LfOf.s spec_LfOf.c 0 (ud 50 [.vs false 3 v0, .undef, .undef, .sl 0 0, .int .i64 v1]) [.row 0 true 3 v2] 1
noncomputable def spec_LfOf_l1 (v0 : List Int) (v1 v2 v3 : Int) (v4 : List Int) : Option (List Int) := lpW spec_LfOf.s spec_LfOf.c 1 (ud 48 [.vs false 3 v0, .undef, .undef, .sl 0 0, .int .i64 v1, .int .i64 v2, .int .i64 v3]) [.row 0 true 3 v4] 1
theorem spec_LfOf.eq (x0 : List Int) : spec_LfOf x0 =
    (spec_SymsOk x0).bind fun y1 =>
    bif !y1 then
      some ([] : List Int)
    else
      spec_LfOf_l0 x0 (0 : Int) ([] : List Int) := by kernel_rfl
theorem spec_LfOf_l0.eq (v0 : List Int) (v1 : Int) (v2 : List Int) : spec_LfOf_l0 v0 v1 v2 =
    bif decide (v1 < (v0.length : Int)) then
      spec_LfOf_l1 v0 v1 (0 : Int) (0 : Int) v2
    else
      some v2 := (Lw_eq tysOk (getG_con (spec_LfOf.gok _)) _ _).trans (by kernel_rfl)
theorem spec_LfOf_l1.eq (v0 : List Int) (v1 v2 v3 : Int) (v4 : List Int) : spec_LfOf_l1 v0 v1 v2 v3 v4 =
    bif decide (v3 < (v0.length : Int)) then
      (at? v0 v3).bind fun y1 =>
      (at? v0 v1).bind fun y2 =>
      bif decide (y1 < y2) then
        spec_LfOf_l1 v0 v1 (IntKind.i64.wrap (v2 + (1 : Int))) (IntKind.i64.wrap (v3 + (1 : Int))) v4
      else
        bif decide (v3 < v1) then
          (at? v0 v3).bind fun y3 =>
          (at? v0 v1).bind fun y4 =>
          bif y3 == y4 then
            spec_LfOf_l1 v0 v1 (IntKind.i64.wrap (v2 + (1 : Int))) (IntKind.i64.wrap (v3 + (1 : Int))) v4
          else
            spec_LfOf_l1 v0 v1 v2 (IntKind.i64.wrap (v3 + (1 : Int))) v4
        else
          spec_LfOf_l1 v0 v1 v2 (IntKind.i64.wrap (v3 + (1 : Int))) v4
    else
      bif decide ((v4.length + ([v2] : List Int).length) * 8 ≤ 140737488355328) then
        spec_LfOf_l0 v0 (IntKind.i64.wrap (v1 + (1 : Int))) (v4 ++ ([v2] : List Int))
      else
        none := (Lw_eq tysOk (getG_con (spec_LfOf.gok _)) _ _).trans (by kernel_rfl)

noncomputable abbrev spec_l01Same.s : Sg := ⟨[.lend, .lend], [vl 3, vl 3], ⟨[vb], [none, none]⟩, Tryz.f127⟩
noncomputable def spec_l01Same.gs (δ : Type) : List (Nat × Callee (GT tab) δ) := []
theorem spec_l01Same.gok (δ : Type) : AllCon Tryz.prog tab (spec_l01Same.gs δ) := .nil
noncomputable def spec_l01Same.c := cx spec_l01Same.s [] [(4, [0, 1, 5])] false (spec_l01Same.gs _)
noncomputable def spec_l01Same (x0 x1 : List Int) : Option (Bool) := fnW spec_l01Same.s spec_l01Same.c (x0, x1)
theorem spec_l01Same.fok : FkS spec_l01Same.s 127 := ⟨Tryz.func127, by kernel_rfl, by kernel_rfl⟩
noncomputable def spec_l01Same.fn (x : Args tab spec_l01Same.s.ar) : Option (ResT tab spec_l01Same.s.rs) := spec_l01Same x.1 x.2
noncomputable abbrev spec_l01Same.k {δ : Type} : Callee (GT tab) δ := kS spec_l01Same.s spec_l01Same.fn
theorem spec_l01Same.con {δ : Type} : Con Tryz.prog (KT tab) 127 (spec_l01Same.k (δ := δ)) := con_shape (c := spec_l01Same.c) mixed tysOk (getG_con (spec_l01Same.gok _)) spec_l01Same.fok rfl rfl fun _ => rfl
noncomputable def spec_l01Same_l0 (v0 v1 : List Int) (v2 : Int) : Option (Bool) := lpW spec_l01Same.s spec_l01Same.c 0 (ud 20 [.vs false 3 v0, .vs false 3 v1, .undef, .undef, .undef, .int .i64 v2]) [] 0
theorem spec_l01Same.eq (x0 x1 : List Int) : spec_l01Same x0 x1 =
    bif (x0.length : Int) != (x1.length : Int) then
      some false
    else
      spec_l01Same_l0 x0 x1 (0 : Int) := by kernel_rfl
theorem spec_l01Same_l0.eq (v0 v1 : List Int) (v2 : Int) : spec_l01Same_l0 v0 v1 v2 =
    bif decide (v2 < (v0.length : Int)) then
      (at? v0 v2).bind fun y1 =>
      (at? v1 v2).bind fun y2 =>
      bif y1 != y2 then
        some false
      else
        spec_l01Same_l0 v0 v1 (IntKind.i64.wrap (v2 + (1 : Int)))
    else
      some true := (Lw_eq tysOk (getG_con (spec_l01Same.gok _)) _ _).trans (by kernel_rfl)

noncomputable abbrev spec_BwtText.s : Sg := ⟨[.lend], [vl 3], ⟨[vo 5, vb], [none]⟩, Tryz.f125⟩
noncomputable def spec_BwtText.gs (δ : Type) : List (Nat × Callee (GT tab) δ) := [(80, spec_LfOf.k), (81, spec_BwtOf.k), (127, spec_l01Same.k), (137, spec_SymsOk.k)]
theorem spec_BwtText.gok (δ : Type) : AllCon Tryz.prog tab (spec_BwtText.gs δ) := .cons spec_LfOf.con (.cons spec_BwtOf.con (.cons spec_l01Same.con (.cons spec_SymsOk.con .nil)))
noncomputable def spec_BwtText.c := cx spec_BwtText.s [3, 9] [(3, [0]), (7, [0, 4, 5, 6, 7]), (9, [0, 4, 5, 6, 7])] false (spec_BwtText.gs _)
noncomputable def spec_BwtText (x0 : List Int) : Option ((List Int) × Bool) := fnW spec_BwtText.s spec_BwtText.c x0
theorem spec_BwtText.fok : FkS spec_BwtText.s 125 := ⟨Tryz.func125, by kernel_rfl, by kernel_rfl⟩
noncomputable def spec_BwtText.fn (x : Args tab spec_BwtText.s.ar) : Option (ResT tab spec_BwtText.s.rs) := spec_BwtText x
noncomputable abbrev spec_BwtText.k {δ : Type} : Callee (GT tab) δ := kS spec_BwtText.s spec_BwtText.fn
theorem spec_BwtText.con {δ : Type} : Con Tryz.prog (KT tab) 125 (spec_BwtText.k (δ := δ)) := con_shape (c := spec_BwtText.c) mixed tysOk (getG_con (spec_BwtText.gok _)) spec_BwtText.fok rfl rfl fun _ => rfl
noncomputable def spec_BwtText_l0 (v0 : List Int) : Option ((List Int) × Bool) := lpW spec_BwtText.s spec_BwtText.c 0 (ud 51 [.vs false 3 v0]) [] 0
noncomputable def spec_BwtText_l1 (v0 : List Int) (v1 v2 : Int) (v3 v4 : List Int) : Option ((List Int) × Bool) := lpW spec_BwtText.s spec_BwtText.c 1 (ud 44 [.vs false 3 v0, .undef, .undef, .undef, .sl 0 0, .sl 1 0, .int .i64 v1, .int .i64 v2]) [.row 0 true 3 v3, .row 0 true 5 v4] 2
noncomputable def spec_BwtText_l2 (v0 : List Int) (v1 v2 : Int) (v3 v4 : List Int) : Option ((List Int) × Bool) := lpW spec_BwtText.s spec_BwtText.c 2 (ud 44 [.vs false 3 v0, .undef, .undef, .undef, .sl 0 0, .sl 1 0, .int .i64 v1, .int .i64 v2]) [.row 0 true 3 v3, .row 0 true 5 v4] 2
theorem spec_BwtText.eq (x0 : List Int) : spec_BwtText x0 =
    (spec_SymsOk x0).bind fun y1 =>
    bif !y1 then
      some (([] : List Int), false)
    else
      bif (x0.length : Int) == (0 : Int) then
        some (([] : List Int), false)
      else
        spec_BwtText_l0 x0 := by kernel_rfl
theorem spec_BwtText_l0.eq (v0 : List Int) : spec_BwtText_l0 v0 =
    (spec_LfOf v0).bind fun y1 =>
    spec_BwtText_l1 v0 (0 : Int) (0 : Int) y1 ([] : List Int) := (Lw_eq tysOk (getG_con (spec_BwtText.gok _)) _ _).trans (by kernel_rfl)
theorem spec_BwtText_l1.eq (v0 : List Int) (v1 v2 : Int) (v3 v4 : List Int) : spec_BwtText_l1 v0 v1 v2 v3 v4 =
    bif decide (v2 < IntKind.i64.wrap ((v0.length : Int) - (1 : Int))) then
      (at? v0 v1).bind fun y1 =>
      bif decide (y1 > (0 : Int)) then
        spec_BwtText_l2 v0 v1 v2 v3 v4
      else
        (spec_BwtOf v4).bind fun y2 =>
        (spec_l01Same y2 v0).bind fun y3 =>
        bif !y3 then
          some (([] : List Int), false)
        else
          some (v4, true)
    else
      (spec_BwtOf v4).bind fun y4 =>
      (spec_l01Same y4 v0).bind fun y5 =>
      bif !y5 then
        some (([] : List Int), false)
      else
        some (v4, true) := (Lw_eq tysOk (getG_con (spec_BwtText.gok _)) _ _).trans (by kernel_rfl)
theorem spec_BwtText_l2.eq (v0 : List Int) (v1 v2 : Int) (v3 v4 : List Int) : spec_BwtText_l2 v0 v1 v2 v3 v4 =
    (at? v0 v1).bind fun y1 =>
    bif decide ((([IntKind.u8.wrap (IntKind.i64.wrap (y1 - (1 : Int)))] : List Int).length + v4.length) * 1 ≤ 140737488355328) then
      (at? v3 v1).bind fun y2 =>
      v3[v1.toNat]?.bind fun y3 =>
      spec_BwtText_l1 v0 y3 (IntKind.i64.wrap (v2 + (1 : Int))) v3 (([IntKind.u8.wrap (IntKind.i64.wrap (y1 - (1 : Int)))] : List Int) ++ v4)
    else
      none := (Lw_eq tysOk (getG_con (spec_BwtText.gok _)) _ _).trans (by kernel_rfl)

noncomputable abbrev spec_l03Same.s : Sg := ⟨[.lend, .lend], [.agg [.int .i64, .sl false false 126], .agg [.int .i64, .sl false false 126]], ⟨[vb], [none, none]⟩, Tryz.f128⟩
noncomputable def spec_l03Same.gs (δ : Type) : List (Nat × Callee (GT tab) δ) := []
theorem spec_l03Same.gok (δ : Type) : AllCon Tryz.prog tab (spec_l03Same.gs δ) := .nil
noncomputable def spec_l03Same.c := cx spec_l03Same.s [3] [(3, [2, 3]), (4, [2, 3, 5])] false (spec_l03Same.gs _)
noncomputable def spec_l03Same (x0 x1 : Int × (List Int)) : Option (Bool) := fnW spec_l03Same.s spec_l03Same.c (x0, x1)
theorem spec_l03Same.fok : FkS spec_l03Same.s 128 := ⟨Tryz.func128, by kernel_rfl, by kernel_rfl⟩
noncomputable def spec_l03Same.fn (x : Args tab spec_l03Same.s.ar) : Option (ResT tab spec_l03Same.s.rs) := spec_l03Same x.1 x.2
noncomputable abbrev spec_l03Same.k {δ : Type} : Callee (GT tab) δ := kS spec_l03Same.s spec_l03Same.fn
theorem spec_l03Same.con {δ : Type} : Con Tryz.prog (KT tab) 128 (spec_l03Same.k (δ := δ)) := con_shape (c := spec_l03Same.c) mixed tysOk (getG_con (spec_l03Same.gok _)) spec_l03Same.fok rfl rfl fun _ => rfl
noncomputable def spec_l03Same_l0 (v0 : Int) (v1 : List Int) (v2 : Int) (v3 : List Int) : Option (Bool) := lpW spec_l03Same.s spec_l03Same.c 0 (ud 34 [.undef, .undef, .ptr 0 0, .ptr 1 0]) [.box 30 [.int .i64 v0, .vs false 126 v1], .box 30 [.int .i64 v2, .vs false 126 v3]] 2
noncomputable def spec_l03Same_l1 (v0 v1 : Int) (v2 : List Int) (v3 : Int) (v4 : List Int) : Option (Bool) := lpW spec_l03Same.s spec_l03Same.c 1 (ud 32 [.undef, .undef, .ptr 0 0, .ptr 1 0, .undef, .int .i64 v0]) [.box 30 [.int .i64 v1, .vs false 126 v2], .box 30 [.int .i64 v3, .vs false 126 v4]] 2
theorem spec_l03Same.eq (x0 x1 : Int × (List Int)) : spec_l03Same x0 x1 =
    bif x0.1 != x1.1 then
      some false
    else
      bif (x0.2.length : Int) != (x1.2.length : Int) then
        some false
      else
        spec_l03Same_l0 x0.1 x0.2 x1.1 x1.2 := by kernel_rfl
theorem spec_l03Same_l0.eq (v0 : Int) (v1 : List Int) (v2 : Int) (v3 : List Int) : spec_l03Same_l0 v0 v1 v2 v3 =
    spec_l03Same_l1 (0 : Int) v0 v1 v2 v3 := (Lw_eq tysOk (getG_con (spec_l03Same.gok _)) _ _).trans (by kernel_rfl)
theorem spec_l03Same_l1.eq (v0 v1 : Int) (v2 : List Int) (v3 : Int) (v4 : List Int) : spec_l03Same_l1 v0 v1 v2 v3 v4 =
    bif decide (v0 < (v2.length : Int)) then
      (at? v2 v0).bind fun y1 =>
      (at? v4 v0).bind fun y2 =>
      bif y1 != y2 then
        some false
      else
        spec_l03Same_l1 (IntKind.i64.wrap (v0 + (1 : Int))) v1 v2 v3 v4
    else
      some true := (Lw_eq tysOk (getG_con (spec_l03Same.gok _)) _ _).trans (by kernel_rfl)

noncomputable abbrev spec_l09Packs.s : Sg := ⟨[.lend, .lend], [.agg [.int .i64, .int .i64, .int .i64, .sl false false 126], .agg [.int .i64, .int .i64, .int .i64, .sl false false 126]], ⟨[vb], [none, none]⟩, Tryz.f129⟩
noncomputable def spec_l09Packs.gs (δ : Type) : List (Nat × Callee (GT tab) δ) := [(128, spec_l03Same.k)]
theorem spec_l09Packs.gok (δ : Type) : AllCon Tryz.prog tab (spec_l09Packs.gs δ) := .cons spec_l03Same.con .nil
noncomputable def spec_l09Packs.c := cx spec_l09Packs.s [] [] false (spec_l09Packs.gs _)
noncomputable def spec_l09Packs (x0 x1 : Int × Int × Int × (List Int)) : Option (Bool) := fnW spec_l09Packs.s spec_l09Packs.c (x0, x1)
theorem spec_l09Packs.fok : FkS spec_l09Packs.s 129 := ⟨Tryz.func129, by kernel_rfl, by kernel_rfl⟩
noncomputable def spec_l09Packs.fn (x : Args tab spec_l09Packs.s.ar) : Option (ResT tab spec_l09Packs.s.rs) := spec_l09Packs x.1 x.2
noncomputable abbrev spec_l09Packs.k {δ : Type} : Callee (GT tab) δ := kS spec_l09Packs.s spec_l09Packs.fn
theorem spec_l09Packs.con {δ : Type} : Con Tryz.prog (KT tab) 129 (spec_l09Packs.k (δ := δ)) := con_shape (c := spec_l09Packs.c) mixed tysOk (getG_con (spec_l09Packs.gok _)) spec_l09Packs.fok rfl rfl fun _ => rfl
theorem spec_l09Packs.eq (x0 x1 : Int × Int × Int × (List Int)) : spec_l09Packs x0 x1 =
    bif x0.1 == x1.1 then
      bif x0.2.1 == x1.2.1 then
        (spec_l03Same x0.2.2 x1.2.2).bind fun y1 =>
        some y1
      else
        some false
    else
      some false := by kernel_rfl

noncomputable abbrev spec_l09Text.s : Sg := ⟨[.lend], [.agg [.int .i64, .int .i64, .int .i64, .sl false false 3, .sl false false 30, .sl false false 3, .int .i64, .sl false false 126, .int .i64, .int .i64, .int .i64, .sl false false 126, .int .i64, .int .i64, .int .i64, .sl false false 126]], ⟨[vo 5, vb], [none]⟩, Tryz.f60⟩
noncomputable def spec_l09Text.gs (δ : Type) : List (Nat × Callee (GT tab) δ) := [(111, spec_FmOf.k), (124, spec_l09Rate.k), (125, spec_BwtText.k), (126, spec_WaveList.k), (127, spec_l01Same.k), (128, spec_l03Same.k), (129, spec_l09Packs.k)]
theorem spec_l09Text.gok (δ : Type) : AllCon Tryz.prog tab (spec_l09Text.gs δ) := .cons spec_FmOf.con (.cons spec_l09Rate.con (.cons spec_BwtText.con (.cons spec_WaveList.con (.cons spec_l01Same.con (.cons spec_l03Same.con (.cons spec_l09Packs.con .nil))))))
noncomputable def spec_l09Text.c := cx spec_l09Text.s [3] [(3, [1])] false (spec_l09Text.gs _)
noncomputable def spec_l09Text (x0 : Int × Int × Int × (List Int) × (List (Int × (List Int))) × (List Int) × Int × (List Int) × Int × Int × Int × (List Int) × Int × Int × Int × (List Int)) : Option ((List Int) × Bool) := fnW spec_l09Text.s spec_l09Text.c x0
theorem spec_l09Text.fok : FkS spec_l09Text.s 60 := ⟨Tryz.func60, by kernel_rfl, by kernel_rfl⟩
noncomputable def spec_l09Text.fn (x : Args tab spec_l09Text.s.ar) : Option (ResT tab spec_l09Text.s.rs) := spec_l09Text x
noncomputable abbrev spec_l09Text.k {δ : Type} : Callee (GT tab) δ := kS spec_l09Text.s spec_l09Text.fn
theorem spec_l09Text.con {δ : Type} : Con Tryz.prog (KT tab) 60 (spec_l09Text.k (δ := δ)) := con_shape (c := spec_l09Text.c) mixed tysOk (getG_con (spec_l09Text.gok _)) spec_l09Text.fok rfl rfl fun _ => rfl
noncomputable def spec_l09Text_l0 (v0 v1 v2 : Int) (v3 : List Int) (v4 : List (Int × (List Int))) (v5 : List Int) (v6 : Int) (v7 : List Int) (v8 v9 v10 : Int) (v11 : List Int) (v12 v13 v14 : Int) (v15 : List Int) : Option ((List Int) × Bool) := lpW spec_l09Text.s spec_l09Text.c 0 (ud 70 [.undef, .ptr 0 0]) [.box 34 [.int .i64 v0, .int .i64 v1, .int .i64 v2, .vs false 3 v3, .vs false 30 v4, .vs false 3 v5, .int .i64 v6, .vs false 126 v7, .int .i64 v8, .int .i64 v9, .int .i64 v10, .vs false 126 v11, .int .i64 v12, .int .i64 v13, .int .i64 v14, .vs false 126 v15]] 1
theorem spec_l09Text.eq (x0 : Int × Int × Int × (List Int) × (List (Int × (List Int))) × (List Int) × Int × (List Int) × Int × Int × Int × (List Int) × Int × Int × Int × (List Int)) : spec_l09Text x0 =
    (spec_l09Rate x0.2.1).bind fun y1 =>
    bif !y1 then
      some (([] : List Int), false)
    else
      bif decide (x0.2.2.1 > (301 : Int)) then
        some (([] : List Int), false)
      else
        spec_l09Text_l0 x0.1 x0.2.1 x0.2.2.1 x0.2.2.2.1 x0.2.2.2.2.1 x0.2.2.2.2.2.1 x0.2.2.2.2.2.2.1 x0.2.2.2.2.2.2.2.1 x0.2.2.2.2.2.2.2.2.1 x0.2.2.2.2.2.2.2.2.2.1 x0.2.2.2.2.2.2.2.2.2.2.1 x0.2.2.2.2.2.2.2.2.2.2.2.1 x0.2.2.2.2.2.2.2.2.2.2.2.2.1 x0.2.2.2.2.2.2.2.2.2.2.2.2.2.1 x0.2.2.2.2.2.2.2.2.2.2.2.2.2.2.1 x0.2.2.2.2.2.2.2.2.2.2.2.2.2.2.2 := by kernel_rfl
theorem spec_l09Text_l0.eq (v0 v1 v2 : Int) (v3 : List Int) (v4 : List (Int × (List Int))) (v5 : List Int) (v6 : Int) (v7 : List Int) (v8 v9 v10 : Int) (v11 : List Int) (v12 v13 v14 : Int) (v15 : List Int) : spec_l09Text_l0 v0 v1 v2 v3 v4 v5 v6 v7 v8 v9 v10 v11 v12 v13 v14 v15 =
    (spec_WaveList (v2, v3, v4)).bind fun y1 =>
    (spec_BwtText y1).bind fun y2 =>
    bif !y2.2 then
      some (([] : List Int), false)
    else
      (spec_FmOf y2.1 v1).bind fun y3 =>
      bif v0 != y3.1.1 then
        some (([] : List Int), false)
      else
        (spec_l01Same v5 y3.1.2.2.2.2.2.1).bind fun y4 =>
        bif !y4 then
          some (([] : List Int), false)
        else
          (spec_l03Same (v6, v7) (y3.1.2.2.2.2.2.2.1, y3.1.2.2.2.2.2.2.2.1)).bind fun y5 =>
          bif !y5 then
            some (([] : List Int), false)
          else
            (spec_l09Packs (v8, v9, v10, v11) (y3.1.2.2.2.2.2.2.2.2.1, y3.1.2.2.2.2.2.2.2.2.2.1, y3.1.2.2.2.2.2.2.2.2.2.2.1, y3.1.2.2.2.2.2.2.2.2.2.2.2.1)).bind fun y6 =>
            bif !y6 then
              some (([] : List Int), false)
            else
              (spec_l09Packs (v12, v13, v14, v15) y3.1.2.2.2.2.2.2.2.2.2.2.2.2).bind fun y7 =>
              bif !y7 then
                some (([] : List Int), false)
              else
                some (y2.1, true) := (Lw_eq tysOk (getG_con (spec_l09Text.gok _)) _ _).trans (by kernel_rfl)

noncomputable abbrev impl_within.s : Sg := ⟨[.lend, .lend, .lend], [vi, vi, vi], ⟨[vb], [none, none, none]⟩, Tryz.f63⟩
noncomputable def impl_within.gs (δ : Type) : List (Nat × Callee (GT tab) δ) := []
theorem impl_within.gok (δ : Type) : AllCon Tryz.prog tab (impl_within.gs δ) := .nil
noncomputable def impl_within.c := cx impl_within.s [] [] false (impl_within.gs _)
noncomputable def impl_within (x0 x1 x2 : Int) : Option (Bool) := fnW impl_within.s impl_within.c (x0, x1, x2)
theorem impl_within.fok : FkS impl_within.s 63 := ⟨Tryz.func63, by kernel_rfl, by kernel_rfl⟩
noncomputable def impl_within.fn (x : Args tab impl_within.s.ar) : Option (ResT tab impl_within.s.rs) := impl_within x.1 x.2.1 x.2.2
noncomputable abbrev impl_within.k {δ : Type} : Callee (GT tab) δ := kS impl_within.s impl_within.fn
theorem impl_within.con {δ : Type} : Con Tryz.prog (KT tab) 63 (impl_within.k (δ := δ)) := con_shape (c := impl_within.c) mixed tysOk (getG_con (impl_within.gok _)) impl_within.fok rfl rfl fun _ => rfl
theorem impl_within.eq (x0 x1 x2 : Int) : impl_within x0 x1 x2 =
    bif decide (x1 ≤ x0) then
      some (decide (x0 ≤ x2))
    else
      some false := by kernel_rfl

noncomputable abbrev impl_BitsOk.s : Sg := ⟨[.lend], [.agg [.int .i64, .sl false false 126]], ⟨[vb], [none]⟩, Tryz.f66⟩
noncomputable def impl_BitsOk.gs (δ : Type) : List (Nat × Callee (GT tab) δ) := [(63, impl_within.k)]
theorem impl_BitsOk.gok (δ : Type) : AllCon Tryz.prog tab (impl_BitsOk.gs δ) := .cons impl_within.con .nil
noncomputable def impl_BitsOk.c := cx impl_BitsOk.s [] [] false (impl_BitsOk.gs _)
noncomputable def impl_BitsOk (x0 : Int × (List Int)) : Option (Bool) := fnW impl_BitsOk.s impl_BitsOk.c x0
theorem impl_BitsOk.fok : FkS impl_BitsOk.s 66 := ⟨Tryz.func66, by kernel_rfl, by kernel_rfl⟩
noncomputable def impl_BitsOk.fn (x : Args tab impl_BitsOk.s.ar) : Option (ResT tab impl_BitsOk.s.rs) := impl_BitsOk x
noncomputable abbrev impl_BitsOk.k {δ : Type} : Callee (GT tab) δ := kS impl_BitsOk.s impl_BitsOk.fn
theorem impl_BitsOk.con {δ : Type} : Con Tryz.prog (KT tab) 66 (impl_BitsOk.k (δ := δ)) := con_shape (c := impl_BitsOk.c) mixed tysOk (getG_con (impl_BitsOk.gok _)) impl_BitsOk.fok rfl rfl fun _ => rfl
theorem impl_BitsOk.eq (x0 : Int × (List Int)) : impl_BitsOk x0 =
    (impl_within x0.1 (0 : Int) (5000 : Int)).bind fun y1 =>
    bif !y1 then
      some false
    else
      bif (x0.2.length : Int) != IntKind.i64.wrap ((IntKind.i64.wrap ((IntKind.i64.wrap (x0.1 + (64 : Int))) - (1 : Int))).tdiv (64 : Int)) then
        some false
      else
        bif x0.1.tmod (64 : Int) == (0 : Int) then
          some true
        else
          (at? x0.2 (IntKind.i64.wrap ((x0.2.length : Int) - (1 : Int)))).bind fun y2 =>
          bif decide (x0.1.tmod (64 : Int) < (0 : Int)) then
            none
          else
            some (y2.fdiv (2 ^ (min (x0.1.tmod (64 : Int)).toNat 64)) == (0 : Int)) := by kernel_rfl

noncomputable abbrev impl_Bits_at.s : Sg := ⟨[.lend, .lend], [.agg [.int .i64, .sl false false 126], vi], ⟨[vi], [none, none]⟩, Tryz.f67⟩
noncomputable def impl_Bits_at.gs (δ : Type) : List (Nat × Callee (GT tab) δ) := []
theorem impl_Bits_at.gok (δ : Type) : AllCon Tryz.prog tab (impl_Bits_at.gs δ) := .nil
noncomputable def impl_Bits_at.c := cx impl_Bits_at.s [] [] false (impl_Bits_at.gs _)
noncomputable def impl_Bits_at (x0 : Int × (List Int)) (x1 : Int) : Option (Int) := fnW impl_Bits_at.s impl_Bits_at.c (x0, x1)
theorem impl_Bits_at.fok : FkS impl_Bits_at.s 67 := ⟨Tryz.func67, by kernel_rfl, by kernel_rfl⟩
noncomputable def impl_Bits_at.fn (x : Args tab impl_Bits_at.s.ar) : Option (ResT tab impl_Bits_at.s.rs) := impl_Bits_at x.1 x.2
noncomputable abbrev impl_Bits_at.k {δ : Type} : Callee (GT tab) δ := kS impl_Bits_at.s impl_Bits_at.fn
theorem impl_Bits_at.con {δ : Type} : Con Tryz.prog (KT tab) 67 (impl_Bits_at.k (δ := δ)) := con_shape (c := impl_Bits_at.c) mixed tysOk (getG_con (impl_Bits_at.gok _)) impl_Bits_at.fok rfl rfl fun _ => rfl
theorem impl_Bits_at.eq (x0 : Int × (List Int)) (x1 : Int) : impl_Bits_at x0 x1 =
    (at? x0.2 (IntKind.i64.wrap (x1.tdiv (64 : Int)))).bind fun y1 =>
    bif decide (x1.tmod (64 : Int) < (0 : Int)) then
      none
    else
      some (IntKind.i64.wrap (IntKind.u64.wrap (((BitVec.ofInt 64 (y1.fdiv (2 ^ (min (x1.tmod (64 : Int)).toNat 64)))) &&& (BitVec.ofInt 64 (1 : Int))).toNat : Int))) := by kernel_rfl

noncomputable abbrev impl_Bits_list.s : Sg := ⟨[.lend], [.agg [.int .i64, .sl false false 126]], ⟨[vo 3], [none]⟩, Tryz.f74⟩
noncomputable def impl_Bits_list.gs (δ : Type) : List (Nat × Callee (GT tab) δ) := [(67, impl_Bits_at.k)]
theorem impl_Bits_list.gok (δ : Type) : AllCon Tryz.prog tab (impl_Bits_list.gs δ) := .cons impl_Bits_at.con .nil
noncomputable def impl_Bits_list.c := cx impl_Bits_list.s [] [(3, [1, 3, 6, 7])] false (impl_Bits_list.gs _)
noncomputable def impl_Bits_list (x0 : Int × (List Int)) : Option (List Int) := fnW impl_Bits_list.s impl_Bits_list.c x0
theorem impl_Bits_list.fok : FkS impl_Bits_list.s 74 := ⟨Tryz.func74, by kernel_rfl, by kernel_rfl⟩
noncomputable def impl_Bits_list.fn (x : Args tab impl_Bits_list.s.ar) : Option (ResT tab impl_Bits_list.s.rs) := impl_Bits_list x
noncomputable abbrev impl_Bits_list.k {δ : Type} : Callee (GT tab) δ := kS impl_Bits_list.s impl_Bits_list.fn
theorem impl_Bits_list.con {δ : Type} : Con Tryz.prog (KT tab) 74 (impl_Bits_list.k (δ := δ)) := con_shape (c := impl_Bits_list.c) mixed tysOk (getG_con (impl_Bits_list.gok _)) impl_Bits_list.fok rfl rfl fun _ => rfl
noncomputable def impl_Bits_list_l0 (v0 v1 v2 : Int) (v3 v4 : List Int) : Option (List Int) := lpW impl_Bits_list.s impl_Bits_list.c 0 (ud 10 [.undef, .ptr 0 0, .undef, .sl 1 0, .undef, .undef, .int .i64 v0, .int .i64 v1]) [.box 30 [.int .i64 v2, .vs false 126 v3], .row 0 true 3 v4] 2
theorem impl_Bits_list.eq (x0 : Int × (List Int)) : impl_Bits_list x0 =
    impl_Bits_list_l0 x0.1 (0 : Int) x0.1 x0.2 ([] : List Int) := by kernel_rfl
theorem impl_Bits_list_l0.eq (v0 v1 v2 : Int) (v3 v4 : List Int) : impl_Bits_list_l0 v0 v1 v2 v3 v4 =
    bif decide (v1 < v0) then
      (impl_Bits_at (v2, v3) v1).bind fun y1 =>
      bif decide ((v4.length + ([y1] : List Int).length) * 8 ≤ 140737488355328) then
        impl_Bits_list_l0 v0 (IntKind.i64.wrap (v1 + (1 : Int))) v2 v3 (v4 ++ ([y1] : List Int))
      else
        none
    else
      some v4 := (Lw_eq tysOk (getG_con (impl_Bits_list.gok _)) _ _).trans (by kernel_rfl)

noncomputable abbrev impl_BitsList.s : Sg := ⟨[.lend], [.agg [.int .i64, .sl false false 126]], ⟨[vo 3], [none]⟩, Tryz.f177⟩
noncomputable def impl_BitsList.gs (δ : Type) : List (Nat × Callee (GT tab) δ) := [(66, impl_BitsOk.k), (74, impl_Bits_list.k)]
theorem impl_BitsList.gok (δ : Type) : AllCon Tryz.prog tab (impl_BitsList.gs δ) := .cons impl_BitsOk.con (.cons impl_Bits_list.con .nil)
noncomputable def impl_BitsList.c := cx impl_BitsList.s [] [] false (impl_BitsList.gs _)
noncomputable def impl_BitsList (x0 : Int × (List Int)) : Option (List Int) := fnW impl_BitsList.s impl_BitsList.c x0
theorem impl_BitsList.fok : FkS impl_BitsList.s 177 := ⟨Tryz.func177, by kernel_rfl, by kernel_rfl⟩
noncomputable def impl_BitsList.fn (x : Args tab impl_BitsList.s.ar) : Option (ResT tab impl_BitsList.s.rs) := impl_BitsList x
noncomputable abbrev impl_BitsList.k {δ : Type} : Callee (GT tab) δ := kS impl_BitsList.s impl_BitsList.fn
theorem impl_BitsList.con {δ : Type} : Con Tryz.prog (KT tab) 177 (impl_BitsList.k (δ := δ)) := con_shape (c := impl_BitsList.c) mixed tysOk (getG_con (impl_BitsList.gok _)) impl_BitsList.fok rfl rfl fun _ => rfl
theorem impl_BitsList.eq (x0 : Int × (List Int)) : impl_BitsList x0 =
    (impl_BitsOk x0).bind fun y1 =>
    bif !y1 then
      some ([] : List Int)
    else
      (impl_Bits_list x0).bind fun y2 =>
      some y2 := by kernel_rfl

noncomputable abbrev impl_count.s : Sg := ⟨[.lend, .lend], [vl 3, vi], ⟨[vi], [none, none]⟩, Tryz.f73⟩
noncomputable def impl_count.gs (δ : Type) : List (Nat × Callee (GT tab) δ) := []
theorem impl_count.gok (δ : Type) : AllCon Tryz.prog tab (impl_count.gs δ) := .nil
noncomputable def impl_count.c := cx impl_count.s [] [(3, [1, 5, 8, 9, 10])] false (impl_count.gs _)
noncomputable def impl_count (x0 : List Int) (x1 : Int) : Option (Int) := fnW impl_count.s impl_count.c (x0, x1)
theorem impl_count.fok : FkS impl_count.s 73 := ⟨Tryz.func73, by kernel_rfl, by kernel_rfl⟩
noncomputable def impl_count.fn (x : Args tab impl_count.s.ar) : Option (ResT tab impl_count.s.rs) := impl_count x.1 x.2
noncomputable abbrev impl_count.k {δ : Type} : Callee (GT tab) δ := kS impl_count.s impl_count.fn
theorem impl_count.con {δ : Type} : Con Tryz.prog (KT tab) 73 (impl_count.k (δ := δ)) := con_shape (c := impl_count.c) mixed tysOk (getG_con (impl_count.gok _)) impl_count.fok rfl rfl fun _ => rfl
noncomputable def impl_count_l0 (v0 v1 : Int) (v2 : List Int) (v3 v4 : Int) : Option (Int) := lpW impl_count.s impl_count.c 0 (ud 10 [.undef, .int .i64 v0, .undef, .undef, .undef, .int .i64 v1, .undef, .undef, .vs false 3 v2, .int .i64 v3, .int .i64 v4]) [] 0
theorem impl_count.eq (x0 : List Int) (x1 : Int) : impl_count x0 x1 =
    impl_count_l0 x1 (0 : Int) x0 (x0.length : Int) (0 : Int) := by kernel_rfl
theorem impl_count_l0.eq (v0 v1 : Int) (v2 : List Int) (v3 v4 : Int) : impl_count_l0 v0 v1 v2 v3 v4 =
    bif decide (v4 < v3) then
      (at? v2 v4).bind fun y1 =>
      bif y1 == v0 then
        impl_count_l0 v0 (IntKind.i64.wrap (v1 + (1 : Int))) v2 v3 (IntKind.i64.wrap (v4 + (1 : Int)))
      else
        impl_count_l0 v0 v1 v2 v3 (IntKind.i64.wrap (v4 + (1 : Int)))
    else
      some v1 := (Lw_eq tysOk (getG_con (impl_count.gok _)) _ _).trans (by kernel_rfl)

noncomputable abbrev impl_Wave_read.s : Sg := ⟨[.lend], [.agg [.int .i64, .sl false false 3, .sl false false 30]], ⟨[vo 3, vb], [none]⟩, Tryz.f120⟩
noncomputable def impl_Wave_read.gs (δ : Type) : List (Nat × Callee (GT tab) δ) := [(63, impl_within.k), (66, impl_BitsOk.k), (73, impl_count.k), (177, impl_BitsList.k)]
theorem impl_Wave_read.gok (δ : Type) : AllCon Tryz.prog tab (impl_Wave_read.gs δ) := .cons impl_within.con (.cons impl_BitsOk.con (.cons impl_count.con (.cons impl_BitsList.con .nil)))
noncomputable def impl_Wave_read.c := cx impl_Wave_read.s [3, 15] [(3, [1]), (5, [1, 4, 5, 40, 41]), (10, [1, 4, 5, 50, 51, 52]), (15, [1, 4, 5, 7, 9, 50, 51, 52]), (17, [1, 4, 5, 9, 10, 11, 12, 50, 51, 52, 87, 88, 89]), (24, [1, 4, 5, 9, 10, 50, 51, 52, 109, 110, 111])] false (impl_Wave_read.gs _)
noncomputable def impl_Wave_read (x0 : Int × (List Int) × (List (Int × (List Int)))) : Option ((List Int) × Bool) := fnW impl_Wave_read.s impl_Wave_read.c x0
theorem impl_Wave_read.fok : FkS impl_Wave_read.s 120 := ⟨Tryz.func120, by kernel_rfl, by kernel_rfl⟩
noncomputable def impl_Wave_read.fn (x : Args tab impl_Wave_read.s.ar) : Option (ResT tab impl_Wave_read.s.rs) := impl_Wave_read x
noncomputable abbrev impl_Wave_read.k {δ : Type} : Callee (GT tab) δ := kS impl_Wave_read.s impl_Wave_read.fn
theorem impl_Wave_read.con {δ : Type} : Con Tryz.prog (KT tab) 120 (impl_Wave_read.k (δ := δ)) := con_shape (c := impl_Wave_read.c) mixed tysOk (getG_con (impl_Wave_read.gok _)) impl_Wave_read.fok rfl rfl fun _ => rfl
noncomputable def impl_Wave_read_l0 (v0 : Int) (v1 : List Int) (v2 : List (Int × (List Int))) : Option ((List Int) × Bool) := lpW impl_Wave_read.s impl_Wave_read.c 0 (ud 137 [.undef, .ptr 0 0]) [.box 27 [.int .i64 v0, .vs false 3 v1, .vs false 30 v2]] 1
noncomputable def impl_Wave_read_l1 (v0 v1 v2 : Int) (v3 : List Int) (v4 : List (Int × (List Int))) (v5 v6 : List Int) : Option ((List Int) × Bool) := lpW impl_Wave_read.s impl_Wave_read.c 1 (ud 97 [.undef, .ptr 0 0, .undef, .undef, .sl 1 0, .sl 2 0, .undef, .undef, .undef, .undef, .undef, .undef, .undef, .undef, .undef, .undef, .undef, .undef, .undef, .undef, .undef, .undef, .undef, .undef, .undef, .undef, .undef, .undef, .undef, .undef, .undef, .undef, .undef, .undef, .undef, .undef, .undef, .undef, .undef, .undef, .int .i64 v0, .int .i64 v1]) [.box 27 [.int .i64 v2, .vs false 3 v3, .vs false 30 v4], .row 0 true 3 v5, .row 0 true 3 v6] 3
noncomputable def impl_Wave_read_l2 (v0 : List (Int × (List Int))) (v1 v2 v3 : Int) (v4 : List Int) (v5 : List (Int × (List Int))) (v6 v7 : List Int) : Option ((List Int) × Bool) := lpW impl_Wave_read.s impl_Wave_read.c 2 (ud 86 [.undef, .ptr 0 0, .undef, .undef, .sl 1 0, .sl 2 0, .undef, .undef, .undef, .undef, .undef, .undef, .undef, .undef, .undef, .undef, .undef, .undef, .undef, .undef, .undef, .undef, .undef, .undef, .undef, .undef, .undef, .undef, .undef, .undef, .undef, .undef, .undef, .undef, .undef, .undef, .undef, .undef, .undef, .undef, .undef, .undef, .undef, .undef, .undef, .undef, .undef, .undef, .undef, .undef, .vs false 30 v0, .int .i64 v1, .int .i64 v2]) [.box 27 [.int .i64 v3, .vs false 3 v4, .vs false 30 v5], .row 0 true 3 v6, .row 0 true 3 v7] 3
noncomputable def impl_Wave_read_l3 (v0 : Int) (v1 : List (Int × (List Int))) (v2 v3 v4 : Int) (v5 : List Int) (v6 : List (Int × (List Int))) (v7 v8 v9 : List Int) : Option ((List Int) × Bool) := lpW impl_Wave_read.s impl_Wave_read.c 3 (ud 86 [.undef, .ptr 0 0, .undef, .undef, .sl 1 0, .sl 2 0, .undef, .int .i64 v0, .undef, .sl 3 0, .undef, .undef, .undef, .undef, .undef, .undef, .undef, .undef, .undef, .undef, .undef, .undef, .undef, .undef, .undef, .undef, .undef, .undef, .undef, .undef, .undef, .undef, .undef, .undef, .undef, .undef, .undef, .undef, .undef, .undef, .undef, .undef, .undef, .undef, .undef, .undef, .undef, .undef, .undef, .undef, .vs false 30 v1, .int .i64 v2, .int .i64 v3]) [.box 27 [.int .i64 v4, .vs false 3 v5, .vs false 30 v6], .row 0 true 3 v7, .row 0 true 3 v8, .row 0 true 3 v9] 4
noncomputable def impl_Wave_read_l4 (v0 v1 : Int) (v2 : List (Int × (List Int))) (v3 v4 v5 v6 v7 : Int) (v8 : List Int) (v9 : List (Int × (List Int))) (v10 v11 v12 v13 : List Int) : Option ((List Int) × Bool) := lpW impl_Wave_read.s impl_Wave_read.c 4 (ud 49 [.undef, .ptr 0 0, .undef, .undef, .sl 1 0, .sl 2 0, .undef, .undef, .undef, .sl 3 0, .sl 4 0, .int .i64 v0, .int .i64 v1, .undef, .undef, .undef, .undef, .undef, .undef, .undef, .undef, .undef, .undef, .undef, .undef, .undef, .undef, .undef, .undef, .undef, .undef, .undef, .undef, .undef, .undef, .undef, .undef, .undef, .undef, .undef, .undef, .undef, .undef, .undef, .undef, .undef, .undef, .undef, .undef, .undef, .vs false 30 v2, .int .i64 v3, .int .i64 v4, .undef, .undef, .undef, .undef, .undef, .undef, .undef, .undef, .undef, .undef, .undef, .undef, .undef, .undef, .undef, .undef, .undef, .undef, .undef, .undef, .undef, .undef, .undef, .undef, .undef, .undef, .undef, .undef, .undef, .undef, .undef, .undef, .undef, .undef, .sl 3 0, .int .i64 v5, .int .i64 v6]) [.box 27 [.int .i64 v7, .vs false 3 v8, .vs false 30 v9], .row 0 true 3 v10, .row 0 true 3 v11, .row 0 true 3 v12, .row 0 true 3 v13] 5
noncomputable def impl_Wave_read_l5 (v0 : List (Int × (List Int))) (v1 v2 v3 v4 v5 : Int) (v6 : List Int) (v7 : List (Int × (List Int))) (v8 v9 v10 v11 : List Int) : Option ((List Int) × Bool) := lpW impl_Wave_read.s impl_Wave_read.c 5 (ud 27 [.undef, .ptr 0 0, .undef, .undef, .sl 1 0, .sl 2 0, .undef, .undef, .undef, .sl 3 0, .sl 4 0, .undef, .undef, .undef, .undef, .undef, .undef, .undef, .undef, .undef, .undef, .undef, .undef, .undef, .undef, .undef, .undef, .undef, .undef, .undef, .undef, .undef, .undef, .undef, .undef, .undef, .undef, .undef, .undef, .undef, .undef, .undef, .undef, .undef, .undef, .undef, .undef, .undef, .undef, .undef, .vs false 30 v0, .int .i64 v1, .int .i64 v2, .undef, .undef, .undef, .undef, .undef, .undef, .undef, .undef, .undef, .undef, .undef, .undef, .undef, .undef, .undef, .undef, .undef, .undef, .undef, .undef, .undef, .undef, .undef, .undef, .undef, .undef, .undef, .undef, .undef, .undef, .undef, .undef, .undef, .undef, .undef, .undef, .undef, .undef, .undef, .undef, .undef, .undef, .undef, .undef, .undef, .undef, .undef, .undef, .undef, .undef, .undef, .undef, .undef, .undef, .undef, .undef, .sl 2 0, .int .i64 v3, .int .i64 v4]) [.box 27 [.int .i64 v5, .vs false 3 v6, .vs false 30 v7], .row 0 true 3 v8, .row 0 true 3 v9, .row 0 true 3 v10, .row 0 true 3 v11] 5
theorem impl_Wave_read.eq (x0 : Int × (List Int) × (List (Int × (List Int)))) : impl_Wave_read x0 =
    (impl_within x0.1 (0 : Int) (1000 : Int)).bind fun y1 =>
    bif !y1 then
      some (([] : List Int), false)
    else
      bif (x0.2.1.length : Int) != (9 : Int) then
        some (([] : List Int), false)
      else
        bif (x0.2.2.length : Int) != (9 : Int) then
          some (([] : List Int), false)
        else
          impl_Wave_read_l0 x0.1 x0.2.1 x0.2.2 := by kernel_rfl
theorem impl_Wave_read_l0.eq (v0 : Int) (v1 : List Int) (v2 : List (Int × (List Int))) : impl_Wave_read_l0 v0 v1 v2 =
    bif decide ((0 : Int) ≤ v0) && decide (v0.toNat * 8 ≤ 140737488355328) then
      bif decide ((0 : Int) ≤ v0) && decide (v0.toNat * 8 ≤ 140737488355328) then
        impl_Wave_read_l1 ((List.replicate v0.toNat (0 : Int)).length : Int) (0 : Int) v0 v1 v2 (List.replicate v0.toNat (0 : Int)) (List.replicate v0.toNat (0 : Int))
      else
        none
    else
      none := (Lw_eq tysOk (getG_con (impl_Wave_read.gok _)) _ _).trans (by kernel_rfl)
theorem impl_Wave_read_l1.eq (v0 v1 v2 : Int) (v3 : List Int) (v4 : List (Int × (List Int))) (v5 v6 : List Int) : impl_Wave_read_l1 v0 v1 v2 v3 v4 v5 v6 =
    bif decide (v1 < v0) then
      (at? v6 v1).bind fun y1 =>
      v6[v1.toNat]?.bind fun y2 =>
      impl_Wave_read_l1 v0 (IntKind.i64.wrap (v1 + (1 : Int))) v2 v3 v4 v5 (v6.set v1.toNat v1)
    else
      impl_Wave_read_l2 v4 (v4.length : Int) (0 : Int) v2 v3 v4 v5 v6 := (Lw_eq tysOk (getG_con (impl_Wave_read.gok _)) _ _).trans (by kernel_rfl)
theorem impl_Wave_read_l2.eq (v0 : List (Int × (List Int))) (v1 v2 v3 : Int) (v4 : List Int) (v5 : List (Int × (List Int))) (v6 v7 : List Int) : impl_Wave_read_l2 v0 v1 v2 v3 v4 v5 v6 v7 =
    bif decide (v2 < v1) then
      (at? v0 v2).bind fun y1 =>
      (impl_BitsList y1).bind fun y2 =>
      (impl_BitsOk y1).bind fun y3 =>
      bif !y3 then
        some (([] : List Int), false)
      else
        bif y1.1 != v3 then
          some (([] : List Int), false)
        else
          (impl_count y2 (0 : Int)).bind fun y4 =>
          (at? v4 v2).bind fun y5 =>
          bif y4 != y5 then
            some (([] : List Int), false)
          else
            impl_Wave_read_l3 v2 v0 v1 v2 v3 v4 v5 v6 v7 y2
    else
      some (v6, true) := (Lw_eq tysOk (getG_con (impl_Wave_read.gok _)) _ _).trans (by kernel_rfl)
theorem impl_Wave_read_l3.eq (v0 : Int) (v1 : List (Int × (List Int))) (v2 v3 v4 : Int) (v5 : List Int) (v6 : List (Int × (List Int))) (v7 v8 v9 : List Int) : impl_Wave_read_l3 v0 v1 v2 v3 v4 v5 v6 v7 v8 v9 =
    bif decide ((0 : Int) ≤ v4) && decide (v4.toNat * 8 ≤ 140737488355328) then
      (at? v5 v0).bind fun y1 =>
      impl_Wave_read_l4 (0 : Int) y1 v1 v2 v3 (v9.length : Int) (0 : Int) v4 v5 v6 v7 v8 v9 (List.replicate v4.toNat (0 : Int))
    else
      none := (Lw_eq tysOk (getG_con (impl_Wave_read.gok _)) _ _).trans (by kernel_rfl)
theorem impl_Wave_read_l4.eq (v0 v1 : Int) (v2 : List (Int × (List Int))) (v3 v4 v5 v6 v7 : Int) (v8 : List Int) (v9 : List (Int × (List Int))) (v10 v11 v12 v13 : List Int) : impl_Wave_read_l4 v0 v1 v2 v3 v4 v5 v6 v7 v8 v9 v10 v11 v12 v13 =
    bif decide (v6 < v5) then
      (at? v12 v6).bind fun y1 =>
      v12[v6.toNat]?.bind fun y2 =>
      bif y2 == (0 : Int) then
        (at? v13 v6).bind fun y3 =>
        v13[v6.toNat]?.bind fun y4 =>
        impl_Wave_read_l4 (IntKind.i64.wrap (v0 + (1 : Int))) v1 v2 v3 v4 v5 (IntKind.i64.wrap (v6 + (1 : Int))) v7 v8 v9 v10 v11 v12 (v13.set v6.toNat v0)
      else
        (at? v13 v6).bind fun y5 =>
        v13[v6.toNat]?.bind fun y6 =>
        impl_Wave_read_l4 v0 (IntKind.i64.wrap (v1 + (1 : Int))) v2 v3 v4 v5 (IntKind.i64.wrap (v6 + (1 : Int))) v7 v8 v9 v10 v11 v12 (v13.set v6.toNat v1)
    else
      impl_Wave_read_l5 v2 v3 v4 (v11.length : Int) (0 : Int) v7 v8 v9 v10 v11 v12 v13 := (Lw_eq tysOk (getG_con (impl_Wave_read.gok _)) _ _).trans (by kernel_rfl)
theorem impl_Wave_read_l5.eq (v0 : List (Int × (List Int))) (v1 v2 v3 v4 v5 : Int) (v6 : List Int) (v7 : List (Int × (List Int))) (v8 v9 v10 v11 : List Int) : impl_Wave_read_l5 v0 v1 v2 v3 v4 v5 v6 v7 v8 v9 v10 v11 =
    bif decide (v4 < v3) then
      (at? v9 v4).bind fun y1 =>
      v9[v4.toNat]?.bind fun y2 =>
      (at? v8 v4).bind fun y3 =>
      v8[v4.toNat]?.bind fun y4 =>
      (at? v10 y2).bind fun y5 =>
      v10[y2.toNat]?.bind fun y6 =>
      (at? v8 v4).bind fun y7 =>
      v8[v4.toNat]?.bind fun y8 =>
      (at? v11 y2).bind fun y9 =>
      v11[y2.toNat]?.bind fun y10 =>
      (at? v9 v4).bind fun y11 =>
      v9[v4.toNat]?.bind fun y12 =>
      impl_Wave_read_l5 v0 v1 v2 v3 (IntKind.i64.wrap (v4 + (1 : Int))) v5 v6 v7 (v8.set v4.toNat (IntKind.i64.wrap (((BitVec.ofInt 64 (IntKind.i64.wrap (y4 * 2 ^ 1))) ||| (BitVec.ofInt 64 y6)).toNat : Int))) (v9.set v4.toNat y10) v10 v11
    else
      impl_Wave_read_l2 v0 v1 (IntKind.i64.wrap (v2 + (1 : Int))) v5 v6 v7 v8 v9 := (Lw_eq tysOk (getG_con (impl_Wave_read.gok _)) _ _).trans (by kernel_rfl)

noncomputable abbrev impl_isRate.s : Sg := ⟨[.lend], [vi], ⟨[vb], [none]⟩, Tryz.f101⟩
noncomputable def impl_isRate.gs (δ : Type) : List (Nat × Callee (GT tab) δ) := [(63, impl_within.k)]
theorem impl_isRate.gok (δ : Type) : AllCon Tryz.prog tab (impl_isRate.gs δ) := .cons impl_within.con .nil
noncomputable def impl_isRate.c := cx impl_isRate.s [] [] false (impl_isRate.gs _)
noncomputable def impl_isRate (x0 : Int) : Option (Bool) := fnW impl_isRate.s impl_isRate.c x0
theorem impl_isRate.fok : FkS impl_isRate.s 101 := ⟨Tryz.func101, by kernel_rfl, by kernel_rfl⟩
noncomputable def impl_isRate.fn (x : Args tab impl_isRate.s.ar) : Option (ResT tab impl_isRate.s.rs) := impl_isRate x
noncomputable abbrev impl_isRate.k {δ : Type} : Callee (GT tab) δ := kS impl_isRate.s impl_isRate.fn
theorem impl_isRate.con {δ : Type} : Con Tryz.prog (KT tab) 101 (impl_isRate.k (δ := δ)) := con_shape (c := impl_isRate.c) mixed tysOk (getG_con (impl_isRate.gok _)) impl_isRate.fok rfl rfl fun _ => rfl
theorem impl_isRate.eq (x0 : Int) : impl_isRate x0 =
    (impl_within x0 (1 : Int) (64 : Int)).bind fun y1 =>
    some y1 := by kernel_rfl

noncomputable abbrev impl_SymsOk_1.s : Sg := ⟨[.lend], [vi], ⟨[vb], [none]⟩, Tryz.f189⟩
noncomputable def impl_SymsOk_1.gs (δ : Type) : List (Nat × Callee (GT tab) δ) := [(63, impl_within.k)]
theorem impl_SymsOk_1.gok (δ : Type) : AllCon Tryz.prog tab (impl_SymsOk_1.gs δ) := .cons impl_within.con .nil
noncomputable def impl_SymsOk_1.c := cx impl_SymsOk_1.s [] [] false (impl_SymsOk_1.gs _)
noncomputable def impl_SymsOk_1 (x0 : Int) : Option (Bool) := fnW impl_SymsOk_1.s impl_SymsOk_1.c x0
theorem impl_SymsOk_1.fok : FkS impl_SymsOk_1.s 189 := ⟨Tryz.func189, by kernel_rfl, by kernel_rfl⟩
noncomputable def impl_SymsOk_1.fn (x : Args tab impl_SymsOk_1.s.ar) : Option (ResT tab impl_SymsOk_1.s.rs) := impl_SymsOk_1 x
noncomputable abbrev impl_SymsOk_1.k {δ : Type} : Callee (GT tab) δ := kS impl_SymsOk_1.s impl_SymsOk_1.fn
theorem impl_SymsOk_1.con {δ : Type} : Con Tryz.prog (KT tab) 189 (impl_SymsOk_1.k (δ := δ)) := con_shape (c := impl_SymsOk_1.c) mixed tysOk (getG_con (impl_SymsOk_1.gok _)) impl_SymsOk_1.fok rfl rfl fun _ => rfl
theorem impl_SymsOk_1.eq (x0 : Int) : impl_SymsOk_1 x0 =
    (impl_within x0 (0 : Int) (256 : Int)).bind fun y1 =>
    some y1 := by kernel_rfl

noncomputable abbrev impl_areAll_int_1_SymsOk_1.s : Sg := ⟨[.lend, .lend], [vi, .one (.ptr false 0 [.fn 189 []])], ⟨[vb], [none, none]⟩, Tryz.f213⟩
noncomputable def impl_areAll_int_1_SymsOk_1.gs (δ : Type) : List (Nat × Callee (GT tab) δ) := [(189, impl_SymsOk_1.k)]
theorem impl_areAll_int_1_SymsOk_1.gok (δ : Type) : AllCon Tryz.prog tab (impl_areAll_int_1_SymsOk_1.gs δ) := .cons impl_SymsOk_1.con .nil
noncomputable def impl_areAll_int_1_SymsOk_1.c := cx impl_areAll_int_1_SymsOk_1.s [] [] false (impl_areAll_int_1_SymsOk_1.gs _)
noncomputable def impl_areAll_int_1_SymsOk_1 (x0 : Int) (x1 : Unit) : Option (Bool) := fnW impl_areAll_int_1_SymsOk_1.s impl_areAll_int_1_SymsOk_1.c (x0, x1)
theorem impl_areAll_int_1_SymsOk_1.fok : FkS impl_areAll_int_1_SymsOk_1.s 213 := ⟨Tryz.func213, by kernel_rfl, by kernel_rfl⟩
noncomputable def impl_areAll_int_1_SymsOk_1.fn (x : Args tab impl_areAll_int_1_SymsOk_1.s.ar) : Option (ResT tab impl_areAll_int_1_SymsOk_1.s.rs) := impl_areAll_int_1_SymsOk_1 x.1 x.2
noncomputable abbrev impl_areAll_int_1_SymsOk_1.k {δ : Type} : Callee (GT tab) δ := kS impl_areAll_int_1_SymsOk_1.s impl_areAll_int_1_SymsOk_1.fn
theorem impl_areAll_int_1_SymsOk_1.con {δ : Type} : Con Tryz.prog (KT tab) 213 (impl_areAll_int_1_SymsOk_1.k (δ := δ)) := con_shape (c := impl_areAll_int_1_SymsOk_1.c) mixed tysOk (getG_con (impl_areAll_int_1_SymsOk_1.gok _)) impl_areAll_int_1_SymsOk_1.fok rfl rfl fun _ => rfl
theorem impl_areAll_int_1_SymsOk_1.eq (x0 : Int) (x1 : Unit) : impl_areAll_int_1_SymsOk_1 x0 x1 =
    (impl_SymsOk_1 x0).bind fun y1 =>
    some (!y1) := by kernel_rfl

noncomputable abbrev slices_IndexFunc_int_int_areAll_int_1_SymsOk_1.s : Sg := ⟨[.lend, .lend], [vl 3, .one (.fn 213 [.ptr false 0 [.fn 189 []]])], ⟨[vi], [none, none]⟩, Tryz.f221⟩
noncomputable def slices_IndexFunc_int_int_areAll_int_1_SymsOk_1.gs (δ : Type) : List (Nat × Callee (GT tab) δ) := [(213, impl_areAll_int_1_SymsOk_1.k)]
theorem slices_IndexFunc_int_int_areAll_int_1_SymsOk_1.gok (δ : Type) : AllCon Tryz.prog tab (slices_IndexFunc_int_int_areAll_int_1_SymsOk_1.gs δ) := .cons impl_areAll_int_1_SymsOk_1.con .nil
noncomputable def slices_IndexFunc_int_int_areAll_int_1_SymsOk_1.c := cx slices_IndexFunc_int_int_areAll_int_1_SymsOk_1.s [] [(2, [0, 1, 7, 8])] false (slices_IndexFunc_int_int_areAll_int_1_SymsOk_1.gs _)
noncomputable def slices_IndexFunc_int_int_areAll_int_1_SymsOk_1 (x0 : List Int) (x1 : Unit) : Option (Int) := fnW slices_IndexFunc_int_int_areAll_int_1_SymsOk_1.s slices_IndexFunc_int_int_areAll_int_1_SymsOk_1.c (x0, x1)
theorem slices_IndexFunc_int_int_areAll_int_1_SymsOk_1.fok : FkS slices_IndexFunc_int_int_areAll_int_1_SymsOk_1.s 221 := ⟨Tryz.func221, by kernel_rfl, by kernel_rfl⟩
noncomputable def slices_IndexFunc_int_int_areAll_int_1_SymsOk_1.fn (x : Args tab slices_IndexFunc_int_int_areAll_int_1_SymsOk_1.s.ar) : Option (ResT tab slices_IndexFunc_int_int_areAll_int_1_SymsOk_1.s.rs) := slices_IndexFunc_int_int_areAll_int_1_SymsOk_1 x.1 x.2
noncomputable abbrev slices_IndexFunc_int_int_areAll_int_1_SymsOk_1.k {δ : Type} : Callee (GT tab) δ := kS slices_IndexFunc_int_int_areAll_int_1_SymsOk_1.s slices_IndexFunc_int_int_areAll_int_1_SymsOk_1.fn
theorem slices_IndexFunc_int_int_areAll_int_1_SymsOk_1.con {δ : Type} : Con Tryz.prog (KT tab) 221 (slices_IndexFunc_int_int_areAll_int_1_SymsOk_1.k (δ := δ)) := con_shape (c := slices_IndexFunc_int_int_areAll_int_1_SymsOk_1.c) mixed tysOk (getG_con (slices_IndexFunc_int_int_areAll_int_1_SymsOk_1.gok _)) slices_IndexFunc_int_int_areAll_int_1_SymsOk_1.fok rfl rfl fun _ => rfl
noncomputable def slices_IndexFunc_int_int_areAll_int_1_SymsOk_1_l0 (v0 : List Int) (v1 v2 : Int) : Option (Int) := lpW slices_IndexFunc_int_int_areAll_int_1_SymsOk_1.s slices_IndexFunc_int_int_areAll_int_1_SymsOk_1.c 0 (ud 10 [.vs false 3 v0, .fn 213 [.vp [.fn 189 []]], .undef, .undef, .undef, .undef, .undef, .int .i64 v1, .int .i64 v2]) [] 0
theorem slices_IndexFunc_int_int_areAll_int_1_SymsOk_1.eq (x0 : List Int) (x1 : Unit) : slices_IndexFunc_int_int_areAll_int_1_SymsOk_1 x0 x1 =
    slices_IndexFunc_int_int_areAll_int_1_SymsOk_1_l0 x0 (x0.length : Int) (0 : Int) := by kernel_rfl
theorem slices_IndexFunc_int_int_areAll_int_1_SymsOk_1_l0.eq (v0 : List Int) (v1 v2 : Int) : slices_IndexFunc_int_int_areAll_int_1_SymsOk_1_l0 v0 v1 v2 =
    bif decide (v2 < v1) then
      (at? v0 v2).bind fun y1 =>
      (impl_areAll_int_1_SymsOk_1 y1 ()).bind fun y2 =>
      bif y2 then
        some v2
      else
        slices_IndexFunc_int_int_areAll_int_1_SymsOk_1_l0 v0 v1 (IntKind.i64.wrap (v2 + (1 : Int)))
    else
      some (-1 : Int) := (Lw_eq tysOk (getG_con (slices_IndexFunc_int_int_areAll_int_1_SymsOk_1.gok _)) _ _).trans (by kernel_rfl)

noncomputable abbrev slices_ContainsFunc_int_int_areAll_int_1_SymsOk_1.s : Sg := ⟨[.lend, .lend], [vl 3, .one (.fn 213 [.ptr false 86 [.fn 189 []]])], ⟨[vb], [none, none]⟩, Tryz.f212⟩
noncomputable def slices_ContainsFunc_int_int_areAll_int_1_SymsOk_1.gs (δ : Type) : List (Nat × Callee (GT tab) δ) := [(221, slices_IndexFunc_int_int_areAll_int_1_SymsOk_1.k)]
theorem slices_ContainsFunc_int_int_areAll_int_1_SymsOk_1.gok (δ : Type) : AllCon Tryz.prog tab (slices_ContainsFunc_int_int_areAll_int_1_SymsOk_1.gs δ) := .cons slices_IndexFunc_int_int_areAll_int_1_SymsOk_1.con .nil
noncomputable def slices_ContainsFunc_int_int_areAll_int_1_SymsOk_1.c := cx slices_ContainsFunc_int_int_areAll_int_1_SymsOk_1.s [] [] false (slices_ContainsFunc_int_int_areAll_int_1_SymsOk_1.gs _)
noncomputable def slices_ContainsFunc_int_int_areAll_int_1_SymsOk_1 (x0 : List Int) (x1 : Unit) : Option (Bool) := fnW slices_ContainsFunc_int_int_areAll_int_1_SymsOk_1.s slices_ContainsFunc_int_int_areAll_int_1_SymsOk_1.c (x0, x1)
theorem slices_ContainsFunc_int_int_areAll_int_1_SymsOk_1.fok : FkS slices_ContainsFunc_int_int_areAll_int_1_SymsOk_1.s 212 := ⟨Tryz.func212, by kernel_rfl, by kernel_rfl⟩
noncomputable def slices_ContainsFunc_int_int_areAll_int_1_SymsOk_1.fn (x : Args tab slices_ContainsFunc_int_int_areAll_int_1_SymsOk_1.s.ar) : Option (ResT tab slices_ContainsFunc_int_int_areAll_int_1_SymsOk_1.s.rs) := slices_ContainsFunc_int_int_areAll_int_1_SymsOk_1 x.1 x.2
noncomputable abbrev slices_ContainsFunc_int_int_areAll_int_1_SymsOk_1.k {δ : Type} : Callee (GT tab) δ := kS slices_ContainsFunc_int_int_areAll_int_1_SymsOk_1.s slices_ContainsFunc_int_int_areAll_int_1_SymsOk_1.fn
theorem slices_ContainsFunc_int_int_areAll_int_1_SymsOk_1.con {δ : Type} : Con Tryz.prog (KT tab) 212 (slices_ContainsFunc_int_int_areAll_int_1_SymsOk_1.k (δ := δ)) := con_shape (c := slices_ContainsFunc_int_int_areAll_int_1_SymsOk_1.c) mixed tysOk (getG_con (slices_ContainsFunc_int_int_areAll_int_1_SymsOk_1.gok _)) slices_ContainsFunc_int_int_areAll_int_1_SymsOk_1.fok rfl rfl fun _ => rfl
theorem slices_ContainsFunc_int_int_areAll_int_1_SymsOk_1.eq (x0 : List Int) (x1 : Unit) : slices_ContainsFunc_int_int_areAll_int_1_SymsOk_1 x0 x1 =
    (slices_IndexFunc_int_int_areAll_int_1_SymsOk_1 x0 ()).bind fun y1 =>
    some (decide (y1 ≥ (0 : Int))) := by kernel_rfl

noncomputable abbrev impl_areAll_int_SymsOk_1.s : Sg := ⟨[.lend, .lend], [vl 3, .one (.fn 189 [])], ⟨[vb], [none, none]⟩, Tryz.f188⟩
noncomputable def impl_areAll_int_SymsOk_1.gs (δ : Type) : List (Nat × Callee (GT tab) δ) := [(212, slices_ContainsFunc_int_int_areAll_int_1_SymsOk_1.k)]
theorem impl_areAll_int_SymsOk_1.gok (δ : Type) : AllCon Tryz.prog tab (impl_areAll_int_SymsOk_1.gs δ) := .cons slices_ContainsFunc_int_int_areAll_int_1_SymsOk_1.con .nil
noncomputable def impl_areAll_int_SymsOk_1.c := cx impl_areAll_int_SymsOk_1.s [] [] false (impl_areAll_int_SymsOk_1.gs _)
noncomputable def impl_areAll_int_SymsOk_1 (x0 : List Int) (x1 : Unit) : Option (Bool) := fnW impl_areAll_int_SymsOk_1.s impl_areAll_int_SymsOk_1.c (x0, x1)
theorem impl_areAll_int_SymsOk_1.fok : FkS impl_areAll_int_SymsOk_1.s 188 := ⟨Tryz.func188, by kernel_rfl, by kernel_rfl⟩
noncomputable def impl_areAll_int_SymsOk_1.fn (x : Args tab impl_areAll_int_SymsOk_1.s.ar) : Option (ResT tab impl_areAll_int_SymsOk_1.s.rs) := impl_areAll_int_SymsOk_1 x.1 x.2
noncomputable abbrev impl_areAll_int_SymsOk_1.k {δ : Type} : Callee (GT tab) δ := kS impl_areAll_int_SymsOk_1.s impl_areAll_int_SymsOk_1.fn
theorem impl_areAll_int_SymsOk_1.con {δ : Type} : Con Tryz.prog (KT tab) 188 (impl_areAll_int_SymsOk_1.k (δ := δ)) := con_shape (c := impl_areAll_int_SymsOk_1.c) mixed tysOk (getG_con (impl_areAll_int_SymsOk_1.gok _)) impl_areAll_int_SymsOk_1.fok rfl rfl fun _ => rfl
theorem impl_areAll_int_SymsOk_1.eq (x0 : List Int) (x1 : Unit) : impl_areAll_int_SymsOk_1 x0 x1 =
    (slices_ContainsFunc_int_int_areAll_int_1_SymsOk_1 x0 ()).bind fun y1 =>
    some (!y1) := by kernel_rfl

noncomputable abbrev impl_SymsOk.s : Sg := ⟨[.lend], [vl 3], ⟨[vb], [none]⟩, Tryz.f155⟩
noncomputable def impl_SymsOk.gs (δ : Type) : List (Nat × Callee (GT tab) δ) := [(188, impl_areAll_int_SymsOk_1.k)]
theorem impl_SymsOk.gok (δ : Type) : AllCon Tryz.prog tab (impl_SymsOk.gs δ) := .cons impl_areAll_int_SymsOk_1.con .nil
noncomputable def impl_SymsOk.c := cx impl_SymsOk.s [] [] false (impl_SymsOk.gs _)
noncomputable def impl_SymsOk (x0 : List Int) : Option (Bool) := fnW impl_SymsOk.s impl_SymsOk.c x0
theorem impl_SymsOk.fok : FkS impl_SymsOk.s 155 := ⟨Tryz.func155, by kernel_rfl, by kernel_rfl⟩
noncomputable def impl_SymsOk.fn (x : Args tab impl_SymsOk.s.ar) : Option (ResT tab impl_SymsOk.s.rs) := impl_SymsOk x
noncomputable abbrev impl_SymsOk.k {δ : Type} : Callee (GT tab) δ := kS impl_SymsOk.s impl_SymsOk.fn
theorem impl_SymsOk.con {δ : Type} : Con Tryz.prog (KT tab) 155 (impl_SymsOk.k (δ := δ)) := con_shape (c := impl_SymsOk.c) mixed tysOk (getG_con (impl_SymsOk.gok _)) impl_SymsOk.fok rfl rfl fun _ => rfl
theorem impl_SymsOk.eq (x0 : List Int) : impl_SymsOk x0 =
    bif decide ((x0.length : Int) ≤ (301 : Int)) then
      (impl_areAll_int_SymsOk_1 x0 ()).bind fun y1 =>
      some y1
    else
      some false := by kernel_rfl

noncomputable abbrev impl_counts.s : Sg := ⟨[.lend], [vl 3], ⟨[vo 3], [none]⟩, Tryz.f134⟩
noncomputable def impl_counts.gs (δ : Type) : List (Nat × Callee (GT tab) δ) := []
theorem impl_counts.gok (δ : Type) : AllCon Tryz.prog tab (impl_counts.gs δ) := .nil
noncomputable def impl_counts.c := cx impl_counts.s [] [(3, [3, 8, 9, 10]), (8, [3, 6])] false (impl_counts.gs _)
noncomputable def impl_counts (x0 : List Int) : Option (List Int) := fnW impl_counts.s impl_counts.c x0
theorem impl_counts.fok : FkS impl_counts.s 134 := ⟨Tryz.func134, by kernel_rfl, by kernel_rfl⟩
noncomputable def impl_counts.fn (x : Args tab impl_counts.s.ar) : Option (ResT tab impl_counts.s.rs) := impl_counts x
noncomputable abbrev impl_counts.k {δ : Type} : Callee (GT tab) δ := kS impl_counts.s impl_counts.fn
theorem impl_counts.con {δ : Type} : Con Tryz.prog (KT tab) 134 (impl_counts.k (δ := δ)) := con_shape (c := impl_counts.c) mixed tysOk (getG_con (impl_counts.gok _)) impl_counts.fok rfl rfl fun _ => rfl
noncomputable def impl_counts_l0 (v0 : List Int) (v1 v2 : Int) (v3 : List Int) : Option (List Int) := lpW impl_counts.s impl_counts.c 0 (ud 27 [.undef, .undef, .undef, .sl 0 0, .undef, .undef, .undef, .undef, .vs false 3 v0, .int .i64 v1, .int .i64 v2]) [.row 0 true 3 v3] 1
noncomputable def impl_counts_l1 (v0 : Int) (v1 : List Int) : Option (List Int) := lpW impl_counts.s impl_counts.c 1 (ud 31 [.undef, .undef, .undef, .sl 0 0, .undef, .undef, .int .i64 v0]) [.row 0 true 3 v1] 1
theorem impl_counts.eq (x0 : List Int) : impl_counts x0 =
    impl_counts_l0 x0 (x0.length : Int) (0 : Int) (List.replicate 258 (0 : Int)) := by kernel_rfl
theorem impl_counts_l0.eq (v0 : List Int) (v1 v2 : Int) (v3 : List Int) : impl_counts_l0 v0 v1 v2 v3 =
    bif decide (v2 < v1) then
      (at? v0 v2).bind fun y1 =>
      (at? v3 (IntKind.i64.wrap (y1 + (1 : Int)))).bind fun y2 =>
      v3[(IntKind.i64.wrap (y1 + (1 : Int))).toNat]?.bind fun y3 =>
      (at? v3 (IntKind.i64.wrap (y1 + (1 : Int)))).bind fun y4 =>
      v3[(IntKind.i64.wrap (y1 + (1 : Int))).toNat]?.bind fun y5 =>
      impl_counts_l0 v0 v1 (IntKind.i64.wrap (v2 + (1 : Int))) (v3.set ((IntKind.i64.wrap (y1 + (1 : Int))).toNat) (IntKind.i64.wrap (y3 + (1 : Int))))
    else
      impl_counts_l1 (1 : Int) v3 := (Lw_eq tysOk (getG_con (impl_counts.gok _)) _ _).trans (by kernel_rfl)
theorem impl_counts_l1.eq (v0 : Int) (v1 : List Int) : impl_counts_l1 v0 v1 =
    bif decide (v0 < (258 : Int)) then
      (at? v1 v0).bind fun y1 =>
      v1[v0.toNat]?.bind fun y2 =>
      (at? v1 (IntKind.i64.wrap (v0 - (1 : Int)))).bind fun y3 =>
      v1[(IntKind.i64.wrap (v0 - (1 : Int))).toNat]?.bind fun y4 =>
      (at? v1 v0).bind fun y5 =>
      v1[v0.toNat]?.bind fun y6 =>
      impl_counts_l1 (IntKind.i64.wrap (v0 + (1 : Int))) (v1.set v0.toNat (IntKind.i64.wrap (y2 + y4)))
    else
      some v1 := (Lw_eq tysOk (getG_con (impl_counts.gok _)) _ _).trans (by kernel_rfl)

noncomputable abbrev impl_lfOf.s : Sg := ⟨[.lend], [vl 3], ⟨[vo 3], [none]⟩, Tryz.f68⟩
noncomputable def impl_lfOf.gs (δ : Type) : List (Nat × Callee (GT tab) δ) := [(134, impl_counts.k)]
theorem impl_lfOf.gok (δ : Type) : AllCon Tryz.prog tab (impl_lfOf.gs δ) := .cons impl_counts.con .nil
noncomputable def impl_lfOf.c := cx impl_lfOf.s [] [(4, [3, 4, 9, 10, 11])] false (impl_lfOf.gs _)
noncomputable def impl_lfOf (x0 : List Int) : Option (List Int) := fnW impl_lfOf.s impl_lfOf.c x0
theorem impl_lfOf.fok : FkS impl_lfOf.s 68 := ⟨Tryz.func68, by kernel_rfl, by kernel_rfl⟩
noncomputable def impl_lfOf.fn (x : Args tab impl_lfOf.s.ar) : Option (ResT tab impl_lfOf.s.rs) := impl_lfOf x
noncomputable abbrev impl_lfOf.k {δ : Type} : Callee (GT tab) δ := kS impl_lfOf.s impl_lfOf.fn
theorem impl_lfOf.con {δ : Type} : Con Tryz.prog (KT tab) 68 (impl_lfOf.k (δ := δ)) := con_shape (c := impl_lfOf.c) mixed tysOk (getG_con (impl_lfOf.gok _)) impl_lfOf.fok rfl rfl fun _ => rfl
noncomputable def impl_lfOf_l0 (v0 : List Int) (v1 v2 : Int) (v3 v4 : List Int) : Option (List Int) := lpW impl_lfOf.s impl_lfOf.c 0 (ud 18 [.undef, .undef, .undef, .sl 0 0, .sl 1 0, .undef, .undef, .undef, .undef, .vs false 3 v0, .int .i64 v1, .int .i64 v2]) [.row 0 true 3 v3, .row 0 true 3 v4] 2
theorem impl_lfOf.eq (x0 : List Int) : impl_lfOf x0 =
    (impl_counts x0).bind fun y1 =>
    impl_lfOf_l0 x0 (x0.length : Int) (0 : Int) y1 ([] : List Int) := by kernel_rfl
theorem impl_lfOf_l0.eq (v0 : List Int) (v1 v2 : Int) (v3 v4 : List Int) : impl_lfOf_l0 v0 v1 v2 v3 v4 =
    bif decide (v2 < v1) then
      (at? v0 v2).bind fun y1 =>
      (at? v3 y1).bind fun y2 =>
      v3[y1.toNat]?.bind fun y3 =>
      bif decide ((v4.length + ([y3] : List Int).length) * 8 ≤ 140737488355328) then
        (at? v3 y1).bind fun y4 =>
        v3[y1.toNat]?.bind fun y5 =>
        (at? v3 y1).bind fun y6 =>
        v3[y1.toNat]?.bind fun y7 =>
        impl_lfOf_l0 v0 v1 (IntKind.i64.wrap (v2 + (1 : Int))) (v3.set y1.toNat (IntKind.i64.wrap (y5 + (1 : Int)))) (v4 ++ ([y3] : List Int))
      else
        none
    else
      some v4 := (Lw_eq tysOk (getG_con (impl_lfOf.gok _)) _ _).trans (by kernel_rfl)

/-! ### bytealg_Compare: internal/bytealg.Compare (by hand) -/
def bytealg_Compare.ms : List Mode := [.lend, .lend]
def bytealg_Compare.as : List VSh := [.one (.b (.b (.b (.b (.sl false false 5))))), .one (.b (.b (.b (.b (.sl false false 5)))))]
def bytealg_Compare.rs : RSh := ⟨[.one (.b (.b (.b (.b (.int .i64)))))], [none, none]⟩
noncomputable def bytealg_Compare (x0 : List Int) (x1 : List Int) : Option (Int) := some (cmpB (x0.map fun x => x) (x1.map fun x => x))
noncomputable def bytealg_Compare.fn : Args tab bytealg_Compare.as → Option (ResT tab bytealg_Compare.rs) := fun x => bytealg_Compare x.1 x.2
noncomputable abbrev bytealg_Compare.k {δ : Type} : Callee (GT tab) δ := calleeS tab bytealg_Compare.ms bytealg_Compare.as bytealg_Compare.rs bytealg_Compare.fn
theorem bytealg_Compare.con {δ : Type} : Con Tryz.prog (KT tab) 181 (bytealg_Compare.k (δ := δ)) := con_compare Tryz.func181 (by kernel_rfl) (by kernel_rfl) (by kernel_rfl) (by kernel_rfl) (l := tab) (e := 5) (g := fun x => x) rfl

noncomputable abbrev bytes_Compare.s : Sg := ⟨[.lend, .lend], [vl 5, vl 5], ⟨[vi], [none, none]⟩, Tryz.f123⟩
noncomputable def bytes_Compare.gs (δ : Type) : List (Nat × Callee (GT tab) δ) := [(181, bytealg_Compare.k)]
theorem bytes_Compare.gok (δ : Type) : AllCon Tryz.prog tab (bytes_Compare.gs δ) := .cons bytealg_Compare.con .nil
noncomputable def bytes_Compare.c := cx bytes_Compare.s [] [] false (bytes_Compare.gs _)
noncomputable def bytes_Compare (x0 x1 : List Int) : Option (Int) := fnW bytes_Compare.s bytes_Compare.c (x0, x1)
theorem bytes_Compare.fok : FkS bytes_Compare.s 123 := ⟨Tryz.func123, by kernel_rfl, by kernel_rfl⟩
noncomputable def bytes_Compare.fn (x : Args tab bytes_Compare.s.ar) : Option (ResT tab bytes_Compare.s.rs) := bytes_Compare x.1 x.2
noncomputable abbrev bytes_Compare.k {δ : Type} : Callee (GT tab) δ := kS bytes_Compare.s bytes_Compare.fn
theorem bytes_Compare.con {δ : Type} : Con Tryz.prog (KT tab) 123 (bytes_Compare.k (δ := δ)) := con_shape (c := bytes_Compare.c) mixed tysOk (getG_con (bytes_Compare.gok _)) bytes_Compare.fok rfl rfl fun _ => rfl
theorem bytes_Compare.eq (x0 x1 : List Int) : bytes_Compare x0 x1 =
    (bytealg_Compare x0 x1).bind fun y1 =>
    some y1 := by kernel_rfl

noncomputable abbrev impl_suffixRows_1.s : Sg := ⟨[.lend, .lend, .lend], [vi, vi, .one (.ptr false 22 [.b (.b (.b (.sl false false 5)))])], ⟨[vi], [none, none, none]⟩, Tryz.f133⟩
noncomputable def impl_suffixRows_1.gs (δ : Type) : List (Nat × Callee (GT tab) δ) := [(123, bytes_Compare.k)]
theorem impl_suffixRows_1.gok (δ : Type) : AllCon Tryz.prog tab (impl_suffixRows_1.gs δ) := .cons bytes_Compare.con .nil
noncomputable def impl_suffixRows_1.c := cx impl_suffixRows_1.s [] [] false (impl_suffixRows_1.gs _)
noncomputable def impl_suffixRows_1 (x0 x1 : Int) (x2 : List Int) : Option (Int) := fnW impl_suffixRows_1.s impl_suffixRows_1.c (x0, x1, x2)
theorem impl_suffixRows_1.fok : FkS impl_suffixRows_1.s 133 := ⟨Tryz.func133, by kernel_rfl, by kernel_rfl⟩
noncomputable def impl_suffixRows_1.fn (x : Args tab impl_suffixRows_1.s.ar) : Option (ResT tab impl_suffixRows_1.s.rs) := impl_suffixRows_1 x.1 x.2.1 x.2.2
noncomputable abbrev impl_suffixRows_1.k {δ : Type} : Callee (GT tab) δ := kS impl_suffixRows_1.s impl_suffixRows_1.fn
theorem impl_suffixRows_1.con {δ : Type} : Con Tryz.prog (KT tab) 133 (impl_suffixRows_1.k (δ := δ)) := con_shape (c := impl_suffixRows_1.c) mixed tysOk (getG_con (impl_suffixRows_1.gok _)) impl_suffixRows_1.fok rfl rfl fun _ => rfl
theorem impl_suffixRows_1.eq (x0 x1 : Int) (x2 : List Int) : impl_suffixRows_1 x0 x1 x2 =
    bif decide (0 ≤ x0 ∧ x0 ≤ ((x2.length : Nat) : Int)) then
      bif decide (0 ≤ x1 ∧ x1 ≤ ((x2.length : Nat) : Int)) then
        (bytes_Compare ((x2.take x2.length).drop x0.toNat) ((x2.take x2.length).drop x1.toNat)).bind fun y1 =>
        some y1
      else
        none
    else
      none := by kernel_rfl

/-! ### slices_SortFunc_int_int_suffixRows_1: slices.SortFunc[[]int,int] (by hand) -/
def slices_SortFunc_int_int_suffixRows_1.ms : List Mode := [.keep, .lend]
def slices_SortFunc_int_int_suffixRows_1.as : List VSh := [.one (.b (.b (.b (.b (.sl true true 3))))), .one (.fn 133 [.ptr false 22 [.b (.b (.sl false false 5))]])]
def slices_SortFunc_int_int_suffixRows_1.rs : RSh := ⟨[], [some (.one (.b (.b (.b (.b (.sl true true 3)))))), none]⟩
noncomputable def slices_SortFunc_int_int_suffixRows_1 (x0 : List Int) (x1 : List Int) : Option (List Int) := sortC (fun a b => impl_suffixRows_1 a b x1) x0
noncomputable def slices_SortFunc_int_int_suffixRows_1.fn : Args tab slices_SortFunc_int_int_suffixRows_1.as → Option (ResT tab slices_SortFunc_int_int_suffixRows_1.rs) := fun x => slices_SortFunc_int_int_suffixRows_1 x.1 x.2
noncomputable abbrev slices_SortFunc_int_int_suffixRows_1.k {δ : Type} : Callee (GT tab) δ := calleeS tab slices_SortFunc_int_int_suffixRows_1.ms slices_SortFunc_int_int_suffixRows_1.as slices_SortFunc_int_int_suffixRows_1.rs slices_SortFunc_int_int_suffixRows_1.fn
theorem slices_SortFunc_int_int_suffixRows_1.con {δ : Type} : Con Tryz.prog (KT tab) 132 (slices_SortFunc_int_int_suffixRows_1.k (δ := δ)) := con_sort (l := tab) Tryz.laysSort132 rfl (e := 3) (g := fun x => x) rfl (gf := 133) (fun a w => FnOk.enters impl_suffixRows_1.fok a w) (cv := .one (.fn 133 [.ptr false 22 [.b (.b (.sl false false 5))]])) (capsT := fun y => [.ptr false 22 [.sl false false 5 y]]) (fun _ => by kernel_rfl) (fun y => List.all_eq_true.1 (by kernel_rfl)) (cal := impl_suffixRows_1.k) impl_suffixRows_1.con (ks := [none, none, none]) (F := fun a b y => impl_suffixRows_1 a b y) (fun a b y => sem_map (by kernel_rfl))

noncomputable abbrev impl_suffixRows.s : Sg := ⟨[.lend], [vl 5], ⟨[vo 3], [none]⟩, Tryz.f64⟩
noncomputable def impl_suffixRows.gs (δ : Type) : List (Nat × Callee (GT tab) δ) := [(132, slices_SortFunc_int_int_suffixRows_1.k)]
theorem impl_suffixRows.gok (δ : Type) : AllCon Tryz.prog tab (impl_suffixRows.gs δ) := .cons slices_SortFunc_int_int_suffixRows_1.con .nil
noncomputable def impl_suffixRows.c := cx impl_suffixRows.s [] [(3, [1, 3, 7, 8])] false (impl_suffixRows.gs _)
noncomputable def impl_suffixRows (x0 : List Int) : Option (List Int) := fnW impl_suffixRows.s impl_suffixRows.c x0
theorem impl_suffixRows.fok : FkS impl_suffixRows.s 64 := ⟨Tryz.func64, by kernel_rfl, by kernel_rfl⟩
noncomputable def impl_suffixRows.fn (x : Args tab impl_suffixRows.s.ar) : Option (ResT tab impl_suffixRows.s.rs) := impl_suffixRows x
noncomputable abbrev impl_suffixRows.k {δ : Type} : Callee (GT tab) δ := kS impl_suffixRows.s impl_suffixRows.fn
theorem impl_suffixRows.con {δ : Type} : Con Tryz.prog (KT tab) 64 (impl_suffixRows.k (δ := δ)) := con_shape (c := impl_suffixRows.c) mixed tysOk (getG_con (impl_suffixRows.gok _)) impl_suffixRows.fok rfl rfl fun _ => rfl
noncomputable def impl_suffixRows_l0 (v0 v1 : Int) (v2 v3 : List Int) : Option (List Int) := lpW impl_suffixRows.s impl_suffixRows.c 0 (ud 11 [.undef, .ptr 0 0, .undef, .sl 1 0, .undef, .undef, .undef, .int .i64 v0, .int .i64 v1]) [.box 22 [.vs false 5 v2], .row 0 true 3 v3] 2
theorem impl_suffixRows.eq (x0 : List Int) : impl_suffixRows x0 =
    impl_suffixRows_l0 (IntKind.i64.wrap ((x0.length : Int) + (1 : Int))) (0 : Int) x0 ([] : List Int) := by kernel_rfl
theorem impl_suffixRows_l0.eq (v0 v1 : Int) (v2 v3 : List Int) : impl_suffixRows_l0 v0 v1 v2 v3 =
    bif decide (v1 < v0) then
      bif decide ((v3.length + ([v1] : List Int).length) * 8 ≤ 140737488355328) then
        impl_suffixRows_l0 v0 (IntKind.i64.wrap (v1 + (1 : Int))) v2 (v3 ++ ([v1] : List Int))
      else
        none
    else
      (slices_SortFunc_int_int_suffixRows_1 v3 v2).bind fun y1 =>
      some y1 := (Lw_eq tysOk (getG_con (impl_suffixRows.gok _)) _ _).trans (by kernel_rfl)

noncomputable abbrev impl_bwtOf.s : Sg := ⟨[.lend], [vl 5], ⟨[vo 3], [none]⟩, Tryz.f69⟩
noncomputable def impl_bwtOf.gs (δ : Type) : List (Nat × Callee (GT tab) δ) := [(64, impl_suffixRows.k)]
theorem impl_bwtOf.gok (δ : Type) : AllCon Tryz.prog tab (impl_bwtOf.gs δ) := .cons impl_suffixRows.con .nil
noncomputable def impl_bwtOf.c := cx impl_bwtOf.s [] [(3, [0, 3, 7, 8, 9])] false (impl_bwtOf.gs _)
noncomputable def impl_bwtOf (x0 : List Int) : Option (List Int) := fnW impl_bwtOf.s impl_bwtOf.c x0
theorem impl_bwtOf.fok : FkS impl_bwtOf.s 69 := ⟨Tryz.func69, by kernel_rfl, by kernel_rfl⟩
noncomputable def impl_bwtOf.fn (x : Args tab impl_bwtOf.s.ar) : Option (ResT tab impl_bwtOf.s.rs) := impl_bwtOf x
noncomputable abbrev impl_bwtOf.k {δ : Type} : Callee (GT tab) δ := kS impl_bwtOf.s impl_bwtOf.fn
theorem impl_bwtOf.con {δ : Type} : Con Tryz.prog (KT tab) 69 (impl_bwtOf.k (δ := δ)) := con_shape (c := impl_bwtOf.c) mixed tysOk (getG_con (impl_bwtOf.gok _)) impl_bwtOf.fok rfl rfl fun _ => rfl
noncomputable def impl_bwtOf_l0 (v0 : List Int) (v1 v2 : Int) (v3 v4 : List Int) : Option (List Int) := lpW impl_bwtOf.s impl_bwtOf.c 0 (ud 20 [.vs false 5 v0, .undef, .undef, .sl 0 0, .undef, .undef, .undef, .sl 1 0, .int .i64 v1, .int .i64 v2]) [.row 0 true 3 v3, .row 0 true 3 v4] 2
theorem impl_bwtOf.eq (x0 : List Int) : impl_bwtOf x0 =
    (impl_suffixRows x0).bind fun y1 =>
    impl_bwtOf_l0 x0 (y1.length : Int) (0 : Int) ([] : List Int) y1 := by kernel_rfl
theorem impl_bwtOf_l0.eq (v0 : List Int) (v1 v2 : Int) (v3 v4 : List Int) : impl_bwtOf_l0 v0 v1 v2 v3 v4 =
    bif decide (v2 < v1) then
      (at? v4 v2).bind fun y1 =>
      v4[v2.toNat]?.bind fun y2 =>
      bif y2 == (0 : Int) then
        bif decide ((v3.length + ([(0 : Int)] : List Int).length) * 8 ≤ 140737488355328) then
          impl_bwtOf_l0 v0 v1 (IntKind.i64.wrap (v2 + (1 : Int))) (v3 ++ ([(0 : Int)] : List Int)) v4
        else
          none
      else
        (at? v0 (IntKind.i64.wrap (y2 - (1 : Int)))).bind fun y3 =>
        bif decide ((v3.length + ([IntKind.i64.wrap ((IntKind.i64.wrap y3) + (1 : Int))] : List Int).length) * 8 ≤ 140737488355328) then
          impl_bwtOf_l0 v0 v1 (IntKind.i64.wrap (v2 + (1 : Int))) (v3 ++ ([IntKind.i64.wrap ((IntKind.i64.wrap y3) + (1 : Int))] : List Int)) v4
        else
          none
    else
      some v3 := (Lw_eq tysOk (getG_con (impl_bwtOf.gok _)) _ _).trans (by kernel_rfl)

noncomputable abbrev slices_Equal_int_int.s : Sg := ⟨[.lend, .lend], [vl 3, vl 3], ⟨[vb], [none, none]⟩, Tryz.f156⟩
noncomputable def slices_Equal_int_int.gs (δ : Type) : List (Nat × Callee (GT tab) δ) := []
theorem slices_Equal_int_int.gok (δ : Type) : AllCon Tryz.prog tab (slices_Equal_int_int.gs δ) := .nil
noncomputable def slices_Equal_int_int.c := cx slices_Equal_int_int.s [] [(4, [0, 1, 12, 13])] false (slices_Equal_int_int.gs _)
noncomputable def slices_Equal_int_int (x0 x1 : List Int) : Option (Bool) := fnW slices_Equal_int_int.s slices_Equal_int_int.c (x0, x1)
theorem slices_Equal_int_int.fok : FkS slices_Equal_int_int.s 156 := ⟨Tryz.func156, by kernel_rfl, by kernel_rfl⟩
noncomputable def slices_Equal_int_int.fn (x : Args tab slices_Equal_int_int.s.ar) : Option (ResT tab slices_Equal_int_int.s.rs) := slices_Equal_int_int x.1 x.2
noncomputable abbrev slices_Equal_int_int.k {δ : Type} : Callee (GT tab) δ := kS slices_Equal_int_int.s slices_Equal_int_int.fn
theorem slices_Equal_int_int.con {δ : Type} : Con Tryz.prog (KT tab) 156 (slices_Equal_int_int.k (δ := δ)) := con_shape (c := slices_Equal_int_int.c) mixed tysOk (getG_con (slices_Equal_int_int.gok _)) slices_Equal_int_int.fok rfl rfl fun _ => rfl
noncomputable def slices_Equal_int_int_l0 (v0 v1 : List Int) (v2 v3 : Int) : Option (Bool) := lpW slices_Equal_int_int.s slices_Equal_int_int.c 0 (ud 12 [.vs false 3 v0, .vs false 3 v1, .undef, .undef, .undef, .undef, .undef, .undef, .undef, .undef, .undef, .undef, .int .i64 v2, .int .i64 v3]) [] 0
theorem slices_Equal_int_int.eq (x0 x1 : List Int) : slices_Equal_int_int x0 x1 =
    bif (x0.length : Int) != (x1.length : Int) then
      some false
    else
      slices_Equal_int_int_l0 x0 x1 (x0.length : Int) (0 : Int) := by kernel_rfl
theorem slices_Equal_int_int_l0.eq (v0 v1 : List Int) (v2 v3 : Int) : slices_Equal_int_int_l0 v0 v1 v2 v3 =
    bif decide (v3 < v2) then
      (at? v0 v3).bind fun y1 =>
      (at? v1 v3).bind fun y2 =>
      bif y1 != y2 then
        some false
      else
        slices_Equal_int_int_l0 v0 v1 v2 (IntKind.i64.wrap (v3 + (1 : Int)))
    else
      some true := (Lw_eq tysOk (getG_con (slices_Equal_int_int.gok _)) _ _).trans (by kernel_rfl)

noncomputable abbrev impl_BwtText.s : Sg := ⟨[.lend], [vl 3], ⟨[vo 5, vb], [none]⟩, Tryz.f103⟩
noncomputable def impl_BwtText.gs (δ : Type) : List (Nat × Callee (GT tab) δ) := [(68, impl_lfOf.k), (69, impl_bwtOf.k), (73, impl_count.k), (155, impl_SymsOk.k), (156, slices_Equal_int_int.k)]
theorem impl_BwtText.gok (δ : Type) : AllCon Tryz.prog tab (impl_BwtText.gs δ) := .cons impl_lfOf.con (.cons impl_bwtOf.con (.cons impl_count.con (.cons impl_SymsOk.con (.cons slices_Equal_int_int.con .nil))))
noncomputable def impl_BwtText.c := cx impl_BwtText.s [3] [(3, [0]), (7, [0, 4, 5, 6, 7])] false (impl_BwtText.gs _)
noncomputable def impl_BwtText (x0 : List Int) : Option ((List Int) × Bool) := fnW impl_BwtText.s impl_BwtText.c x0
theorem impl_BwtText.fok : FkS impl_BwtText.s 103 := ⟨Tryz.func103, by kernel_rfl, by kernel_rfl⟩
noncomputable def impl_BwtText.fn (x : Args tab impl_BwtText.s.ar) : Option (ResT tab impl_BwtText.s.rs) := impl_BwtText x
noncomputable abbrev impl_BwtText.k {δ : Type} : Callee (GT tab) δ := kS impl_BwtText.s impl_BwtText.fn
theorem impl_BwtText.con {δ : Type} : Con Tryz.prog (KT tab) 103 (impl_BwtText.k (δ := δ)) := con_shape (c := impl_BwtText.c) mixed tysOk (getG_con (impl_BwtText.gok _)) impl_BwtText.fok rfl rfl fun _ => rfl
noncomputable def impl_BwtText_l0 (v0 : List Int) : Option ((List Int) × Bool) := lpW impl_BwtText.s impl_BwtText.c 0 (ud 52 [.vs false 3 v0]) [] 0
noncomputable def impl_BwtText_l1 (v0 : List Int) (v1 v2 : Int) (v3 v4 : List Int) : Option ((List Int) × Bool) := lpW impl_BwtText.s impl_BwtText.c 1 (ud 45 [.vs false 3 v0, .undef, .undef, .undef, .sl 0 0, .sl 1 0, .int .i64 v1, .int .i64 v2]) [.row 0 true 3 v3, .row 0 true 5 v4] 2
theorem impl_BwtText.eq (x0 : List Int) : impl_BwtText x0 =
    (impl_SymsOk x0).bind fun y1 =>
    bif !y1 then
      some (([] : List Int), false)
    else
      (impl_count x0 (0 : Int)).bind fun y2 =>
      bif y2 != (1 : Int) then
        some (([] : List Int), false)
      else
        impl_BwtText_l0 x0 := by kernel_rfl
theorem impl_BwtText_l0.eq (v0 : List Int) : impl_BwtText_l0 v0 =
    (impl_lfOf v0).bind fun y1 =>
    bif decide ((0 : Int) ≤ IntKind.i64.wrap ((v0.length : Int) - (1 : Int))) && decide (((IntKind.i64.wrap ((v0.length : Int) - (1 : Int))).toNat) * 1 ≤ 140737488355328) then
      impl_BwtText_l1 v0 (0 : Int) (IntKind.i64.wrap (((List.replicate ((IntKind.i64.wrap ((v0.length : Int) - (1 : Int))).toNat) (0 : Int)).length : Int) - (1 : Int))) y1 (List.replicate ((IntKind.i64.wrap ((v0.length : Int) - (1 : Int))).toNat) (0 : Int))
    else
      none := (Lw_eq tysOk (getG_con (impl_BwtText.gok _)) _ _).trans (by kernel_rfl)
theorem impl_BwtText_l1.eq (v0 : List Int) (v1 v2 : Int) (v3 v4 : List Int) : impl_BwtText_l1 v0 v1 v2 v3 v4 =
    bif decide (v2 ≥ (0 : Int)) then
      (at? v0 v1).bind fun y1 =>
      bif y1 == (0 : Int) then
        some (([] : List Int), false)
      else
        (at? v0 v1).bind fun y2 =>
        (at? v4 v2).bind fun y3 =>
        v4[v2.toNat]?.bind fun y4 =>
        (at? v3 v1).bind fun y5 =>
        v3[v1.toNat]?.bind fun y6 =>
        impl_BwtText_l1 v0 y6 (IntKind.i64.wrap (v2 - (1 : Int))) v3 (v4.set v2.toNat (IntKind.u8.wrap (IntKind.i64.wrap (y2 - (1 : Int)))))
    else
      (impl_bwtOf v4).bind fun y7 =>
      (slices_Equal_int_int y7 v0).bind fun y8 =>
      bif !y8 then
        some (([] : List Int), false)
      else
        some (v4, true) := (Lw_eq tysOk (getG_con (impl_BwtText.gok _)) _ _).trans (by kernel_rfl)

noncomputable abbrev impl_WaveOf_1.s : Sg := ⟨[.lend], [vi], ⟨[vb], [none]⟩, Tryz.f190⟩
noncomputable def impl_WaveOf_1.gs (δ : Type) : List (Nat × Callee (GT tab) δ) := [(63, impl_within.k)]
theorem impl_WaveOf_1.gok (δ : Type) : AllCon Tryz.prog tab (impl_WaveOf_1.gs δ) := .cons impl_within.con .nil
noncomputable def impl_WaveOf_1.c := cx impl_WaveOf_1.s [] [] false (impl_WaveOf_1.gs _)
noncomputable def impl_WaveOf_1 (x0 : Int) : Option (Bool) := fnW impl_WaveOf_1.s impl_WaveOf_1.c x0
theorem impl_WaveOf_1.fok : FkS impl_WaveOf_1.s 190 := ⟨Tryz.func190, by kernel_rfl, by kernel_rfl⟩
noncomputable def impl_WaveOf_1.fn (x : Args tab impl_WaveOf_1.s.ar) : Option (ResT tab impl_WaveOf_1.s.rs) := impl_WaveOf_1 x
noncomputable abbrev impl_WaveOf_1.k {δ : Type} : Callee (GT tab) δ := kS impl_WaveOf_1.s impl_WaveOf_1.fn
theorem impl_WaveOf_1.con {δ : Type} : Con Tryz.prog (KT tab) 190 (impl_WaveOf_1.k (δ := δ)) := con_shape (c := impl_WaveOf_1.c) mixed tysOk (getG_con (impl_WaveOf_1.gok _)) impl_WaveOf_1.fok rfl rfl fun _ => rfl
theorem impl_WaveOf_1.eq (x0 : Int) : impl_WaveOf_1 x0 =
    (impl_within x0 (0 : Int) (511 : Int)).bind fun y1 =>
    some y1 := by kernel_rfl

noncomputable abbrev impl_areAll_int_1_WaveOf_1.s : Sg := ⟨[.lend, .lend], [vi, .one (.ptr false 0 [.fn 190 []])], ⟨[vb], [none, none]⟩, Tryz.f213⟩
noncomputable def impl_areAll_int_1_WaveOf_1.gs (δ : Type) : List (Nat × Callee (GT tab) δ) := [(190, impl_WaveOf_1.k)]
theorem impl_areAll_int_1_WaveOf_1.gok (δ : Type) : AllCon Tryz.prog tab (impl_areAll_int_1_WaveOf_1.gs δ) := .cons impl_WaveOf_1.con .nil
noncomputable def impl_areAll_int_1_WaveOf_1.c := cx impl_areAll_int_1_WaveOf_1.s [] [] false (impl_areAll_int_1_WaveOf_1.gs _)
noncomputable def impl_areAll_int_1_WaveOf_1 (x0 : Int) (x1 : Unit) : Option (Bool) := fnW impl_areAll_int_1_WaveOf_1.s impl_areAll_int_1_WaveOf_1.c (x0, x1)
theorem impl_areAll_int_1_WaveOf_1.fok : FkS impl_areAll_int_1_WaveOf_1.s 213 := ⟨Tryz.func213, by kernel_rfl, by kernel_rfl⟩
noncomputable def impl_areAll_int_1_WaveOf_1.fn (x : Args tab impl_areAll_int_1_WaveOf_1.s.ar) : Option (ResT tab impl_areAll_int_1_WaveOf_1.s.rs) := impl_areAll_int_1_WaveOf_1 x.1 x.2
noncomputable abbrev impl_areAll_int_1_WaveOf_1.k {δ : Type} : Callee (GT tab) δ := kS impl_areAll_int_1_WaveOf_1.s impl_areAll_int_1_WaveOf_1.fn
theorem impl_areAll_int_1_WaveOf_1.con {δ : Type} : Con Tryz.prog (KT tab) 213 (impl_areAll_int_1_WaveOf_1.k (δ := δ)) := con_shape (c := impl_areAll_int_1_WaveOf_1.c) mixed tysOk (getG_con (impl_areAll_int_1_WaveOf_1.gok _)) impl_areAll_int_1_WaveOf_1.fok rfl rfl fun _ => rfl
theorem impl_areAll_int_1_WaveOf_1.eq (x0 : Int) (x1 : Unit) : impl_areAll_int_1_WaveOf_1 x0 x1 =
    (impl_WaveOf_1 x0).bind fun y1 =>
    some (!y1) := by kernel_rfl

noncomputable abbrev slices_IndexFunc_int_int_areAll_int_1_WaveOf_1.s : Sg := ⟨[.lend, .lend], [vl 3, .one (.fn 213 [.ptr false 0 [.fn 190 []]])], ⟨[vi], [none, none]⟩, Tryz.f221⟩
noncomputable def slices_IndexFunc_int_int_areAll_int_1_WaveOf_1.gs (δ : Type) : List (Nat × Callee (GT tab) δ) := [(213, impl_areAll_int_1_WaveOf_1.k)]
theorem slices_IndexFunc_int_int_areAll_int_1_WaveOf_1.gok (δ : Type) : AllCon Tryz.prog tab (slices_IndexFunc_int_int_areAll_int_1_WaveOf_1.gs δ) := .cons impl_areAll_int_1_WaveOf_1.con .nil
noncomputable def slices_IndexFunc_int_int_areAll_int_1_WaveOf_1.c := cx slices_IndexFunc_int_int_areAll_int_1_WaveOf_1.s [] [(2, [0, 1, 7, 8])] false (slices_IndexFunc_int_int_areAll_int_1_WaveOf_1.gs _)
noncomputable def slices_IndexFunc_int_int_areAll_int_1_WaveOf_1 (x0 : List Int) (x1 : Unit) : Option (Int) := fnW slices_IndexFunc_int_int_areAll_int_1_WaveOf_1.s slices_IndexFunc_int_int_areAll_int_1_WaveOf_1.c (x0, x1)
theorem slices_IndexFunc_int_int_areAll_int_1_WaveOf_1.fok : FkS slices_IndexFunc_int_int_areAll_int_1_WaveOf_1.s 221 := ⟨Tryz.func221, by kernel_rfl, by kernel_rfl⟩
noncomputable def slices_IndexFunc_int_int_areAll_int_1_WaveOf_1.fn (x : Args tab slices_IndexFunc_int_int_areAll_int_1_WaveOf_1.s.ar) : Option (ResT tab slices_IndexFunc_int_int_areAll_int_1_WaveOf_1.s.rs) := slices_IndexFunc_int_int_areAll_int_1_WaveOf_1 x.1 x.2
noncomputable abbrev slices_IndexFunc_int_int_areAll_int_1_WaveOf_1.k {δ : Type} : Callee (GT tab) δ := kS slices_IndexFunc_int_int_areAll_int_1_WaveOf_1.s slices_IndexFunc_int_int_areAll_int_1_WaveOf_1.fn
theorem slices_IndexFunc_int_int_areAll_int_1_WaveOf_1.con {δ : Type} : Con Tryz.prog (KT tab) 221 (slices_IndexFunc_int_int_areAll_int_1_WaveOf_1.k (δ := δ)) := con_shape (c := slices_IndexFunc_int_int_areAll_int_1_WaveOf_1.c) mixed tysOk (getG_con (slices_IndexFunc_int_int_areAll_int_1_WaveOf_1.gok _)) slices_IndexFunc_int_int_areAll_int_1_WaveOf_1.fok rfl rfl fun _ => rfl
noncomputable def slices_IndexFunc_int_int_areAll_int_1_WaveOf_1_l0 (v0 : List Int) (v1 v2 : Int) : Option (Int) := lpW slices_IndexFunc_int_int_areAll_int_1_WaveOf_1.s slices_IndexFunc_int_int_areAll_int_1_WaveOf_1.c 0 (ud 10 [.vs false 3 v0, .fn 213 [.vp [.fn 190 []]], .undef, .undef, .undef, .undef, .undef, .int .i64 v1, .int .i64 v2]) [] 0
theorem slices_IndexFunc_int_int_areAll_int_1_WaveOf_1.eq (x0 : List Int) (x1 : Unit) : slices_IndexFunc_int_int_areAll_int_1_WaveOf_1 x0 x1 =
    slices_IndexFunc_int_int_areAll_int_1_WaveOf_1_l0 x0 (x0.length : Int) (0 : Int) := by kernel_rfl
theorem slices_IndexFunc_int_int_areAll_int_1_WaveOf_1_l0.eq (v0 : List Int) (v1 v2 : Int) : slices_IndexFunc_int_int_areAll_int_1_WaveOf_1_l0 v0 v1 v2 =
    bif decide (v2 < v1) then
      (at? v0 v2).bind fun y1 =>
      (impl_areAll_int_1_WaveOf_1 y1 ()).bind fun y2 =>
      bif y2 then
        some v2
      else
        slices_IndexFunc_int_int_areAll_int_1_WaveOf_1_l0 v0 v1 (IntKind.i64.wrap (v2 + (1 : Int)))
    else
      some (-1 : Int) := (Lw_eq tysOk (getG_con (slices_IndexFunc_int_int_areAll_int_1_WaveOf_1.gok _)) _ _).trans (by kernel_rfl)

noncomputable abbrev slices_ContainsFunc_int_int_areAll_int_1_WaveOf_1.s : Sg := ⟨[.lend, .lend], [vl 3, .one (.fn 213 [.ptr false 86 [.fn 190 []]])], ⟨[vb], [none, none]⟩, Tryz.f212⟩
noncomputable def slices_ContainsFunc_int_int_areAll_int_1_WaveOf_1.gs (δ : Type) : List (Nat × Callee (GT tab) δ) := [(221, slices_IndexFunc_int_int_areAll_int_1_WaveOf_1.k)]
theorem slices_ContainsFunc_int_int_areAll_int_1_WaveOf_1.gok (δ : Type) : AllCon Tryz.prog tab (slices_ContainsFunc_int_int_areAll_int_1_WaveOf_1.gs δ) := .cons slices_IndexFunc_int_int_areAll_int_1_WaveOf_1.con .nil
noncomputable def slices_ContainsFunc_int_int_areAll_int_1_WaveOf_1.c := cx slices_ContainsFunc_int_int_areAll_int_1_WaveOf_1.s [] [] false (slices_ContainsFunc_int_int_areAll_int_1_WaveOf_1.gs _)
noncomputable def slices_ContainsFunc_int_int_areAll_int_1_WaveOf_1 (x0 : List Int) (x1 : Unit) : Option (Bool) := fnW slices_ContainsFunc_int_int_areAll_int_1_WaveOf_1.s slices_ContainsFunc_int_int_areAll_int_1_WaveOf_1.c (x0, x1)
theorem slices_ContainsFunc_int_int_areAll_int_1_WaveOf_1.fok : FkS slices_ContainsFunc_int_int_areAll_int_1_WaveOf_1.s 212 := ⟨Tryz.func212, by kernel_rfl, by kernel_rfl⟩
noncomputable def slices_ContainsFunc_int_int_areAll_int_1_WaveOf_1.fn (x : Args tab slices_ContainsFunc_int_int_areAll_int_1_WaveOf_1.s.ar) : Option (ResT tab slices_ContainsFunc_int_int_areAll_int_1_WaveOf_1.s.rs) := slices_ContainsFunc_int_int_areAll_int_1_WaveOf_1 x.1 x.2
noncomputable abbrev slices_ContainsFunc_int_int_areAll_int_1_WaveOf_1.k {δ : Type} : Callee (GT tab) δ := kS slices_ContainsFunc_int_int_areAll_int_1_WaveOf_1.s slices_ContainsFunc_int_int_areAll_int_1_WaveOf_1.fn
theorem slices_ContainsFunc_int_int_areAll_int_1_WaveOf_1.con {δ : Type} : Con Tryz.prog (KT tab) 212 (slices_ContainsFunc_int_int_areAll_int_1_WaveOf_1.k (δ := δ)) := con_shape (c := slices_ContainsFunc_int_int_areAll_int_1_WaveOf_1.c) mixed tysOk (getG_con (slices_ContainsFunc_int_int_areAll_int_1_WaveOf_1.gok _)) slices_ContainsFunc_int_int_areAll_int_1_WaveOf_1.fok rfl rfl fun _ => rfl
theorem slices_ContainsFunc_int_int_areAll_int_1_WaveOf_1.eq (x0 : List Int) (x1 : Unit) : slices_ContainsFunc_int_int_areAll_int_1_WaveOf_1 x0 x1 =
    (slices_IndexFunc_int_int_areAll_int_1_WaveOf_1 x0 ()).bind fun y1 =>
    some (decide (y1 ≥ (0 : Int))) := by kernel_rfl

noncomputable abbrev impl_areAll_int_WaveOf_1.s : Sg := ⟨[.lend, .lend], [vl 3, .one (.fn 190 [])], ⟨[vb], [none, none]⟩, Tryz.f188⟩
noncomputable def impl_areAll_int_WaveOf_1.gs (δ : Type) : List (Nat × Callee (GT tab) δ) := [(212, slices_ContainsFunc_int_int_areAll_int_1_WaveOf_1.k)]
theorem impl_areAll_int_WaveOf_1.gok (δ : Type) : AllCon Tryz.prog tab (impl_areAll_int_WaveOf_1.gs δ) := .cons slices_ContainsFunc_int_int_areAll_int_1_WaveOf_1.con .nil
noncomputable def impl_areAll_int_WaveOf_1.c := cx impl_areAll_int_WaveOf_1.s [] [] false (impl_areAll_int_WaveOf_1.gs _)
noncomputable def impl_areAll_int_WaveOf_1 (x0 : List Int) (x1 : Unit) : Option (Bool) := fnW impl_areAll_int_WaveOf_1.s impl_areAll_int_WaveOf_1.c (x0, x1)
theorem impl_areAll_int_WaveOf_1.fok : FkS impl_areAll_int_WaveOf_1.s 188 := ⟨Tryz.func188, by kernel_rfl, by kernel_rfl⟩
noncomputable def impl_areAll_int_WaveOf_1.fn (x : Args tab impl_areAll_int_WaveOf_1.s.ar) : Option (ResT tab impl_areAll_int_WaveOf_1.s.rs) := impl_areAll_int_WaveOf_1 x.1 x.2
noncomputable abbrev impl_areAll_int_WaveOf_1.k {δ : Type} : Callee (GT tab) δ := kS impl_areAll_int_WaveOf_1.s impl_areAll_int_WaveOf_1.fn
theorem impl_areAll_int_WaveOf_1.con {δ : Type} : Con Tryz.prog (KT tab) 188 (impl_areAll_int_WaveOf_1.k (δ := δ)) := con_shape (c := impl_areAll_int_WaveOf_1.c) mixed tysOk (getG_con (impl_areAll_int_WaveOf_1.gok _)) impl_areAll_int_WaveOf_1.fok rfl rfl fun _ => rfl
theorem impl_areAll_int_WaveOf_1.eq (x0 : List Int) (x1 : Unit) : impl_areAll_int_WaveOf_1 x0 x1 =
    (slices_ContainsFunc_int_int_areAll_int_1_WaveOf_1 x0 ()).bind fun y1 =>
    some (!y1) := by kernel_rfl

noncomputable abbrev impl_bitsOf.s : Sg := ⟨[.lend], [vl 3], ⟨[.agg [.int .i64, .sl true true 126]], [none]⟩, Tryz.f158⟩
noncomputable def impl_bitsOf.gs (δ : Type) : List (Nat × Callee (GT tab) δ) := []
theorem impl_bitsOf.gok (δ : Type) : AllCon Tryz.prog tab (impl_bitsOf.gs δ) := .nil
noncomputable def impl_bitsOf.c := cx impl_bitsOf.s [] [(3, [2, 3, 15, 16, 17])] false (impl_bitsOf.gs _)
noncomputable def impl_bitsOf (x0 : List Int) : Option (Int × (List Int)) := fnW impl_bitsOf.s impl_bitsOf.c x0
theorem impl_bitsOf.fok : FkS impl_bitsOf.s 158 := ⟨Tryz.func158, by kernel_rfl, by kernel_rfl⟩
noncomputable def impl_bitsOf.fn (x : Args tab impl_bitsOf.s.ar) : Option (ResT tab impl_bitsOf.s.rs) := impl_bitsOf x
noncomputable abbrev impl_bitsOf.k {δ : Type} : Callee (GT tab) δ := kS impl_bitsOf.s impl_bitsOf.fn
theorem impl_bitsOf.con {δ : Type} : Con Tryz.prog (KT tab) 158 (impl_bitsOf.k (δ := δ)) := con_shape (c := impl_bitsOf.c) mixed tysOk (getG_con (impl_bitsOf.gok _)) impl_bitsOf.fok rfl rfl fun _ => rfl
noncomputable def impl_bitsOf_l0 (v0 : List Int) (v1 v2 v3 : Int) (v4 : List Int) (v5 : Int) (v6 : List Int) : Option (Int × (List Int)) := lpW impl_bitsOf.s impl_bitsOf.c 0 (ud 19 [.undef, .undef, .ptr 0 0, .ptr 2 0, .undef, .undef, .undef, .undef, .undef, .undef, .undef, .undef, .undef, .undef, .undef, .vs false 3 v0, .int .i64 v1, .int .i64 v2]) [.box 30 [.int .i64 v3, .sl 1 0], .row 0 true 126 v4, .box 30 [.int .i64 v5, .sl 3 0], .row 0 true 126 v6] 4
theorem impl_bitsOf.eq (x0 : List Int) : impl_bitsOf x0 =
    bif decide ((0 : Int) ≤ IntKind.i64.wrap ((IntKind.i64.wrap ((IntKind.i64.wrap ((x0.length : Int) + (64 : Int))) - (1 : Int))).tdiv (64 : Int))) && decide (((IntKind.i64.wrap ((IntKind.i64.wrap ((IntKind.i64.wrap ((x0.length : Int) + (64 : Int))) - (1 : Int))).tdiv (64 : Int))).toNat) * 8 ≤ 140737488355328) then
      impl_bitsOf_l0 x0 (x0.length : Int) (0 : Int) (0 : Int) ([] : List Int) (x0.length : Int) (List.replicate ((IntKind.i64.wrap ((IntKind.i64.wrap ((IntKind.i64.wrap ((x0.length : Int) + (64 : Int))) - (1 : Int))).tdiv (64 : Int))).toNat) (0 : Int))
    else
      none := by kernel_rfl
theorem impl_bitsOf_l0.eq (v0 : List Int) (v1 v2 v3 : Int) (v4 : List Int) (v5 : Int) (v6 : List Int) : impl_bitsOf_l0 v0 v1 v2 v3 v4 v5 v6 =
    bif decide (v2 < v1) then
      (at? v0 v2).bind fun y1 =>
      (at? v6 (IntKind.i64.wrap (v2.tdiv (64 : Int)))).bind fun y2 =>
      v6[(IntKind.i64.wrap (v2.tdiv (64 : Int))).toNat]?.bind fun y3 =>
      bif decide (v2.tmod (64 : Int) < (0 : Int)) then
        none
      else
        (at? v6 (IntKind.i64.wrap (v2.tdiv (64 : Int)))).bind fun y4 =>
        v6[(IntKind.i64.wrap (v2.tdiv (64 : Int))).toNat]?.bind fun y5 =>
        impl_bitsOf_l0 v0 v1 (IntKind.i64.wrap (v2 + (1 : Int))) v3 v4 v5 (v6.set ((IntKind.i64.wrap (v2.tdiv (64 : Int))).toNat) (IntKind.u64.wrap (((BitVec.ofInt 64 y3) ||| (BitVec.ofInt 64 (IntKind.u64.wrap ((IntKind.u64.wrap y1) * 2 ^ (min (v2.tmod (64 : Int)).toNat 64))))).toNat : Int)))
    else
      some (v5, v6) := (Lw_eq tysOk (getG_con (impl_bitsOf.gok _)) _ _).trans (by kernel_rfl)

/-! ### slices_Grow_int_int: slices.Grow[[]int,int] (by hand) -/
def slices_Grow_int_int.ms : List Mode := [.give, .lend]
def slices_Grow_int_int.as : List VSh := [.one (.b (.b (.b (.b (.sl true true 3))))), .one (.b (.b (.b (.b (.int .i64)))))]
def slices_Grow_int_int.rs : RSh := ⟨[.one (.b (.b (.b (.b (.sl true true 3)))))], [none, none]⟩
noncomputable def slices_Grow_int_int (x0 : List Int) (x1 : Int) : Option (List Int) := growF 8 (x0, x1)
noncomputable def slices_Grow_int_int.fn : Args tab slices_Grow_int_int.as → Option (ResT tab slices_Grow_int_int.rs) := fun x => slices_Grow_int_int x.1 x.2
noncomputable abbrev slices_Grow_int_int.k {δ : Type} : Callee (GT tab) δ := calleeS tab slices_Grow_int_int.ms slices_Grow_int_int.as slices_Grow_int_int.rs slices_Grow_int_int.fn
theorem slices_Grow_int_int.con {δ : Type} : Con Tryz.prog (KT tab) 214 (slices_Grow_int_int.k (δ := δ)) := con_grow2 Tryz.laysGrow214 rfl rfl (ty := tyOf tys) tysOk (e := 3) rfl (by decide) rfl rfl

noncomputable abbrev slices_Concat_int_int.s : Sg := ⟨[.lend], [vl 24], ⟨[vo 3], [none]⟩, Tryz.f191⟩
noncomputable def slices_Concat_int_int.gs (δ : Type) : List (Nat × Callee (GT tab) δ) := [(214, slices_Grow_int_int.k)]
theorem slices_Concat_int_int.gok (δ : Type) : AllCon Tryz.prog tab (slices_Concat_int_int.gs δ) := .cons slices_Grow_int_int.con .nil
noncomputable def slices_Concat_int_int.c := cx slices_Concat_int_int.s [] [(3, [0, 3, 9, 10, 11]), (11, [6, 25, 26, 27])] false (slices_Concat_int_int.gs _)
noncomputable def slices_Concat_int_int (x0 : List (List Int)) : Option (List Int) := fnW slices_Concat_int_int.s slices_Concat_int_int.c x0
theorem slices_Concat_int_int.fok : FkS slices_Concat_int_int.s 191 := ⟨Tryz.func191, by kernel_rfl, by kernel_rfl⟩
noncomputable def slices_Concat_int_int.fn (x : Args tab slices_Concat_int_int.s.ar) : Option (ResT tab slices_Concat_int_int.s.rs) := slices_Concat_int_int x
noncomputable abbrev slices_Concat_int_int.k {δ : Type} : Callee (GT tab) δ := kS slices_Concat_int_int.s slices_Concat_int_int.fn
theorem slices_Concat_int_int.con {δ : Type} : Con Tryz.prog (KT tab) 191 (slices_Concat_int_int.k (δ := δ)) := con_shape (c := slices_Concat_int_int.c) mixed tysOk (getG_con (slices_Concat_int_int.gok _)) slices_Concat_int_int.fok rfl rfl fun _ => rfl
noncomputable def slices_Concat_int_int_l0 (v0 : List (List Int)) (v1 : Int) (v2 : List (List Int)) (v3 v4 : Int) : Option (List Int) := lpW slices_Concat_int_int.s slices_Concat_int_int.c 0 (ud 24 [.vs false 24 v0, .undef, .undef, .int .i64 v1, .undef, .undef, .undef, .undef, .undef, .vs false 24 v2, .int .i64 v3, .int .i64 v4]) [] 0
noncomputable def slices_Concat_int_int_l1 (v0 : List (List Int)) (v1 v2 : Int) (v3 : List Int) : Option (List Int) := lpW slices_Concat_int_int.s slices_Concat_int_int.c 1 (ud 8 [.undef, .undef, .undef, .undef, .undef, .undef, .sl 0 0, .undef, .undef, .undef, .undef, .undef, .undef, .undef, .undef, .undef, .undef, .undef, .undef, .undef, .undef, .undef, .undef, .undef, .undef, .vs false 24 v0, .int .i64 v1, .int .i64 v2]) [.row 0 true 3 v3] 1
theorem slices_Concat_int_int.eq (x0 : List (List Int)) : slices_Concat_int_int x0 =
    slices_Concat_int_int_l0 x0 (0 : Int) x0 (x0.length : Int) (0 : Int) := by kernel_rfl
theorem slices_Concat_int_int_l0.eq (v0 : List (List Int)) (v1 : Int) (v2 : List (List Int)) (v3 v4 : Int) : slices_Concat_int_int_l0 v0 v1 v2 v3 v4 =
    bif decide (v4 < v3) then
      (at? v2 v4).bind fun y1 =>
      bif decide (IntKind.i64.wrap (v1 + (y1.length : Int)) < (0 : Int)) then
        none
      else
        slices_Concat_int_int_l0 v0 (IntKind.i64.wrap (v1 + (y1.length : Int))) v2 v3 (IntKind.i64.wrap (v4 + (1 : Int)))
    else
      (slices_Grow_int_int ([] : List Int) v1).bind fun y2 =>
      slices_Concat_int_int_l1 v0 (v0.length : Int) (0 : Int) y2 := (Lw_eq tysOk (getG_con (slices_Concat_int_int.gok _)) _ _).trans (by kernel_rfl)
theorem slices_Concat_int_int_l1.eq (v0 : List (List Int)) (v1 v2 : Int) (v3 : List Int) : slices_Concat_int_int_l1 v0 v1 v2 v3 =
    bif decide (v2 < v1) then
      (at? v0 v2).bind fun y1 =>
      bif decide ((v3.length + y1.length) * 8 ≤ 140737488355328) then
        slices_Concat_int_int_l1 v0 v1 (IntKind.i64.wrap (v2 + (1 : Int))) (v3 ++ y1)
      else
        none
    else
      some v3 := (Lw_eq tysOk (getG_con (slices_Concat_int_int.gok _)) _ _).trans (by kernel_rfl)

noncomputable abbrev impl_WaveOf.s : Sg := ⟨[.lend], [vl 3], ⟨[.agg [.int .i64, .sl true true 3, .sl true true 30], vb], [none]⟩, Tryz.f157⟩
noncomputable def impl_WaveOf.gs (δ : Type) : List (Nat × Callee (GT tab) δ) := [(158, impl_bitsOf.k), (188, impl_areAll_int_WaveOf_1.k), (191, slices_Concat_int_int.k)]
theorem impl_WaveOf.gok (δ : Type) : AllCon Tryz.prog tab (impl_WaveOf.gs δ) := .cons impl_bitsOf.con (.cons impl_areAll_int_WaveOf_1.con (.cons slices_Concat_int_int.con .nil))
noncomputable def impl_WaveOf.c := cx impl_WaveOf.s [3] [(3, [0, 2]), (5, [0, 2, 4, 24]), (9, [2, 4, 5, 6, 7, 8, 24, 27, 28, 29])] false (impl_WaveOf.gs _)
noncomputable def impl_WaveOf (x0 : List Int) : Option ((Int × (List Int) × (List (Int × (List Int)))) × Bool) := fnW impl_WaveOf.s impl_WaveOf.c x0
theorem impl_WaveOf.fok : FkS impl_WaveOf.s 157 := ⟨Tryz.func157, by kernel_rfl, by kernel_rfl⟩
noncomputable def impl_WaveOf.fn (x : Args tab impl_WaveOf.s.ar) : Option (ResT tab impl_WaveOf.s.rs) := impl_WaveOf x
noncomputable abbrev impl_WaveOf.k {δ : Type} : Callee (GT tab) δ := kS impl_WaveOf.s impl_WaveOf.fn
theorem impl_WaveOf.con {δ : Type} : Con Tryz.prog (KT tab) 157 (impl_WaveOf.k (δ := δ)) := con_shape (c := impl_WaveOf.c) mixed tysOk (getG_con (impl_WaveOf.gok _)) impl_WaveOf.fok rfl rfl fun _ => rfl
noncomputable def impl_WaveOf_l0 (v0 : List Int) (v1 : Int) (v2 : List Int) (v3 : List (Int × (List Int))) : Option ((Int × (List Int) × (List (Int × (List Int)))) × Bool) := lpW impl_WaveOf.s impl_WaveOf.c 0 (ud 70 [.vs false 3 v0, .undef, .ptr 0 0]) [.box 27 [.int .i64 v1, .sl 1 0, .sl 2 0], .row 0 true 3 v2, .row 0 true 30 v3] 3
noncomputable def impl_WaveOf_l1 (v0 : List Int) (v1 v2 : Int) (v3 : List Int) (v4 : List (Int × (List Int))) (v5 : Int) (v6 : List Int) (v7 : List (Int × (List Int))) : Option ((Int × (List Int) × (List (Int × (List Int)))) × Bool) := lpW impl_WaveOf.s impl_WaveOf.c 1 (ud 48 [.vs false 3 v0, .undef, .ptr 0 0, .undef, .ptr 3 0, .undef, .undef, .undef, .undef, .undef, .undef, .undef, .undef, .undef, .undef, .undef, .undef, .undef, .undef, .undef, .undef, .undef, .undef, .undef, .int .i64 v1]) [.box 27 [.int .i64 v2, .sl 1 0, .sl 2 0], .row 0 true 3 v3, .row 0 true 30 v4, .box 27 [.int .i64 v5, .sl 4 0, .sl 5 0], .row 0 true 3 v6, .row 0 true 30 v7] 6
noncomputable def impl_WaveOf_l2 (v0 v1 : Int) (v2 : List Int) (v3 v4 v5 : Int) (v6 : List Int) (v7 : List (Int × (List Int))) (v8 : Int) (v9 : List Int) (v10 : List (Int × (List Int))) (v11 v12 v13 : List Int) : Option ((Int × (List Int) × (List (Int × (List Int)))) × Bool) := lpW impl_WaveOf.s impl_WaveOf.c 2 (ud 43 [.undef, .undef, .ptr 0 0, .undef, .ptr 3 0, .int .i64 v0, .sl 6 0, .sl 7 0, .sl 8 0, .undef, .undef, .undef, .undef, .undef, .undef, .undef, .undef, .undef, .undef, .undef, .undef, .undef, .undef, .undef, .int .i64 v1, .undef, .undef, .vs false 3 v2, .int .i64 v3, .int .i64 v4]) [.box 27 [.int .i64 v5, .sl 1 0, .sl 2 0], .row 0 true 3 v6, .row 0 true 30 v7, .box 27 [.int .i64 v8, .sl 4 0, .sl 5 0], .row 0 true 3 v9, .row 0 true 30 v10, .row 0 true 3 v11, .row 0 true 3 v12, .row 0 true 3 v13] 9
noncomputable def impl_WaveOf_l3 (v0 : Int) (v1 : List Int) (v2 : Int) (v3 : List Int) (v4 : List (Int × (List Int))) (v5 : Int) (v6 : List Int) (v7 : List (Int × (List Int))) : Option ((Int × (List Int) × (List (Int × (List Int)))) × Bool) := lpW impl_WaveOf.s impl_WaveOf.c 1 (ud 48 [.sl 0 0, .undef, .ptr 1 0, .undef, .ptr 4 0, .undef, .undef, .undef, .undef, .undef, .undef, .undef, .undef, .undef, .undef, .undef, .undef, .undef, .undef, .undef, .undef, .undef, .undef, .undef, .int .i64 v0]) [.row 0 true 3 v1, .box 27 [.int .i64 v2, .sl 2 0, .sl 3 0], .row 0 true 3 v3, .row 0 true 30 v4, .box 27 [.int .i64 v5, .sl 5 0, .sl 6 0], .row 0 true 3 v6, .row 0 true 30 v7] 7
noncomputable def impl_WaveOf_l4 (v0 v1 v2 v3 v4 : Int) (v5 : List Int) (v6 : List (Int × (List Int))) (v7 : Int) (v8 : List Int) (v9 : List (Int × (List Int))) (v10 v11 v12 v13 : List Int) : Option ((Int × (List Int) × (List (Int × (List Int)))) × Bool) := lpW impl_WaveOf.s impl_WaveOf.c 2 (ud 43 [.undef, .undef, .ptr 0 0, .undef, .ptr 3 0, .int .i64 v0, .sl 6 0, .sl 7 0, .sl 8 0, .undef, .undef, .undef, .undef, .undef, .undef, .undef, .undef, .undef, .undef, .undef, .undef, .undef, .undef, .undef, .int .i64 v1, .undef, .undef, .sl 9 0, .int .i64 v2, .int .i64 v3]) [.box 27 [.int .i64 v4, .sl 1 0, .sl 2 0], .row 0 true 3 v5, .row 0 true 30 v6, .box 27 [.int .i64 v7, .sl 4 0, .sl 5 0], .row 0 true 3 v8, .row 0 true 30 v9, .row 0 true 3 v10, .row 0 true 3 v11, .row 0 true 3 v12, .row 0 true 3 v13] 10
theorem impl_WaveOf.eq (x0 : List Int) : impl_WaveOf x0 =
    bif decide ((x0.length : Int) > (1000 : Int)) then
      some (((0 : Int), ([] : List Int), ([] : List (Int × (List Int)))), false)
    else
      (impl_areAll_int_WaveOf_1 x0 ()).bind fun y1 =>
      bif !y1 then
        some (((0 : Int), ([] : List Int), ([] : List (Int × (List Int)))), false)
      else
        impl_WaveOf_l0 x0 (0 : Int) ([] : List Int) ([] : List (Int × (List Int))) := by kernel_rfl
theorem impl_WaveOf_l0.eq (v0 : List Int) (v1 : Int) (v2 : List Int) (v3 : List (Int × (List Int))) : impl_WaveOf_l0 v0 v1 v2 v3 =
    impl_WaveOf_l1 v0 (0 : Int) v1 v2 v3 (v0.length : Int) ([] : List Int) ([] : List (Int × (List Int))) := (Lw_eq tysOk (getG_con (impl_WaveOf.gok _)) _ _).trans (by kernel_rfl)
theorem impl_WaveOf_l1.eq (v0 : List Int) (v1 v2 : Int) (v3 : List Int) (v4 : List (Int × (List Int))) (v5 : Int) (v6 : List Int) (v7 : List (Int × (List Int))) : impl_WaveOf_l1 v0 v1 v2 v3 v4 v5 v6 v7 =
    bif decide (v1 < (9 : Int)) then
      impl_WaveOf_l2 v1 v1 v0 (v0.length : Int) (0 : Int) v2 v3 v4 v5 v6 v7 ([] : List Int) ([] : List Int) ([] : List Int)
    else
      some ((v5, v6, v7), true) := (Lw_eq tysOk (getG_con (impl_WaveOf.gok _)) _ _).trans (by kernel_rfl)
theorem impl_WaveOf_l2.eq (v0 v1 : Int) (v2 : List Int) (v3 v4 v5 : Int) (v6 : List Int) (v7 : List (Int × (List Int))) (v8 : Int) (v9 : List Int) (v10 : List (Int × (List Int))) (v11 v12 v13 : List Int) : impl_WaveOf_l2 v0 v1 v2 v3 v4 v5 v6 v7 v8 v9 v10 v11 v12 v13 =
    bif decide (v4 < v3) then
      (at? v2 v4).bind fun y1 =>
      bif decide (IntKind.i64.wrap ((8 : Int) - v0) < (0 : Int)) then
        none
      else
        bif decide ((v13.length + ([IntKind.i64.wrap (((BitVec.ofInt 64 (y1.fdiv (2 ^ (min (IntKind.i64.wrap ((8 : Int) - v0)).toNat 64)))) &&& (BitVec.ofInt 64 (1 : Int))).toNat : Int)] : List Int).length) * 8 ≤ 140737488355328) then
          bif IntKind.i64.wrap (((BitVec.ofInt 64 (y1.fdiv (2 ^ (min (IntKind.i64.wrap ((8 : Int) - v0)).toNat 64)))) &&& (BitVec.ofInt 64 (1 : Int))).toNat : Int) == (0 : Int) then
            bif decide ((v11.length + ([y1] : List Int).length) * 8 ≤ 140737488355328) then
              impl_WaveOf_l2 v0 v1 v2 v3 (IntKind.i64.wrap (v4 + (1 : Int))) v5 v6 v7 v8 v9 v10 (v11 ++ ([y1] : List Int)) v12 (v13 ++ ([IntKind.i64.wrap (((BitVec.ofInt 64 (y1.fdiv (2 ^ (min (IntKind.i64.wrap ((8 : Int) - v0)).toNat 64)))) &&& (BitVec.ofInt 64 (1 : Int))).toNat : Int)] : List Int))
            else
              none
          else
            bif decide ((v12.length + ([y1] : List Int).length) * 8 ≤ 140737488355328) then
              impl_WaveOf_l2 v0 v1 v2 v3 (IntKind.i64.wrap (v4 + (1 : Int))) v5 v6 v7 v8 v9 v10 v11 (v12 ++ ([y1] : List Int)) (v13 ++ ([IntKind.i64.wrap (((BitVec.ofInt 64 (y1.fdiv (2 ^ (min (IntKind.i64.wrap ((8 : Int) - v0)).toNat 64)))) &&& (BitVec.ofInt 64 (1 : Int))).toNat : Int)] : List Int))
            else
              none
        else
          none
    else
      bif decide ((v9.length + ([(v11.length : Int)] : List Int).length) * 8 ≤ 140737488355328) then
        (impl_bitsOf v13).bind fun y2 =>
        bif decide ((v10.length + ([(y2.1, y2.2)] : List (Int × (List Int))).length) * 32 ≤ 140737488355328) then
          (slices_Concat_int_int ([v11, v12] : List (List Int))).bind fun y3 =>
          impl_WaveOf_l3 (IntKind.i64.wrap (v1 + (1 : Int))) y3 v5 v6 v7 v8 (v9 ++ ([(v11.length : Int)] : List Int)) (v10 ++ ([(y2.1, y2.2)] : List (Int × (List Int))))
        else
          none
      else
        none := (Lw_eq tysOk (getG_con (impl_WaveOf.gok _)) _ _).trans (by kernel_rfl)
theorem impl_WaveOf_l3.eq (v0 : Int) (v1 : List Int) (v2 : Int) (v3 : List Int) (v4 : List (Int × (List Int))) (v5 : Int) (v6 : List Int) (v7 : List (Int × (List Int))) : impl_WaveOf_l3 v0 v1 v2 v3 v4 v5 v6 v7 =
    bif decide (v0 < (9 : Int)) then
      impl_WaveOf_l4 v0 v0 (v1.length : Int) (0 : Int) v2 v3 v4 v5 v6 v7 ([] : List Int) ([] : List Int) ([] : List Int) v1
    else
      some ((v5, v6, v7), true) := (Lw_eq tysOk (getG_con (impl_WaveOf.gok _)) _ _).trans (by kernel_rfl)
theorem impl_WaveOf_l4.eq (v0 v1 v2 v3 v4 : Int) (v5 : List Int) (v6 : List (Int × (List Int))) (v7 : Int) (v8 : List Int) (v9 : List (Int × (List Int))) (v10 v11 v12 v13 : List Int) : impl_WaveOf_l4 v0 v1 v2 v3 v4 v5 v6 v7 v8 v9 v10 v11 v12 v13 =
    bif decide (v3 < v2) then
      (at? v13 v3).bind fun y1 =>
      v13[v3.toNat]?.bind fun y2 =>
      bif decide (IntKind.i64.wrap ((8 : Int) - v0) < (0 : Int)) then
        none
      else
        bif decide ((v12.length + ([IntKind.i64.wrap (((BitVec.ofInt 64 (y2.fdiv (2 ^ (min (IntKind.i64.wrap ((8 : Int) - v0)).toNat 64)))) &&& (BitVec.ofInt 64 (1 : Int))).toNat : Int)] : List Int).length) * 8 ≤ 140737488355328) then
          bif IntKind.i64.wrap (((BitVec.ofInt 64 (y2.fdiv (2 ^ (min (IntKind.i64.wrap ((8 : Int) - v0)).toNat 64)))) &&& (BitVec.ofInt 64 (1 : Int))).toNat : Int) == (0 : Int) then
            bif decide ((v10.length + ([y2] : List Int).length) * 8 ≤ 140737488355328) then
              impl_WaveOf_l4 v0 v1 v2 (IntKind.i64.wrap (v3 + (1 : Int))) v4 v5 v6 v7 v8 v9 (v10 ++ ([y2] : List Int)) v11 (v12 ++ ([IntKind.i64.wrap (((BitVec.ofInt 64 (y2.fdiv (2 ^ (min (IntKind.i64.wrap ((8 : Int) - v0)).toNat 64)))) &&& (BitVec.ofInt 64 (1 : Int))).toNat : Int)] : List Int)) v13
            else
              none
          else
            bif decide ((v11.length + ([y2] : List Int).length) * 8 ≤ 140737488355328) then
              impl_WaveOf_l4 v0 v1 v2 (IntKind.i64.wrap (v3 + (1 : Int))) v4 v5 v6 v7 v8 v9 v10 (v11 ++ ([y2] : List Int)) (v12 ++ ([IntKind.i64.wrap (((BitVec.ofInt 64 (y2.fdiv (2 ^ (min (IntKind.i64.wrap ((8 : Int) - v0)).toNat 64)))) &&& (BitVec.ofInt 64 (1 : Int))).toNat : Int)] : List Int)) v13
            else
              none
        else
          none
    else
      bif decide ((v8.length + ([(v10.length : Int)] : List Int).length) * 8 ≤ 140737488355328) then
        (impl_bitsOf v12).bind fun y3 =>
        bif decide ((v9.length + ([(y3.1, y3.2)] : List (Int × (List Int))).length) * 32 ≤ 140737488355328) then
          (slices_Concat_int_int ([v10, v11] : List (List Int))).bind fun y4 =>
          impl_WaveOf_l3 (IntKind.i64.wrap (v1 + (1 : Int))) y4 v4 v5 v6 v7 (v8 ++ ([(v10.length : Int)] : List Int)) (v9 ++ ([(y3.1, y3.2)] : List (Int × (List Int))))
        else
          none
      else
        none := (Lw_eq tysOk (getG_con (impl_WaveOf.gok _)) _ _).trans (by kernel_rfl)

noncomputable abbrev impl_inverse.s : Sg := ⟨[.lend], [vl 3], ⟨[vo 3], [none]⟩, Tryz.f75⟩
noncomputable def impl_inverse.gs (δ : Type) : List (Nat × Callee (GT tab) δ) := []
theorem impl_inverse.gok (δ : Type) : AllCon Tryz.prog tab (impl_inverse.gs δ) := .nil
noncomputable def impl_inverse.c := cx impl_inverse.s [] [(3, [3, 9, 10, 11])] false (impl_inverse.gs _)
noncomputable def impl_inverse (x0 : List Int) : Option (List Int) := fnW impl_inverse.s impl_inverse.c x0
theorem impl_inverse.fok : FkS impl_inverse.s 75 := ⟨Tryz.func75, by kernel_rfl, by kernel_rfl⟩
noncomputable def impl_inverse.fn (x : Args tab impl_inverse.s.ar) : Option (ResT tab impl_inverse.s.rs) := impl_inverse x
noncomputable abbrev impl_inverse.k {δ : Type} : Callee (GT tab) δ := kS impl_inverse.s impl_inverse.fn
theorem impl_inverse.con {δ : Type} : Con Tryz.prog (KT tab) 75 (impl_inverse.k (δ := δ)) := con_shape (c := impl_inverse.c) mixed tysOk (getG_con (impl_inverse.gok _)) impl_inverse.fok rfl rfl fun _ => rfl
noncomputable def impl_inverse_l0 (v0 : List Int) (v1 v2 : Int) (v3 : List Int) : Option (List Int) := lpW impl_inverse.s impl_inverse.c 0 (ud 10 [.undef, .undef, .undef, .sl 0 0, .undef, .undef, .undef, .undef, .undef, .vs false 3 v0, .int .i64 v1, .int .i64 v2]) [.row 0 true 3 v3] 1
theorem impl_inverse.eq (x0 : List Int) : impl_inverse x0 =
    bif decide ((0 : Int) ≤ (x0.length : Int)) && decide (((x0.length : Int).toNat) * 8 ≤ 140737488355328) then
      impl_inverse_l0 x0 (x0.length : Int) (0 : Int) (List.replicate ((x0.length : Int).toNat) (0 : Int))
    else
      none := by kernel_rfl
theorem impl_inverse_l0.eq (v0 : List Int) (v1 v2 : Int) (v3 : List Int) : impl_inverse_l0 v0 v1 v2 v3 =
    bif decide (v2 < v1) then
      (at? v0 v2).bind fun y1 =>
      (at? v3 y1).bind fun y2 =>
      v3[y1.toNat]?.bind fun y3 =>
      impl_inverse_l0 v0 v1 (IntKind.i64.wrap (v2 + (1 : Int))) (v3.set y1.toNat v2)
    else
      some v3 := (Lw_eq tysOk (getG_con (impl_inverse.gok _)) _ _).trans (by kernel_rfl)

noncomputable abbrev bits_Len64.s : Sg := ⟨[.lend], [.one (.b (.b (.b (.b (.int .u64)))))], ⟨[vi], [none]⟩, Tryz.f211⟩
noncomputable def bits_Len64.gs (δ : Type) : List (Nat × Callee (GT tab) δ) := []
theorem bits_Len64.gok (δ : Type) : AllCon Tryz.prog tab (bits_Len64.gs δ) := .nil
noncomputable def bits_Len64.c := cx bits_Len64.s [4, 7] [(4, [0, 2]), (7, [0, 2])] false (bits_Len64.gs _)
noncomputable def bits_Len64 (x0 : Int) : Option (Int) := fnW bits_Len64.s bits_Len64.c x0
theorem bits_Len64.fok : FkS bits_Len64.s 211 := ⟨Tryz.func211, by kernel_rfl, by kernel_rfl⟩
noncomputable def bits_Len64.fn (x : Args tab bits_Len64.s.ar) : Option (ResT tab bits_Len64.s.rs) := bits_Len64 x
noncomputable abbrev bits_Len64.k {δ : Type} : Callee (GT tab) δ := kS bits_Len64.s bits_Len64.fn
theorem bits_Len64.con {δ : Type} : Con Tryz.prog (KT tab) 211 (bits_Len64.k (δ := δ)) := con_shape (c := bits_Len64.c) mixed tysOk (getG_con (bits_Len64.gok _)) bits_Len64.fok rfl rfl fun _ => rfl
noncomputable def bits_Len64_l0 (v0 v1 : Int) : Option (Int) := lpW bits_Len64.s bits_Len64.c 0 (ud 22 [.int .u64 v0, .undef, .int .i64 v1]) [] 0
noncomputable def bits_Len64_l1 (v0 v1 : Int) : Option (Int) := lpW bits_Len64.s bits_Len64.c 1 (ud 22 [.int .u64 v0, .undef, .int .i64 v1]) [] 0
theorem bits_Len64.eq (x0 : Int) : bits_Len64 x0 =
    bif decide (x0 ≥ (4294967296 : Int)) then
      bits_Len64_l0 (x0.fdiv (2 ^ 32)) (32 : Int)
    else
      bits_Len64_l0 x0 (0 : Int) := by kernel_rfl
theorem bits_Len64_l0.eq (v0 v1 : Int) : bits_Len64_l0 v0 v1 =
    bif decide (v0 ≥ (65536 : Int)) then
      bits_Len64_l1 (v0.fdiv (2 ^ 16)) (IntKind.i64.wrap (v1 + (16 : Int)))
    else
      bits_Len64_l1 v0 v1 := (Lw_eq tysOk (getG_con (bits_Len64.gok _)) _ _).trans (by kernel_rfl)
theorem bits_Len64_l1.eq (v0 v1 : Int) : bits_Len64_l1 v0 v1 =
    bif decide (v0 ≥ (256 : Int)) then
      (at? ((⟨(List.toArray ([0, 1, 2, 2, 3, 3, 3, 3, 4, 4, 4, 4, 4, 4, 4, 4, 5, 5, 5, 5, 5, 5, 5, 5, 5, 5, 5, 5, 5, 5, 5, 5, 6, 6, 6, 6, 6, 6, 6, 6, 6, 6, 6, 6, 6, 6, 6, 6, 6, 6, 6, 6, 6, 6, 6, 6, 6, 6, 6, 6, 6, 6, 6, 6, 7, 7, 7, 7, 7, 7, 7, 7, 7, 7, 7, 7, 7, 7, 7, 7, 7, 7, 7, 7, 7, 7, 7, 7, 7, 7, 7, 7, 7, 7, 7, 7, 7, 7, 7, 7, 7, 7, 7, 7, 7, 7, 7, 7, 7, 7, 7, 7, 7, 7, 7, 7, 7, 7, 7, 7, 7, 7, 7, 7, 7, 7, 7, 7] ++ [8, 8, 8, 8, 8, 8, 8, 8, 8, 8, 8, 8, 8, 8, 8, 8, 8, 8, 8, 8, 8, 8, 8, 8, 8, 8, 8, 8, 8, 8, 8, 8, 8, 8, 8, 8, 8, 8, 8, 8, 8, 8, 8, 8, 8, 8, 8, 8, 8, 8, 8, 8, 8, 8, 8, 8, 8, 8, 8, 8, 8, 8, 8, 8, 8, 8, 8, 8, 8, 8, 8, 8, 8, 8, 8, 8, 8, 8, 8, 8, 8, 8, 8, 8, 8, 8, 8, 8, 8, 8, 8, 8, 8, 8, 8, 8, 8, 8, 8, 8, 8, 8, 8, 8, 8, 8, 8, 8, 8, 8, 8, 8, 8, 8, 8, 8, 8, 8, 8, 8, 8, 8, 8, 8, 8, 8, 8, 8]))⟩ : ByteArray).data.toList) (IntKind.u8.wrap (v0.fdiv (2 ^ 8)))).bind fun y1 =>
      some (IntKind.i64.wrap ((IntKind.i64.wrap (v1 + (8 : Int))) + (IntKind.i64.wrap (y1.toNat : Int))))
    else
      (at? ((⟨(List.toArray ([0, 1, 2, 2, 3, 3, 3, 3, 4, 4, 4, 4, 4, 4, 4, 4, 5, 5, 5, 5, 5, 5, 5, 5, 5, 5, 5, 5, 5, 5, 5, 5, 6, 6, 6, 6, 6, 6, 6, 6, 6, 6, 6, 6, 6, 6, 6, 6, 6, 6, 6, 6, 6, 6, 6, 6, 6, 6, 6, 6, 6, 6, 6, 6, 7, 7, 7, 7, 7, 7, 7, 7, 7, 7, 7, 7, 7, 7, 7, 7, 7, 7, 7, 7, 7, 7, 7, 7, 7, 7, 7, 7, 7, 7, 7, 7, 7, 7, 7, 7, 7, 7, 7, 7, 7, 7, 7, 7, 7, 7, 7, 7, 7, 7, 7, 7, 7, 7, 7, 7, 7, 7, 7, 7, 7, 7, 7, 7] ++ [8, 8, 8, 8, 8, 8, 8, 8, 8, 8, 8, 8, 8, 8, 8, 8, 8, 8, 8, 8, 8, 8, 8, 8, 8, 8, 8, 8, 8, 8, 8, 8, 8, 8, 8, 8, 8, 8, 8, 8, 8, 8, 8, 8, 8, 8, 8, 8, 8, 8, 8, 8, 8, 8, 8, 8, 8, 8, 8, 8, 8, 8, 8, 8, 8, 8, 8, 8, 8, 8, 8, 8, 8, 8, 8, 8, 8, 8, 8, 8, 8, 8, 8, 8, 8, 8, 8, 8, 8, 8, 8, 8, 8, 8, 8, 8, 8, 8, 8, 8, 8, 8, 8, 8, 8, 8, 8, 8, 8, 8, 8, 8, 8, 8, 8, 8, 8, 8, 8, 8, 8, 8, 8, 8, 8, 8, 8, 8]))⟩ : ByteArray).data.toList) (IntKind.u8.wrap v0)).bind fun y2 =>
      some (IntKind.i64.wrap (v1 + (IntKind.i64.wrap (y2.toNat : Int)))) := (Lw_eq tysOk (getG_con (bits_Len64.gok _)) _ _).trans (by kernel_rfl)

noncomputable abbrev bits_Len.s : Sg := ⟨[.lend], [.one (.b (.b (.b (.b (.int .u64)))))], ⟨[vi], [none]⟩, Tryz.f184⟩
noncomputable def bits_Len.gs (δ : Type) : List (Nat × Callee (GT tab) δ) := [(211, bits_Len64.k)]
theorem bits_Len.gok (δ : Type) : AllCon Tryz.prog tab (bits_Len.gs δ) := .cons bits_Len64.con .nil
noncomputable def bits_Len.c := cx bits_Len.s [] [] false (bits_Len.gs _)
noncomputable def bits_Len (x0 : Int) : Option (Int) := fnW bits_Len.s bits_Len.c x0
theorem bits_Len.fok : FkS bits_Len.s 184 := ⟨Tryz.func184, by kernel_rfl, by kernel_rfl⟩
noncomputable def bits_Len.fn (x : Args tab bits_Len.s.ar) : Option (ResT tab bits_Len.s.rs) := bits_Len x
noncomputable abbrev bits_Len.k {δ : Type} : Callee (GT tab) δ := kS bits_Len.s bits_Len.fn
theorem bits_Len.con {δ : Type} : Con Tryz.prog (KT tab) 184 (bits_Len.k (δ := δ)) := con_shape (c := bits_Len.c) mixed tysOk (getG_con (bits_Len.gok _)) bits_Len.fok rfl rfl fun _ => rfl
theorem bits_Len.eq (x0 : Int) : bits_Len x0 =
    (bits_Len64 x0).bind fun y1 =>
    some y1 := by kernel_rfl

noncomputable abbrev impl_WidthOf.s : Sg := ⟨[.lend], [vi], ⟨[vi], [none]⟩, Tryz.f160⟩
noncomputable def impl_WidthOf.gs (δ : Type) : List (Nat × Callee (GT tab) δ) := [(184, bits_Len.k)]
theorem impl_WidthOf.gok (δ : Type) : AllCon Tryz.prog tab (impl_WidthOf.gs δ) := .cons bits_Len.con .nil
noncomputable def impl_WidthOf.c := cx impl_WidthOf.s [] [] false (impl_WidthOf.gs _)
noncomputable def impl_WidthOf (x0 : Int) : Option (Int) := fnW impl_WidthOf.s impl_WidthOf.c x0
theorem impl_WidthOf.fok : FkS impl_WidthOf.s 160 := ⟨Tryz.func160, by kernel_rfl, by kernel_rfl⟩
noncomputable def impl_WidthOf.fn (x : Args tab impl_WidthOf.s.ar) : Option (ResT tab impl_WidthOf.s.rs) := impl_WidthOf x
noncomputable abbrev impl_WidthOf.k {δ : Type} : Callee (GT tab) δ := kS impl_WidthOf.s impl_WidthOf.fn
theorem impl_WidthOf.con {δ : Type} : Con Tryz.prog (KT tab) 160 (impl_WidthOf.k (δ := δ)) := con_shape (c := impl_WidthOf.c) mixed tysOk (getG_con (impl_WidthOf.gok _)) impl_WidthOf.fok rfl rfl fun _ => rfl
theorem impl_WidthOf.eq (x0 : Int) : impl_WidthOf x0 =
    bif decide (x0 < (0 : Int)) then
      some (-1 : Int)
    else
      (bits_Len (IntKind.u64.wrap x0)).bind fun y1 =>
      some y1 := by kernel_rfl

noncomputable abbrev impl_PackOf_1.s : Sg := ⟨[.lend, .lend], [vi, .one (.ptr false 0 [.b (.b (.b (.int .i64)))])], ⟨[vb], [none, none]⟩, Tryz.f192⟩
noncomputable def impl_PackOf_1.gs (δ : Type) : List (Nat × Callee (GT tab) δ) := [(63, impl_within.k)]
theorem impl_PackOf_1.gok (δ : Type) : AllCon Tryz.prog tab (impl_PackOf_1.gs δ) := .cons impl_within.con .nil
noncomputable def impl_PackOf_1.c := cx impl_PackOf_1.s [] [] false (impl_PackOf_1.gs _)
noncomputable def impl_PackOf_1 (x0 x1 : Int) : Option (Bool) := fnW impl_PackOf_1.s impl_PackOf_1.c (x0, x1)
theorem impl_PackOf_1.fok : FkS impl_PackOf_1.s 192 := ⟨Tryz.func192, by kernel_rfl, by kernel_rfl⟩
noncomputable def impl_PackOf_1.fn (x : Args tab impl_PackOf_1.s.ar) : Option (ResT tab impl_PackOf_1.s.rs) := impl_PackOf_1 x.1 x.2
noncomputable abbrev impl_PackOf_1.k {δ : Type} : Callee (GT tab) δ := kS impl_PackOf_1.s impl_PackOf_1.fn
theorem impl_PackOf_1.con {δ : Type} : Con Tryz.prog (KT tab) 192 (impl_PackOf_1.k (δ := δ)) := con_shape (c := impl_PackOf_1.c) mixed tysOk (getG_con (impl_PackOf_1.gok _)) impl_PackOf_1.fok rfl rfl fun _ => rfl
theorem impl_PackOf_1.eq (x0 x1 : Int) : impl_PackOf_1 x0 x1 =
    bif decide (x1 < (0 : Int)) then
      none
    else
      (impl_within x0 (0 : Int) (IntKind.i64.wrap ((IntKind.i64.wrap ((1 : Int) * 2 ^ (min x1.toNat 64))) - (1 : Int)))).bind fun y1 =>
      some y1 := by kernel_rfl

noncomputable abbrev impl_areAll_int_1_PackOf_1.s : Sg := ⟨[.lend, .lend], [vi, .one (.ptr false 0 [.fn 192 [.ptr false 0 [.b (.int .i64)]]])], ⟨[vb], [none, none]⟩, Tryz.f213⟩
noncomputable def impl_areAll_int_1_PackOf_1.gs (δ : Type) : List (Nat × Callee (GT tab) δ) := [(192, impl_PackOf_1.k)]
theorem impl_areAll_int_1_PackOf_1.gok (δ : Type) : AllCon Tryz.prog tab (impl_areAll_int_1_PackOf_1.gs δ) := .cons impl_PackOf_1.con .nil
noncomputable def impl_areAll_int_1_PackOf_1.c := cx impl_areAll_int_1_PackOf_1.s [] [] false (impl_areAll_int_1_PackOf_1.gs _)
noncomputable def impl_areAll_int_1_PackOf_1 (x0 x1 : Int) : Option (Bool) := fnW impl_areAll_int_1_PackOf_1.s impl_areAll_int_1_PackOf_1.c (x0, x1)
theorem impl_areAll_int_1_PackOf_1.fok : FkS impl_areAll_int_1_PackOf_1.s 213 := ⟨Tryz.func213, by kernel_rfl, by kernel_rfl⟩
noncomputable def impl_areAll_int_1_PackOf_1.fn (x : Args tab impl_areAll_int_1_PackOf_1.s.ar) : Option (ResT tab impl_areAll_int_1_PackOf_1.s.rs) := impl_areAll_int_1_PackOf_1 x.1 x.2
noncomputable abbrev impl_areAll_int_1_PackOf_1.k {δ : Type} : Callee (GT tab) δ := kS impl_areAll_int_1_PackOf_1.s impl_areAll_int_1_PackOf_1.fn
theorem impl_areAll_int_1_PackOf_1.con {δ : Type} : Con Tryz.prog (KT tab) 213 (impl_areAll_int_1_PackOf_1.k (δ := δ)) := con_shape (c := impl_areAll_int_1_PackOf_1.c) mixed tysOk (getG_con (impl_areAll_int_1_PackOf_1.gok _)) impl_areAll_int_1_PackOf_1.fok rfl rfl fun _ => rfl
theorem impl_areAll_int_1_PackOf_1.eq (x0 x1 : Int) : impl_areAll_int_1_PackOf_1 x0 x1 =
    (impl_PackOf_1 x0 x1).bind fun y1 =>
    some (!y1) := by kernel_rfl

noncomputable abbrev slices_IndexFunc_int_int_areAll_int_1_PackOf_1.s : Sg := ⟨[.lend, .lend], [vl 3, .one (.fn 213 [.ptr false 0 [.fn 192 [.ptr false 0 [.int .i64]]]])], ⟨[vi], [none, none]⟩, Tryz.f221⟩
noncomputable def slices_IndexFunc_int_int_areAll_int_1_PackOf_1.gs (δ : Type) : List (Nat × Callee (GT tab) δ) := [(213, impl_areAll_int_1_PackOf_1.k)]
theorem slices_IndexFunc_int_int_areAll_int_1_PackOf_1.gok (δ : Type) : AllCon Tryz.prog tab (slices_IndexFunc_int_int_areAll_int_1_PackOf_1.gs δ) := .cons impl_areAll_int_1_PackOf_1.con .nil
noncomputable def slices_IndexFunc_int_int_areAll_int_1_PackOf_1.c := cx slices_IndexFunc_int_int_areAll_int_1_PackOf_1.s [] [(2, [0, 1, 7, 8])] false (slices_IndexFunc_int_int_areAll_int_1_PackOf_1.gs _)
noncomputable def slices_IndexFunc_int_int_areAll_int_1_PackOf_1 (x0 : List Int) (x1 : Int) : Option (Int) := fnW slices_IndexFunc_int_int_areAll_int_1_PackOf_1.s slices_IndexFunc_int_int_areAll_int_1_PackOf_1.c (x0, x1)
theorem slices_IndexFunc_int_int_areAll_int_1_PackOf_1.fok : FkS slices_IndexFunc_int_int_areAll_int_1_PackOf_1.s 221 := ⟨Tryz.func221, by kernel_rfl, by kernel_rfl⟩
noncomputable def slices_IndexFunc_int_int_areAll_int_1_PackOf_1.fn (x : Args tab slices_IndexFunc_int_int_areAll_int_1_PackOf_1.s.ar) : Option (ResT tab slices_IndexFunc_int_int_areAll_int_1_PackOf_1.s.rs) := slices_IndexFunc_int_int_areAll_int_1_PackOf_1 x.1 x.2
noncomputable abbrev slices_IndexFunc_int_int_areAll_int_1_PackOf_1.k {δ : Type} : Callee (GT tab) δ := kS slices_IndexFunc_int_int_areAll_int_1_PackOf_1.s slices_IndexFunc_int_int_areAll_int_1_PackOf_1.fn
theorem slices_IndexFunc_int_int_areAll_int_1_PackOf_1.con {δ : Type} : Con Tryz.prog (KT tab) 221 (slices_IndexFunc_int_int_areAll_int_1_PackOf_1.k (δ := δ)) := con_shape (c := slices_IndexFunc_int_int_areAll_int_1_PackOf_1.c) mixed tysOk (getG_con (slices_IndexFunc_int_int_areAll_int_1_PackOf_1.gok _)) slices_IndexFunc_int_int_areAll_int_1_PackOf_1.fok rfl rfl fun _ => rfl
noncomputable def slices_IndexFunc_int_int_areAll_int_1_PackOf_1_l0 (v0 : List Int) (v1 v2 v3 : Int) : Option (Int) := lpW slices_IndexFunc_int_int_areAll_int_1_PackOf_1.s slices_IndexFunc_int_int_areAll_int_1_PackOf_1.c 0 (ud 10 [.vs false 3 v0, .fn 213 [.vp [.fn 192 [.ptr false 0 [.int .i64 v1]]]], .undef, .undef, .undef, .undef, .undef, .int .i64 v2, .int .i64 v3]) [] 0
theorem slices_IndexFunc_int_int_areAll_int_1_PackOf_1.eq (x0 : List Int) (x1 : Int) : slices_IndexFunc_int_int_areAll_int_1_PackOf_1 x0 x1 =
    slices_IndexFunc_int_int_areAll_int_1_PackOf_1_l0 x0 x1 (x0.length : Int) (0 : Int) := by kernel_rfl
theorem slices_IndexFunc_int_int_areAll_int_1_PackOf_1_l0.eq (v0 : List Int) (v1 v2 v3 : Int) : slices_IndexFunc_int_int_areAll_int_1_PackOf_1_l0 v0 v1 v2 v3 =
    bif decide (v3 < v2) then
      (at? v0 v3).bind fun y1 =>
      (impl_areAll_int_1_PackOf_1 y1 v1).bind fun y2 =>
      bif y2 then
        some v3
      else
        slices_IndexFunc_int_int_areAll_int_1_PackOf_1_l0 v0 v1 v2 (IntKind.i64.wrap (v3 + (1 : Int)))
    else
      some (-1 : Int) := (Lw_eq tysOk (getG_con (slices_IndexFunc_int_int_areAll_int_1_PackOf_1.gok _)) _ _).trans (by kernel_rfl)

noncomputable abbrev slices_ContainsFunc_int_int_areAll_int_1_PackOf_1.s : Sg := ⟨[.lend, .lend], [vl 3, .one (.fn 213 [.ptr false 86 [.fn 192 [.ptr false 0 [.int .i64]]]])], ⟨[vb], [none, none]⟩, Tryz.f212⟩
noncomputable def slices_ContainsFunc_int_int_areAll_int_1_PackOf_1.gs (δ : Type) : List (Nat × Callee (GT tab) δ) := [(221, slices_IndexFunc_int_int_areAll_int_1_PackOf_1.k)]
theorem slices_ContainsFunc_int_int_areAll_int_1_PackOf_1.gok (δ : Type) : AllCon Tryz.prog tab (slices_ContainsFunc_int_int_areAll_int_1_PackOf_1.gs δ) := .cons slices_IndexFunc_int_int_areAll_int_1_PackOf_1.con .nil
noncomputable def slices_ContainsFunc_int_int_areAll_int_1_PackOf_1.c := cx slices_ContainsFunc_int_int_areAll_int_1_PackOf_1.s [] [] false (slices_ContainsFunc_int_int_areAll_int_1_PackOf_1.gs _)
noncomputable def slices_ContainsFunc_int_int_areAll_int_1_PackOf_1 (x0 : List Int) (x1 : Int) : Option (Bool) := fnW slices_ContainsFunc_int_int_areAll_int_1_PackOf_1.s slices_ContainsFunc_int_int_areAll_int_1_PackOf_1.c (x0, x1)
theorem slices_ContainsFunc_int_int_areAll_int_1_PackOf_1.fok : FkS slices_ContainsFunc_int_int_areAll_int_1_PackOf_1.s 212 := ⟨Tryz.func212, by kernel_rfl, by kernel_rfl⟩
noncomputable def slices_ContainsFunc_int_int_areAll_int_1_PackOf_1.fn (x : Args tab slices_ContainsFunc_int_int_areAll_int_1_PackOf_1.s.ar) : Option (ResT tab slices_ContainsFunc_int_int_areAll_int_1_PackOf_1.s.rs) := slices_ContainsFunc_int_int_areAll_int_1_PackOf_1 x.1 x.2
noncomputable abbrev slices_ContainsFunc_int_int_areAll_int_1_PackOf_1.k {δ : Type} : Callee (GT tab) δ := kS slices_ContainsFunc_int_int_areAll_int_1_PackOf_1.s slices_ContainsFunc_int_int_areAll_int_1_PackOf_1.fn
theorem slices_ContainsFunc_int_int_areAll_int_1_PackOf_1.con {δ : Type} : Con Tryz.prog (KT tab) 212 (slices_ContainsFunc_int_int_areAll_int_1_PackOf_1.k (δ := δ)) := con_shape (c := slices_ContainsFunc_int_int_areAll_int_1_PackOf_1.c) mixed tysOk (getG_con (slices_ContainsFunc_int_int_areAll_int_1_PackOf_1.gok _)) slices_ContainsFunc_int_int_areAll_int_1_PackOf_1.fok rfl rfl fun _ => rfl
theorem slices_ContainsFunc_int_int_areAll_int_1_PackOf_1.eq (x0 : List Int) (x1 : Int) : slices_ContainsFunc_int_int_areAll_int_1_PackOf_1 x0 x1 =
    (slices_IndexFunc_int_int_areAll_int_1_PackOf_1 x0 x1).bind fun y1 =>
    some (decide (y1 ≥ (0 : Int))) := by kernel_rfl

noncomputable abbrev impl_areAll_int_PackOf_1.s : Sg := ⟨[.lend, .lend], [vl 3, .one (.fn 192 [.ptr false 3 [.b (.b (.int .i64))]])], ⟨[vb], [none, none]⟩, Tryz.f188⟩
noncomputable def impl_areAll_int_PackOf_1.gs (δ : Type) : List (Nat × Callee (GT tab) δ) := [(212, slices_ContainsFunc_int_int_areAll_int_1_PackOf_1.k)]
theorem impl_areAll_int_PackOf_1.gok (δ : Type) : AllCon Tryz.prog tab (impl_areAll_int_PackOf_1.gs δ) := .cons slices_ContainsFunc_int_int_areAll_int_1_PackOf_1.con .nil
noncomputable def impl_areAll_int_PackOf_1.c := cx impl_areAll_int_PackOf_1.s [] [] false (impl_areAll_int_PackOf_1.gs _)
noncomputable def impl_areAll_int_PackOf_1 (x0 : List Int) (x1 : Int) : Option (Bool) := fnW impl_areAll_int_PackOf_1.s impl_areAll_int_PackOf_1.c (x0, x1)
theorem impl_areAll_int_PackOf_1.fok : FkS impl_areAll_int_PackOf_1.s 188 := ⟨Tryz.func188, by kernel_rfl, by kernel_rfl⟩
noncomputable def impl_areAll_int_PackOf_1.fn (x : Args tab impl_areAll_int_PackOf_1.s.ar) : Option (ResT tab impl_areAll_int_PackOf_1.s.rs) := impl_areAll_int_PackOf_1 x.1 x.2
noncomputable abbrev impl_areAll_int_PackOf_1.k {δ : Type} : Callee (GT tab) δ := kS impl_areAll_int_PackOf_1.s impl_areAll_int_PackOf_1.fn
theorem impl_areAll_int_PackOf_1.con {δ : Type} : Con Tryz.prog (KT tab) 188 (impl_areAll_int_PackOf_1.k (δ := δ)) := con_shape (c := impl_areAll_int_PackOf_1.c) mixed tysOk (getG_con (impl_areAll_int_PackOf_1.gok _)) impl_areAll_int_PackOf_1.fok rfl rfl fun _ => rfl
theorem impl_areAll_int_PackOf_1.eq (x0 : List Int) (x1 : Int) : impl_areAll_int_PackOf_1 x0 x1 =
    (slices_ContainsFunc_int_int_areAll_int_1_PackOf_1 x0 x1).bind fun y1 =>
    some (!y1) := by kernel_rfl

noncomputable abbrev impl_digits.s : Sg := ⟨[.lend, .lend], [vi, vi], ⟨[vo 3], [none, none]⟩, Tryz.f193⟩
noncomputable def impl_digits.gs (δ : Type) : List (Nat × Callee (GT tab) δ) := []
theorem impl_digits.gok (δ : Type) : AllCon Tryz.prog tab (impl_digits.gs δ) := .nil
noncomputable def impl_digits.c := cx impl_digits.s [] [(3, [0, 5, 6, 7])] false (impl_digits.gs _)
noncomputable def impl_digits (x0 x1 : Int) : Option (List Int) := fnW impl_digits.s impl_digits.c (x0, x1)
theorem impl_digits.fok : FkS impl_digits.s 193 := ⟨Tryz.func193, by kernel_rfl, by kernel_rfl⟩
noncomputable def impl_digits.fn (x : Args tab impl_digits.s.ar) : Option (ResT tab impl_digits.s.rs) := impl_digits x.1 x.2
noncomputable abbrev impl_digits.k {δ : Type} : Callee (GT tab) δ := kS impl_digits.s impl_digits.fn
theorem impl_digits.con {δ : Type} : Con Tryz.prog (KT tab) 193 (impl_digits.k (δ := δ)) := con_shape (c := impl_digits.c) mixed tysOk (getG_con (impl_digits.gok _)) impl_digits.fok rfl rfl fun _ => rfl
noncomputable def impl_digits_l0 (v0 v1 v2 : Int) (v3 : List Int) : Option (List Int) := lpW impl_digits.s impl_digits.c 0 (ud 10 [.int .i64 v0, .undef, .undef, .undef, .undef, .sl 0 0, .int .i64 v1, .int .i64 v2]) [.row 0 true 3 v3] 1
theorem impl_digits.eq (x0 x1 : Int) : impl_digits x0 x1 =
    impl_digits_l0 x0 x1 (0 : Int) ([] : List Int) := by kernel_rfl
theorem impl_digits_l0.eq (v0 v1 v2 : Int) (v3 : List Int) : impl_digits_l0 v0 v1 v2 v3 =
    bif decide (v2 < v1) then
      bif decide ((v3.length + ([IntKind.i64.wrap (((BitVec.ofInt 64 v0) &&& (BitVec.ofInt 64 (1 : Int))).toNat : Int)] : List Int).length) * 8 ≤ 140737488355328) then
        impl_digits_l0 (v0.fdiv (2 ^ 1)) v1 (IntKind.i64.wrap (v2 + (1 : Int))) (v3 ++ ([IntKind.i64.wrap (((BitVec.ofInt 64 v0) &&& (BitVec.ofInt 64 (1 : Int))).toNat : Int)] : List Int))
      else
        none
    else
      some v3 := (Lw_eq tysOk (getG_con (impl_digits.gok _)) _ _).trans (by kernel_rfl)

noncomputable abbrev impl_PackOf.s : Sg := ⟨[.lend, .lend], [vl 3, vi], ⟨[.agg [.int .i64, .int .i64, .int .i64, .sl true true 126], vb], [none, none]⟩, Tryz.f159⟩
noncomputable def impl_PackOf.gs (δ : Type) : List (Nat × Callee (GT tab) δ) := [(63, impl_within.k), (158, impl_bitsOf.k), (188, impl_areAll_int_PackOf_1.k), (193, impl_digits.k)]
theorem impl_PackOf.gok (δ : Type) : AllCon Tryz.prog tab (impl_PackOf.gs δ) := .cons impl_within.con (.cons impl_bitsOf.con (.cons impl_areAll_int_PackOf_1.con (.cons impl_digits.con .nil)))
noncomputable def impl_PackOf.c := cx impl_PackOf.s [3] [(3, [0, 3, 4]), (5, [0, 3, 4, 6, 31, 32, 33])] false (impl_PackOf.gs _)
noncomputable def impl_PackOf (x0 : List Int) (x1 : Int) : Option ((Int × Int × Int × (List Int)) × Bool) := fnW impl_PackOf.s impl_PackOf.c (x0, x1)
theorem impl_PackOf.fok : FkS impl_PackOf.s 159 := ⟨Tryz.func159, by kernel_rfl, by kernel_rfl⟩
noncomputable def impl_PackOf.fn (x : Args tab impl_PackOf.s.ar) : Option (ResT tab impl_PackOf.s.rs) := impl_PackOf x.1 x.2
noncomputable abbrev impl_PackOf.k {δ : Type} : Callee (GT tab) δ := kS impl_PackOf.s impl_PackOf.fn
theorem impl_PackOf.con {δ : Type} : Con Tryz.prog (KT tab) 159 (impl_PackOf.k (δ := δ)) := con_shape (c := impl_PackOf.c) mixed tysOk (getG_con (impl_PackOf.gok _)) impl_PackOf.fok rfl rfl fun _ => rfl
noncomputable def impl_PackOf_l0 (v0 : List Int) (v1 v2 v3 v4 : Int) (v5 : List Int) : Option ((Int × Int × Int × (List Int)) × Bool) := lpW impl_PackOf.s impl_PackOf.c 0 (ud 44 [.vs false 3 v0, .undef, .undef, .ptr 0 0, .ptr 1 0]) [.box 3 [.int .i64 v1], .box 32 [.int .i64 v2, .int .i64 v3, .int .i64 v4, .sl 2 0], .row 0 true 126 v5] 3
noncomputable def impl_PackOf_l1 (v0 v1 : List Int) (v2 v3 v4 v5 v6 v7 : Int) (v8 v9 : List Int) : Option ((Int × Int × Int × (List Int)) × Bool) := lpW impl_PackOf.s impl_PackOf.c 1 (ud 15 [.vs false 3 v0, .undef, .undef, .ptr 0 0, .ptr 1 0, .undef, .sl 3 0, .undef, .undef, .undef, .undef, .undef, .undef, .undef, .undef, .undef, .undef, .undef, .undef, .undef, .undef, .undef, .undef, .undef, .undef, .undef, .undef, .undef, .undef, .undef, .undef, .vs false 3 v1, .int .i64 v2, .int .i64 v3]) [.box 3 [.int .i64 v4], .box 32 [.int .i64 v5, .int .i64 v6, .int .i64 v7, .sl 2 0], .row 0 true 126 v8, .row 0 true 3 v9] 4
theorem impl_PackOf.eq (x0 : List Int) (x1 : Int) : impl_PackOf x0 x1 =
    (impl_within x1 (0 : Int) (32 : Int)).bind fun y1 =>
    bif !y1 then
      some (((0 : Int), (0 : Int), (0 : Int), ([] : List Int)), false)
    else
      bif decide ((x0.length : Int) > (5000 : Int)) then
        some (((0 : Int), (0 : Int), (0 : Int), ([] : List Int)), false)
      else
        bif decide (IntKind.i64.wrap ((x0.length : Int) * x1) > (5000 : Int)) then
          some (((0 : Int), (0 : Int), (0 : Int), ([] : List Int)), false)
        else
          (impl_areAll_int_PackOf_1 x0 x1).bind fun y2 =>
          bif !y2 then
            some (((0 : Int), (0 : Int), (0 : Int), ([] : List Int)), false)
          else
            impl_PackOf_l0 x0 x1 (0 : Int) (0 : Int) (0 : Int) ([] : List Int) := by kernel_rfl
theorem impl_PackOf_l0.eq (v0 : List Int) (v1 v2 v3 v4 : Int) (v5 : List Int) : impl_PackOf_l0 v0 v1 v2 v3 v4 v5 =
    impl_PackOf_l1 v0 v0 (v0.length : Int) (0 : Int) v1 v2 v3 v4 v5 ([] : List Int) := (Lw_eq tysOk (getG_con (impl_PackOf.gok _)) _ _).trans (by kernel_rfl)
theorem impl_PackOf_l1.eq (v0 v1 : List Int) (v2 v3 v4 v5 v6 v7 : Int) (v8 v9 : List Int) : impl_PackOf_l1 v0 v1 v2 v3 v4 v5 v6 v7 v8 v9 =
    bif decide (v3 < v2) then
      (at? v1 v3).bind fun y1 =>
      (impl_digits y1 v4).bind fun y2 =>
      bif decide ((v9.length + y2.length) * 8 ≤ 140737488355328) then
        impl_PackOf_l1 v0 v1 v2 (IntKind.i64.wrap (v3 + (1 : Int))) v4 v5 v6 v7 v8 (v9 ++ y2)
      else
        none
    else
      (impl_bitsOf v9).bind fun y3 =>
      some ((v4, (v0.length : Int), y3.1, y3.2), true) := (Lw_eq tysOk (getG_con (impl_PackOf.gok _)) _ _).trans (by kernel_rfl)

noncomputable abbrev impl_fmOf.s : Sg := ⟨[.lend, .lend], [vl 5, vi], ⟨[.agg [.int .i64, .int .i64, .int .i64, .sl true true 3, .sl true true 30, .sl true true 3, .int .i64, .sl true true 126, .int .i64, .int .i64, .int .i64, .sl true true 126, .int .i64, .int .i64, .int .i64, .sl true true 126]], [none, none]⟩, Tryz.f105⟩
noncomputable def impl_fmOf.gs (δ : Type) : List (Nat × Callee (GT tab) δ) := [(64, impl_suffixRows.k), (69, impl_bwtOf.k), (75, impl_inverse.k), (134, impl_counts.k), (157, impl_WaveOf.k), (158, impl_bitsOf.k), (159, impl_PackOf.k), (160, impl_WidthOf.k)]
theorem impl_fmOf.gok (δ : Type) : AllCon Tryz.prog tab (impl_fmOf.gs δ) := .cons impl_suffixRows.con (.cons impl_bwtOf.con (.cons impl_inverse.con (.cons impl_counts.con (.cons impl_WaveOf.con (.cons impl_bitsOf.con (.cons impl_PackOf.con (.cons impl_WidthOf.con .nil)))))))
noncomputable def impl_fmOf.c := cx impl_fmOf.s [] [(7, [0, 1, 4, 5, 7, 8, 9, 10, 31, 32, 33]), (15, [0, 1, 4, 7, 8, 9, 10, 13, 14])] false (impl_fmOf.gs _)
noncomputable def impl_fmOf (x0 : List Int) (x1 : Int) : Option (Int × Int × Int × (List Int) × (List (Int × (List Int))) × (List Int) × Int × (List Int) × Int × Int × Int × (List Int) × Int × Int × Int × (List Int)) := fnW impl_fmOf.s impl_fmOf.c (x0, x1)
theorem impl_fmOf.fok : FkS impl_fmOf.s 105 := ⟨Tryz.func105, by kernel_rfl, by kernel_rfl⟩
noncomputable def impl_fmOf.fn (x : Args tab impl_fmOf.s.ar) : Option (ResT tab impl_fmOf.s.rs) := impl_fmOf x.1 x.2
noncomputable abbrev impl_fmOf.k {δ : Type} : Callee (GT tab) δ := kS impl_fmOf.s impl_fmOf.fn
theorem impl_fmOf.con {δ : Type} : Con Tryz.prog (KT tab) 105 (impl_fmOf.k (δ := δ)) := con_shape (c := impl_fmOf.c) mixed tysOk (getG_con (impl_fmOf.gok _)) impl_fmOf.fok rfl rfl fun _ => rfl
noncomputable def impl_fmOf_l0 (v0 : List Int) (v1 v2 v3 v4 v5 v6 v7 v8 v9 v10 v11 v12 v13 : Int) (v14 : List Int) (v15 : List (Int × (List Int))) (v16 v17 v18 v19 v20 : List Int) (v21 v22 v23 v24 v25 v26 v27 v28 v29 v30 : Int) (v31 : List Int) (v32 : List (Int × (List Int))) (v33 v34 v35 v36 v37 v38 v39 : List Int) : Option (Int × Int × Int × (List Int) × (List (Int × (List Int))) × (List Int) × Int × (List Int) × Int × Int × Int × (List Int) × Int × Int × Int × (List Int)) := lpW impl_fmOf.s impl_fmOf.c 0 (ud 58 [.vs false 5 v0, .int .i64 v1, .undef, .undef, .ptr 0 0, .sl 7 0, .undef, .ptr 8 0, .sl 15 0, .sl 16 0, .sl 17 0, .undef, .undef, .undef, .undef, .undef, .undef, .undef, .undef, .undef, .undef, .undef, .undef, .undef, .undef, .undef, .undef, .undef, .undef, .undef, .undef, .sl 7 0, .int .i64 v2, .int .i64 v3]) [.box 34 [.int .i64 v4, .int .i64 v5, .int .i64 v6, .sl 1 0, .sl 2 0, .sl 3 0, .int .i64 v7, .sl 4 0, .int .i64 v8, .int .i64 v9, .int .i64 v10, .sl 5 0, .int .i64 v11, .int .i64 v12, .int .i64 v13, .sl 6 0], .row 0 true 3 v14, .row 0 true 30 v15, .row 0 true 3 v16, .row 0 true 126 v17, .row 0 true 126 v18, .row 0 true 126 v19, .row 0 true 3 v20, .box 34 [.int .i64 v21, .int .i64 v22, .int .i64 v23, .sl 9 0, .sl 10 0, .sl 11 0, .int .i64 v24, .sl 12 0, .int .i64 v25, .int .i64 v26, .int .i64 v27, .sl 13 0, .int .i64 v28, .int .i64 v29, .int .i64 v30, .sl 14 0], .row 0 true 3 v31, .row 0 true 30 v32, .row 0 true 3 v33, .row 0 true 126 v34, .row 0 true 126 v35, .row 0 true 126 v36, .row 0 true 3 v37, .row 0 true 3 v38, .row 0 true 3 v39] 18
noncomputable def impl_fmOf_l1 (v0 : List Int) (v1 v2 v3 v4 v5 v6 v7 v8 v9 v10 v11 v12 : Int) (v13 : List Int) (v14 : List (Int × (List Int))) (v15 v16 v17 v18 : List Int) (v19 v20 v21 v22 v23 v24 v25 v26 v27 v28 : Int) (v29 : List Int) (v30 : List (Int × (List Int))) (v31 v32 v33 v34 v35 v36 v37 v38 : List Int) : Option (Int × Int × Int × (List Int) × (List (Int × (List Int))) × (List Int) × Int × (List Int) × Int × Int × Int × (List Int) × Int × Int × Int × (List Int)) := lpW impl_fmOf.s impl_fmOf.c 1 (ud 77 [.vs false 5 v0, .int .i64 v1, .undef, .undef, .ptr 0 0, .undef, .undef, .ptr 7 0, .sl 14 0, .sl 15 0, .sl 16 0, .undef, .undef, .sl 17 0, .int .i64 v2]) [.box 34 [.int .i64 v3, .int .i64 v4, .int .i64 v5, .sl 1 0, .sl 2 0, .sl 3 0, .int .i64 v6, .sl 4 0, .int .i64 v7, .int .i64 v8, .int .i64 v9, .sl 5 0, .int .i64 v10, .int .i64 v11, .int .i64 v12, .sl 6 0], .row 0 true 3 v13, .row 0 true 30 v14, .row 0 true 3 v15, .row 0 true 126 v16, .row 0 true 126 v17, .row 0 true 126 v18, .box 34 [.int .i64 v19, .int .i64 v20, .int .i64 v21, .sl 8 0, .sl 9 0, .sl 10 0, .int .i64 v22, .sl 11 0, .int .i64 v23, .int .i64 v24, .int .i64 v25, .sl 12 0, .int .i64 v26, .int .i64 v27, .int .i64 v28, .sl 13 0], .row 0 true 3 v29, .row 0 true 30 v30, .row 0 true 3 v31, .row 0 true 126 v32, .row 0 true 126 v33, .row 0 true 126 v34, .row 0 true 3 v35, .row 0 true 3 v36, .row 0 true 3 v37, .row 0 true 3 v38] 18
theorem impl_fmOf.eq (x0 : List Int) (x1 : Int) : impl_fmOf x0 x1 =
    (impl_suffixRows x0).bind fun y1 =>
    (impl_bwtOf x0).bind fun y2 =>
    (impl_counts y2).bind fun y3 =>
    (impl_WaveOf y2).bind fun y4 =>
    impl_fmOf_l0 x0 x1 (y1.length : Int) (0 : Int) (0 : Int) (0 : Int) (0 : Int) (0 : Int) (0 : Int) (0 : Int) (0 : Int) (0 : Int) (0 : Int) (0 : Int) ([] : List Int) ([] : List (Int × (List Int))) ([] : List Int) ([] : List Int) ([] : List Int) ([] : List Int) y1 (x0.length : Int) x1 y4.1.1 (0 : Int) (0 : Int) (0 : Int) (0 : Int) (0 : Int) (0 : Int) (0 : Int) y4.1.2.1 y4.1.2.2 y3 ([] : List Int) ([] : List Int) ([] : List Int) ([] : List Int) ([] : List Int) ([] : List Int) := by kernel_rfl
theorem impl_fmOf_l0.eq (v0 : List Int) (v1 v2 v3 v4 v5 v6 v7 v8 v9 v10 v11 v12 v13 : Int) (v14 : List Int) (v15 : List (Int × (List Int))) (v16 v17 v18 v19 v20 : List Int) (v21 v22 v23 v24 v25 v26 v27 v28 v29 v30 : Int) (v31 : List Int) (v32 : List (Int × (List Int))) (v33 v34 v35 v36 v37 v38 v39 : List Int) : impl_fmOf_l0 v0 v1 v2 v3 v4 v5 v6 v7 v8 v9 v10 v11 v12 v13 v14 v15 v16 v17 v18 v19 v20 v21 v22 v23 v24 v25 v26 v27 v28 v29 v30 v31 v32 v33 v34 v35 v36 v37 v38 v39 =
    bif decide (v3 < v2) then
      (at? v20 v3).bind fun y1 =>
      v20[v3.toNat]?.bind fun y2 =>
      bif decide (v1 = (0 : Int)) then
        none
      else
        bif y2.tmod v1 == (0 : Int) then
          bif decide ((v37.length + ([(1 : Int)] : List Int).length) * 8 ≤ 140737488355328) then
            bif decide (v1 = (0 : Int)) then
              none
            else
              bif decide ((v38.length + ([IntKind.i64.wrap (y2.tdiv v1)] : List Int).length) * 8 ≤ 140737488355328) then
                impl_fmOf_l0 v0 v1 v2 (IntKind.i64.wrap (v3 + (1 : Int))) v4 v5 v6 v7 v8 v9 v10 v11 v12 v13 v14 v15 v16 v17 v18 v19 v20 v21 v22 v23 v24 v25 v26 v27 v28 v29 v30 v31 v32 v33 v34 v35 v36 (v37 ++ ([(1 : Int)] : List Int)) (v38 ++ ([IntKind.i64.wrap (y2.tdiv v1)] : List Int)) v39
              else
                none
          else
            none
        else
          bif decide ((v37.length + ([(0 : Int)] : List Int).length) * 8 ≤ 140737488355328) then
            impl_fmOf_l0 v0 v1 v2 (IntKind.i64.wrap (v3 + (1 : Int))) v4 v5 v6 v7 v8 v9 v10 v11 v12 v13 v14 v15 v16 v17 v18 v19 v20 v21 v22 v23 v24 v25 v26 v27 v28 v29 v30 v31 v32 v33 v34 v35 v36 (v37 ++ ([(0 : Int)] : List Int)) v38 v39
          else
            none
    else
      (impl_inverse v20).bind fun y3 =>
      impl_fmOf_l1 v0 v1 (0 : Int) v4 v5 v6 v7 v8 v9 v10 v11 v12 v13 v14 v15 v16 v17 v18 v19 v21 v22 v23 v24 v25 v26 v27 v28 v29 v30 v31 v32 v33 v34 v35 v36 v37 v38 v39 y3 := (Lw_eq tysOk (getG_con (impl_fmOf.gok _)) _ _).trans (by kernel_rfl)
theorem impl_fmOf_l1.eq (v0 : List Int) (v1 v2 v3 v4 v5 v6 v7 v8 v9 v10 v11 v12 : Int) (v13 : List Int) (v14 : List (Int × (List Int))) (v15 v16 v17 v18 : List Int) (v19 v20 v21 v22 v23 v24 v25 v26 v27 v28 : Int) (v29 : List Int) (v30 : List (Int × (List Int))) (v31 v32 v33 v34 v35 v36 v37 v38 : List Int) : impl_fmOf_l1 v0 v1 v2 v3 v4 v5 v6 v7 v8 v9 v10 v11 v12 v13 v14 v15 v16 v17 v18 v19 v20 v21 v22 v23 v24 v25 v26 v27 v28 v29 v30 v31 v32 v33 v34 v35 v36 v37 v38 =
    bif decide (v2 ≤ (v0.length : Int)) then
      (at? v38 v2).bind fun y1 =>
      v38[v2.toNat]?.bind fun y2 =>
      bif decide ((v37.length + ([y2] : List Int).length) * 8 ≤ 140737488355328) then
        impl_fmOf_l1 v0 v1 (IntKind.i64.wrap (v2 + v1)) v3 v4 v5 v6 v7 v8 v9 v10 v11 v12 v13 v14 v15 v16 v17 v18 v19 v20 v21 v22 v23 v24 v25 v26 v27 v28 v29 v30 v31 v32 v33 v34 v35 v36 (v37 ++ ([y2] : List Int)) v38
      else
        none
    else
      (impl_bitsOf v35).bind fun y3 =>
      (impl_WidthOf (v0.length : Int)).bind fun y4 =>
      (impl_PackOf v36 y4).bind fun y5 =>
      (impl_WidthOf (v0.length : Int)).bind fun y6 =>
      (impl_PackOf v37 y6).bind fun y7 =>
      some (v19, v20, v21, v29, v30, v31, y3.1, y3.2, y5.1.1, y5.1.2.1, y5.1.2.2.1, y5.1.2.2.2, y7.1.1, y7.1.2.1, y7.1.2.2.1, y7.1.2.2.2) := (Lw_eq tysOk (getG_con (impl_fmOf.gok _)) _ _).trans (by kernel_rfl)

noncomputable abbrev slices_Equal_uint64_uint64.s : Sg := ⟨[.lend, .lend], [vl 126, vl 126], ⟨[vb], [none, none]⟩, Tryz.f201⟩
noncomputable def slices_Equal_uint64_uint64.gs (δ : Type) : List (Nat × Callee (GT tab) δ) := []
theorem slices_Equal_uint64_uint64.gok (δ : Type) : AllCon Tryz.prog tab (slices_Equal_uint64_uint64.gs δ) := .nil
noncomputable def slices_Equal_uint64_uint64.c := cx slices_Equal_uint64_uint64.s [] [(4, [0, 1, 12, 13])] false (slices_Equal_uint64_uint64.gs _)
noncomputable def slices_Equal_uint64_uint64 (x0 x1 : List Int) : Option (Bool) := fnW slices_Equal_uint64_uint64.s slices_Equal_uint64_uint64.c (x0, x1)
theorem slices_Equal_uint64_uint64.fok : FkS slices_Equal_uint64_uint64.s 201 := ⟨Tryz.func201, by kernel_rfl, by kernel_rfl⟩
noncomputable def slices_Equal_uint64_uint64.fn (x : Args tab slices_Equal_uint64_uint64.s.ar) : Option (ResT tab slices_Equal_uint64_uint64.s.rs) := slices_Equal_uint64_uint64 x.1 x.2
noncomputable abbrev slices_Equal_uint64_uint64.k {δ : Type} : Callee (GT tab) δ := kS slices_Equal_uint64_uint64.s slices_Equal_uint64_uint64.fn
theorem slices_Equal_uint64_uint64.con {δ : Type} : Con Tryz.prog (KT tab) 201 (slices_Equal_uint64_uint64.k (δ := δ)) := con_shape (c := slices_Equal_uint64_uint64.c) mixed tysOk (getG_con (slices_Equal_uint64_uint64.gok _)) slices_Equal_uint64_uint64.fok rfl rfl fun _ => rfl
noncomputable def slices_Equal_uint64_uint64_l0 (v0 v1 : List Int) (v2 v3 : Int) : Option (Bool) := lpW slices_Equal_uint64_uint64.s slices_Equal_uint64_uint64.c 0 (ud 12 [.vs false 126 v0, .vs false 126 v1, .undef, .undef, .undef, .undef, .undef, .undef, .undef, .undef, .undef, .undef, .int .i64 v2, .int .i64 v3]) [] 0
theorem slices_Equal_uint64_uint64.eq (x0 x1 : List Int) : slices_Equal_uint64_uint64 x0 x1 =
    bif (x0.length : Int) != (x1.length : Int) then
      some false
    else
      slices_Equal_uint64_uint64_l0 x0 x1 (x0.length : Int) (0 : Int) := by kernel_rfl
theorem slices_Equal_uint64_uint64_l0.eq (v0 v1 : List Int) (v2 v3 : Int) : slices_Equal_uint64_uint64_l0 v0 v1 v2 v3 =
    bif decide (v3 < v2) then
      (at? v0 v3).bind fun y1 =>
      (at? v1 v3).bind fun y2 =>
      bif y1 != y2 then
        some false
      else
        slices_Equal_uint64_uint64_l0 v0 v1 v2 (IntKind.i64.wrap (v3 + (1 : Int)))
    else
      some true := (Lw_eq tysOk (getG_con (slices_Equal_uint64_uint64.gok _)) _ _).trans (by kernel_rfl)

noncomputable abbrev impl_sameBits.s : Sg := ⟨[.lend, .lend], [.agg [.int .i64, .sl false false 126], .agg [.int .i64, .sl false false 126]], ⟨[vb], [none, none]⟩, Tryz.f179⟩
noncomputable def impl_sameBits.gs (δ : Type) : List (Nat × Callee (GT tab) δ) := [(201, slices_Equal_uint64_uint64.k)]
theorem impl_sameBits.gok (δ : Type) : AllCon Tryz.prog tab (impl_sameBits.gs δ) := .cons slices_Equal_uint64_uint64.con .nil
noncomputable def impl_sameBits.c := cx impl_sameBits.s [] [] false (impl_sameBits.gs _)
noncomputable def impl_sameBits (x0 x1 : Int × (List Int)) : Option (Bool) := fnW impl_sameBits.s impl_sameBits.c (x0, x1)
theorem impl_sameBits.fok : FkS impl_sameBits.s 179 := ⟨Tryz.func179, by kernel_rfl, by kernel_rfl⟩
noncomputable def impl_sameBits.fn (x : Args tab impl_sameBits.s.ar) : Option (ResT tab impl_sameBits.s.rs) := impl_sameBits x.1 x.2
noncomputable abbrev impl_sameBits.k {δ : Type} : Callee (GT tab) δ := kS impl_sameBits.s impl_sameBits.fn
theorem impl_sameBits.con {δ : Type} : Con Tryz.prog (KT tab) 179 (impl_sameBits.k (δ := δ)) := con_shape (c := impl_sameBits.c) mixed tysOk (getG_con (impl_sameBits.gok _)) impl_sameBits.fok rfl rfl fun _ => rfl
theorem impl_sameBits.eq (x0 x1 : Int × (List Int)) : impl_sameBits x0 x1 =
    bif x0.1 == x1.1 then
      (slices_Equal_uint64_uint64 x0.2 x1.2).bind fun y1 =>
      some y1
    else
      some false := by kernel_rfl

noncomputable abbrev impl_Bits_sameBits.s : Sg := ⟨[.lend, .lend, .lend], [vl 30, vl 30, .one (.fn 179 [])], ⟨[vb], [none, none, none]⟩, Tryz.f200⟩
noncomputable def impl_Bits_sameBits.gs (δ : Type) : List (Nat × Callee (GT tab) δ) := [(179, impl_sameBits.k)]
theorem impl_Bits_sameBits.gok (δ : Type) : AllCon Tryz.prog tab (impl_Bits_sameBits.gs δ) := .cons impl_sameBits.con .nil
noncomputable def impl_Bits_sameBits.c := cx impl_Bits_sameBits.s [] [(4, [1, 2, 15, 16, 17])] false (impl_Bits_sameBits.gs _)
noncomputable def impl_Bits_sameBits (x0 x1 : List (Int × (List Int))) (x2 : Unit) : Option (Bool) := fnW impl_Bits_sameBits.s impl_Bits_sameBits.c (x0, x1, x2)
theorem impl_Bits_sameBits.fok : FkS impl_Bits_sameBits.s 200 := ⟨Tryz.func200, by kernel_rfl, by kernel_rfl⟩
noncomputable def impl_Bits_sameBits.fn (x : Args tab impl_Bits_sameBits.s.ar) : Option (ResT tab impl_Bits_sameBits.s.rs) := impl_Bits_sameBits x.1 x.2.1 x.2.2
noncomputable abbrev impl_Bits_sameBits.k {δ : Type} : Callee (GT tab) δ := kS impl_Bits_sameBits.s impl_Bits_sameBits.fn
theorem impl_Bits_sameBits.con {δ : Type} : Con Tryz.prog (KT tab) 200 (impl_Bits_sameBits.k (δ := δ)) := con_shape (c := impl_Bits_sameBits.c) mixed tysOk (getG_con (impl_Bits_sameBits.gok _)) impl_Bits_sameBits.fok rfl rfl fun _ => rfl
noncomputable def impl_Bits_sameBits_l0 (v0 v1 : List (Int × (List Int))) (v2 v3 : Int) : Option (Bool) := lpW impl_Bits_sameBits.s impl_Bits_sameBits.c 0 (ud 14 [.undef, .vs false 30 v0, .fn 179 [], .undef, .undef, .undef, .undef, .undef, .undef, .undef, .undef, .undef, .undef, .undef, .undef, .vs false 30 v1, .int .i64 v2, .int .i64 v3]) [] 0
theorem impl_Bits_sameBits.eq (x0 x1 : List (Int × (List Int))) (x2 : Unit) : impl_Bits_sameBits x0 x1 x2 =
    bif (x0.length : Int) != (x1.length : Int) then
      some false
    else
      impl_Bits_sameBits_l0 x1 x0 (x0.length : Int) (0 : Int) := by kernel_rfl
theorem impl_Bits_sameBits_l0.eq (v0 v1 : List (Int × (List Int))) (v2 v3 : Int) : impl_Bits_sameBits_l0 v0 v1 v2 v3 =
    bif decide (v3 < v2) then
      (at? v1 v3).bind fun y1 =>
      (at? v0 v3).bind fun y2 =>
      (impl_sameBits y1 y2).bind fun y3 =>
      bif !y3 then
        some false
      else
        impl_Bits_sameBits_l0 v0 v1 v2 (IntKind.i64.wrap (v3 + (1 : Int)))
    else
      some true := (Lw_eq tysOk (getG_con (impl_Bits_sameBits.gok _)) _ _).trans (by kernel_rfl)

noncomputable abbrev impl_sameWave.s : Sg := ⟨[.lend, .lend], [.agg [.int .i64, .sl false false 3, .sl false false 30], .agg [.int .i64, .sl false false 3, .sl false false 30]], ⟨[vb], [none, none]⟩, Tryz.f178⟩
noncomputable def impl_sameWave.gs (δ : Type) : List (Nat × Callee (GT tab) δ) := [(156, slices_Equal_int_int.k), (200, impl_Bits_sameBits.k)]
theorem impl_sameWave.gok (δ : Type) : AllCon Tryz.prog tab (impl_sameWave.gs δ) := .cons slices_Equal_int_int.con (.cons impl_Bits_sameBits.con .nil)
noncomputable def impl_sameWave.c := cx impl_sameWave.s [] [] false (impl_sameWave.gs _)
noncomputable def impl_sameWave (x0 x1 : Int × (List Int) × (List (Int × (List Int)))) : Option (Bool) := fnW impl_sameWave.s impl_sameWave.c (x0, x1)
theorem impl_sameWave.fok : FkS impl_sameWave.s 178 := ⟨Tryz.func178, by kernel_rfl, by kernel_rfl⟩
noncomputable def impl_sameWave.fn (x : Args tab impl_sameWave.s.ar) : Option (ResT tab impl_sameWave.s.rs) := impl_sameWave x.1 x.2
noncomputable abbrev impl_sameWave.k {δ : Type} : Callee (GT tab) δ := kS impl_sameWave.s impl_sameWave.fn
theorem impl_sameWave.con {δ : Type} : Con Tryz.prog (KT tab) 178 (impl_sameWave.k (δ := δ)) := con_shape (c := impl_sameWave.c) mixed tysOk (getG_con (impl_sameWave.gok _)) impl_sameWave.fok rfl rfl fun _ => rfl
theorem impl_sameWave.eq (x0 x1 : Int × (List Int) × (List (Int × (List Int)))) : impl_sameWave x0 x1 =
    bif x0.1 == x1.1 then
      (slices_Equal_int_int x0.2.1 x1.2.1).bind fun y1 =>
      bif y1 then
        (impl_Bits_sameBits x0.2.2 x1.2.2 ()).bind fun y2 =>
        some y2
      else
        some false
    else
      some false := by kernel_rfl

noncomputable abbrev impl_samePacked.s : Sg := ⟨[.lend, .lend], [.agg [.int .i64, .int .i64, .int .i64, .sl false false 126], .agg [.int .i64, .int .i64, .int .i64, .sl false false 126]], ⟨[vb], [none, none]⟩, Tryz.f180⟩
noncomputable def impl_samePacked.gs (δ : Type) : List (Nat × Callee (GT tab) δ) := [(179, impl_sameBits.k)]
theorem impl_samePacked.gok (δ : Type) : AllCon Tryz.prog tab (impl_samePacked.gs δ) := .cons impl_sameBits.con .nil
noncomputable def impl_samePacked.c := cx impl_samePacked.s [] [] false (impl_samePacked.gs _)
noncomputable def impl_samePacked (x0 x1 : Int × Int × Int × (List Int)) : Option (Bool) := fnW impl_samePacked.s impl_samePacked.c (x0, x1)
theorem impl_samePacked.fok : FkS impl_samePacked.s 180 := ⟨Tryz.func180, by kernel_rfl, by kernel_rfl⟩
noncomputable def impl_samePacked.fn (x : Args tab impl_samePacked.s.ar) : Option (ResT tab impl_samePacked.s.rs) := impl_samePacked x.1 x.2
noncomputable abbrev impl_samePacked.k {δ : Type} : Callee (GT tab) δ := kS impl_samePacked.s impl_samePacked.fn
theorem impl_samePacked.con {δ : Type} : Con Tryz.prog (KT tab) 180 (impl_samePacked.k (δ := δ)) := con_shape (c := impl_samePacked.c) mixed tysOk (getG_con (impl_samePacked.gok _)) impl_samePacked.fok rfl rfl fun _ => rfl
theorem impl_samePacked.eq (x0 x1 : Int × Int × Int × (List Int)) : impl_samePacked x0 x1 =
    bif x0.1 == x1.1 then
      bif x0.2.1 == x1.2.1 then
        (impl_sameBits x0.2.2 x1.2.2).bind fun y1 =>
        some y1
      else
        some false
    else
      some false := by kernel_rfl

noncomputable abbrev impl_sameFm.s : Sg := ⟨[.lend, .lend], [.agg [.int .i64, .int .i64, .int .i64, .sl false false 3, .sl false false 30, .sl false false 3, .int .i64, .sl false false 126, .int .i64, .int .i64, .int .i64, .sl false false 126, .int .i64, .int .i64, .int .i64, .sl false false 126], .agg [.int .i64, .int .i64, .int .i64, .sl false false 3, .sl false false 30, .sl false false 3, .int .i64, .sl false false 126, .int .i64, .int .i64, .int .i64, .sl false false 126, .int .i64, .int .i64, .int .i64, .sl false false 126]], ⟨[vb], [none, none]⟩, Tryz.f121⟩
noncomputable def impl_sameFm.gs (δ : Type) : List (Nat × Callee (GT tab) δ) := [(156, slices_Equal_int_int.k), (178, impl_sameWave.k), (179, impl_sameBits.k), (180, impl_samePacked.k)]
theorem impl_sameFm.gok (δ : Type) : AllCon Tryz.prog tab (impl_sameFm.gs δ) := .cons slices_Equal_int_int.con (.cons impl_sameWave.con (.cons impl_sameBits.con (.cons impl_samePacked.con .nil)))
noncomputable def impl_sameFm.c := cx impl_sameFm.s [] [] false (impl_sameFm.gs _)
noncomputable def impl_sameFm (x0 x1 : Int × Int × Int × (List Int) × (List (Int × (List Int))) × (List Int) × Int × (List Int) × Int × Int × Int × (List Int) × Int × Int × Int × (List Int)) : Option (Bool) := fnW impl_sameFm.s impl_sameFm.c (x0, x1)
theorem impl_sameFm.fok : FkS impl_sameFm.s 121 := ⟨Tryz.func121, by kernel_rfl, by kernel_rfl⟩
noncomputable def impl_sameFm.fn (x : Args tab impl_sameFm.s.ar) : Option (ResT tab impl_sameFm.s.rs) := impl_sameFm x.1 x.2
noncomputable abbrev impl_sameFm.k {δ : Type} : Callee (GT tab) δ := kS impl_sameFm.s impl_sameFm.fn
theorem impl_sameFm.con {δ : Type} : Con Tryz.prog (KT tab) 121 (impl_sameFm.k (δ := δ)) := con_shape (c := impl_sameFm.c) mixed tysOk (getG_con (impl_sameFm.gok _)) impl_sameFm.fok rfl rfl fun _ => rfl
theorem impl_sameFm.eq (x0 x1 : Int × Int × Int × (List Int) × (List (Int × (List Int))) × (List Int) × Int × (List Int) × Int × Int × Int × (List Int) × Int × Int × Int × (List Int)) : impl_sameFm x0 x1 =
    bif x0.1 == x1.1 then
      bif x0.2.1 == x1.2.1 then
        (impl_sameWave (x0.2.2.1, x0.2.2.2.1, x0.2.2.2.2.1) (x1.2.2.1, x1.2.2.2.1, x1.2.2.2.2.1)).bind fun y1 =>
        bif y1 then
          (slices_Equal_int_int x0.2.2.2.2.2.1 x1.2.2.2.2.2.1).bind fun y2 =>
          bif y2 then
            (impl_sameBits (x0.2.2.2.2.2.2.1, x0.2.2.2.2.2.2.2.1) (x1.2.2.2.2.2.2.1, x1.2.2.2.2.2.2.2.1)).bind fun y3 =>
            bif y3 then
              (impl_samePacked (x0.2.2.2.2.2.2.2.2.1, x0.2.2.2.2.2.2.2.2.2.1, x0.2.2.2.2.2.2.2.2.2.2.1, x0.2.2.2.2.2.2.2.2.2.2.2.1) (x1.2.2.2.2.2.2.2.2.1, x1.2.2.2.2.2.2.2.2.2.1, x1.2.2.2.2.2.2.2.2.2.2.1, x1.2.2.2.2.2.2.2.2.2.2.2.1)).bind fun y4 =>
              bif y4 then
                (impl_samePacked x0.2.2.2.2.2.2.2.2.2.2.2.2 x1.2.2.2.2.2.2.2.2.2.2.2.2).bind fun y5 =>
                some y5
              else
                some false
            else
              some false
          else
            some false
        else
          some false
      else
        some false
    else
      some false := by kernel_rfl

noncomputable abbrev impl_Fm_read.s : Sg := ⟨[.lend], [.agg [.int .i64, .int .i64, .int .i64, .sl false false 3, .sl false false 30, .sl false false 3, .int .i64, .sl false false 126, .int .i64, .int .i64, .int .i64, .sl false false 126, .int .i64, .int .i64, .int .i64, .sl false false 126]], ⟨[vo 5, vb], [none]⟩, Tryz.f58⟩
noncomputable def impl_Fm_read.gs (δ : Type) : List (Nat × Callee (GT tab) δ) := [(101, impl_isRate.k), (103, impl_BwtText.k), (105, impl_fmOf.k), (120, impl_Wave_read.k), (121, impl_sameFm.k)]
theorem impl_Fm_read.gok (δ : Type) : AllCon Tryz.prog tab (impl_Fm_read.gs δ) := .cons impl_isRate.con (.cons impl_BwtText.con (.cons impl_fmOf.con (.cons impl_Wave_read.con (.cons impl_sameFm.con .nil))))
noncomputable def impl_Fm_read.c := cx impl_Fm_read.s [] [] false (impl_Fm_read.gs _)
noncomputable def impl_Fm_read (x0 : Int × Int × Int × (List Int) × (List (Int × (List Int))) × (List Int) × Int × (List Int) × Int × Int × Int × (List Int) × Int × Int × Int × (List Int)) : Option ((List Int) × Bool) := fnW impl_Fm_read.s impl_Fm_read.c x0
theorem impl_Fm_read.fok : FkS impl_Fm_read.s 58 := ⟨Tryz.func58, by kernel_rfl, by kernel_rfl⟩
noncomputable def impl_Fm_read.fn (x : Args tab impl_Fm_read.s.ar) : Option (ResT tab impl_Fm_read.s.rs) := impl_Fm_read x
noncomputable abbrev impl_Fm_read.k {δ : Type} : Callee (GT tab) δ := kS impl_Fm_read.s impl_Fm_read.fn
theorem impl_Fm_read.con {δ : Type} : Con Tryz.prog (KT tab) 58 (impl_Fm_read.k (δ := δ)) := con_shape (c := impl_Fm_read.c) mixed tysOk (getG_con (impl_Fm_read.gok _)) impl_Fm_read.fok rfl rfl fun _ => rfl
theorem impl_Fm_read.eq (x0 : Int × Int × Int × (List Int) × (List (Int × (List Int))) × (List Int) × Int × (List Int) × Int × Int × Int × (List Int) × Int × Int × Int × (List Int)) : impl_Fm_read x0 =
    (impl_Wave_read (x0.2.2.1, x0.2.2.2.1, x0.2.2.2.2.1)).bind fun y1 =>
    bif !y1.2 then
      some (([] : List Int), false)
    else
      (impl_isRate x0.2.1).bind fun y2 =>
      bif !y2 then
        some (([] : List Int), false)
      else
        (impl_BwtText y1.1).bind fun y3 =>
        bif y3.2 then
          (impl_fmOf y3.1 x0.2.1).bind fun y4 =>
          (impl_sameFm y4 x0).bind fun y5 =>
          some (y3.1, y5)
        else
          some (y3.1, false) := by kernel_rfl

end Go.Ev.W
