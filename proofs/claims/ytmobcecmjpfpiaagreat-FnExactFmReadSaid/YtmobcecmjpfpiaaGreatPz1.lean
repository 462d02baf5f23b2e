/- What functions of the program come to. -/
import Derived.Test.YtmobcecmjpfpiaaGreatPzT
import Derived.Test.YtmobcecmjpfpiaaGreatEvCmp
import Derived.Test.YtmobcecmjpfpiaaGreatEvGrow
import Derived.Test.YtmobcecmjpfpiaaGreatEvSort
import Derived.Test.YtmobcecmjpfpiaaGreatPzL
namespace Go.Ev.W
open Go.Ev Go.Proofs
set_option maxRecDepth 100000
set_option linter.unusedVariables false

noncomputable abbrev laws_toByteS.s : Sg := ⟨[.lend], [vl 5], ⟨[vo 5], [none]⟩, Tryz.f5⟩
noncomputable def laws_toByteS.gs (δ : Type) : List (Nat × Callee (GT tab) δ) := []
theorem laws_toByteS.gok (δ : Type) : AllCon Tryz.prog tab (laws_toByteS.gs δ) := .nil
noncomputable def laws_toByteS.c := cx laws_toByteS.s [] [(3, [0, 3, 4])] false (laws_toByteS.gs _)
noncomputable def laws_toByteS (x0 : List Int) : Option (List Int) := fnW laws_toByteS.s laws_toByteS.c x0
theorem laws_toByteS.fok : FkS laws_toByteS.s 5 := ⟨Tryz.func5, by kernel_rfl, by kernel_rfl⟩
noncomputable def laws_toByteS.fn (x : Args tab laws_toByteS.s.ar) : Option (ResT tab laws_toByteS.s.rs) := laws_toByteS x
noncomputable abbrev laws_toByteS.k {δ : Type} : Callee (GT tab) δ := kS laws_toByteS.s laws_toByteS.fn
theorem laws_toByteS.con {δ : Type} : Con Tryz.prog (KT tab) 5 (laws_toByteS.k (δ := δ)) := con_shape (c := laws_toByteS.c) mixed tysOk (getG_con (laws_toByteS.gok _)) laws_toByteS.fok rfl rfl fun _ => rfl
noncomputable def laws_toByteS_l0 (v0 : List Int) (v1 : Int) (v2 : List Int) : Option (List Int) := lpW laws_toByteS.s laws_toByteS.c 0 (ud 17 [.vs false 5 v0, .undef, .undef, .sl 0 0, .int .i64 v1]) [.row 0 true 5 v2] 1
theorem laws_toByteS.eq (x0 : List Int) : laws_toByteS x0 =
    bif decide ((0 : Int) ≤ (x0.length : Int)) && decide (((x0.length : Int).toNat) * 1 ≤ 140737488355328) then
      laws_toByteS_l0 x0 (0 : Int) (List.replicate ((x0.length : Int).toNat) (0 : Int))
    else
      none := by kernel_rfl
theorem laws_toByteS_l0.eq (v0 : List Int) (v1 : Int) (v2 : List Int) : laws_toByteS_l0 v0 v1 v2 =
    bif decide (v1 < (v0.length : Int)) then
      (at? v0 v1).bind fun y1 =>
      (at? v2 v1).bind fun y2 =>
      v2[v1.toNat]?.bind fun y3 =>
      laws_toByteS_l0 v0 (IntKind.i64.wrap (v1 + (1 : Int))) (v2.set v1.toNat y1)
    else
      some v2 := (Lw_eq tysOk (getG_con (laws_toByteS.gok _)) _ _).trans (by kernel_rfl)

noncomputable abbrev spec_VarOf.s : Sg := ⟨[.lend], [vi], ⟨[vo 5], [none]⟩, Tryz.f41⟩
noncomputable def spec_VarOf.gs (δ : Type) : List (Nat × Callee (GT tab) δ) := []
theorem spec_VarOf.gok (δ : Type) : AllCon Tryz.prog tab (spec_VarOf.gs δ) := .nil
noncomputable def spec_VarOf.c := cx spec_VarOf.s [3] [(3, [0]), (4, [0, 3])] false (spec_VarOf.gs _)
noncomputable def spec_VarOf (x0 : Int) : Option (List Int) := fnW spec_VarOf.s spec_VarOf.c x0
theorem spec_VarOf.fok : FkS spec_VarOf.s 41 := ⟨Tryz.func41, by kernel_rfl, by kernel_rfl⟩
noncomputable def spec_VarOf.fn (x : Args tab spec_VarOf.s.ar) : Option (ResT tab spec_VarOf.s.rs) := spec_VarOf x
noncomputable abbrev spec_VarOf.k {δ : Type} : Callee (GT tab) δ := kS spec_VarOf.s spec_VarOf.fn
theorem spec_VarOf.con {δ : Type} : Con Tryz.prog (KT tab) 41 (spec_VarOf.k (δ := δ)) := con_shape (c := spec_VarOf.c) mixed tysOk (getG_con (spec_VarOf.gok _)) spec_VarOf.fok rfl rfl fun _ => rfl
noncomputable def spec_VarOf_l0 (v0 : Int) : Option (List Int) := lpW spec_VarOf.s spec_VarOf.c 0 (ud 26 [.int .i64 v0]) [] 0
noncomputable def spec_VarOf_l1 (v0 : Int) (v1 : List Int) : Option (List Int) := lpW spec_VarOf.s spec_VarOf.c 1 (ud 23 [.int .i64 v0, .undef, .undef, .sl 0 0]) [.row 0 true 5 v1] 1
theorem spec_VarOf.eq (x0 : Int) : spec_VarOf x0 =
    bif decide (x0 < (0 : Int)) then
      some ([] : List Int)
    else
      bif decide (x0 > (4294967295 : Int)) then
        some ([] : List Int)
      else
        spec_VarOf_l0 x0 := by kernel_rfl
theorem spec_VarOf_l0.eq (v0 : Int) : spec_VarOf_l0 v0 =
    spec_VarOf_l1 v0 ([] : List Int) := (Lw_eq tysOk (getG_con (spec_VarOf.gok _)) _ _).trans (by kernel_rfl)
theorem spec_VarOf_l1.eq (v0 : Int) (v1 : List Int) : spec_VarOf_l1 v0 v1 =
    bif decide (v0 ≥ (128 : Int)) then
      bif decide ((v1.length + ([IntKind.u8.wrap (IntKind.i64.wrap ((128 : Int) + (v0.tmod (128 : Int))))] : List Int).length) * 1 ≤ 140737488355328) then
        spec_VarOf_l1 (IntKind.i64.wrap (v0.tdiv (128 : Int))) (v1 ++ ([IntKind.u8.wrap (IntKind.i64.wrap ((128 : Int) + (v0.tmod (128 : Int))))] : List Int))
      else
        none
    else
      bif decide ((v1.length + ([IntKind.u8.wrap v0] : List Int).length) * 1 ≤ 140737488355328) then
        some (v1 ++ ([IntKind.u8.wrap v0] : List Int))
      else
        none := (Lw_eq tysOk (getG_con (spec_VarOf.gok _)) _ _).trans (by kernel_rfl)

noncomputable abbrev spec_VarRead.s : Sg := ⟨[.lend, .lend], [vl 5, vi], ⟨[vi, vi, vb], [none, none]⟩, Tryz.f13⟩
noncomputable def spec_VarRead.gs (δ : Type) : List (Nat × Callee (GT tab) δ) := [(41, spec_VarOf.k)]
theorem spec_VarRead.gok (δ : Type) : AllCon Tryz.prog tab (spec_VarRead.gs δ) := .cons spec_VarOf.con .nil
noncomputable def spec_VarRead.c := cx spec_VarRead.s [3, 8] [(3, [0, 1]), (6, [0, 1, 7, 8, 9]), (8, [0, 1, 7, 8, 9])] false (spec_VarRead.gs _)
noncomputable def spec_VarRead (x0 : List Int) (x1 : Int) : Option (Int × Int × Bool) := fnW spec_VarRead.s spec_VarRead.c (x0, x1)
theorem spec_VarRead.fok : FkS spec_VarRead.s 13 := ⟨Tryz.func13, by kernel_rfl, by kernel_rfl⟩
noncomputable def spec_VarRead.fn (x : Args tab spec_VarRead.s.ar) : Option (ResT tab spec_VarRead.s.rs) := spec_VarRead x.1 x.2
noncomputable abbrev spec_VarRead.k {δ : Type} : Callee (GT tab) δ := kS spec_VarRead.s spec_VarRead.fn
theorem spec_VarRead.con {δ : Type} : Con Tryz.prog (KT tab) 13 (spec_VarRead.k (δ := δ)) := con_shape (c := spec_VarRead.c) mixed tysOk (getG_con (spec_VarRead.gok _)) spec_VarRead.fok rfl rfl fun _ => rfl
noncomputable def spec_VarRead_l0 (v0 : List Int) (v1 : Int) : Option (Int × Int × Bool) := lpW spec_VarRead.s spec_VarRead.c 0 (ud 59 [.vs false 5 v0, .int .i64 v1]) [] 0
noncomputable def spec_VarRead_l1 (v0 : List Int) (v1 v2 v3 v4 : Int) : Option (Int × Int × Bool) := lpW spec_VarRead.s spec_VarRead.c 1 (ud 51 [.vs false 5 v0, .int .i64 v1, .undef, .undef, .undef, .undef, .undef, .int .i64 v2, .int .i64 v3, .int .i64 v4]) [] 0
noncomputable def spec_VarRead_l2 (v0 : List Int) (v1 v2 v3 v4 : Int) : Option (Int × Int × Bool) := lpW spec_VarRead.s spec_VarRead.c 2 (ud 51 [.vs false 5 v0, .int .i64 v1, .undef, .undef, .undef, .undef, .undef, .int .i64 v2, .int .i64 v3, .int .i64 v4]) [] 0
theorem spec_VarRead.eq (x0 : List Int) (x1 : Int) : spec_VarRead x0 x1 =
    bif decide (x1 < (0 : Int)) then
      some ((0 : Int), (0 : Int), false)
    else
      bif decide (x1 ≥ (x0.length : Int)) then
        some ((0 : Int), (0 : Int), false)
      else
        spec_VarRead_l0 x0 x1 := by kernel_rfl
theorem spec_VarRead_l0.eq (v0 : List Int) (v1 : Int) : spec_VarRead_l0 v0 v1 =
    spec_VarRead_l1 v0 v1 (0 : Int) (1 : Int) v1 := (Lw_eq tysOk (getG_con (spec_VarRead.gok _)) _ _).trans (by kernel_rfl)
theorem spec_VarRead_l1.eq (v0 : List Int) (v1 v2 v3 v4 : Int) : spec_VarRead_l1 v0 v1 v2 v3 v4 =
    bif decide (v4 < (v0.length : Int)) then
      bif decide (v4 < IntKind.i64.wrap (v1 + (5 : Int))) then
        spec_VarRead_l2 v0 v1 v2 v3 v4
      else
        some ((0 : Int), (0 : Int), false)
    else
      some ((0 : Int), (0 : Int), false) := (Lw_eq tysOk (getG_con (spec_VarRead.gok _)) _ _).trans (by kernel_rfl)
theorem spec_VarRead_l2.eq (v0 : List Int) (v1 v2 v3 v4 : Int) : spec_VarRead_l2 v0 v1 v2 v3 v4 =
    (at? v0 v4).bind fun y1 =>
    (at? v0 v4).bind fun y2 =>
    bif decide (y2 < (128 : Int)) then
      (spec_VarOf (IntKind.i64.wrap (v2 + (IntKind.i64.wrap (v3 * (IntKind.i64.wrap (y1.tmod (128 : Int)))))))).bind fun y3 =>
      bif decide (0 ≤ IntKind.i64.wrap (v4 + (1 : Int)) ∧ IntKind.i64.wrap (v4 + (1 : Int)) ≤ ((v0.length : Nat) : Int)) then
        bif decide (0 ≤ v1 ∧ v1 ≤ (((IntKind.i64.wrap (v4 + (1 : Int))).toNat : Nat) : Int)) then
          bif !((strOf (y3.map fun x => x)).toList == (strOf (((v0.take ((IntKind.i64.wrap (v4 + (1 : Int))).toNat)).drop v1.toNat).map fun x => x)).toList) then
            some ((0 : Int), (0 : Int), false)
          else
            some (IntKind.i64.wrap (v2 + (IntKind.i64.wrap (v3 * (IntKind.i64.wrap (y1.tmod (128 : Int)))))), IntKind.i64.wrap (v4 + (1 : Int)), true)
        else
          none
      else
        none
    else
      spec_VarRead_l1 v0 v1 (IntKind.i64.wrap (v2 + (IntKind.i64.wrap (v3 * (IntKind.i64.wrap (y1.tmod (128 : Int))))))) (IntKind.i64.wrap ((128 : Int) * v3)) (IntKind.i64.wrap (v4 + (1 : Int))) := (Lw_eq tysOk (getG_con (spec_VarRead.gok _)) _ _).trans (by kernel_rfl)

noncomputable abbrev spec_FrameOk.s : Sg := ⟨[.lend], [.agg [.int .i64, .sl false false 5]], ⟨[vb], [none]⟩, Tryz.f93⟩
noncomputable def spec_FrameOk.gs (δ : Type) : List (Nat × Callee (GT tab) δ) := []
theorem spec_FrameOk.gok (δ : Type) : AllCon Tryz.prog tab (spec_FrameOk.gs δ) := .nil
noncomputable def spec_FrameOk.c := cx spec_FrameOk.s [] [] false (spec_FrameOk.gs _)
noncomputable def spec_FrameOk (x0 : Int × (List Int)) : Option (Bool) := fnW spec_FrameOk.s spec_FrameOk.c x0
theorem spec_FrameOk.fok : FkS spec_FrameOk.s 93 := ⟨Tryz.func93, by kernel_rfl, by kernel_rfl⟩
noncomputable def spec_FrameOk.fn (x : Args tab spec_FrameOk.s.ar) : Option (ResT tab spec_FrameOk.s.rs) := spec_FrameOk x
noncomputable abbrev spec_FrameOk.k {δ : Type} : Callee (GT tab) δ := kS spec_FrameOk.s spec_FrameOk.fn
theorem spec_FrameOk.con {δ : Type} : Con Tryz.prog (KT tab) 93 (spec_FrameOk.k (δ := δ)) := con_shape (c := spec_FrameOk.c) mixed tysOk (getG_con (spec_FrameOk.gok _)) spec_FrameOk.fok rfl rfl fun _ => rfl
theorem spec_FrameOk.eq (x0 : Int × (List Int)) : spec_FrameOk x0 =
    bif decide (x0.1 ≥ (0 : Int)) then
      bif decide (x0.1 ≤ (255 : Int)) then
        some (decide ((x0.2.length : Int) ≤ (8000 : Int)))
      else
        some false
    else
      some false := by kernel_rfl

noncomputable abbrev spec_Crc.s : Sg := ⟨[.lend], [vl 5], ⟨[vi], [none]⟩, Tryz.f95⟩
noncomputable def spec_Crc.gs (δ : Type) : List (Nat × Callee (GT tab) δ) := []
theorem spec_Crc.gok (δ : Type) : AllCon Tryz.prog tab (spec_Crc.gs δ) := .nil
noncomputable def spec_Crc.c := cx spec_Crc.s [] [(5, [0, 3, 4]), (9, [0, 3, 4, 5])] false (spec_Crc.gs _)
noncomputable def spec_Crc (x0 : List Int) : Option (Int) := fnW spec_Crc.s spec_Crc.c x0
theorem spec_Crc.fok : FkS spec_Crc.s 95 := ⟨Tryz.func95, by kernel_rfl, by kernel_rfl⟩
noncomputable def spec_Crc.fn (x : Args tab spec_Crc.s.ar) : Option (ResT tab spec_Crc.s.rs) := spec_Crc x
noncomputable abbrev spec_Crc.k {δ : Type} : Callee (GT tab) δ := kS spec_Crc.s spec_Crc.fn
theorem spec_Crc.con {δ : Type} : Con Tryz.prog (KT tab) 95 (spec_Crc.k (δ := δ)) := con_shape (c := spec_Crc.c) mixed tysOk (getG_con (spec_Crc.gok _)) spec_Crc.fok rfl rfl fun _ => rfl
noncomputable def spec_Crc_l0 (v0 : List Int) (v1 v2 : Int) : Option (Int) := lpW spec_Crc.s spec_Crc.c 0 (ud 32 [.vs false 5 v0, .undef, .undef, .int .i64 v1, .int .i64 v2]) [] 0
noncomputable def spec_Crc_l1 (v0 : List Int) (v1 v2 v3 : Int) : Option (Int) := lpW spec_Crc.s spec_Crc.c 1 (ud 31 [.vs false 5 v0, .undef, .undef, .int .i64 v1, .int .i64 v2, .int .i64 v3]) [] 0
theorem spec_Crc.eq (x0 : List Int) : spec_Crc x0 =
    bif decide ((x0.length : Int) > (16000 : Int)) then
      some (-1 : Int)
    else
      spec_Crc_l0 x0 (4294967295 : Int) (0 : Int) := by kernel_rfl
theorem spec_Crc_l0.eq (v0 : List Int) (v1 v2 : Int) : spec_Crc_l0 v0 v1 v2 =
    bif decide (v2 < (v0.length : Int)) then
      (at? v0 v2).bind fun y1 =>
      spec_Crc_l1 v0 (IntKind.i64.wrap (((BitVec.ofInt 64 v1) ^^^ (BitVec.ofInt 64 (IntKind.i64.wrap y1))).toNat : Int)) v2 (0 : Int)
    else
      some (IntKind.i64.wrap (((BitVec.ofInt 64 v1) ^^^ (BitVec.ofInt 64 (4294967295 : Int))).toNat : Int)) := (Lw_eq tysOk (getG_con (spec_Crc.gok _)) _ _).trans (by kernel_rfl)
theorem spec_Crc_l1.eq (v0 : List Int) (v1 v2 v3 : Int) : spec_Crc_l1 v0 v1 v2 v3 =
    bif decide (v3 < (8 : Int)) then
      bif v1.tmod (2 : Int) == (1 : Int) then
        spec_Crc_l1 v0 (IntKind.i64.wrap (((BitVec.ofInt 64 (IntKind.i64.wrap (v1.tdiv (2 : Int)))) ^^^ (BitVec.ofInt 64 (3988292384 : Int))).toNat : Int)) v2 (IntKind.i64.wrap (v3 + (1 : Int)))
      else
        spec_Crc_l1 v0 (IntKind.i64.wrap (v1.tdiv (2 : Int))) v2 (IntKind.i64.wrap (v3 + (1 : Int)))
    else
      spec_Crc_l0 v0 v1 (IntKind.i64.wrap (v2 + (1 : Int))) := (Lw_eq tysOk (getG_con (spec_Crc.gok _)) _ _).trans (by kernel_rfl)

noncomputable abbrev spec_l04Four.s : Sg := ⟨[.lend], [vi], ⟨[vo 5], [none]⟩, Tryz.f94⟩
noncomputable def spec_l04Four.gs (δ : Type) : List (Nat × Callee (GT tab) δ) := []
theorem spec_l04Four.gok (δ : Type) : AllCon Tryz.prog tab (spec_l04Four.gs δ) := .nil
noncomputable def spec_l04Four.c := cx spec_l04Four.s [] [] false (spec_l04Four.gs _)
noncomputable def spec_l04Four (x0 : Int) : Option (List Int) := fnW spec_l04Four.s spec_l04Four.c x0
theorem spec_l04Four.fok : FkS spec_l04Four.s 94 := ⟨Tryz.func94, by kernel_rfl, by kernel_rfl⟩
noncomputable def spec_l04Four.fn (x : Args tab spec_l04Four.s.ar) : Option (ResT tab spec_l04Four.s.rs) := spec_l04Four x
noncomputable abbrev spec_l04Four.k {δ : Type} : Callee (GT tab) δ := kS spec_l04Four.s spec_l04Four.fn
theorem spec_l04Four.con {δ : Type} : Con Tryz.prog (KT tab) 94 (spec_l04Four.k (δ := δ)) := con_shape (c := spec_l04Four.c) mixed tysOk (getG_con (spec_l04Four.gok _)) spec_l04Four.fok rfl rfl fun _ => rfl
theorem spec_l04Four.eq (x0 : Int) : spec_l04Four x0 =
    some ([IntKind.u8.wrap (x0.tmod (256 : Int)), IntKind.u8.wrap ((IntKind.i64.wrap (x0.tdiv (256 : Int))).tmod (256 : Int)), IntKind.u8.wrap ((IntKind.i64.wrap (x0.tdiv (65536 : Int))).tmod (256 : Int)), IntKind.u8.wrap ((IntKind.i64.wrap (x0.tdiv (16777216 : Int))).tmod (256 : Int))] : List Int) := by kernel_rfl

noncomputable abbrev spec_FrameOf.s : Sg := ⟨[.lend], [.agg [.int .i64, .sl false false 5]], ⟨[vo 5], [none]⟩, Tryz.f40⟩
noncomputable def spec_FrameOf.gs (δ : Type) : List (Nat × Callee (GT tab) δ) := [(41, spec_VarOf.k), (93, spec_FrameOk.k), (94, spec_l04Four.k), (95, spec_Crc.k)]
theorem spec_FrameOf.gok (δ : Type) : AllCon Tryz.prog tab (spec_FrameOf.gs δ) := .cons spec_VarOf.con (.cons spec_FrameOk.con (.cons spec_l04Four.con (.cons spec_Crc.con .nil)))
noncomputable def spec_FrameOf.c := cx spec_FrameOf.s [] [] false (spec_FrameOf.gs _)
noncomputable def spec_FrameOf (x0 : Int × (List Int)) : Option (List Int) := fnW spec_FrameOf.s spec_FrameOf.c x0
theorem spec_FrameOf.fok : FkS spec_FrameOf.s 40 := ⟨Tryz.func40, by kernel_rfl, by kernel_rfl⟩
noncomputable def spec_FrameOf.fn (x : Args tab spec_FrameOf.s.ar) : Option (ResT tab spec_FrameOf.s.rs) := spec_FrameOf x
noncomputable abbrev spec_FrameOf.k {δ : Type} : Callee (GT tab) δ := kS spec_FrameOf.s spec_FrameOf.fn
theorem spec_FrameOf.con {δ : Type} : Con Tryz.prog (KT tab) 40 (spec_FrameOf.k (δ := δ)) := con_shape (c := spec_FrameOf.c) mixed tysOk (getG_con (spec_FrameOf.gok _)) spec_FrameOf.fok rfl rfl fun _ => rfl
theorem spec_FrameOf.eq (x0 : Int × (List Int)) : spec_FrameOf x0 =
    (spec_FrameOk x0).bind fun y1 =>
    bif !y1 then
      some ([] : List Int)
    else
      (spec_VarOf (x0.2.length : Int)).bind fun y2 =>
      bif decide ((([(90 : Int), IntKind.u8.wrap x0.1] : List Int).length + y2.length) * 1 ≤ 140737488355328) then
        bif decide (((([(90 : Int), IntKind.u8.wrap x0.1] : List Int) ++ y2).length + x0.2.length) * 1 ≤ 140737488355328) then
          (spec_Crc ((([(90 : Int), IntKind.u8.wrap x0.1] : List Int) ++ y2) ++ x0.2)).bind fun y3 =>
          (spec_l04Four y3).bind fun y4 =>
          bif decide ((((([(90 : Int), IntKind.u8.wrap x0.1] : List Int) ++ y2) ++ x0.2).length + y4.length) * 1 ≤ 140737488355328) then
            some (((([(90 : Int), IntKind.u8.wrap x0.1] : List Int) ++ y2) ++ x0.2) ++ y4)
          else
            none
        else
          none
      else
        none := by kernel_rfl

noncomputable abbrev spec_FrameRead.s : Sg := ⟨[.lend, .lend], [vl 5, vi], ⟨[.agg [.int .i64, .sl true true 5], vi, vb], [none, none]⟩, Tryz.f12⟩
noncomputable def spec_FrameRead.gs (δ : Type) : List (Nat × Callee (GT tab) δ) := [(13, spec_VarRead.k), (40, spec_FrameOf.k)]
theorem spec_FrameRead.gok (δ : Type) : AllCon Tryz.prog tab (spec_FrameRead.gs δ) := .cons spec_VarRead.con (.cons spec_FrameOf.con .nil)
noncomputable def spec_FrameRead.c := cx spec_FrameRead.s [3, 6] [(3, [0, 1, 4]), (6, [0, 1, 4, 7, 8])] false (spec_FrameRead.gs _)
noncomputable def spec_FrameRead (x0 : List Int) (x1 : Int) : Option ((Int × (List Int)) × Int × Bool) := fnW spec_FrameRead.s spec_FrameRead.c (x0, x1)
theorem spec_FrameRead.fok : FkS spec_FrameRead.s 12 := ⟨Tryz.func12, by kernel_rfl, by kernel_rfl⟩
noncomputable def spec_FrameRead.fn (x : Args tab spec_FrameRead.s.ar) : Option (ResT tab spec_FrameRead.s.rs) := spec_FrameRead x.1 x.2
noncomputable abbrev spec_FrameRead.k {δ : Type} : Callee (GT tab) δ := kS spec_FrameRead.s spec_FrameRead.fn
theorem spec_FrameRead.con {δ : Type} : Con Tryz.prog (KT tab) 12 (spec_FrameRead.k (δ := δ)) := con_shape (c := spec_FrameRead.c) mixed tysOk (getG_con (spec_FrameRead.gok _)) spec_FrameRead.fok rfl rfl fun _ => rfl
noncomputable def spec_FrameRead_l0 (v0 : List Int) (v1 v2 : Int) (v3 : List Int) : Option ((Int × (List Int)) × Int × Bool) := lpW spec_FrameRead.s spec_FrameRead.c 0 (ud 90 [.vs false 5 v0, .int .i64 v1, .undef, .undef, .ptr 0 0]) [.box 43 [.int .i64 v2, .sl 1 0], .row 0 true 5 v3] 2
noncomputable def spec_FrameRead_l1 (v0 : List Int) (v1 v2 v3 v4 : Int) (v5 : List Int) : Option ((Int × (List Int)) × Int × Bool) := lpW spec_FrameRead.s spec_FrameRead.c 1 (ud 86 [.vs false 5 v0, .int .i64 v1, .undef, .undef, .ptr 0 0, .undef, .undef, .int .i64 v2, .int .i64 v3]) [.box 43 [.int .i64 v4, .sl 1 0], .row 0 true 5 v5] 2
theorem spec_FrameRead.eq (x0 : List Int) (x1 : Int) : spec_FrameRead x0 x1 =
    bif decide (x1 < (0 : Int)) then
      some (((0 : Int), ([] : List Int)), (0 : Int), false)
    else
      bif decide (x1 > IntKind.i64.wrap ((x0.length : Int) - (2 : Int))) then
        some (((0 : Int), ([] : List Int)), (0 : Int), false)
      else
        (at? x0 x1).bind fun y1 =>
        bif y1 != (90 : Int) then
          some (((0 : Int), ([] : List Int)), (0 : Int), false)
        else
          spec_FrameRead_l0 x0 x1 (0 : Int) ([] : List Int) := by kernel_rfl
theorem spec_FrameRead_l0.eq (v0 : List Int) (v1 v2 : Int) (v3 : List Int) : spec_FrameRead_l0 v0 v1 v2 v3 =
    (spec_VarRead v0 (IntKind.i64.wrap (v1 + (2 : Int)))).bind fun y1 =>
    bif !y1.2.2 then
      some (((0 : Int), ([] : List Int)), (0 : Int), false)
    else
      bif decide (y1.1 > (8000 : Int)) then
        some (((0 : Int), ([] : List Int)), (0 : Int), false)
      else
        bif decide (y1.1 > IntKind.i64.wrap ((v0.length : Int) - y1.2.1)) then
          some (((0 : Int), ([] : List Int)), (0 : Int), false)
        else
          spec_FrameRead_l1 v0 v1 y1.1 y1.2.1 v2 v3 := (Lw_eq tysOk (getG_con (spec_FrameRead.gok _)) _ _).trans (by kernel_rfl)
theorem spec_FrameRead_l1.eq (v0 : List Int) (v1 v2 v3 v4 : Int) (v5 : List Int) : spec_FrameRead_l1 v0 v1 v2 v3 v4 v5 =
    (at? v0 (IntKind.i64.wrap (v1 + (1 : Int)))).bind fun y1 =>
    bif decide (0 ≤ IntKind.i64.wrap (v3 + v2) ∧ IntKind.i64.wrap (v3 + v2) ≤ ((v0.length : Nat) : Int)) then
      bif decide (0 ≤ v3 ∧ v3 ≤ (((IntKind.i64.wrap (v3 + v2)).toNat : Nat) : Int)) then
        bif decide ((([] : List Int).length + ((v0.take ((IntKind.i64.wrap (v3 + v2)).toNat)).drop v3.toNat).length) * 1 ≤ 140737488355328) then
          (spec_FrameOf (IntKind.i64.wrap y1, ([] : List Int) ++ ((v0.take ((IntKind.i64.wrap (v3 + v2)).toNat)).drop v3.toNat))).bind fun y2 =>
          bif decide (IntKind.i64.wrap (v1 + (y2.length : Int)) > (v0.length : Int)) then
            some (((0 : Int), ([] : List Int)), (0 : Int), false)
          else
            bif decide (0 ≤ IntKind.i64.wrap (v1 + (y2.length : Int)) ∧ IntKind.i64.wrap (v1 + (y2.length : Int)) ≤ ((v0.length : Nat) : Int)) then
              bif decide (0 ≤ v1 ∧ v1 ≤ (((IntKind.i64.wrap (v1 + (y2.length : Int))).toNat : Nat) : Int)) then
                bif !((strOf (((v0.take ((IntKind.i64.wrap (v1 + (y2.length : Int))).toNat)).drop v1.toNat).map fun x => x)).toList == (strOf (y2.map fun x => x)).toList) then
                  some (((0 : Int), ([] : List Int)), (0 : Int), false)
                else
                  some ((IntKind.i64.wrap y1, ([] : List Int) ++ ((v0.take ((IntKind.i64.wrap (v3 + v2)).toNat)).drop v3.toNat)), IntKind.i64.wrap (v1 + (y2.length : Int)), true)
              else
                none
            else
              none
        else
          none
      else
        none
    else
      none := (Lw_eq tysOk (getG_con (spec_FrameRead.gok _)) _ _).trans (by kernel_rfl)

noncomputable abbrev spec_l02Pow.s : Sg := ⟨[.lend], [vi], ⟨[vi], [none]⟩, Tryz.f96⟩
noncomputable def spec_l02Pow.gs (δ : Type) : List (Nat × Callee (GT tab) δ) := []
theorem spec_l02Pow.gok (δ : Type) : AllCon Tryz.prog tab (spec_l02Pow.gs δ) := .nil
noncomputable def spec_l02Pow.c := cx spec_l02Pow.s [] [(2, [0, 3])] false (spec_l02Pow.gs _)
noncomputable def spec_l02Pow (x0 : Int) : Option (Int) := fnW spec_l02Pow.s spec_l02Pow.c x0
theorem spec_l02Pow.fok : FkS spec_l02Pow.s 96 := ⟨Tryz.func96, by kernel_rfl, by kernel_rfl⟩
noncomputable def spec_l02Pow.fn (x : Args tab spec_l02Pow.s.ar) : Option (ResT tab spec_l02Pow.s.rs) := spec_l02Pow x
noncomputable abbrev spec_l02Pow.k {δ : Type} : Callee (GT tab) δ := kS spec_l02Pow.s spec_l02Pow.fn
theorem spec_l02Pow.con {δ : Type} : Con Tryz.prog (KT tab) 96 (spec_l02Pow.k (δ := δ)) := con_shape (c := spec_l02Pow.c) mixed tysOk (getG_con (spec_l02Pow.gok _)) spec_l02Pow.fok rfl rfl fun _ => rfl
noncomputable def spec_l02Pow_l0 (v0 v1 : Int) : Option (Int) := lpW spec_l02Pow.s spec_l02Pow.c 0 (ud 7 [.int .i64 v0, .undef, .undef, .int .i64 v1]) [] 0
theorem spec_l02Pow.eq (x0 : Int) : spec_l02Pow x0 =
    spec_l02Pow_l0 x0 (1 : Int) := by kernel_rfl
theorem spec_l02Pow_l0.eq (v0 v1 : Int) : spec_l02Pow_l0 v0 v1 =
    bif decide (v0 > (0 : Int)) then
      spec_l02Pow_l0 (IntKind.i64.wrap (v0 - (1 : Int))) (IntKind.i64.wrap ((2 : Int) * v1))
    else
      some v1 := (Lw_eq tysOk (getG_con (spec_l02Pow.gok _)) _ _).trans (by kernel_rfl)

noncomputable abbrev spec_l01Power.s : Sg := ⟨[.lend], [vi], ⟨[.one (.b (.b (.b (.b (.int .u64)))))], [none]⟩, Tryz.f103⟩
noncomputable def spec_l01Power.gs (δ : Type) : List (Nat × Callee (GT tab) δ) := []
theorem spec_l01Power.gok (δ : Type) : AllCon Tryz.prog tab (spec_l01Power.gs δ) := .nil
noncomputable def spec_l01Power.c := cx spec_l01Power.s [] [(2, [0, 3])] false (spec_l01Power.gs _)
noncomputable def spec_l01Power (x0 : Int) : Option (Int) := fnW spec_l01Power.s spec_l01Power.c x0
theorem spec_l01Power.fok : FkS spec_l01Power.s 103 := ⟨Tryz.func103, by kernel_rfl, by kernel_rfl⟩
noncomputable def spec_l01Power.fn (x : Args tab spec_l01Power.s.ar) : Option (ResT tab spec_l01Power.s.rs) := spec_l01Power x
noncomputable abbrev spec_l01Power.k {δ : Type} : Callee (GT tab) δ := kS spec_l01Power.s spec_l01Power.fn
theorem spec_l01Power.con {δ : Type} : Con Tryz.prog (KT tab) 103 (spec_l01Power.k (δ := δ)) := con_shape (c := spec_l01Power.c) mixed tysOk (getG_con (spec_l01Power.gok _)) spec_l01Power.fok rfl rfl fun _ => rfl
noncomputable def spec_l01Power_l0 (v0 v1 : Int) : Option (Int) := lpW spec_l01Power.s spec_l01Power.c 0 (ud 7 [.int .i64 v0, .undef, .undef, .int .u64 v1]) [] 0
theorem spec_l01Power.eq (x0 : Int) : spec_l01Power x0 =
    spec_l01Power_l0 x0 (1 : Int) := by kernel_rfl
theorem spec_l01Power_l0.eq (v0 v1 : Int) : spec_l01Power_l0 v0 v1 =
    bif decide (v0 > (0 : Int)) then
      spec_l01Power_l0 (IntKind.i64.wrap (v0 - (1 : Int))) (IntKind.u64.wrap ((2 : Int) * v1))
    else
      some v1 := (Lw_eq tysOk (getG_con (spec_l01Power.gok _)) _ _).trans (by kernel_rfl)

noncomputable abbrev spec_BitsOf.s : Sg := ⟨[.lend], [vl 3], ⟨[.agg [.int .i64, .sl true true 106], vb], [none]⟩, Tryz.f57⟩
noncomputable def spec_BitsOf.gs (δ : Type) : List (Nat × Callee (GT tab) δ) := [(103, spec_l01Power.k)]
theorem spec_BitsOf.gok (δ : Type) : AllCon Tryz.prog tab (spec_BitsOf.gs δ) := .cons spec_l01Power.con .nil
noncomputable def spec_BitsOf.c := cx spec_BitsOf.s [9] [(5, [0, 2, 4, 5]), (9, [0, 2, 4, 5])] false (spec_BitsOf.gs _)
noncomputable def spec_BitsOf (x0 : List Int) : Option ((Int × (List Int)) × Bool) := fnW spec_BitsOf.s spec_BitsOf.c x0
theorem spec_BitsOf.fok : FkS spec_BitsOf.s 57 := ⟨Tryz.func57, by kernel_rfl, by kernel_rfl⟩
noncomputable def spec_BitsOf.fn (x : Args tab spec_BitsOf.s.ar) : Option (ResT tab spec_BitsOf.s.rs) := spec_BitsOf x
noncomputable abbrev spec_BitsOf.k {δ : Type} : Callee (GT tab) δ := kS spec_BitsOf.s spec_BitsOf.fn
theorem spec_BitsOf.con {δ : Type} : Con Tryz.prog (KT tab) 57 (spec_BitsOf.k (δ := δ)) := con_shape (c := spec_BitsOf.c) mixed tysOk (getG_con (spec_BitsOf.gok _)) spec_BitsOf.fok rfl rfl fun _ => rfl
noncomputable def spec_BitsOf_l0 (v0 : List Int) (v1 v2 : Int) (v3 : List Int) (v4 : Int) (v5 : List Int) : Option ((Int × (List Int)) × Bool) := lpW spec_BitsOf.s spec_BitsOf.c 0 (ud 55 [.vs false 3 v0, .undef, .ptr 0 0, .undef, .ptr 2 0, .int .i64 v1]) [.box 29 [.int .i64 v2, .sl 1 0], .row 0 true 106 v3, .box 29 [.int .i64 v4, .sl 3 0], .row 0 true 106 v5] 4
noncomputable def spec_BitsOf_l1 (v0 : List Int) (v1 v2 : Int) (v3 : List Int) (v4 : Int) (v5 : List Int) : Option ((Int × (List Int)) × Bool) := lpW spec_BitsOf.s spec_BitsOf.c 1 (ud 55 [.vs false 3 v0, .undef, .ptr 0 0, .undef, .ptr 2 0, .int .i64 v1]) [.box 29 [.int .i64 v2, .sl 1 0], .row 0 true 106 v3, .box 29 [.int .i64 v4, .sl 3 0], .row 0 true 106 v5] 4
theorem spec_BitsOf.eq (x0 : List Int) : spec_BitsOf x0 =
    bif decide ((x0.length : Int) > (5000 : Int)) then
      some (((0 : Int), ([] : List Int)), false)
    else
      spec_BitsOf_l0 x0 (0 : Int) (0 : Int) ([] : List Int) (x0.length : Int) ([] : List Int) := by kernel_rfl
theorem spec_BitsOf_l0.eq (v0 : List Int) (v1 v2 : Int) (v3 : List Int) (v4 : Int) (v5 : List Int) : spec_BitsOf_l0 v0 v1 v2 v3 v4 v5 =
    bif decide (v1 < (v0.length : Int)) then
      (at? v0 v1).bind fun y1 =>
      bif y1 != (0 : Int) then
        (at? v0 v1).bind fun y2 =>
        bif y2 != (1 : Int) then
          some (((0 : Int), ([] : List Int)), false)
        else
          spec_BitsOf_l1 v0 v1 v2 v3 v4 v5
      else
        spec_BitsOf_l1 v0 v1 v2 v3 v4 v5
    else
      some ((v4, v5), true) := (Lw_eq tysOk (getG_con (spec_BitsOf.gok _)) _ _).trans (by kernel_rfl)
theorem spec_BitsOf_l1.eq (v0 : List Int) (v1 v2 : Int) (v3 : List Int) (v4 : Int) (v5 : List Int) : spec_BitsOf_l1 v0 v1 v2 v3 v4 v5 =
    bif v1.tmod (64 : Int) == (0 : Int) then
      bif decide ((v5.length + ([(0 : Int)] : List Int).length) * 8 ≤ 140737488355328) then
        (at? v0 v1).bind fun y1 =>
        bif y1 == (1 : Int) then
          (at? (v5 ++ ([(0 : Int)] : List Int)) (IntKind.i64.wrap (v1.tdiv (64 : Int)))).bind fun y2 =>
          (v5 ++ ([(0 : Int)] : List Int))[(IntKind.i64.wrap (v1.tdiv (64 : Int))).toNat]?.bind fun y3 =>
          (spec_l01Power (v1.tmod (64 : Int))).bind fun y4 =>
          (at? (v5 ++ ([(0 : Int)] : List Int)) (IntKind.i64.wrap (v1.tdiv (64 : Int)))).bind fun y5 =>
          (v5 ++ ([(0 : Int)] : List Int))[(IntKind.i64.wrap (v1.tdiv (64 : Int))).toNat]?.bind fun y6 =>
          spec_BitsOf_l0 v0 (IntKind.i64.wrap (v1 + (1 : Int))) v2 v3 v4 ((v5 ++ ([(0 : Int)] : List Int)).set ((IntKind.i64.wrap (v1.tdiv (64 : Int))).toNat) (IntKind.u64.wrap (y3 + y4)))
        else
          spec_BitsOf_l0 v0 (IntKind.i64.wrap (v1 + (1 : Int))) v2 v3 v4 (v5 ++ ([(0 : Int)] : List Int))
      else
        none
    else
      (at? v0 v1).bind fun y7 =>
      bif y7 == (1 : Int) then
        (at? v5 (IntKind.i64.wrap (v1.tdiv (64 : Int)))).bind fun y8 =>
        v5[(IntKind.i64.wrap (v1.tdiv (64 : Int))).toNat]?.bind fun y9 =>
        (spec_l01Power (v1.tmod (64 : Int))).bind fun y10 =>
        (at? v5 (IntKind.i64.wrap (v1.tdiv (64 : Int)))).bind fun y11 =>
        v5[(IntKind.i64.wrap (v1.tdiv (64 : Int))).toNat]?.bind fun y12 =>
        spec_BitsOf_l0 v0 (IntKind.i64.wrap (v1 + (1 : Int))) v2 v3 v4 (v5.set ((IntKind.i64.wrap (v1.tdiv (64 : Int))).toNat) (IntKind.u64.wrap (y9 + y10)))
      else
        spec_BitsOf_l0 v0 (IntKind.i64.wrap (v1 + (1 : Int))) v2 v3 v4 v5 := (Lw_eq tysOk (getG_con (spec_BitsOf.gok _)) _ _).trans (by kernel_rfl)

noncomputable abbrev spec_l01List.s : Sg := ⟨[.lend], [.agg [.int .i64, .sl false false 106]], ⟨[vo 3], [none]⟩, Tryz.f101⟩
noncomputable def spec_l01List.gs (δ : Type) : List (Nat × Callee (GT tab) δ) := []
theorem spec_l01List.gok (δ : Type) : AllCon Tryz.prog tab (spec_l01List.gs δ) := .nil
noncomputable def spec_l01List.c := cx spec_l01List.s [] [(3, [1, 3, 4]), (7, [1, 3, 4, 5, 6])] false (spec_l01List.gs _)
noncomputable def spec_l01List (x0 : Int × (List Int)) : Option (List Int) := fnW spec_l01List.s spec_l01List.c x0
theorem spec_l01List.fok : FkS spec_l01List.s 101 := ⟨Tryz.func101, by kernel_rfl, by kernel_rfl⟩
noncomputable def spec_l01List.fn (x : Args tab spec_l01List.s.ar) : Option (ResT tab spec_l01List.s.rs) := spec_l01List x
noncomputable abbrev spec_l01List.k {δ : Type} : Callee (GT tab) δ := kS spec_l01List.s spec_l01List.fn
theorem spec_l01List.con {δ : Type} : Con Tryz.prog (KT tab) 101 (spec_l01List.k (δ := δ)) := con_shape (c := spec_l01List.c) mixed tysOk (getG_con (spec_l01List.gok _)) spec_l01List.fok rfl rfl fun _ => rfl
noncomputable def spec_l01List_l0 (v0 v1 : Int) (v2 v3 : List Int) : Option (List Int) := lpW spec_l01List.s spec_l01List.c 0 (ud 30 [.undef, .ptr 0 0, .undef, .sl 1 0, .int .i64 v0]) [.box 29 [.int .i64 v1, .vs false 106 v2], .row 0 true 3 v3] 2
noncomputable def spec_l01List_l1 (v0 v1 v2 v3 : Int) (v4 v5 : List Int) : Option (List Int) := lpW spec_l01List.s spec_l01List.c 1 (ud 28 [.undef, .ptr 0 0, .undef, .sl 1 0, .int .i64 v0, .int .u64 v1, .int .i64 v2]) [.box 29 [.int .i64 v3, .vs false 106 v4], .row 0 true 3 v5] 2
theorem spec_l01List.eq (x0 : Int × (List Int)) : spec_l01List x0 =
    spec_l01List_l0 (0 : Int) x0.1 x0.2 ([] : List Int) := by kernel_rfl
theorem spec_l01List_l0.eq (v0 v1 : Int) (v2 v3 : List Int) : spec_l01List_l0 v0 v1 v2 v3 =
    bif decide (v0 < v1) then
      (at? v2 (IntKind.i64.wrap (v0.tdiv (64 : Int)))).bind fun y1 =>
      spec_l01List_l1 v0 y1 (v0.tmod (64 : Int)) v1 v2 v3
    else
      some v3 := (Lw_eq tysOk (getG_con (spec_l01List.gok _)) _ _).trans (by kernel_rfl)
theorem spec_l01List_l1.eq (v0 v1 v2 v3 : Int) (v4 v5 : List Int) : spec_l01List_l1 v0 v1 v2 v3 v4 v5 =
    bif decide (v2 > (0 : Int)) then
      spec_l01List_l1 v0 (IntKind.u64.wrap (v1.tdiv (2 : Int))) (IntKind.i64.wrap (v2 - (1 : Int))) v3 v4 v5
    else
      bif decide ((v5.length + ([IntKind.i64.wrap (v1.tmod (2 : Int))] : List Int).length) * 8 ≤ 140737488355328) then
        spec_l01List_l0 (IntKind.i64.wrap (v0 + (1 : Int))) v3 v4 (v5 ++ ([IntKind.i64.wrap (v1.tmod (2 : Int))] : List Int))
      else
        none := (Lw_eq tysOk (getG_con (spec_l01List.gok _)) _ _).trans (by kernel_rfl)

noncomputable abbrev spec_BitsOk.s : Sg := ⟨[.lend], [.agg [.int .i64, .sl false false 106]], ⟨[vb], [none]⟩, Tryz.f99⟩
noncomputable def spec_BitsOk.gs (δ : Type) : List (Nat × Callee (GT tab) δ) := [(57, spec_BitsOf.k), (101, spec_l01List.k)]
theorem spec_BitsOk.gok (δ : Type) : AllCon Tryz.prog tab (spec_BitsOk.gs δ) := .cons spec_BitsOf.con (.cons spec_l01List.con .nil)
noncomputable def spec_BitsOk.c := cx spec_BitsOk.s [3] [(3, [1]), (5, [1, 3, 5])] false (spec_BitsOk.gs _)
noncomputable def spec_BitsOk (x0 : Int × (List Int)) : Option (Bool) := fnW spec_BitsOk.s spec_BitsOk.c x0
theorem spec_BitsOk.fok : FkS spec_BitsOk.s 99 := ⟨Tryz.func99, by kernel_rfl, by kernel_rfl⟩
noncomputable def spec_BitsOk.fn (x : Args tab spec_BitsOk.s.ar) : Option (ResT tab spec_BitsOk.s.rs) := spec_BitsOk x
noncomputable abbrev spec_BitsOk.k {δ : Type} : Callee (GT tab) δ := kS spec_BitsOk.s spec_BitsOk.fn
theorem spec_BitsOk.con {δ : Type} : Con Tryz.prog (KT tab) 99 (spec_BitsOk.k (δ := δ)) := con_shape (c := spec_BitsOk.c) mixed tysOk (getG_con (spec_BitsOk.gok _)) spec_BitsOk.fok rfl rfl fun _ => rfl
noncomputable def spec_BitsOk_l0 (v0 : Int) (v1 : List Int) : Option (Bool) := lpW spec_BitsOk.s spec_BitsOk.c 0 (ud 46 [.undef, .ptr 0 0]) [.box 29 [.int .i64 v0, .vs false 106 v1]] 1
noncomputable def spec_BitsOk_l1 (v0 v1 : Int) (v2 : List Int) (v3 : Int) (v4 : List Int) : Option (Bool) := lpW spec_BitsOk.s spec_BitsOk.c 1 (ud 42 [.undef, .ptr 0 0, .undef, .ptr 1 0, .undef, .int .i64 v0]) [.box 29 [.int .i64 v1, .vs false 106 v2], .box 29 [.int .i64 v3, .sl 2 0], .row 0 true 106 v4] 3
theorem spec_BitsOk.eq (x0 : Int × (List Int)) : spec_BitsOk x0 =
    bif decide (x0.1 < (0 : Int)) then
      some false
    else
      bif decide (x0.1 > (5000 : Int)) then
        some false
      else
        bif (x0.2.length : Int) != IntKind.i64.wrap ((IntKind.i64.wrap (x0.1 + (63 : Int))).tdiv (64 : Int)) then
          some false
        else
          spec_BitsOk_l0 x0.1 x0.2 := by kernel_rfl
theorem spec_BitsOk_l0.eq (v0 : Int) (v1 : List Int) : spec_BitsOk_l0 v0 v1 =
    (spec_l01List (v0, v1)).bind fun y1 =>
    (spec_BitsOf y1).bind fun y2 =>
    spec_BitsOk_l1 (0 : Int) v0 v1 y2.1.1 y2.1.2 := (Lw_eq tysOk (getG_con (spec_BitsOk.gok _)) _ _).trans (by kernel_rfl)
theorem spec_BitsOk_l1.eq (v0 v1 : Int) (v2 : List Int) (v3 : Int) (v4 : List Int) : spec_BitsOk_l1 v0 v1 v2 v3 v4 =
    bif decide (v0 < (v2.length : Int)) then
      (at? v2 v0).bind fun y1 =>
      (at? v4 v0).bind fun y2 =>
      v4[v0.toNat]?.bind fun y3 =>
      bif y1 != y3 then
        some false
      else
        spec_BitsOk_l1 (IntKind.i64.wrap (v0 + (1 : Int))) v1 v2 v3 v4
    else
      some true := (Lw_eq tysOk (getG_con (spec_BitsOk.gok _)) _ _).trans (by kernel_rfl)

noncomputable abbrev spec_BitsBytes.s : Sg := ⟨[.lend], [.agg [.int .i64, .sl false false 106]], ⟨[vo 5], [none]⟩, Tryz.f97⟩
noncomputable def spec_BitsBytes.gs (δ : Type) : List (Nat × Callee (GT tab) δ) := [(41, spec_VarOf.k), (99, spec_BitsOk.k), (101, spec_l01List.k)]
theorem spec_BitsBytes.gok (δ : Type) : AllCon Tryz.prog tab (spec_BitsBytes.gs δ) := .cons spec_VarOf.con (.cons spec_BitsOk.con (.cons spec_l01List.con .nil))
noncomputable def spec_BitsBytes.c := cx spec_BitsBytes.s [] [(6, [3, 4, 5]), (10, [3, 4, 5, 6, 7])] false (spec_BitsBytes.gs _)
noncomputable def spec_BitsBytes (x0 : Int × (List Int)) : Option (List Int) := fnW spec_BitsBytes.s spec_BitsBytes.c x0
theorem spec_BitsBytes.fok : FkS spec_BitsBytes.s 97 := ⟨Tryz.func97, by kernel_rfl, by kernel_rfl⟩
noncomputable def spec_BitsBytes.fn (x : Args tab spec_BitsBytes.s.ar) : Option (ResT tab spec_BitsBytes.s.rs) := spec_BitsBytes x
noncomputable abbrev spec_BitsBytes.k {δ : Type} : Callee (GT tab) δ := kS spec_BitsBytes.s spec_BitsBytes.fn
theorem spec_BitsBytes.con {δ : Type} : Con Tryz.prog (KT tab) 97 (spec_BitsBytes.k (δ := δ)) := con_shape (c := spec_BitsBytes.c) mixed tysOk (getG_con (spec_BitsBytes.gok _)) spec_BitsBytes.fok rfl rfl fun _ => rfl
noncomputable def spec_BitsBytes_l0 (v0 : Int) (v1 v2 : List Int) : Option (List Int) := lpW spec_BitsBytes.s spec_BitsBytes.c 0 (ud 42 [.undef, .undef, .undef, .sl 0 0, .sl 1 0, .int .i64 v0]) [.row 0 true 5 v1, .row 0 true 3 v2] 2
noncomputable def spec_BitsBytes_l1 (v0 v1 v2 : Int) (v3 v4 : List Int) : Option (List Int) := lpW spec_BitsBytes.s spec_BitsBytes.c 1 (ud 40 [.undef, .undef, .undef, .sl 0 0, .sl 1 0, .int .i64 v0, .int .i64 v1, .int .i64 v2]) [.row 0 true 5 v3, .row 0 true 3 v4] 2
theorem spec_BitsBytes.eq (x0 : Int × (List Int)) : spec_BitsBytes x0 =
    (spec_BitsOk x0).bind fun y1 =>
    bif !y1 then
      some ([] : List Int)
    else
      (spec_VarOf x0.1).bind fun y2 =>
      (spec_l01List x0).bind fun y3 =>
      spec_BitsBytes_l0 (0 : Int) y2 y3 := by kernel_rfl
theorem spec_BitsBytes_l0.eq (v0 : Int) (v1 v2 : List Int) : spec_BitsBytes_l0 v0 v1 v2 =
    bif decide (v0 < (v2.length : Int)) then
      spec_BitsBytes_l1 v0 (0 : Int) (7 : Int) v1 v2
    else
      some v1 := (Lw_eq tysOk (getG_con (spec_BitsBytes.gok _)) _ _).trans (by kernel_rfl)
theorem spec_BitsBytes_l1.eq (v0 v1 v2 : Int) (v3 v4 : List Int) : spec_BitsBytes_l1 v0 v1 v2 v3 v4 =
    bif decide (v2 ≥ (0 : Int)) then
      bif decide (IntKind.i64.wrap (v0 + v2) < (v4.length : Int)) then
        (at? v4 (IntKind.i64.wrap (v0 + v2))).bind fun y1 =>
        v4[(IntKind.i64.wrap (v0 + v2)).toNat]?.bind fun y2 =>
        spec_BitsBytes_l1 v0 (IntKind.i64.wrap ((IntKind.i64.wrap ((2 : Int) * v1)) + y2)) (IntKind.i64.wrap (v2 - (1 : Int))) v3 v4
      else
        spec_BitsBytes_l1 v0 (IntKind.i64.wrap ((2 : Int) * v1)) (IntKind.i64.wrap (v2 - (1 : Int))) v3 v4
    else
      bif decide ((v3.length + ([IntKind.u8.wrap v1] : List Int).length) * 1 ≤ 140737488355328) then
        spec_BitsBytes_l0 (IntKind.i64.wrap (v0 + (8 : Int))) (v3 ++ ([IntKind.u8.wrap v1] : List Int)) v4
      else
        none := (Lw_eq tysOk (getG_con (spec_BitsBytes.gok _)) _ _).trans (by kernel_rfl)

noncomputable abbrev spec_l16Here.s : Sg := ⟨[.lend, .lend, .lend], [vl 5, vi, vl 5], ⟨[vb], [none, none, none]⟩, Tryz.f98⟩
noncomputable def spec_l16Here.gs (δ : Type) : List (Nat × Callee (GT tab) δ) := []
theorem spec_l16Here.gok (δ : Type) : AllCon Tryz.prog tab (spec_l16Here.gs δ) := .nil
noncomputable def spec_l16Here.c := cx spec_l16Here.s [] [] false (spec_l16Here.gs _)
noncomputable def spec_l16Here (x0 : List Int) (x1 : Int) (x2 : List Int) : Option (Bool) := fnW spec_l16Here.s spec_l16Here.c (x0, x1, x2)
theorem spec_l16Here.fok : FkS spec_l16Here.s 98 := ⟨Tryz.func98, by kernel_rfl, by kernel_rfl⟩
noncomputable def spec_l16Here.fn (x : Args tab spec_l16Here.s.ar) : Option (ResT tab spec_l16Here.s.rs) := spec_l16Here x.1 x.2.1 x.2.2
noncomputable abbrev spec_l16Here.k {δ : Type} : Callee (GT tab) δ := kS spec_l16Here.s spec_l16Here.fn
theorem spec_l16Here.con {δ : Type} : Con Tryz.prog (KT tab) 98 (spec_l16Here.k (δ := δ)) := con_shape (c := spec_l16Here.c) mixed tysOk (getG_con (spec_l16Here.gok _)) spec_l16Here.fok rfl rfl fun _ => rfl
theorem spec_l16Here.eq (x0 : List Int) (x1 : Int) (x2 : List Int) : spec_l16Here x0 x1 x2 =
    bif decide ((x2.length : Int) > (0 : Int)) then
      bif decide (x1 ≥ (0 : Int)) then
        bif decide (x1 ≤ IntKind.i64.wrap ((x0.length : Int) - (x2.length : Int))) then
          bif decide (0 ≤ IntKind.i64.wrap (x1 + (x2.length : Int)) ∧ IntKind.i64.wrap (x1 + (x2.length : Int)) ≤ ((x0.length : Nat) : Int)) then
            bif decide (0 ≤ x1 ∧ x1 ≤ (((IntKind.i64.wrap (x1 + (x2.length : Int))).toNat : Nat) : Int)) then
              some ((strOf (((x0.take ((IntKind.i64.wrap (x1 + (x2.length : Int))).toNat)).drop x1.toNat).map fun x => x)).toList == (strOf (x2.map fun x => x)).toList)
            else
              none
          else
            none
        else
          some false
      else
        some false
    else
      some false := by kernel_rfl

noncomputable abbrev spec_BitsRead.s : Sg := ⟨[.lend, .lend], [vl 5, vi], ⟨[.agg [.int .i64, .sl true true 106], vi, vb], [none, none]⟩, Tryz.f42⟩
noncomputable def spec_BitsRead.gs (δ : Type) : List (Nat × Callee (GT tab) δ) := [(13, spec_VarRead.k), (57, spec_BitsOf.k), (96, spec_l02Pow.k), (97, spec_BitsBytes.k), (98, spec_l16Here.k)]
theorem spec_BitsRead.gok (δ : Type) : AllCon Tryz.prog tab (spec_BitsRead.gs δ) := .cons spec_VarRead.con (.cons spec_BitsOf.con (.cons spec_l02Pow.con (.cons spec_BitsBytes.con (.cons spec_l16Here.con .nil))))
noncomputable def spec_BitsRead.c := cx spec_BitsRead.s [4] [(4, [0, 1, 4, 7, 8]), (6, [0, 1, 4, 7, 8, 10, 11])] false (spec_BitsRead.gs _)
noncomputable def spec_BitsRead (x0 : List Int) (x1 : Int) : Option ((Int × (List Int)) × Int × Bool) := fnW spec_BitsRead.s spec_BitsRead.c (x0, x1)
theorem spec_BitsRead.fok : FkS spec_BitsRead.s 42 := ⟨Tryz.func42, by kernel_rfl, by kernel_rfl⟩
noncomputable def spec_BitsRead.fn (x : Args tab spec_BitsRead.s.ar) : Option (ResT tab spec_BitsRead.s.rs) := spec_BitsRead x.1 x.2
noncomputable abbrev spec_BitsRead.k {δ : Type} : Callee (GT tab) δ := kS spec_BitsRead.s spec_BitsRead.fn
theorem spec_BitsRead.con {δ : Type} : Con Tryz.prog (KT tab) 42 (spec_BitsRead.k (δ := δ)) := con_shape (c := spec_BitsRead.c) mixed tysOk (getG_con (spec_BitsRead.gok _)) spec_BitsRead.fok rfl rfl fun _ => rfl
noncomputable def spec_BitsRead_l0 (v0 : List Int) (v1 v2 v3 v4 : Int) (v5 : List Int) : Option ((Int × (List Int)) × Int × Bool) := lpW spec_BitsRead.s spec_BitsRead.c 0 (ud 70 [.vs false 5 v0, .int .i64 v1, .undef, .undef, .ptr 0 0, .undef, .undef, .int .i64 v2, .int .i64 v3]) [.box 29 [.int .i64 v4, .sl 1 0], .row 0 true 106 v5] 2
noncomputable def spec_BitsRead_l1 (v0 : List Int) (v1 v2 v3 v4 v5 : Int) (v6 v7 : List Int) : Option ((Int × (List Int)) × Int × Bool) := lpW spec_BitsRead.s spec_BitsRead.c 1 (ud 67 [.vs false 5 v0, .int .i64 v1, .undef, .undef, .ptr 0 0, .undef, .undef, .int .i64 v2, .int .i64 v3, .undef, .sl 2 0, .int .i64 v4]) [.box 29 [.int .i64 v5, .sl 1 0], .row 0 true 106 v6, .row 0 true 3 v7] 3
theorem spec_BitsRead.eq (x0 : List Int) (x1 : Int) : spec_BitsRead x0 x1 =
    (spec_VarRead x0 x1).bind fun y1 =>
    bif !y1.2.2 then
      some (((0 : Int), ([] : List Int)), (0 : Int), false)
    else
      bif decide (y1.1 > (5000 : Int)) then
        some (((0 : Int), ([] : List Int)), (0 : Int), false)
      else
        bif decide (IntKind.i64.wrap ((IntKind.i64.wrap (y1.1 + (7 : Int))).tdiv (8 : Int)) > IntKind.i64.wrap ((x0.length : Int) - y1.2.1)) then
          some (((0 : Int), ([] : List Int)), (0 : Int), false)
        else
          spec_BitsRead_l0 x0 x1 y1.1 y1.2.1 (0 : Int) ([] : List Int) := by kernel_rfl
theorem spec_BitsRead_l0.eq (v0 : List Int) (v1 v2 v3 v4 : Int) (v5 : List Int) : spec_BitsRead_l0 v0 v1 v2 v3 v4 v5 =
    spec_BitsRead_l1 v0 v1 v2 v3 (0 : Int) v4 v5 ([] : List Int) := (Lw_eq tysOk (getG_con (spec_BitsRead.gok _)) _ _).trans (by kernel_rfl)
theorem spec_BitsRead_l1.eq (v0 : List Int) (v1 v2 v3 v4 v5 : Int) (v6 v7 : List Int) : spec_BitsRead_l1 v0 v1 v2 v3 v4 v5 v6 v7 =
    bif decide (v4 < v2) then
      (at? v0 (IntKind.i64.wrap (v3 + (IntKind.i64.wrap (v4.tdiv (8 : Int)))))).bind fun y1 =>
      (spec_l02Pow (v4.tmod (8 : Int))).bind fun y2 =>
      bif decide (y2 = (0 : Int)) then
        none
      else
        bif decide ((v7.length + ([(IntKind.i64.wrap ((IntKind.i64.wrap y1).tdiv y2)).tmod (2 : Int)] : List Int).length) * 8 ≤ 140737488355328) then
          spec_BitsRead_l1 v0 v1 v2 v3 (IntKind.i64.wrap (v4 + (1 : Int))) v5 v6 (v7 ++ ([(IntKind.i64.wrap ((IntKind.i64.wrap y1).tdiv y2)).tmod (2 : Int)] : List Int))
        else
          none
    else
      (spec_BitsOf v7).bind fun y3 =>
      (spec_BitsBytes y3.1).bind fun y4 =>
      (spec_l16Here v0 v1 y4).bind fun y5 =>
      bif !y5 then
        some (((0 : Int), ([] : List Int)), (0 : Int), false)
      else
        some (y3.1, IntKind.i64.wrap (v1 + (y4.length : Int)), true) := (Lw_eq tysOk (getG_con (spec_BitsRead.gok _)) _ _).trans (by kernel_rfl)

noncomputable abbrev spec_l01Bit.s : Sg := ⟨[.lend], [vi], ⟨[vb], [none]⟩, Tryz.f100⟩
noncomputable def spec_l01Bit.gs (δ : Type) : List (Nat × Callee (GT tab) δ) := []
theorem spec_l01Bit.gok (δ : Type) : AllCon Tryz.prog tab (spec_l01Bit.gs δ) := .nil
noncomputable def spec_l01Bit.c := cx spec_l01Bit.s [] [] false (spec_l01Bit.gs _)
noncomputable def spec_l01Bit (x0 : Int) : Option (Bool) := fnW spec_l01Bit.s spec_l01Bit.c x0
theorem spec_l01Bit.fok : FkS spec_l01Bit.s 100 := ⟨Tryz.func100, by kernel_rfl, by kernel_rfl⟩
noncomputable def spec_l01Bit.fn (x : Args tab spec_l01Bit.s.ar) : Option (ResT tab spec_l01Bit.s.rs) := spec_l01Bit x
noncomputable abbrev spec_l01Bit.k {δ : Type} : Callee (GT tab) δ := kS spec_l01Bit.s spec_l01Bit.fn
theorem spec_l01Bit.con {δ : Type} : Con Tryz.prog (KT tab) 100 (spec_l01Bit.k (δ := δ)) := con_shape (c := spec_l01Bit.c) mixed tysOk (getG_con (spec_l01Bit.gok _)) spec_l01Bit.fok rfl rfl fun _ => rfl
theorem spec_l01Bit.eq (x0 : Int) : spec_l01Bit x0 =
    bif x0 == (0 : Int) then
      some true
    else
      some (x0 == (1 : Int)) := by kernel_rfl

noncomputable abbrev spec_Rank.s : Sg := ⟨[.lend, .lend, .lend], [.agg [.int .i64, .sl false false 106], vi, vi], ⟨[vi], [none, none, none]⟩, Tryz.f43⟩
noncomputable def spec_Rank.gs (δ : Type) : List (Nat × Callee (GT tab) δ) := [(99, spec_BitsOk.k), (100, spec_l01Bit.k), (101, spec_l01List.k)]
theorem spec_Rank.gok (δ : Type) : AllCon Tryz.prog tab (spec_Rank.gs δ) := .cons spec_BitsOk.con (.cons spec_l01Bit.con (.cons spec_l01List.con .nil))
noncomputable def spec_Rank.c := cx spec_Rank.s [3] [(3, [1, 2, 3]), (6, [1, 2, 7, 8, 9])] false (spec_Rank.gs _)
noncomputable def spec_Rank (x0 : Int × (List Int)) (x1 x2 : Int) : Option (Int) := fnW spec_Rank.s spec_Rank.c (x0, x1, x2)
theorem spec_Rank.fok : FkS spec_Rank.s 43 := ⟨Tryz.func43, by kernel_rfl, by kernel_rfl⟩
noncomputable def spec_Rank.fn (x : Args tab spec_Rank.s.ar) : Option (ResT tab spec_Rank.s.rs) := spec_Rank x.1 x.2.1 x.2.2
noncomputable abbrev spec_Rank.k {δ : Type} : Callee (GT tab) δ := kS spec_Rank.s spec_Rank.fn
theorem spec_Rank.con {δ : Type} : Con Tryz.prog (KT tab) 43 (spec_Rank.k (δ := δ)) := con_shape (c := spec_Rank.c) mixed tysOk (getG_con (spec_Rank.gok _)) spec_Rank.fok rfl rfl fun _ => rfl
noncomputable def spec_Rank_l0 (v0 v1 v2 : Int) (v3 : List Int) : Option (Int) := lpW spec_Rank.s spec_Rank.c 0 (ud 40 [.undef, .int .i64 v0, .int .i64 v1, .ptr 0 0]) [.box 29 [.int .i64 v2, .vs false 106 v3]] 1
noncomputable def spec_Rank_l1 (v0 v1 v2 v3 : Int) (v4 : List Int) : Option (Int) := lpW spec_Rank.s spec_Rank.c 1 (ud 34 [.undef, .int .i64 v0, .int .i64 v1, .undef, .undef, .undef, .undef, .sl 0 0, .int .i64 v2, .int .i64 v3]) [.row 0 true 3 v4] 1
theorem spec_Rank.eq (x0 : Int × (List Int)) (x1 x2 : Int) : spec_Rank x0 x1 x2 =
    (spec_BitsOk x0).bind fun y1 =>
    bif !y1 then
      some (-1 : Int)
    else
      (spec_l01Bit x1).bind fun y2 =>
      bif !y2 then
        some (-1 : Int)
      else
        bif decide (x2 < (0 : Int)) then
          some (-1 : Int)
        else
          bif decide (x2 > x0.1) then
            some (-1 : Int)
          else
            spec_Rank_l0 x1 x2 x0.1 x0.2 := by kernel_rfl
theorem spec_Rank_l0.eq (v0 v1 v2 : Int) (v3 : List Int) : spec_Rank_l0 v0 v1 v2 v3 =
    (spec_l01List (v2, v3)).bind fun y1 =>
    spec_Rank_l1 v0 v1 (0 : Int) (0 : Int) y1 := (Lw_eq tysOk (getG_con (spec_Rank.gok _)) _ _).trans (by kernel_rfl)
theorem spec_Rank_l1.eq (v0 v1 v2 v3 : Int) (v4 : List Int) : spec_Rank_l1 v0 v1 v2 v3 v4 =
    bif decide (v3 < v1) then
      (at? v4 v3).bind fun y1 =>
      v4[v3.toNat]?.bind fun y2 =>
      bif y2 == v0 then
        spec_Rank_l1 v0 v1 (IntKind.i64.wrap (v2 + (1 : Int))) (IntKind.i64.wrap (v3 + (1 : Int))) v4
      else
        spec_Rank_l1 v0 v1 v2 (IntKind.i64.wrap (v3 + (1 : Int))) v4
    else
      some v2 := (Lw_eq tysOk (getG_con (spec_Rank.gok _)) _ _).trans (by kernel_rfl)

noncomputable abbrev spec_WaveOk.s : Sg := ⟨[.lend], [.agg [.int .i64, .sl false false 3, .sl false false 29]], ⟨[vb], [none]⟩, Tryz.f44⟩
noncomputable def spec_WaveOk.gs (δ : Type) : List (Nat × Callee (GT tab) δ) := [(43, spec_Rank.k), (99, spec_BitsOk.k)]
theorem spec_WaveOk.gok (δ : Type) : AllCon Tryz.prog tab (spec_WaveOk.gs δ) := .cons spec_Rank.con (.cons spec_BitsOk.con .nil)
noncomputable def spec_WaveOk.c := cx spec_WaveOk.s [3] [(3, [1]), (4, [1, 3])] false (spec_WaveOk.gs _)
noncomputable def spec_WaveOk (x0 : Int × (List Int) × (List (Int × (List Int)))) : Option (Bool) := fnW spec_WaveOk.s spec_WaveOk.c x0
theorem spec_WaveOk.fok : FkS spec_WaveOk.s 44 := ⟨Tryz.func44, by kernel_rfl, by kernel_rfl⟩
noncomputable def spec_WaveOk.fn (x : Args tab spec_WaveOk.s.ar) : Option (ResT tab spec_WaveOk.s.rs) := spec_WaveOk x
noncomputable abbrev spec_WaveOk.k {δ : Type} : Callee (GT tab) δ := kS spec_WaveOk.s spec_WaveOk.fn
theorem spec_WaveOk.con {δ : Type} : Con Tryz.prog (KT tab) 44 (spec_WaveOk.k (δ := δ)) := con_shape (c := spec_WaveOk.c) mixed tysOk (getG_con (spec_WaveOk.gok _)) spec_WaveOk.fok rfl rfl fun _ => rfl
noncomputable def spec_WaveOk_l0 (v0 : Int) (v1 : List Int) (v2 : List (Int × (List Int))) : Option (Bool) := lpW spec_WaveOk.s spec_WaveOk.c 0 (ud 60 [.undef, .ptr 0 0]) [.box 26 [.int .i64 v0, .vs false 3 v1, .vs false 29 v2]] 1
noncomputable def spec_WaveOk_l1 (v0 v1 : Int) (v2 : List Int) (v3 : List (Int × (List Int))) : Option (Bool) := lpW spec_WaveOk.s spec_WaveOk.c 1 (ud 58 [.undef, .ptr 0 0, .undef, .int .i64 v0]) [.box 26 [.int .i64 v1, .vs false 3 v2, .vs false 29 v3]] 1
theorem spec_WaveOk.eq (x0 : Int × (List Int) × (List (Int × (List Int)))) : spec_WaveOk x0 =
    bif decide (x0.1 < (0 : Int)) then
      some false
    else
      bif decide (x0.1 > (1000 : Int)) then
        some false
      else
        bif (x0.2.2.length : Int) != (9 : Int) then
          some false
        else
          bif (x0.2.1.length : Int) != (9 : Int) then
            some false
          else
            spec_WaveOk_l0 x0.1 x0.2.1 x0.2.2 := by kernel_rfl
theorem spec_WaveOk_l0.eq (v0 : Int) (v1 : List Int) (v2 : List (Int × (List Int))) : spec_WaveOk_l0 v0 v1 v2 =
    spec_WaveOk_l1 (0 : Int) v0 v1 v2 := (Lw_eq tysOk (getG_con (spec_WaveOk.gok _)) _ _).trans (by kernel_rfl)
theorem spec_WaveOk_l1.eq (v0 v1 : Int) (v2 : List Int) (v3 : List (Int × (List Int))) : spec_WaveOk_l1 v0 v1 v2 v3 =
    bif decide (v0 < (9 : Int)) then
      (at? v3 v0).bind fun y1 =>
      bif y1.1 != v1 then
        some false
      else
        (at? v3 v0).bind fun y2 =>
        (spec_BitsOk y2).bind fun y3 =>
        bif !y3 then
          some false
        else
          (at? v3 v0).bind fun y4 =>
          (spec_Rank y4 (0 : Int) v1).bind fun y5 =>
          (at? v2 v0).bind fun y6 =>
          bif y5 != y6 then
            some false
          else
            spec_WaveOk_l1 (IntKind.i64.wrap (v0 + (1 : Int))) v1 v2 v3
    else
      some true := (Lw_eq tysOk (getG_con (spec_WaveOk.gok _)) _ _).trans (by kernel_rfl)

noncomputable abbrev spec_WaveRead.s : Sg := ⟨[.lend, .lend], [vl 5, vi], ⟨[.agg [.int .i64, .sl true true 3, .sl true true 29], vi, vb], [none, none]⟩, Tryz.f14⟩
noncomputable def spec_WaveRead.gs (δ : Type) : List (Nat × Callee (GT tab) δ) := [(42, spec_BitsRead.k), (43, spec_Rank.k), (44, spec_WaveOk.k)]
theorem spec_WaveRead.gok (δ : Type) : AllCon Tryz.prog tab (spec_WaveRead.gs δ) := .cons spec_BitsRead.con (.cons spec_Rank.con (.cons spec_WaveOk.con .nil))
noncomputable def spec_WaveRead.c := cx spec_WaveRead.s [] [(3, [0, 1, 4, 7, 8])] false (spec_WaveRead.gs _)
noncomputable def spec_WaveRead (x0 : List Int) (x1 : Int) : Option ((Int × (List Int) × (List (Int × (List Int)))) × Int × Bool) := fnW spec_WaveRead.s spec_WaveRead.c (x0, x1)
theorem spec_WaveRead.fok : FkS spec_WaveRead.s 14 := ⟨Tryz.func14, by kernel_rfl, by kernel_rfl⟩
noncomputable def spec_WaveRead.fn (x : Args tab spec_WaveRead.s.ar) : Option (ResT tab spec_WaveRead.s.rs) := spec_WaveRead x.1 x.2
noncomputable abbrev spec_WaveRead.k {δ : Type} : Callee (GT tab) δ := kS spec_WaveRead.s spec_WaveRead.fn
theorem spec_WaveRead.con {δ : Type} : Con Tryz.prog (KT tab) 14 (spec_WaveRead.k (δ := δ)) := con_shape (c := spec_WaveRead.c) mixed tysOk (getG_con (spec_WaveRead.gok _)) spec_WaveRead.fok rfl rfl fun _ => rfl
noncomputable def spec_WaveRead_l0 (v0 : List Int) (v1 v2 v3 : Int) (v4 : List Int) (v5 : List (Int × (List Int))) (v6 : Int) (v7 : List Int) (v8 : List (Int × (List Int))) : Option ((Int × (List Int) × (List (Int × (List Int)))) × Int × Bool) := lpW spec_WaveRead.s spec_WaveRead.c 0 (ud 43 [.vs false 5 v0, .int .i64 v1, .undef, .undef, .ptr 0 0, .undef, .undef, .ptr 3 0, .int .i64 v2]) [.box 26 [.int .i64 v3, .sl 1 0, .sl 2 0], .row 0 true 3 v4, .row 0 true 29 v5, .box 26 [.int .i64 v6, .sl 4 0, .sl 5 0], .row 0 true 3 v7, .row 0 true 29 v8] 6
theorem spec_WaveRead.eq (x0 : List Int) (x1 : Int) : spec_WaveRead x0 x1 =
    spec_WaveRead_l0 x0 x1 (0 : Int) (0 : Int) ([] : List Int) ([] : List (Int × (List Int))) (0 : Int) ([] : List Int) ([] : List (Int × (List Int))) := by kernel_rfl
theorem spec_WaveRead_l0.eq (v0 : List Int) (v1 v2 v3 : Int) (v4 : List Int) (v5 : List (Int × (List Int))) (v6 : Int) (v7 : List Int) (v8 : List (Int × (List Int))) : spec_WaveRead_l0 v0 v1 v2 v3 v4 v5 v6 v7 v8 =
    bif decide (v2 < (9 : Int)) then
      (spec_BitsRead v0 v1).bind fun y1 =>
      bif !y1.2.2 then
        some (((0 : Int), ([] : List Int), ([] : List (Int × (List Int)))), (0 : Int), false)
      else
        (spec_Rank y1.1 (0 : Int) y1.1.1).bind fun y2 =>
        bif decide ((v7.length + ([y2] : List Int).length) * 8 ≤ 140737488355328) then
          bif decide ((v8.length + ([(y1.1.1, y1.1.2)] : List (Int × (List Int))).length) * 32 ≤ 140737488355328) then
            spec_WaveRead_l0 v0 y1.2.1 (IntKind.i64.wrap (v2 + (1 : Int))) v3 v4 v5 y1.1.1 (v7 ++ ([y2] : List Int)) (v8 ++ ([(y1.1.1, y1.1.2)] : List (Int × (List Int))))
          else
            none
        else
          none
    else
      (spec_WaveOk (v6, v7, v8)).bind fun y3 =>
      bif !y3 then
        some (((0 : Int), ([] : List Int), ([] : List (Int × (List Int)))), (0 : Int), false)
      else
        some ((v6, v7, v8), v1, true) := (Lw_eq tysOk (getG_con (spec_WaveRead.gok _)) _ _).trans (by kernel_rfl)

noncomputable abbrev spec_l07List.s : Sg := ⟨[.lend], [.agg [.int .i64, .sl false false 3, .sl false false 29]], ⟨[vo 3], [none]⟩, Tryz.f49⟩
noncomputable def spec_l07List.gs (δ : Type) : List (Nat × Callee (GT tab) δ) := [(101, spec_l01List.k)]
theorem spec_l07List.gok (δ : Type) : AllCon Tryz.prog tab (spec_l07List.gs δ) := .cons spec_l01List.con .nil
noncomputable def spec_l07List.c := cx spec_l07List.s [] [(4, [1, 3, 4, 5]), (8, [1, 3, 4, 6]), (13, [1, 3, 4, 6, 7, 8, 9]), (19, [1, 3, 4, 6, 7, 8, 9, 10, 11, 12, 13])] false (spec_l07List.gs _)
noncomputable def spec_l07List (x0 : Int × (List Int) × (List (Int × (List Int)))) : Option (List Int) := fnW spec_l07List.s spec_l07List.c x0
theorem spec_l07List.fok : FkS spec_l07List.s 49 := ⟨Tryz.func49, by kernel_rfl, by kernel_rfl⟩
noncomputable def spec_l07List.fn (x : Args tab spec_l07List.s.ar) : Option (ResT tab spec_l07List.s.rs) := spec_l07List x
noncomputable abbrev spec_l07List.k {δ : Type} : Callee (GT tab) δ := kS spec_l07List.s spec_l07List.fn
theorem spec_l07List.con {δ : Type} : Con Tryz.prog (KT tab) 49 (spec_l07List.k (δ := δ)) := con_shape (c := spec_l07List.c) mixed tysOk (getG_con (spec_l07List.gok _)) spec_l07List.fok rfl rfl fun _ => rfl
noncomputable def spec_l07List_l0 (v0 v1 : Int) (v2 : List Int) (v3 : List (Int × (List Int))) (v4 : List Int) (v5 : List (List Int)) : Option (List Int) := lpW spec_l07List.s spec_l07List.c 0 (ud 88 [.undef, .ptr 0 0, .undef, .sl 1 0, .sl 2 0, .int .i64 v0]) [.box 26 [.int .i64 v1, .vs false 3 v2, .vs false 29 v3], .row 0 true 3 v4, .row 0 true 23 v5] 3
noncomputable def spec_l07List_l1 (v0 v1 : Int) (v2 : List Int) (v3 : List (Int × (List Int))) (v4 : List Int) (v5 : List (List Int)) : Option (List Int) := lpW spec_l07List.s spec_l07List.c 1 (ud 87 [.undef, .ptr 0 0, .undef, .sl 1 0, .sl 2 0, .undef, .int .i64 v0]) [.box 26 [.int .i64 v1, .vs false 3 v2, .vs false 29 v3], .row 0 true 3 v4, .row 0 true 23 v5] 3
noncomputable def spec_l07List_l2 (v0 v1 v2 v3 v4 : Int) (v5 : List Int) (v6 : List (Int × (List Int))) (v7 : List Int) (v8 : List (List Int)) : Option (List Int) := lpW spec_l07List.s spec_l07List.c 2 (ud 84 [.undef, .ptr 0 0, .undef, .sl 1 0, .sl 2 0, .undef, .int .i64 v0, .int .i64 v1, .int .i64 v2, .int .i64 v3]) [.box 26 [.int .i64 v4, .vs false 3 v5, .vs false 29 v6], .row 0 true 3 v7, .row 0 true 23 v8] 3
noncomputable def spec_l07List_l3 (v0 v1 v2 v3 v4 v5 v6 v7 v8 : Int) (v9 : List Int) (v10 : List (Int × (List Int))) (v11 : List Int) (v12 : List (List Int)) : Option (List Int) := lpW spec_l07List.s spec_l07List.c 3 (ud 80 [.undef, .ptr 0 0, .undef, .sl 1 0, .sl 2 0, .undef, .int .i64 v0, .int .i64 v1, .int .i64 v2, .int .i64 v3, .int .i64 v4, .int .i64 v5, .int .i64 v6, .int .i64 v7]) [.box 26 [.int .i64 v8, .vs false 3 v9, .vs false 29 v10], .row 0 true 3 v11, .row 0 true 23 v12] 3
theorem spec_l07List.eq (x0 : Int × (List Int) × (List (Int × (List Int)))) : spec_l07List x0 =
    spec_l07List_l0 (0 : Int) x0.1 x0.2.1 x0.2.2 ([] : List Int) ([] : List (List Int)) := by kernel_rfl
theorem spec_l07List_l0.eq (v0 v1 : Int) (v2 : List Int) (v3 : List (Int × (List Int))) (v4 : List Int) (v5 : List (List Int)) : spec_l07List_l0 v0 v1 v2 v3 v4 v5 =
    bif decide (v0 < (9 : Int)) then
      (at? v3 v0).bind fun y1 =>
      (spec_l01List y1).bind fun y2 =>
      bif decide ((v5.length + ([y2] : List (List Int)).length) * 24 ≤ 140737488355328) then
        spec_l07List_l0 (IntKind.i64.wrap (v0 + (1 : Int))) v1 v2 v3 v4 (v5 ++ ([y2] : List (List Int)))
      else
        none
    else
      spec_l07List_l1 (0 : Int) v1 v2 v3 v4 v5 := (Lw_eq tysOk (getG_con (spec_l07List.gok _)) _ _).trans (by kernel_rfl)
theorem spec_l07List_l1.eq (v0 v1 : Int) (v2 : List Int) (v3 : List (Int × (List Int))) (v4 : List Int) (v5 : List (List Int)) : spec_l07List_l1 v0 v1 v2 v3 v4 v5 =
    bif decide (v0 < v1) then
      spec_l07List_l2 v0 v0 (0 : Int) (0 : Int) v1 v2 v3 v4 v5
    else
      some v4 := (Lw_eq tysOk (getG_con (spec_l07List.gok _)) _ _).trans (by kernel_rfl)
theorem spec_l07List_l2.eq (v0 v1 v2 v3 v4 : Int) (v5 : List Int) (v6 : List (Int × (List Int))) (v7 : List Int) (v8 : List (List Int)) : spec_l07List_l2 v0 v1 v2 v3 v4 v5 v6 v7 v8 =
    bif decide (v3 < (9 : Int)) then
      (at? v8 v3).bind fun y1 =>
      v8[v3.toNat]?.bind fun y2 =>
      (at? y2 v1).bind fun y3 =>
      y2[v1.toNat]?.bind fun y4 =>
      spec_l07List_l3 v0 v1 v2 v3 y4 (0 : Int) (0 : Int) (0 : Int) v4 v5 v6 v7 (v8.set v3.toNat y2)
    else
      bif decide ((v7.length + ([v2] : List Int).length) * 8 ≤ 140737488355328) then
        spec_l07List_l1 (IntKind.i64.wrap (v0 + (1 : Int))) v4 v5 v6 (v7 ++ ([v2] : List Int)) v8
      else
        none := (Lw_eq tysOk (getG_con (spec_l07List.gok _)) _ _).trans (by kernel_rfl)
theorem spec_l07List_l3.eq (v0 v1 v2 v3 v4 v5 v6 v7 v8 : Int) (v9 : List Int) (v10 : List (Int × (List Int))) (v11 : List Int) (v12 : List (List Int)) : spec_l07List_l3 v0 v1 v2 v3 v4 v5 v6 v7 v8 v9 v10 v11 v12 =
    bif decide (v7 < v8) then
      (at? v12 v3).bind fun y1 =>
      v12[v3.toNat]?.bind fun y2 =>
      (at? y2 v7).bind fun y3 =>
      y2[v7.toNat]?.bind fun y4 =>
      bif y4 == (0 : Int) then
        bif decide (v7 < v1) then
          (at? (v12.set v3.toNat y2) v3).bind fun y5 =>
          (v12.set v3.toNat y2)[v3.toNat]?.bind fun y6 =>
          (at? y6 v7).bind fun y7 =>
          y6[v7.toNat]?.bind fun y8 =>
          bif y8 == v4 then
            spec_l07List_l3 v0 v1 v2 v3 v4 (IntKind.i64.wrap (v5 + (1 : Int))) (IntKind.i64.wrap (v6 + (1 : Int))) (IntKind.i64.wrap (v7 + (1 : Int))) v8 v9 v10 v11 ((v12.set v3.toNat y2).set v3.toNat y6)
          else
            spec_l07List_l3 v0 v1 v2 v3 v4 v5 (IntKind.i64.wrap (v6 + (1 : Int))) (IntKind.i64.wrap (v7 + (1 : Int))) v8 v9 v10 v11 ((v12.set v3.toNat y2).set v3.toNat y6)
        else
          spec_l07List_l3 v0 v1 v2 v3 v4 v5 (IntKind.i64.wrap (v6 + (1 : Int))) (IntKind.i64.wrap (v7 + (1 : Int))) v8 v9 v10 v11 (v12.set v3.toNat y2)
      else
        bif decide (v7 < v1) then
          (at? (v12.set v3.toNat y2) v3).bind fun y9 =>
          (v12.set v3.toNat y2)[v3.toNat]?.bind fun y10 =>
          (at? y10 v7).bind fun y11 =>
          y10[v7.toNat]?.bind fun y12 =>
          bif y12 == v4 then
            spec_l07List_l3 v0 v1 v2 v3 v4 (IntKind.i64.wrap (v5 + (1 : Int))) v6 (IntKind.i64.wrap (v7 + (1 : Int))) v8 v9 v10 v11 ((v12.set v3.toNat y2).set v3.toNat y10)
          else
            spec_l07List_l3 v0 v1 v2 v3 v4 v5 v6 (IntKind.i64.wrap (v7 + (1 : Int))) v8 v9 v10 v11 ((v12.set v3.toNat y2).set v3.toNat y10)
        else
          spec_l07List_l3 v0 v1 v2 v3 v4 v5 v6 (IntKind.i64.wrap (v7 + (1 : Int))) v8 v9 v10 v11 (v12.set v3.toNat y2)
    else
      bif v4 == (1 : Int) then
        spec_l07List_l2 v0 (IntKind.i64.wrap (v6 + v5)) (IntKind.i64.wrap ((IntKind.i64.wrap ((2 : Int) * v2)) + v4)) (IntKind.i64.wrap (v3 + (1 : Int))) v8 v9 v10 v11 v12
      else
        spec_l07List_l2 v0 v5 (IntKind.i64.wrap ((IntKind.i64.wrap ((2 : Int) * v2)) + v4)) (IntKind.i64.wrap (v3 + (1 : Int))) v8 v9 v10 v11 v12 := (Lw_eq tysOk (getG_con (spec_l07List.gok _)) _ _).trans (by kernel_rfl)

noncomputable abbrev spec_WaveList.s : Sg := ⟨[.lend], [.agg [.int .i64, .sl false false 3, .sl false false 29]], ⟨[vo 3], [none]⟩, Tryz.f16⟩
noncomputable def spec_WaveList.gs (δ : Type) : List (Nat × Callee (GT tab) δ) := [(44, spec_WaveOk.k), (49, spec_l07List.k)]
theorem spec_WaveList.gok (δ : Type) : AllCon Tryz.prog tab (spec_WaveList.gs δ) := .cons spec_WaveOk.con (.cons spec_l07List.con .nil)
noncomputable def spec_WaveList.c := cx spec_WaveList.s [] [] false (spec_WaveList.gs _)
noncomputable def spec_WaveList (x0 : Int × (List Int) × (List (Int × (List Int)))) : Option (List Int) := fnW spec_WaveList.s spec_WaveList.c x0
theorem spec_WaveList.fok : FkS spec_WaveList.s 16 := ⟨Tryz.func16, by kernel_rfl, by kernel_rfl⟩
noncomputable def spec_WaveList.fn (x : Args tab spec_WaveList.s.ar) : Option (ResT tab spec_WaveList.s.rs) := spec_WaveList x
noncomputable abbrev spec_WaveList.k {δ : Type} : Callee (GT tab) δ := kS spec_WaveList.s spec_WaveList.fn
theorem spec_WaveList.con {δ : Type} : Con Tryz.prog (KT tab) 16 (spec_WaveList.k (δ := δ)) := con_shape (c := spec_WaveList.c) mixed tysOk (getG_con (spec_WaveList.gok _)) spec_WaveList.fok rfl rfl fun _ => rfl
theorem spec_WaveList.eq (x0 : Int × (List Int) × (List (Int × (List Int)))) : spec_WaveList x0 =
    (spec_WaveOk x0).bind fun y1 =>
    bif !y1 then
      some ([] : List Int)
    else
      (spec_l07List x0).bind fun y2 =>
      some y2 := by kernel_rfl

noncomputable abbrev spec_SymsOk.s : Sg := ⟨[.lend], [vl 3], ⟨[vb], [none]⟩, Tryz.f45⟩
noncomputable def spec_SymsOk.gs (δ : Type) : List (Nat × Callee (GT tab) δ) := []
theorem spec_SymsOk.gok (δ : Type) : AllCon Tryz.prog tab (spec_SymsOk.gs δ) := .nil
noncomputable def spec_SymsOk.c := cx spec_SymsOk.s [] [(4, [0, 3])] false (spec_SymsOk.gs _)
noncomputable def spec_SymsOk (x0 : List Int) : Option (Bool) := fnW spec_SymsOk.s spec_SymsOk.c x0
theorem spec_SymsOk.fok : FkS spec_SymsOk.s 45 := ⟨Tryz.func45, by kernel_rfl, by kernel_rfl⟩
noncomputable def spec_SymsOk.fn (x : Args tab spec_SymsOk.s.ar) : Option (ResT tab spec_SymsOk.s.rs) := spec_SymsOk x
noncomputable abbrev spec_SymsOk.k {δ : Type} : Callee (GT tab) δ := kS spec_SymsOk.s spec_SymsOk.fn
theorem spec_SymsOk.con {δ : Type} : Con Tryz.prog (KT tab) 45 (spec_SymsOk.k (δ := δ)) := con_shape (c := spec_SymsOk.c) mixed tysOk (getG_con (spec_SymsOk.gok _)) spec_SymsOk.fok rfl rfl fun _ => rfl
noncomputable def spec_SymsOk_l0 (v0 : List Int) (v1 : Int) : Option (Bool) := lpW spec_SymsOk.s spec_SymsOk.c 0 (ud 21 [.vs false 3 v0, .undef, .undef, .int .i64 v1]) [] 0
theorem spec_SymsOk.eq (x0 : List Int) : spec_SymsOk x0 =
    bif decide ((x0.length : Int) > (301 : Int)) then
      some false
    else
      spec_SymsOk_l0 x0 (0 : Int) := by kernel_rfl
theorem spec_SymsOk_l0.eq (v0 : List Int) (v1 : Int) : spec_SymsOk_l0 v0 v1 =
    bif decide (v1 < (v0.length : Int)) then
      (at? v0 v1).bind fun y1 =>
      bif decide (y1 < (0 : Int)) then
        some false
      else
        (at? v0 v1).bind fun y2 =>
        bif decide (y2 > (256 : Int)) then
          some false
        else
          spec_SymsOk_l0 v0 (IntKind.i64.wrap (v1 + (1 : Int)))
    else
      some true := (Lw_eq tysOk (getG_con (spec_SymsOk.gok _)) _ _).trans (by kernel_rfl)

noncomputable abbrev spec_LfOf.s : Sg := ⟨[.lend], [vl 3], ⟨[vo 3], [none]⟩, Tryz.f46⟩
noncomputable def spec_LfOf.gs (δ : Type) : List (Nat × Callee (GT tab) δ) := [(45, spec_SymsOk.k)]
theorem spec_LfOf.gok (δ : Type) : AllCon Tryz.prog tab (spec_LfOf.gs δ) := .cons spec_SymsOk.con .nil
noncomputable def spec_LfOf.c := cx spec_LfOf.s [] [(5, [0, 3, 4]), (9, [0, 3, 4, 5, 6])] false (spec_LfOf.gs _)
noncomputable def spec_LfOf (x0 : List Int) : Option (List Int) := fnW spec_LfOf.s spec_LfOf.c x0
theorem spec_LfOf.fok : FkS spec_LfOf.s 46 := ⟨Tryz.func46, by kernel_rfl, by kernel_rfl⟩
noncomputable def spec_LfOf.fn (x : Args tab spec_LfOf.s.ar) : Option (ResT tab spec_LfOf.s.rs) := spec_LfOf x
noncomputable abbrev spec_LfOf.k {δ : Type} : Callee (GT tab) δ := kS spec_LfOf.s spec_LfOf.fn
theorem spec_LfOf.con {δ : Type} : Con Tryz.prog (KT tab) 46 (spec_LfOf.k (δ := δ)) := con_shape (c := spec_LfOf.c) mixed tysOk (getG_con (spec_LfOf.gok _)) spec_LfOf.fok rfl rfl fun _ => rfl
noncomputable def spec_LfOf_l0 (v0 : List Int) (v1 : Int) (v2 : List Int) : Option (List Int) := lpW spec_LfOf.s spec_LfOf.c 0 (ud 50 [.vs false 3 v0, .undef, .undef, .sl 0 0, .int .i64 v1]) [.row 0 true 3 v2] 1
noncomputable def spec_LfOf_l1 (v0 : List Int) (v1 v2 v3 : Int) (v4 : List Int) : Option (List Int) := lpW spec_LfOf.s spec_LfOf.c 1 (ud 48 [.vs false 3 v0, .undef, .undef, .sl 0 0, .int .i64 v1, .int .i64 v2, .int .i64 v3]) [.row 0 true 3 v4] 1
theorem spec_LfOf.eq (x0 : List Int) : spec_LfOf x0 =
    (spec_SymsOk x0).bind fun y1 =>
    bif !y1 then
      some ([] : List Int)
    else
      spec_LfOf_l0 x0 (0 : Int) ([] : List Int) := by kernel_rfl
theorem spec_LfOf_l0.eq (v0 : List Int) (v1 : Int) (v2 : List Int) : spec_LfOf_l0 v0 v1 v2 =
    bif decide (v1 < (v0.length : Int)) then
      spec_LfOf_l1 v0 v1 (0 : Int) (0 : Int) v2
    else
      some v2 := (Lw_eq tysOk (getG_con (spec_LfOf.gok _)) _ _).trans (by kernel_rfl)
theorem spec_LfOf_l1.eq (v0 : List Int) (v1 v2 v3 : Int) (v4 : List Int) : spec_LfOf_l1 v0 v1 v2 v3 v4 =
    bif decide (v3 < (v0.length : Int)) then
      (at? v0 v3).bind fun y1 =>
      (at? v0 v1).bind fun y2 =>
      bif decide (y1 < y2) then
        spec_LfOf_l1 v0 v1 (IntKind.i64.wrap (v2 + (1 : Int))) (IntKind.i64.wrap (v3 + (1 : Int))) v4
      else
        bif decide (v3 < v1) then
          (at? v0 v3).bind fun y3 =>
          (at? v0 v1).bind fun y4 =>
          bif y3 == y4 then
            spec_LfOf_l1 v0 v1 (IntKind.i64.wrap (v2 + (1 : Int))) (IntKind.i64.wrap (v3 + (1 : Int))) v4
          else
            spec_LfOf_l1 v0 v1 v2 (IntKind.i64.wrap (v3 + (1 : Int))) v4
        else
          spec_LfOf_l1 v0 v1 v2 (IntKind.i64.wrap (v3 + (1 : Int))) v4
    else
      bif decide ((v4.length + ([v2] : List Int).length) * 8 ≤ 140737488355328) then
        spec_LfOf_l0 v0 (IntKind.i64.wrap (v1 + (1 : Int))) (v4 ++ ([v2] : List Int))
      else
        none := (Lw_eq tysOk (getG_con (spec_LfOf.gok _)) _ _).trans (by kernel_rfl)

noncomputable abbrev spec_TextOk.s : Sg := ⟨[.lend], [vl 5], ⟨[vb], [none]⟩, Tryz.f50⟩
noncomputable def spec_TextOk.gs (δ : Type) : List (Nat × Callee (GT tab) δ) := []
theorem spec_TextOk.gok (δ : Type) : AllCon Tryz.prog tab (spec_TextOk.gs δ) := .nil
noncomputable def spec_TextOk.c := cx spec_TextOk.s [] [] false (spec_TextOk.gs _)
noncomputable def spec_TextOk (x0 : List Int) : Option (Bool) := fnW spec_TextOk.s spec_TextOk.c x0
theorem spec_TextOk.fok : FkS spec_TextOk.s 50 := ⟨Tryz.func50, by kernel_rfl, by kernel_rfl⟩
noncomputable def spec_TextOk.fn (x : Args tab spec_TextOk.s.ar) : Option (ResT tab spec_TextOk.s.rs) := spec_TextOk x
noncomputable abbrev spec_TextOk.k {δ : Type} : Callee (GT tab) δ := kS spec_TextOk.s spec_TextOk.fn
theorem spec_TextOk.con {δ : Type} : Con Tryz.prog (KT tab) 50 (spec_TextOk.k (δ := δ)) := con_shape (c := spec_TextOk.c) mixed tysOk (getG_con (spec_TextOk.gok _)) spec_TextOk.fok rfl rfl fun _ => rfl
theorem spec_TextOk.eq (x0 : List Int) : spec_TextOk x0 =
    some (decide ((x0.length : Int) ≤ (300 : Int))) := by kernel_rfl

noncomputable abbrev spec_l05Cmp.s : Sg := ⟨[.lend, .lend], [vl 5, vl 5], ⟨[vi], [none, none]⟩, Tryz.f102⟩
noncomputable def spec_l05Cmp.gs (δ : Type) : List (Nat × Callee (GT tab) δ) := []
theorem spec_l05Cmp.gok (δ : Type) : AllCon Tryz.prog tab (spec_l05Cmp.gs δ) := .nil
noncomputable def spec_l05Cmp.c := cx spec_l05Cmp.s [4] [(2, [0, 1, 5]), (4, [0, 1, 5])] false (spec_l05Cmp.gs _)
noncomputable def spec_l05Cmp (x0 x1 : List Int) : Option (Int) := fnW spec_l05Cmp.s spec_l05Cmp.c (x0, x1)
theorem spec_l05Cmp.fok : FkS spec_l05Cmp.s 102 := ⟨Tryz.func102, by kernel_rfl, by kernel_rfl⟩
noncomputable def spec_l05Cmp.fn (x : Args tab spec_l05Cmp.s.ar) : Option (ResT tab spec_l05Cmp.s.rs) := spec_l05Cmp x.1 x.2
noncomputable abbrev spec_l05Cmp.k {δ : Type} : Callee (GT tab) δ := kS spec_l05Cmp.s spec_l05Cmp.fn
theorem spec_l05Cmp.con {δ : Type} : Con Tryz.prog (KT tab) 102 (spec_l05Cmp.k (δ := δ)) := con_shape (c := spec_l05Cmp.c) mixed tysOk (getG_con (spec_l05Cmp.gok _)) spec_l05Cmp.fok rfl rfl fun _ => rfl
noncomputable def spec_l05Cmp_l0 (v0 v1 : List Int) (v2 : Int) : Option (Int) := lpW spec_l05Cmp.s spec_l05Cmp.c 0 (ud 40 [.vs false 5 v0, .vs false 5 v1, .undef, .undef, .undef, .int .i64 v2]) [] 0
noncomputable def spec_l05Cmp_l1 (v0 v1 : List Int) (v2 : Int) : Option (Int) := lpW spec_l05Cmp.s spec_l05Cmp.c 1 (ud 40 [.vs false 5 v0, .vs false 5 v1, .undef, .undef, .undef, .int .i64 v2]) [] 0
theorem spec_l05Cmp.eq (x0 x1 : List Int) : spec_l05Cmp x0 x1 =
    spec_l05Cmp_l0 x0 x1 (0 : Int) := by kernel_rfl
theorem spec_l05Cmp_l0.eq (v0 v1 : List Int) (v2 : Int) : spec_l05Cmp_l0 v0 v1 v2 =
    bif decide (v2 < (v0.length : Int)) then
      bif decide (v2 < (v1.length : Int)) then
        spec_l05Cmp_l1 v0 v1 v2
      else
        bif decide ((v0.length : Int) < (v1.length : Int)) then
          some (-1 : Int)
        else
          bif decide ((v0.length : Int) > (v1.length : Int)) then
            some (1 : Int)
          else
            some (0 : Int)
    else
      bif decide ((v0.length : Int) < (v1.length : Int)) then
        some (-1 : Int)
      else
        bif decide ((v0.length : Int) > (v1.length : Int)) then
          some (1 : Int)
        else
          some (0 : Int) := (Lw_eq tysOk (getG_con (spec_l05Cmp.gok _)) _ _).trans (by kernel_rfl)
theorem spec_l05Cmp_l1.eq (v0 v1 : List Int) (v2 : Int) : spec_l05Cmp_l1 v0 v1 v2 =
    (at? v0 v2).bind fun y1 =>
    (at? v1 v2).bind fun y2 =>
    bif decide (y1 < y2) then
      some (-1 : Int)
    else
      (at? v0 v2).bind fun y3 =>
      (at? v1 v2).bind fun y4 =>
      bif decide (y3 > y4) then
        some (1 : Int)
      else
        spec_l05Cmp_l0 v0 v1 (IntKind.i64.wrap (v2 + (1 : Int))) := (Lw_eq tysOk (getG_con (spec_l05Cmp.gok _)) _ _).trans (by kernel_rfl)

noncomputable abbrev spec_SuffixRows.s : Sg := ⟨[.lend], [vl 5], ⟨[vo 3], [none]⟩, Tryz.f52⟩
noncomputable def spec_SuffixRows.gs (δ : Type) : List (Nat × Callee (GT tab) δ) := [(50, spec_TextOk.k), (102, spec_l05Cmp.k)]
theorem spec_SuffixRows.gok (δ : Type) : AllCon Tryz.prog tab (spec_SuffixRows.gs δ) := .cons spec_TextOk.con (.cons spec_l05Cmp.con .nil)
noncomputable def spec_SuffixRows.c := cx spec_SuffixRows.s [] [(5, [0, 3, 4]), (9, [0, 3, 4, 5, 6])] false (spec_SuffixRows.gs _)
noncomputable def spec_SuffixRows (x0 : List Int) : Option (List Int) := fnW spec_SuffixRows.s spec_SuffixRows.c x0
theorem spec_SuffixRows.fok : FkS spec_SuffixRows.s 52 := ⟨Tryz.func52, by kernel_rfl, by kernel_rfl⟩
noncomputable def spec_SuffixRows.fn (x : Args tab spec_SuffixRows.s.ar) : Option (ResT tab spec_SuffixRows.s.rs) := spec_SuffixRows x
noncomputable abbrev spec_SuffixRows.k {δ : Type} : Callee (GT tab) δ := kS spec_SuffixRows.s spec_SuffixRows.fn
theorem spec_SuffixRows.con {δ : Type} : Con Tryz.prog (KT tab) 52 (spec_SuffixRows.k (δ := δ)) := con_shape (c := spec_SuffixRows.c) mixed tysOk (getG_con (spec_SuffixRows.gok _)) spec_SuffixRows.fok rfl rfl fun _ => rfl
noncomputable def spec_SuffixRows_l0 (v0 : List Int) (v1 : Int) (v2 : List Int) : Option (List Int) := lpW spec_SuffixRows.s spec_SuffixRows.c 0 (ud 51 [.vs false 5 v0, .undef, .undef, .sl 0 0, .int .i64 v1]) [.row 0 true 3 v2] 1
noncomputable def spec_SuffixRows_l1 (v0 : List Int) (v1 v2 v3 : Int) (v4 : List Int) : Option (List Int) := lpW spec_SuffixRows.s spec_SuffixRows.c 1 (ud 49 [.vs false 5 v0, .undef, .undef, .sl 0 0, .int .i64 v1, .int .i64 v2, .int .i64 v3]) [.row 0 true 3 v4] 1
theorem spec_SuffixRows.eq (x0 : List Int) : spec_SuffixRows x0 =
    (spec_TextOk x0).bind fun y1 =>
    bif !y1 then
      some ([] : List Int)
    else
      spec_SuffixRows_l0 x0 (x0.length : Int) ([] : List Int) := by kernel_rfl
theorem spec_SuffixRows_l0.eq (v0 : List Int) (v1 : Int) (v2 : List Int) : spec_SuffixRows_l0 v0 v1 v2 =
    bif decide (v1 ≥ (0 : Int)) then
      spec_SuffixRows_l1 v0 v1 (0 : Int) (v2.length : Int) v2
    else
      some v2 := (Lw_eq tysOk (getG_con (spec_SuffixRows.gok _)) _ _).trans (by kernel_rfl)
theorem spec_SuffixRows_l1.eq (v0 : List Int) (v1 v2 v3 : Int) (v4 : List Int) : spec_SuffixRows_l1 v0 v1 v2 v3 v4 =
    bif decide (v2 < v3) then
      (at? v4 (IntKind.i64.wrap ((IntKind.i64.wrap (v2 + v3)).tdiv (2 : Int)))).bind fun y1 =>
      v4[(IntKind.i64.wrap ((IntKind.i64.wrap (v2 + v3)).tdiv (2 : Int))).toNat]?.bind fun y2 =>
      bif decide (0 ≤ y2 ∧ y2 ≤ ((v0.length : Nat) : Int)) then
        bif decide (0 ≤ v1 ∧ v1 ≤ ((v0.length : Nat) : Int)) then
          (spec_l05Cmp ((v0.take v0.length).drop y2.toNat) ((v0.take v0.length).drop v1.toNat)).bind fun y3 =>
          bif decide (y3 < (0 : Int)) then
            spec_SuffixRows_l1 v0 v1 (IntKind.i64.wrap ((IntKind.i64.wrap ((IntKind.i64.wrap (v2 + v3)).tdiv (2 : Int))) + (1 : Int))) v3 v4
          else
            spec_SuffixRows_l1 v0 v1 v2 (IntKind.i64.wrap ((IntKind.i64.wrap (v2 + v3)).tdiv (2 : Int))) v4
        else
          none
      else
        none
    else
      bif decide (0 ≤ v2 ∧ v2 ≤ ((v4.length : Nat) : Int)) then
        bif decide ((([v1] : List Int).length + ((v4.drop v2.toNat).take (v4.length - v2.toNat)).length) * 8 ≤ 140737488355328) then
          bif decide (0 ≤ v2 ∧ v2 ≤ ((v4.length : Nat) : Int)) then
            bif decide ((([] : List Int).length + ((v4.drop 0).take (v2.toNat - 0)).length) * 8 ≤ 140737488355328) then
              bif decide (((([] : List Int) ++ ((v4.drop 0).take (v2.toNat - 0))).length + (([v1] : List Int) ++ ((v4.drop v2.toNat).take (v4.length - v2.toNat))).length) * 8 ≤ 140737488355328) then
                spec_SuffixRows_l0 v0 (IntKind.i64.wrap (v1 - (1 : Int))) ((([] : List Int) ++ ((v4.drop 0).take (v2.toNat - 0))) ++ (([v1] : List Int) ++ ((v4.drop v2.toNat).take (v4.length - v2.toNat))))
              else
                none
            else
              none
          else
            none
        else
          none
      else
        none := (Lw_eq tysOk (getG_con (spec_SuffixRows.gok _)) _ _).trans (by kernel_rfl)

noncomputable abbrev spec_BwtOf.s : Sg := ⟨[.lend], [vl 5], ⟨[vo 3], [none]⟩, Tryz.f48⟩
noncomputable def spec_BwtOf.gs (δ : Type) : List (Nat × Callee (GT tab) δ) := [(52, spec_SuffixRows.k)]
theorem spec_BwtOf.gok (δ : Type) : AllCon Tryz.prog tab (spec_BwtOf.gs δ) := .cons spec_SuffixRows.con .nil
noncomputable def spec_BwtOf.c := cx spec_BwtOf.s [] [(4, [0, 3, 4, 5])] false (spec_BwtOf.gs _)
noncomputable def spec_BwtOf (x0 : List Int) : Option (List Int) := fnW spec_BwtOf.s spec_BwtOf.c x0
theorem spec_BwtOf.fok : FkS spec_BwtOf.s 48 := ⟨Tryz.func48, by kernel_rfl, by kernel_rfl⟩
noncomputable def spec_BwtOf.fn (x : Args tab spec_BwtOf.s.ar) : Option (ResT tab spec_BwtOf.s.rs) := spec_BwtOf x
noncomputable abbrev spec_BwtOf.k {δ : Type} : Callee (GT tab) δ := kS spec_BwtOf.s spec_BwtOf.fn
theorem spec_BwtOf.con {δ : Type} : Con Tryz.prog (KT tab) 48 (spec_BwtOf.k (δ := δ)) := con_shape (c := spec_BwtOf.c) mixed tysOk (getG_con (spec_BwtOf.gok _)) spec_BwtOf.fok rfl rfl fun _ => rfl
noncomputable def spec_BwtOf_l0 (v0 : List Int) (v1 : Int) (v2 v3 : List Int) : Option (List Int) := lpW spec_BwtOf.s spec_BwtOf.c 0 (ud 31 [.vs false 5 v0, .undef, .undef, .sl 0 0, .sl 1 0, .int .i64 v1]) [.row 0 true 3 v2, .row 0 true 3 v3] 2
theorem spec_BwtOf.eq (x0 : List Int) : spec_BwtOf x0 =
    (spec_SuffixRows x0).bind fun y1 =>
    spec_BwtOf_l0 x0 (0 : Int) y1 ([] : List Int) := by kernel_rfl
theorem spec_BwtOf_l0.eq (v0 : List Int) (v1 : Int) (v2 v3 : List Int) : spec_BwtOf_l0 v0 v1 v2 v3 =
    bif decide (v1 < (v2.length : Int)) then
      (at? v2 v1).bind fun y1 =>
      v2[v1.toNat]?.bind fun y2 =>
      bif y2 == (0 : Int) then
        bif decide ((v3.length + ([(0 : Int)] : List Int).length) * 8 ≤ 140737488355328) then
          spec_BwtOf_l0 v0 (IntKind.i64.wrap (v1 + (1 : Int))) v2 (v3 ++ ([(0 : Int)] : List Int))
        else
          none
      else
        (at? v2 v1).bind fun y3 =>
        v2[v1.toNat]?.bind fun y4 =>
        (at? v0 (IntKind.i64.wrap (y4 - (1 : Int)))).bind fun y5 =>
        bif decide ((v3.length + ([IntKind.i64.wrap ((IntKind.i64.wrap y5) + (1 : Int))] : List Int).length) * 8 ≤ 140737488355328) then
          spec_BwtOf_l0 v0 (IntKind.i64.wrap (v1 + (1 : Int))) v2 (v3 ++ ([IntKind.i64.wrap ((IntKind.i64.wrap y5) + (1 : Int))] : List Int))
        else
          none
    else
      some v3 := (Lw_eq tysOk (getG_con (spec_BwtOf.gok _)) _ _).trans (by kernel_rfl)

noncomputable abbrev spec_l01Same.s : Sg := ⟨[.lend, .lend], [vl 3, vl 3], ⟨[vb], [none, none]⟩, Tryz.f47⟩
noncomputable def spec_l01Same.gs (δ : Type) : List (Nat × Callee (GT tab) δ) := []
theorem spec_l01Same.gok (δ : Type) : AllCon Tryz.prog tab (spec_l01Same.gs δ) := .nil
noncomputable def spec_l01Same.c := cx spec_l01Same.s [] [(4, [0, 1, 5])] false (spec_l01Same.gs _)
noncomputable def spec_l01Same (x0 x1 : List Int) : Option (Bool) := fnW spec_l01Same.s spec_l01Same.c (x0, x1)
theorem spec_l01Same.fok : FkS spec_l01Same.s 47 := ⟨Tryz.func47, by kernel_rfl, by kernel_rfl⟩
noncomputable def spec_l01Same.fn (x : Args tab spec_l01Same.s.ar) : Option (ResT tab spec_l01Same.s.rs) := spec_l01Same x.1 x.2
noncomputable abbrev spec_l01Same.k {δ : Type} : Callee (GT tab) δ := kS spec_l01Same.s spec_l01Same.fn
theorem spec_l01Same.con {δ : Type} : Con Tryz.prog (KT tab) 47 (spec_l01Same.k (δ := δ)) := con_shape (c := spec_l01Same.c) mixed tysOk (getG_con (spec_l01Same.gok _)) spec_l01Same.fok rfl rfl fun _ => rfl
noncomputable def spec_l01Same_l0 (v0 v1 : List Int) (v2 : Int) : Option (Bool) := lpW spec_l01Same.s spec_l01Same.c 0 (ud 20 [.vs false 3 v0, .vs false 3 v1, .undef, .undef, .undef, .int .i64 v2]) [] 0
theorem spec_l01Same.eq (x0 x1 : List Int) : spec_l01Same x0 x1 =
    bif (x0.length : Int) != (x1.length : Int) then
      some false
    else
      spec_l01Same_l0 x0 x1 (0 : Int) := by kernel_rfl
theorem spec_l01Same_l0.eq (v0 v1 : List Int) (v2 : Int) : spec_l01Same_l0 v0 v1 v2 =
    bif decide (v2 < (v0.length : Int)) then
      (at? v0 v2).bind fun y1 =>
      (at? v1 v2).bind fun y2 =>
      bif y1 != y2 then
        some false
      else
        spec_l01Same_l0 v0 v1 (IntKind.i64.wrap (v2 + (1 : Int)))
    else
      some true := (Lw_eq tysOk (getG_con (spec_l01Same.gok _)) _ _).trans (by kernel_rfl)

noncomputable abbrev spec_BwtText.s : Sg := ⟨[.lend], [vl 3], ⟨[vo 5, vb], [none]⟩, Tryz.f15⟩
noncomputable def spec_BwtText.gs (δ : Type) : List (Nat × Callee (GT tab) δ) := [(45, spec_SymsOk.k), (46, spec_LfOf.k), (47, spec_l01Same.k), (48, spec_BwtOf.k)]
theorem spec_BwtText.gok (δ : Type) : AllCon Tryz.prog tab (spec_BwtText.gs δ) := .cons spec_SymsOk.con (.cons spec_LfOf.con (.cons spec_l01Same.con (.cons spec_BwtOf.con .nil)))
noncomputable def spec_BwtText.c := cx spec_BwtText.s [3, 9] [(3, [0]), (7, [0, 4, 5, 6, 7]), (9, [0, 4, 5, 6, 7])] false (spec_BwtText.gs _)
noncomputable def spec_BwtText (x0 : List Int) : Option ((List Int) × Bool) := fnW spec_BwtText.s spec_BwtText.c x0
theorem spec_BwtText.fok : FkS spec_BwtText.s 15 := ⟨Tryz.func15, by kernel_rfl, by kernel_rfl⟩
noncomputable def spec_BwtText.fn (x : Args tab spec_BwtText.s.ar) : Option (ResT tab spec_BwtText.s.rs) := spec_BwtText x
noncomputable abbrev spec_BwtText.k {δ : Type} : Callee (GT tab) δ := kS spec_BwtText.s spec_BwtText.fn
theorem spec_BwtText.con {δ : Type} : Con Tryz.prog (KT tab) 15 (spec_BwtText.k (δ := δ)) := con_shape (c := spec_BwtText.c) mixed tysOk (getG_con (spec_BwtText.gok _)) spec_BwtText.fok rfl rfl fun _ => rfl
noncomputable def spec_BwtText_l0 (v0 : List Int) : Option ((List Int) × Bool) := lpW spec_BwtText.s spec_BwtText.c 0 (ud 51 [.vs false 3 v0]) [] 0
noncomputable def spec_BwtText_l1 (v0 : List Int) (v1 v2 : Int) (v3 v4 : List Int) : Option ((List Int) × Bool) := lpW spec_BwtText.s spec_BwtText.c 1 (ud 44 [.vs false 3 v0, .undef, .undef, .undef, .sl 0 0, .sl 1 0, .int .i64 v1, .int .i64 v2]) [.row 0 true 3 v3, .row 0 true 5 v4] 2
noncomputable def spec_BwtText_l2 (v0 : List Int) (v1 v2 : Int) (v3 v4 : List Int) : Option ((List Int) × Bool) := lpW spec_BwtText.s spec_BwtText.c 2 (ud 44 [.vs false 3 v0, .undef, .undef, .undef, .sl 0 0, .sl 1 0, .int .i64 v1, .int .i64 v2]) [.row 0 true 3 v3, .row 0 true 5 v4] 2
theorem spec_BwtText.eq (x0 : List Int) : spec_BwtText x0 =
    (spec_SymsOk x0).bind fun y1 =>
    bif !y1 then
      some (([] : List Int), false)
    else
      bif (x0.length : Int) == (0 : Int) then
        some (([] : List Int), false)
      else
        spec_BwtText_l0 x0 := by kernel_rfl
theorem spec_BwtText_l0.eq (v0 : List Int) : spec_BwtText_l0 v0 =
    (spec_LfOf v0).bind fun y1 =>
    spec_BwtText_l1 v0 (0 : Int) (0 : Int) y1 ([] : List Int) := (Lw_eq tysOk (getG_con (spec_BwtText.gok _)) _ _).trans (by kernel_rfl)
theorem spec_BwtText_l1.eq (v0 : List Int) (v1 v2 : Int) (v3 v4 : List Int) : spec_BwtText_l1 v0 v1 v2 v3 v4 =
    bif decide (v2 < IntKind.i64.wrap ((v0.length : Int) - (1 : Int))) then
      (at? v0 v1).bind fun y1 =>
      bif decide (y1 > (0 : Int)) then
        spec_BwtText_l2 v0 v1 v2 v3 v4
      else
        (spec_BwtOf v4).bind fun y2 =>
        (spec_l01Same y2 v0).bind fun y3 =>
        bif !y3 then
          some (([] : List Int), false)
        else
          some (v4, true)
    else
      (spec_BwtOf v4).bind fun y4 =>
      (spec_l01Same y4 v0).bind fun y5 =>
      bif !y5 then
        some (([] : List Int), false)
      else
        some (v4, true) := (Lw_eq tysOk (getG_con (spec_BwtText.gok _)) _ _).trans (by kernel_rfl)
theorem spec_BwtText_l2.eq (v0 : List Int) (v1 v2 : Int) (v3 v4 : List Int) : spec_BwtText_l2 v0 v1 v2 v3 v4 =
    (at? v0 v1).bind fun y1 =>
    bif decide ((([IntKind.u8.wrap (IntKind.i64.wrap (y1 - (1 : Int)))] : List Int).length + v4.length) * 1 ≤ 140737488355328) then
      (at? v3 v1).bind fun y2 =>
      v3[v1.toNat]?.bind fun y3 =>
      spec_BwtText_l1 v0 y3 (IntKind.i64.wrap (v2 + (1 : Int))) v3 (([IntKind.u8.wrap (IntKind.i64.wrap (y1 - (1 : Int)))] : List Int) ++ v4)
    else
      none := (Lw_eq tysOk (getG_con (spec_BwtText.gok _)) _ _).trans (by kernel_rfl)

noncomputable abbrev spec_l09Rate.s : Sg := ⟨[.lend], [vi], ⟨[vb], [none]⟩, Tryz.f51⟩
noncomputable def spec_l09Rate.gs (δ : Type) : List (Nat × Callee (GT tab) δ) := []
theorem spec_l09Rate.gok (δ : Type) : AllCon Tryz.prog tab (spec_l09Rate.gs δ) := .nil
noncomputable def spec_l09Rate.c := cx spec_l09Rate.s [] [] false (spec_l09Rate.gs _)
noncomputable def spec_l09Rate (x0 : Int) : Option (Bool) := fnW spec_l09Rate.s spec_l09Rate.c x0
theorem spec_l09Rate.fok : FkS spec_l09Rate.s 51 := ⟨Tryz.func51, by kernel_rfl, by kernel_rfl⟩
noncomputable def spec_l09Rate.fn (x : Args tab spec_l09Rate.s.ar) : Option (ResT tab spec_l09Rate.s.rs) := spec_l09Rate x
noncomputable abbrev spec_l09Rate.k {δ : Type} : Callee (GT tab) δ := kS spec_l09Rate.s spec_l09Rate.fn
theorem spec_l09Rate.con {δ : Type} : Con Tryz.prog (KT tab) 51 (spec_l09Rate.k (δ := δ)) := con_shape (c := spec_l09Rate.c) mixed tysOk (getG_con (spec_l09Rate.gok _)) spec_l09Rate.fok rfl rfl fun _ => rfl
theorem spec_l09Rate.eq (x0 : Int) : spec_l09Rate x0 =
    bif decide (x0 ≥ (1 : Int)) then
      some (decide (x0 ≤ (64 : Int)))
    else
      some false := by kernel_rfl

noncomputable abbrev spec_Inverse.s : Sg := ⟨[.lend], [vl 3], ⟨[vo 3, vb], [none]⟩, Tryz.f53⟩
noncomputable def spec_Inverse.gs (δ : Type) : List (Nat × Callee (GT tab) δ) := []
theorem spec_Inverse.gok (δ : Type) : AllCon Tryz.prog tab (spec_Inverse.gs δ) := .nil
noncomputable def spec_Inverse.c := cx spec_Inverse.s [] [(5, [0, 4, 5]), (9, [0, 4, 5, 6, 7])] false (spec_Inverse.gs _)
noncomputable def spec_Inverse (x0 : List Int) : Option ((List Int) × Bool) := fnW spec_Inverse.s spec_Inverse.c x0
theorem spec_Inverse.fok : FkS spec_Inverse.s 53 := ⟨Tryz.func53, by kernel_rfl, by kernel_rfl⟩
noncomputable def spec_Inverse.fn (x : Args tab spec_Inverse.s.ar) : Option (ResT tab spec_Inverse.s.rs) := spec_Inverse x
noncomputable abbrev spec_Inverse.k {δ : Type} : Callee (GT tab) δ := kS spec_Inverse.s spec_Inverse.fn
theorem spec_Inverse.con {δ : Type} : Con Tryz.prog (KT tab) 53 (spec_Inverse.k (δ := δ)) := con_shape (c := spec_Inverse.c) mixed tysOk (getG_con (spec_Inverse.gok _)) spec_Inverse.fok rfl rfl fun _ => rfl
noncomputable def spec_Inverse_l0 (v0 : List Int) (v1 : Int) (v2 : List Int) : Option ((List Int) × Bool) := lpW spec_Inverse.s spec_Inverse.c 0 (ud 32 [.vs false 3 v0, .undef, .undef, .undef, .sl 0 0, .int .i64 v1]) [.row 0 true 3 v2] 1
noncomputable def spec_Inverse_l1 (v0 : List Int) (v1 v2 v3 : Int) (v4 : List Int) : Option ((List Int) × Bool) := lpW spec_Inverse.s spec_Inverse.c 1 (ud 30 [.vs false 3 v0, .undef, .undef, .undef, .sl 0 0, .int .i64 v1, .int .i64 v2, .int .i64 v3]) [.row 0 true 3 v4] 1
theorem spec_Inverse.eq (x0 : List Int) : spec_Inverse x0 =
    bif decide ((x0.length : Int) > (301 : Int)) then
      some (([] : List Int), false)
    else
      spec_Inverse_l0 x0 (0 : Int) ([] : List Int) := by kernel_rfl
theorem spec_Inverse_l0.eq (v0 : List Int) (v1 : Int) (v2 : List Int) : spec_Inverse_l0 v0 v1 v2 =
    bif decide (v1 < (v0.length : Int)) then
      spec_Inverse_l1 v0 v1 (-1 : Int) (0 : Int) v2
    else
      some (v2, true) := (Lw_eq tysOk (getG_con (spec_Inverse.gok _)) _ _).trans (by kernel_rfl)
theorem spec_Inverse_l1.eq (v0 : List Int) (v1 v2 v3 : Int) (v4 : List Int) : spec_Inverse_l1 v0 v1 v2 v3 v4 =
    bif decide (v3 < (v0.length : Int)) then
      (at? v0 v3).bind fun y1 =>
      bif y1 == v1 then
        spec_Inverse_l1 v0 v1 v3 (IntKind.i64.wrap (v3 + (1 : Int))) v4
      else
        spec_Inverse_l1 v0 v1 v2 (IntKind.i64.wrap (v3 + (1 : Int))) v4
    else
      bif decide (v2 < (0 : Int)) then
        some (([] : List Int), false)
      else
        bif decide ((v4.length + ([v2] : List Int).length) * 8 ≤ 140737488355328) then
          spec_Inverse_l0 v0 (IntKind.i64.wrap (v1 + (1 : Int))) (v4 ++ ([v2] : List Int))
        else
          none := (Lw_eq tysOk (getG_con (spec_Inverse.gok _)) _ _).trans (by kernel_rfl)

noncomputable abbrev spec_Counts.s : Sg := ⟨[.lend], [vl 3], ⟨[vo 3], [none]⟩, Tryz.f54⟩
noncomputable def spec_Counts.gs (δ : Type) : List (Nat × Callee (GT tab) δ) := [(45, spec_SymsOk.k)]
theorem spec_Counts.gok (δ : Type) : AllCon Tryz.prog tab (spec_Counts.gs δ) := .cons spec_SymsOk.con .nil
noncomputable def spec_Counts.c := cx spec_Counts.s [] [(5, [0, 3, 4]), (9, [0, 3, 4, 5, 6])] false (spec_Counts.gs _)
noncomputable def spec_Counts (x0 : List Int) : Option (List Int) := fnW spec_Counts.s spec_Counts.c x0
theorem spec_Counts.fok : FkS spec_Counts.s 54 := ⟨Tryz.func54, by kernel_rfl, by kernel_rfl⟩
noncomputable def spec_Counts.fn (x : Args tab spec_Counts.s.ar) : Option (ResT tab spec_Counts.s.rs) := spec_Counts x
noncomputable abbrev spec_Counts.k {δ : Type} : Callee (GT tab) δ := kS spec_Counts.s spec_Counts.fn
theorem spec_Counts.con {δ : Type} : Con Tryz.prog (KT tab) 54 (spec_Counts.k (δ := δ)) := con_shape (c := spec_Counts.c) mixed tysOk (getG_con (spec_Counts.gok _)) spec_Counts.fok rfl rfl fun _ => rfl
noncomputable def spec_Counts_l0 (v0 : List Int) (v1 : Int) (v2 : List Int) : Option (List Int) := lpW spec_Counts.s spec_Counts.c 0 (ud 29 [.vs false 3 v0, .undef, .undef, .sl 0 0, .int .i64 v1]) [.row 0 true 3 v2] 1
noncomputable def spec_Counts_l1 (v0 : List Int) (v1 v2 v3 : Int) (v4 : List Int) : Option (List Int) := lpW spec_Counts.s spec_Counts.c 1 (ud 27 [.vs false 3 v0, .undef, .undef, .sl 0 0, .int .i64 v1, .int .i64 v2, .int .i64 v3]) [.row 0 true 3 v4] 1
theorem spec_Counts.eq (x0 : List Int) : spec_Counts x0 =
    (spec_SymsOk x0).bind fun y1 =>
    bif !y1 then
      some ([] : List Int)
    else
      spec_Counts_l0 x0 (0 : Int) ([] : List Int) := by kernel_rfl
theorem spec_Counts_l0.eq (v0 : List Int) (v1 : Int) (v2 : List Int) : spec_Counts_l0 v0 v1 v2 =
    bif decide (v1 ≤ (257 : Int)) then
      spec_Counts_l1 v0 v1 (0 : Int) (0 : Int) v2
    else
      some v2 := (Lw_eq tysOk (getG_con (spec_Counts.gok _)) _ _).trans (by kernel_rfl)
theorem spec_Counts_l1.eq (v0 : List Int) (v1 v2 v3 : Int) (v4 : List Int) : spec_Counts_l1 v0 v1 v2 v3 v4 =
    bif decide (v3 < (v0.length : Int)) then
      (at? v0 v3).bind fun y1 =>
      bif decide (y1 < v1) then
        spec_Counts_l1 v0 v1 (IntKind.i64.wrap (v2 + (1 : Int))) (IntKind.i64.wrap (v3 + (1 : Int))) v4
      else
        spec_Counts_l1 v0 v1 v2 (IntKind.i64.wrap (v3 + (1 : Int))) v4
    else
      bif decide ((v4.length + ([v2] : List Int).length) * 8 ≤ 140737488355328) then
        spec_Counts_l0 v0 (IntKind.i64.wrap (v1 + (1 : Int))) (v4 ++ ([v2] : List Int))
      else
        none := (Lw_eq tysOk (getG_con (spec_Counts.gok _)) _ _).trans (by kernel_rfl)

noncomputable abbrev spec_WaveOf.s : Sg := ⟨[.lend], [vl 3], ⟨[.agg [.int .i64, .sl true true 3, .sl true true 29], vb], [none]⟩, Tryz.f55⟩
noncomputable def spec_WaveOf.gs (δ : Type) : List (Nat × Callee (GT tab) δ) := [(57, spec_BitsOf.k), (96, spec_l02Pow.k)]
theorem spec_WaveOf.gok (δ : Type) : AllCon Tryz.prog tab (spec_WaveOf.gs δ) := .cons spec_BitsOf.con (.cons spec_l02Pow.con .nil)
noncomputable def spec_WaveOf.c := cx spec_WaveOf.s [] [(4, [0, 2, 4]), (11, [2, 5, 6, 7]), (17, [2, 5, 6, 7, 8, 9, 10, 11])] false (spec_WaveOf.gs _)
noncomputable def spec_WaveOf (x0 : List Int) : Option ((Int × (List Int) × (List (Int × (List Int)))) × Bool) := fnW spec_WaveOf.s spec_WaveOf.c x0
theorem spec_WaveOf.fok : FkS spec_WaveOf.s 55 := ⟨Tryz.func55, by kernel_rfl, by kernel_rfl⟩
noncomputable def spec_WaveOf.fn (x : Args tab spec_WaveOf.s.ar) : Option (ResT tab spec_WaveOf.s.rs) := spec_WaveOf x
noncomputable abbrev spec_WaveOf.k {δ : Type} : Callee (GT tab) δ := kS spec_WaveOf.s spec_WaveOf.fn
theorem spec_WaveOf.con {δ : Type} : Con Tryz.prog (KT tab) 55 (spec_WaveOf.k (δ := δ)) := con_shape (c := spec_WaveOf.c) mixed tysOk (getG_con (spec_WaveOf.gok _)) spec_WaveOf.fok rfl rfl fun _ => rfl
noncomputable def spec_WaveOf_l0 (v0 : List Int) (v1 v2 : Int) (v3 : List Int) (v4 : List (Int × (List Int))) : Option ((Int × (List Int) × (List (Int × (List Int)))) × Bool) := lpW spec_WaveOf.s spec_WaveOf.c 0 (ud 103 [.vs false 3 v0, .undef, .ptr 0 0, .undef, .int .i64 v1]) [.box 26 [.int .i64 v2, .sl 1 0, .sl 2 0], .row 0 true 3 v3, .row 0 true 29 v4] 3
noncomputable def spec_WaveOf_l1 (v0 v1 : Int) (v2 : List Int) (v3 : List (Int × (List Int))) (v4 : Int) (v5 : List Int) (v6 : List (Int × (List Int))) (v7 : List Int) : Option ((Int × (List Int) × (List (Int × (List Int)))) × Bool) := lpW spec_WaveOf.s spec_WaveOf.c 1 (ud 100 [.undef, .undef, .ptr 0 0, .undef, .undef, .ptr 3 0, .sl 6 0, .int .i64 v0]) [.box 26 [.int .i64 v1, .sl 1 0, .sl 2 0], .row 0 true 3 v2, .row 0 true 29 v3, .box 26 [.int .i64 v4, .sl 4 0, .sl 5 0], .row 0 true 3 v5, .row 0 true 29 v6, .row 0 true 3 v7] 7
noncomputable def spec_WaveOf_l2 (v0 v1 v2 : Int) (v3 : List Int) (v4 : List (Int × (List Int))) (v5 : Int) (v6 : List Int) (v7 : List (Int × (List Int))) (v8 v9 v10 v11 : List Int) : Option ((Int × (List Int) × (List (Int × (List Int)))) × Bool) := lpW spec_WaveOf.s spec_WaveOf.c 2 (ud 96 [.undef, .undef, .ptr 0 0, .undef, .undef, .ptr 3 0, .sl 6 0, .int .i64 v0, .sl 7 0, .sl 8 0, .sl 9 0, .int .i64 v1]) [.box 26 [.int .i64 v2, .sl 1 0, .sl 2 0], .row 0 true 3 v3, .row 0 true 29 v4, .box 26 [.int .i64 v5, .sl 4 0, .sl 5 0], .row 0 true 3 v6, .row 0 true 29 v7, .row 0 true 3 v8, .row 0 true 3 v9, .row 0 true 3 v10, .row 0 true 3 v11] 10
theorem spec_WaveOf.eq (x0 : List Int) : spec_WaveOf x0 =
    bif decide ((x0.length : Int) > (1000 : Int)) then
      some (((0 : Int), ([] : List Int), ([] : List (Int × (List Int)))), false)
    else
      spec_WaveOf_l0 x0 (0 : Int) (0 : Int) ([] : List Int) ([] : List (Int × (List Int))) := by kernel_rfl
theorem spec_WaveOf_l0.eq (v0 : List Int) (v1 v2 : Int) (v3 : List Int) (v4 : List (Int × (List Int))) : spec_WaveOf_l0 v0 v1 v2 v3 v4 =
    bif decide (v1 < (v0.length : Int)) then
      (at? v0 v1).bind fun y1 =>
      bif decide (y1 < (0 : Int)) then
        some (((0 : Int), ([] : List Int), ([] : List (Int × (List Int)))), false)
      else
        (at? v0 v1).bind fun y2 =>
        bif decide (y2 > (511 : Int)) then
          some (((0 : Int), ([] : List Int), ([] : List (Int × (List Int)))), false)
        else
          spec_WaveOf_l0 v0 (IntKind.i64.wrap (v1 + (1 : Int))) v2 v3 v4
    else
      bif decide ((([] : List Int).length + v0.length) * 8 ≤ 140737488355328) then
        spec_WaveOf_l1 (0 : Int) v2 v3 v4 (v0.length : Int) ([] : List Int) ([] : List (Int × (List Int))) (([] : List Int) ++ v0)
      else
        none := (Lw_eq tysOk (getG_con (spec_WaveOf.gok _)) _ _).trans (by kernel_rfl)
theorem spec_WaveOf_l1.eq (v0 v1 : Int) (v2 : List Int) (v3 : List (Int × (List Int))) (v4 : Int) (v5 : List Int) (v6 : List (Int × (List Int))) (v7 : List Int) : spec_WaveOf_l1 v0 v1 v2 v3 v4 v5 v6 v7 =
    bif decide (v0 < (9 : Int)) then
      spec_WaveOf_l2 v0 (0 : Int) v1 v2 v3 v4 v5 v6 v7 ([] : List Int) ([] : List Int) ([] : List Int)
    else
      some ((v4, v5, v6), true) := (Lw_eq tysOk (getG_con (spec_WaveOf.gok _)) _ _).trans (by kernel_rfl)
theorem spec_WaveOf_l2.eq (v0 v1 v2 : Int) (v3 : List Int) (v4 : List (Int × (List Int))) (v5 : Int) (v6 : List Int) (v7 : List (Int × (List Int))) (v8 v9 v10 v11 : List Int) : spec_WaveOf_l2 v0 v1 v2 v3 v4 v5 v6 v7 v8 v9 v10 v11 =
    bif decide (v1 < (v8.length : Int)) then
      (at? v8 v1).bind fun y1 =>
      v8[v1.toNat]?.bind fun y2 =>
      (spec_l02Pow (IntKind.i64.wrap ((8 : Int) - v0))).bind fun y3 =>
      bif decide (y3 = (0 : Int)) then
        none
      else
        bif decide ((v9.length + ([(IntKind.i64.wrap (y2.tdiv y3)).tmod (2 : Int)] : List Int).length) * 8 ≤ 140737488355328) then
          bif (IntKind.i64.wrap (y2.tdiv y3)).tmod (2 : Int) == (0 : Int) then
            (at? v8 v1).bind fun y4 =>
            v8[v1.toNat]?.bind fun y5 =>
            bif decide ((v10.length + ([y5] : List Int).length) * 8 ≤ 140737488355328) then
              spec_WaveOf_l2 v0 (IntKind.i64.wrap (v1 + (1 : Int))) v2 v3 v4 v5 v6 v7 v8 (v9 ++ ([(IntKind.i64.wrap (y2.tdiv y3)).tmod (2 : Int)] : List Int)) (v10 ++ ([y5] : List Int)) v11
            else
              none
          else
            (at? v8 v1).bind fun y6 =>
            v8[v1.toNat]?.bind fun y7 =>
            bif decide ((v11.length + ([y7] : List Int).length) * 8 ≤ 140737488355328) then
              spec_WaveOf_l2 v0 (IntKind.i64.wrap (v1 + (1 : Int))) v2 v3 v4 v5 v6 v7 v8 (v9 ++ ([(IntKind.i64.wrap (y2.tdiv y3)).tmod (2 : Int)] : List Int)) v10 (v11 ++ ([y7] : List Int))
            else
              none
        else
          none
    else
      (spec_BitsOf v9).bind fun y8 =>
      bif decide ((v7.length + ([(y8.1.1, y8.1.2)] : List (Int × (List Int))).length) * 32 ≤ 140737488355328) then
        bif decide ((v6.length + ([(v10.length : Int)] : List Int).length) * 8 ≤ 140737488355328) then
          bif decide ((v10.length + v11.length) * 8 ≤ 140737488355328) then
            spec_WaveOf_l1 (IntKind.i64.wrap (v0 + (1 : Int))) v2 v3 v4 v5 (v6 ++ ([(v10.length : Int)] : List Int)) (v7 ++ ([(y8.1.1, y8.1.2)] : List (Int × (List Int)))) (v10 ++ v11)
          else
            none
        else
          none
      else
        none := (Lw_eq tysOk (getG_con (spec_WaveOf.gok _)) _ _).trans (by kernel_rfl)

noncomputable abbrev spec_l01Bool.s : Sg := ⟨[.lend], [vb], ⟨[vi], [none]⟩, Tryz.f56⟩
noncomputable def spec_l01Bool.gs (δ : Type) : List (Nat × Callee (GT tab) δ) := []
theorem spec_l01Bool.gok (δ : Type) : AllCon Tryz.prog tab (spec_l01Bool.gs δ) := .nil
noncomputable def spec_l01Bool.c := cx spec_l01Bool.s [] [] false (spec_l01Bool.gs _)
noncomputable def spec_l01Bool (x0 : Bool) : Option (Int) := fnW spec_l01Bool.s spec_l01Bool.c x0
theorem spec_l01Bool.fok : FkS spec_l01Bool.s 56 := ⟨Tryz.func56, by kernel_rfl, by kernel_rfl⟩
noncomputable def spec_l01Bool.fn (x : Args tab spec_l01Bool.s.ar) : Option (ResT tab spec_l01Bool.s.rs) := spec_l01Bool x
noncomputable abbrev spec_l01Bool.k {δ : Type} : Callee (GT tab) δ := kS spec_l01Bool.s spec_l01Bool.fn
theorem spec_l01Bool.con {δ : Type} : Con Tryz.prog (KT tab) 56 (spec_l01Bool.k (δ := δ)) := con_shape (c := spec_l01Bool.c) mixed tysOk (getG_con (spec_l01Bool.gok _)) spec_l01Bool.fok rfl rfl fun _ => rfl
theorem spec_l01Bool.eq (x0 : Bool) : spec_l01Bool x0 =
    bif x0 then
      some (1 : Int)
    else
      some (0 : Int) := by kernel_rfl

noncomputable abbrev spec_WidthOf.s : Sg := ⟨[.lend], [vi], ⟨[vi], [none]⟩, Tryz.f59⟩
noncomputable def spec_WidthOf.gs (δ : Type) : List (Nat × Callee (GT tab) δ) := []
theorem spec_WidthOf.gok (δ : Type) : AllCon Tryz.prog tab (spec_WidthOf.gs δ) := .nil
noncomputable def spec_WidthOf.c := cx spec_WidthOf.s [] [(4, [0, 3])] false (spec_WidthOf.gs _)
noncomputable def spec_WidthOf (x0 : Int) : Option (Int) := fnW spec_WidthOf.s spec_WidthOf.c x0
theorem spec_WidthOf.fok : FkS spec_WidthOf.s 59 := ⟨Tryz.func59, by kernel_rfl, by kernel_rfl⟩
noncomputable def spec_WidthOf.fn (x : Args tab spec_WidthOf.s.ar) : Option (ResT tab spec_WidthOf.s.rs) := spec_WidthOf x
noncomputable abbrev spec_WidthOf.k {δ : Type} : Callee (GT tab) δ := kS spec_WidthOf.s spec_WidthOf.fn
theorem spec_WidthOf.con {δ : Type} : Con Tryz.prog (KT tab) 59 (spec_WidthOf.k (δ := δ)) := con_shape (c := spec_WidthOf.c) mixed tysOk (getG_con (spec_WidthOf.gok _)) spec_WidthOf.fok rfl rfl fun _ => rfl
noncomputable def spec_WidthOf_l0 (v0 v1 : Int) : Option (Int) := lpW spec_WidthOf.s spec_WidthOf.c 0 (ud 9 [.int .i64 v0, .undef, .undef, .int .i64 v1]) [] 0
theorem spec_WidthOf.eq (x0 : Int) : spec_WidthOf x0 =
    bif decide (x0 < (0 : Int)) then
      some (-1 : Int)
    else
      spec_WidthOf_l0 x0 (0 : Int) := by kernel_rfl
theorem spec_WidthOf_l0.eq (v0 v1 : Int) : spec_WidthOf_l0 v0 v1 =
    bif decide (v0 > (0 : Int)) then
      spec_WidthOf_l0 (IntKind.i64.wrap (v0.tdiv (2 : Int))) (IntKind.i64.wrap (v1 + (1 : Int)))
    else
      some v1 := (Lw_eq tysOk (getG_con (spec_WidthOf.gok _)) _ _).trans (by kernel_rfl)

noncomputable abbrev spec_PackOf.s : Sg := ⟨[.lend, .lend], [vl 3, vi], ⟨[.agg [.int .i64, .int .i64, .int .i64, .sl true true 106], vb], [none, none]⟩, Tryz.f58⟩
noncomputable def spec_PackOf.gs (δ : Type) : List (Nat × Callee (GT tab) δ) := [(57, spec_BitsOf.k), (96, spec_l02Pow.k)]
theorem spec_PackOf.gok (δ : Type) : AllCon Tryz.prog tab (spec_PackOf.gs δ) := .cons spec_BitsOf.con (.cons spec_l02Pow.con .nil)
noncomputable def spec_PackOf.c := cx spec_PackOf.s [3, 10] [(3, [0, 1, 4]), (5, [0, 1, 4, 6, 7]), (10, [0, 1, 4, 6, 7, 8]), (11, [0, 1, 4, 6, 7, 8, 9])] false (spec_PackOf.gs _)
noncomputable def spec_PackOf (x0 : List Int) (x1 : Int) : Option ((Int × Int × Int × (List Int)) × Bool) := fnW spec_PackOf.s spec_PackOf.c (x0, x1)
theorem spec_PackOf.fok : FkS spec_PackOf.s 58 := ⟨Tryz.func58, by kernel_rfl, by kernel_rfl⟩
noncomputable def spec_PackOf.fn (x : Args tab spec_PackOf.s.ar) : Option (ResT tab spec_PackOf.s.rs) := spec_PackOf x.1 x.2
noncomputable abbrev spec_PackOf.k {δ : Type} : Callee (GT tab) δ := kS spec_PackOf.s spec_PackOf.fn
theorem spec_PackOf.con {δ : Type} : Con Tryz.prog (KT tab) 58 (spec_PackOf.k (δ := δ)) := con_shape (c := spec_PackOf.c) mixed tysOk (getG_con (spec_PackOf.gok _)) spec_PackOf.fok rfl rfl fun _ => rfl
noncomputable def spec_PackOf_l0 (v0 : List Int) (v1 v2 v3 v4 : Int) (v5 : List Int) : Option ((Int × Int × Int × (List Int)) × Bool) := lpW spec_PackOf.s spec_PackOf.c 0 (ud 68 [.vs false 3 v0, .int .i64 v1, .undef, .undef, .ptr 0 0]) [.box 31 [.int .i64 v2, .int .i64 v3, .int .i64 v4, .sl 1 0], .row 0 true 106 v5] 2
noncomputable def spec_PackOf_l1 (v0 : List Int) (v1 v2 v3 v4 v5 : Int) (v6 v7 : List Int) : Option ((Int × Int × Int × (List Int)) × Bool) := lpW spec_PackOf.s spec_PackOf.c 1 (ud 65 [.vs false 3 v0, .int .i64 v1, .undef, .undef, .ptr 0 0, .undef, .sl 2 0, .int .i64 v2]) [.box 31 [.int .i64 v3, .int .i64 v4, .int .i64 v5, .sl 1 0], .row 0 true 106 v6, .row 0 true 3 v7] 3
noncomputable def spec_PackOf_l2 (v0 : List Int) (v1 v2 v3 v4 v5 v6 : Int) (v7 v8 : List Int) : Option ((Int × Int × Int × (List Int)) × Bool) := lpW spec_PackOf.s spec_PackOf.c 2 (ud 64 [.vs false 3 v0, .int .i64 v1, .undef, .undef, .ptr 0 0, .undef, .sl 2 0, .int .i64 v2, .int .i64 v3]) [.box 31 [.int .i64 v4, .int .i64 v5, .int .i64 v6, .sl 1 0], .row 0 true 106 v7, .row 0 true 3 v8] 3
noncomputable def spec_PackOf_l3 (v0 : List Int) (v1 v2 v3 v4 v5 v6 v7 : Int) (v8 v9 : List Int) : Option ((Int × Int × Int × (List Int)) × Bool) := lpW spec_PackOf.s spec_PackOf.c 3 (ud 63 [.vs false 3 v0, .int .i64 v1, .undef, .undef, .ptr 0 0, .undef, .sl 2 0, .int .i64 v2, .int .i64 v3, .int .i64 v4]) [.box 31 [.int .i64 v5, .int .i64 v6, .int .i64 v7, .sl 1 0], .row 0 true 106 v8, .row 0 true 3 v9] 3
theorem spec_PackOf.eq (x0 : List Int) (x1 : Int) : spec_PackOf x0 x1 =
    bif decide (x1 < (0 : Int)) then
      some (((0 : Int), (0 : Int), (0 : Int), ([] : List Int)), false)
    else
      bif decide (x1 > (32 : Int)) then
        some (((0 : Int), (0 : Int), (0 : Int), ([] : List Int)), false)
      else
        bif decide ((x0.length : Int) > (5000 : Int)) then
          some (((0 : Int), (0 : Int), (0 : Int), ([] : List Int)), false)
        else
          bif decide (IntKind.i64.wrap ((x0.length : Int) * x1) > (5000 : Int)) then
            some (((0 : Int), (0 : Int), (0 : Int), ([] : List Int)), false)
          else
            spec_PackOf_l0 x0 x1 (0 : Int) (0 : Int) (0 : Int) ([] : List Int) := by kernel_rfl
theorem spec_PackOf_l0.eq (v0 : List Int) (v1 v2 v3 v4 : Int) (v5 : List Int) : spec_PackOf_l0 v0 v1 v2 v3 v4 v5 =
    spec_PackOf_l1 v0 v1 (0 : Int) v2 v3 v4 v5 ([] : List Int) := (Lw_eq tysOk (getG_con (spec_PackOf.gok _)) _ _).trans (by kernel_rfl)
theorem spec_PackOf_l1.eq (v0 : List Int) (v1 v2 v3 v4 v5 : Int) (v6 v7 : List Int) : spec_PackOf_l1 v0 v1 v2 v3 v4 v5 v6 v7 =
    bif decide (v2 < (v0.length : Int)) then
      (at? v0 v2).bind fun y1 =>
      bif decide (y1 < (0 : Int)) then
        some (((0 : Int), (0 : Int), (0 : Int), ([] : List Int)), false)
      else
        (spec_l02Pow v1).bind fun y2 =>
        bif decide (y1 ≥ y2) then
          some (((0 : Int), (0 : Int), (0 : Int), ([] : List Int)), false)
        else
          spec_PackOf_l2 v0 v1 v2 y1 v3 v4 v5 v6 v7
    else
      (spec_BitsOf v7).bind fun y3 =>
      some ((v1, (v0.length : Int), y3.1.1, y3.1.2), true) := (Lw_eq tysOk (getG_con (spec_PackOf.gok _)) _ _).trans (by kernel_rfl)
theorem spec_PackOf_l2.eq (v0 : List Int) (v1 v2 v3 v4 v5 v6 : Int) (v7 v8 : List Int) : spec_PackOf_l2 v0 v1 v2 v3 v4 v5 v6 v7 v8 =
    spec_PackOf_l3 v0 v1 v2 v3 (0 : Int) v4 v5 v6 v7 v8 := (Lw_eq tysOk (getG_con (spec_PackOf.gok _)) _ _).trans (by kernel_rfl)
theorem spec_PackOf_l3.eq (v0 : List Int) (v1 v2 v3 v4 v5 v6 v7 : Int) (v8 v9 : List Int) : spec_PackOf_l3 v0 v1 v2 v3 v4 v5 v6 v7 v8 v9 =
    bif decide (v4 < v1) then
      bif decide ((v9.length + ([v3.tmod (2 : Int)] : List Int).length) * 8 ≤ 140737488355328) then
        spec_PackOf_l3 v0 v1 v2 (IntKind.i64.wrap (v3.tdiv (2 : Int))) (IntKind.i64.wrap (v4 + (1 : Int))) v5 v6 v7 v8 (v9 ++ ([v3.tmod (2 : Int)] : List Int))
      else
        none
    else
      spec_PackOf_l1 v0 v1 (IntKind.i64.wrap (v2 + (1 : Int))) v5 v6 v7 v8 v9 := (Lw_eq tysOk (getG_con (spec_PackOf.gok _)) _ _).trans (by kernel_rfl)

noncomputable abbrev spec_FmOf.s : Sg := ⟨[.lend, .lend], [vl 5, vi], ⟨[.agg [.int .i64, .int .i64, .int .i64, .sl true true 3, .sl true true 29, .sl true true 3, .int .i64, .sl true true 106, .int .i64, .int .i64, .int .i64, .sl true true 106, .int .i64, .int .i64, .int .i64, .sl true true 106], vb], [none, none]⟩, Tryz.f17⟩
noncomputable def spec_FmOf.gs (δ : Type) : List (Nat × Callee (GT tab) δ) := [(48, spec_BwtOf.k), (50, spec_TextOk.k), (51, spec_l09Rate.k), (52, spec_SuffixRows.k), (53, spec_Inverse.k), (54, spec_Counts.k), (55, spec_WaveOf.k), (56, spec_l01Bool.k), (57, spec_BitsOf.k), (58, spec_PackOf.k), (59, spec_WidthOf.k)]
theorem spec_FmOf.gok (δ : Type) : AllCon Tryz.prog tab (spec_FmOf.gs δ) := .cons spec_BwtOf.con (.cons spec_TextOk.con (.cons spec_l09Rate.con (.cons spec_SuffixRows.con (.cons spec_Inverse.con (.cons spec_Counts.con (.cons spec_WaveOf.con (.cons spec_l01Bool.con (.cons spec_BitsOf.con (.cons spec_PackOf.con (.cons spec_WidthOf.con .nil))))))))))
noncomputable def spec_FmOf.c := cx spec_FmOf.s [3] [(3, [0, 1, 4]), (11, [0, 1, 4, 6, 7, 10, 11, 12, 13]), (18, [0, 1, 4, 7, 10, 11, 12, 14, 15])] false (spec_FmOf.gs _)
noncomputable def spec_FmOf (x0 : List Int) (x1 : Int) : Option ((Int × Int × Int × (List Int) × (List (Int × (List Int))) × (List Int) × Int × (List Int) × Int × Int × Int × (List Int) × Int × Int × Int × (List Int)) × Bool) := fnW spec_FmOf.s spec_FmOf.c (x0, x1)
theorem spec_FmOf.fok : FkS spec_FmOf.s 17 := ⟨Tryz.func17, by kernel_rfl, by kernel_rfl⟩
noncomputable def spec_FmOf.fn (x : Args tab spec_FmOf.s.ar) : Option (ResT tab spec_FmOf.s.rs) := spec_FmOf x.1 x.2
noncomputable abbrev spec_FmOf.k {δ : Type} : Callee (GT tab) δ := kS spec_FmOf.s spec_FmOf.fn
theorem spec_FmOf.con {δ : Type} : Con Tryz.prog (KT tab) 17 (spec_FmOf.k (δ := δ)) := con_shape (c := spec_FmOf.c) mixed tysOk (getG_con (spec_FmOf.gok _)) spec_FmOf.fok rfl rfl fun _ => rfl
noncomputable def spec_FmOf_l0 (v0 : List Int) (v1 v2 v3 v4 v5 v6 v7 v8 v9 v10 v11 : Int) (v12 : List Int) (v13 : List (Int × (List Int))) (v14 v15 v16 v17 : List Int) : Option ((Int × Int × Int × (List Int) × (List (Int × (List Int))) × (List Int) × Int × (List Int) × Int × Int × Int × (List Int) × Int × Int × Int × (List Int)) × Bool) := lpW spec_FmOf.s spec_FmOf.c 0 (ud 116 [.vs false 5 v0, .int .i64 v1, .undef, .undef, .ptr 0 0]) [.box 33 [.int .i64 v2, .int .i64 v3, .int .i64 v4, .sl 1 0, .sl 2 0, .sl 3 0, .int .i64 v5, .sl 4 0, .int .i64 v6, .int .i64 v7, .int .i64 v8, .sl 5 0, .int .i64 v9, .int .i64 v10, .int .i64 v11, .sl 6 0], .row 0 true 3 v12, .row 0 true 29 v13, .row 0 true 3 v14, .row 0 true 106 v15, .row 0 true 106 v16, .row 0 true 106 v17] 7
noncomputable def spec_FmOf_l1 (v0 : List Int) (v1 v2 v3 v4 v5 v6 v7 v8 v9 v10 v11 v12 : Int) (v13 : List Int) (v14 : List (Int × (List Int))) (v15 v16 v17 v18 v19 v20 : List Int) (v21 v22 v23 v24 v25 v26 v27 v28 v29 v30 : Int) (v31 : List Int) (v32 : List (Int × (List Int))) (v33 v34 v35 v36 v37 v38 : List Int) : Option ((Int × Int × Int × (List Int) × (List (Int × (List Int))) × (List Int) × Int × (List Int) × Int × Int × Int × (List Int) × Int × Int × Int × (List Int)) × Bool) := lpW spec_FmOf.s spec_FmOf.c 1 (ud 107 [.vs false 5 v0, .int .i64 v1, .undef, .undef, .ptr 0 0, .undef, .sl 7 0, .sl 8 0, .undef, .undef, .ptr 9 0, .sl 16 0, .sl 17 0, .int .i64 v2]) [.box 33 [.int .i64 v3, .int .i64 v4, .int .i64 v5, .sl 1 0, .sl 2 0, .sl 3 0, .int .i64 v6, .sl 4 0, .int .i64 v7, .int .i64 v8, .int .i64 v9, .sl 5 0, .int .i64 v10, .int .i64 v11, .int .i64 v12, .sl 6 0], .row 0 true 3 v13, .row 0 true 29 v14, .row 0 true 3 v15, .row 0 true 106 v16, .row 0 true 106 v17, .row 0 true 106 v18, .row 0 true 3 v19, .row 0 true 3 v20, .box 33 [.int .i64 v21, .int .i64 v22, .int .i64 v23, .sl 10 0, .sl 11 0, .sl 12 0, .int .i64 v24, .sl 13 0, .int .i64 v25, .int .i64 v26, .int .i64 v27, .sl 14 0, .int .i64 v28, .int .i64 v29, .int .i64 v30, .sl 15 0], .row 0 true 3 v31, .row 0 true 29 v32, .row 0 true 3 v33, .row 0 true 106 v34, .row 0 true 106 v35, .row 0 true 106 v36, .row 0 true 3 v37, .row 0 true 3 v38] 18
noncomputable def spec_FmOf_l2 (v0 : List Int) (v1 v2 v3 v4 v5 v6 v7 v8 v9 v10 v11 v12 : Int) (v13 : List Int) (v14 : List (Int × (List Int))) (v15 v16 v17 v18 v19 : List Int) (v20 v21 v22 v23 v24 v25 v26 v27 v28 v29 : Int) (v30 : List Int) (v31 : List (Int × (List Int))) (v32 v33 v34 v35 v36 v37 v38 : List Int) : Option ((Int × Int × Int × (List Int) × (List (Int × (List Int))) × (List Int) × Int × (List Int) × Int × Int × Int × (List Int) × Int × Int × Int × (List Int)) × Bool) := lpW spec_FmOf.s spec_FmOf.c 2 (ud 105 [.vs false 5 v0, .int .i64 v1, .undef, .undef, .ptr 0 0, .undef, .undef, .sl 7 0, .undef, .undef, .ptr 8 0, .sl 15 0, .sl 16 0, .undef, .sl 17 0, .int .i64 v2]) [.box 33 [.int .i64 v3, .int .i64 v4, .int .i64 v5, .sl 1 0, .sl 2 0, .sl 3 0, .int .i64 v6, .sl 4 0, .int .i64 v7, .int .i64 v8, .int .i64 v9, .sl 5 0, .int .i64 v10, .int .i64 v11, .int .i64 v12, .sl 6 0], .row 0 true 3 v13, .row 0 true 29 v14, .row 0 true 3 v15, .row 0 true 106 v16, .row 0 true 106 v17, .row 0 true 106 v18, .row 0 true 3 v19, .box 33 [.int .i64 v20, .int .i64 v21, .int .i64 v22, .sl 9 0, .sl 10 0, .sl 11 0, .int .i64 v23, .sl 12 0, .int .i64 v24, .int .i64 v25, .int .i64 v26, .sl 13 0, .int .i64 v27, .int .i64 v28, .int .i64 v29, .sl 14 0], .row 0 true 3 v30, .row 0 true 29 v31, .row 0 true 3 v32, .row 0 true 106 v33, .row 0 true 106 v34, .row 0 true 106 v35, .row 0 true 3 v36, .row 0 true 3 v37, .row 0 true 3 v38] 18
theorem spec_FmOf.eq (x0 : List Int) (x1 : Int) : spec_FmOf x0 x1 =
    (spec_TextOk x0).bind fun y1 =>
    bif !y1 then
      some (((0 : Int), (0 : Int), (0 : Int), ([] : List Int), ([] : List (Int × (List Int))), ([] : List Int), (0 : Int), ([] : List Int), (0 : Int), (0 : Int), (0 : Int), ([] : List Int), (0 : Int), (0 : Int), (0 : Int), ([] : List Int)), false)
    else
      (spec_l09Rate x1).bind fun y2 =>
      bif !y2 then
        some (((0 : Int), (0 : Int), (0 : Int), ([] : List Int), ([] : List (Int × (List Int))), ([] : List Int), (0 : Int), ([] : List Int), (0 : Int), (0 : Int), (0 : Int), ([] : List Int), (0 : Int), (0 : Int), (0 : Int), ([] : List Int)), false)
      else
        spec_FmOf_l0 x0 x1 (0 : Int) (0 : Int) (0 : Int) (0 : Int) (0 : Int) (0 : Int) (0 : Int) (0 : Int) (0 : Int) (0 : Int) ([] : List Int) ([] : List (Int × (List Int))) ([] : List Int) ([] : List Int) ([] : List Int) ([] : List Int) := by kernel_rfl
theorem spec_FmOf_l0.eq (v0 : List Int) (v1 v2 v3 v4 v5 v6 v7 v8 v9 v10 v11 : Int) (v12 : List Int) (v13 : List (Int × (List Int))) (v14 v15 v16 v17 : List Int) : spec_FmOf_l0 v0 v1 v2 v3 v4 v5 v6 v7 v8 v9 v10 v11 v12 v13 v14 v15 v16 v17 =
    (spec_SuffixRows v0).bind fun y1 =>
    (spec_Inverse y1).bind fun y2 =>
    (spec_BwtOf v0).bind fun y3 =>
    (spec_Counts y3).bind fun y4 =>
    (spec_WaveOf y3).bind fun y5 =>
    spec_FmOf_l1 v0 v1 (0 : Int) v2 v3 v4 v5 v6 v7 v8 v9 v10 v11 v12 v13 v14 v15 v16 v17 y1 y2.1 (v0.length : Int) v1 y5.1.1 (0 : Int) (0 : Int) (0 : Int) (0 : Int) (0 : Int) (0 : Int) (0 : Int) y5.1.2.1 y5.1.2.2 y4 ([] : List Int) ([] : List Int) ([] : List Int) ([] : List Int) ([] : List Int) := (Lw_eq tysOk (getG_con (spec_FmOf.gok _)) _ _).trans (by kernel_rfl)
theorem spec_FmOf_l1.eq (v0 : List Int) (v1 v2 v3 v4 v5 v6 v7 v8 v9 v10 v11 v12 : Int) (v13 : List Int) (v14 : List (Int × (List Int))) (v15 v16 v17 v18 v19 v20 : List Int) (v21 v22 v23 v24 v25 v26 v27 v28 v29 v30 : Int) (v31 : List Int) (v32 : List (Int × (List Int))) (v33 v34 v35 v36 v37 v38 : List Int) : spec_FmOf_l1 v0 v1 v2 v3 v4 v5 v6 v7 v8 v9 v10 v11 v12 v13 v14 v15 v16 v17 v18 v19 v20 v21 v22 v23 v24 v25 v26 v27 v28 v29 v30 v31 v32 v33 v34 v35 v36 v37 v38 =
    bif decide (v2 < (v19.length : Int)) then
      (at? v19 v2).bind fun y1 =>
      v19[v2.toNat]?.bind fun y2 =>
      bif decide (v1 = (0 : Int)) then
        none
      else
        (spec_l01Bool (y2.tmod v1 == (0 : Int))).bind fun y3 =>
        bif decide ((v37.length + ([y3] : List Int).length) * 8 ≤ 140737488355328) then
          (at? v19 v2).bind fun y4 =>
          v19[v2.toNat]?.bind fun y5 =>
          bif decide (v1 = (0 : Int)) then
            none
          else
            bif y5.tmod v1 == (0 : Int) then
              (at? v19 v2).bind fun y6 =>
              v19[v2.toNat]?.bind fun y7 =>
              bif decide (v1 = (0 : Int)) then
                none
              else
                bif decide ((v38.length + ([IntKind.i64.wrap (y7.tdiv v1)] : List Int).length) * 8 ≤ 140737488355328) then
                  spec_FmOf_l1 v0 v1 (IntKind.i64.wrap (v2 + (1 : Int))) v3 v4 v5 v6 v7 v8 v9 v10 v11 v12 v13 v14 v15 v16 v17 v18 v19 v20 v21 v22 v23 v24 v25 v26 v27 v28 v29 v30 v31 v32 v33 v34 v35 v36 (v37 ++ ([y3] : List Int)) (v38 ++ ([IntKind.i64.wrap (y7.tdiv v1)] : List Int))
                else
                  none
            else
              spec_FmOf_l1 v0 v1 (IntKind.i64.wrap (v2 + (1 : Int))) v3 v4 v5 v6 v7 v8 v9 v10 v11 v12 v13 v14 v15 v16 v17 v18 v19 v20 v21 v22 v23 v24 v25 v26 v27 v28 v29 v30 v31 v32 v33 v34 v35 v36 (v37 ++ ([y3] : List Int)) v38
        else
          none
    else
      spec_FmOf_l2 v0 v1 (0 : Int) v3 v4 v5 v6 v7 v8 v9 v10 v11 v12 v13 v14 v15 v16 v17 v18 v20 v21 v22 v23 v24 v25 v26 v27 v28 v29 v30 v31 v32 v33 v34 v35 v36 v37 v38 ([] : List Int) := (Lw_eq tysOk (getG_con (spec_FmOf.gok _)) _ _).trans (by kernel_rfl)
theorem spec_FmOf_l2.eq (v0 : List Int) (v1 v2 v3 v4 v5 v6 v7 v8 v9 v10 v11 v12 : Int) (v13 : List Int) (v14 : List (Int × (List Int))) (v15 v16 v17 v18 v19 : List Int) (v20 v21 v22 v23 v24 v25 v26 v27 v28 v29 : Int) (v30 : List Int) (v31 : List (Int × (List Int))) (v32 v33 v34 v35 v36 v37 v38 : List Int) : spec_FmOf_l2 v0 v1 v2 v3 v4 v5 v6 v7 v8 v9 v10 v11 v12 v13 v14 v15 v16 v17 v18 v19 v20 v21 v22 v23 v24 v25 v26 v27 v28 v29 v30 v31 v32 v33 v34 v35 v36 v37 v38 =
    bif decide (v2 ≤ (v0.length : Int)) then
      (at? v19 v2).bind fun y1 =>
      v19[v2.toNat]?.bind fun y2 =>
      bif decide ((v38.length + ([y2] : List Int).length) * 8 ≤ 140737488355328) then
        spec_FmOf_l2 v0 v1 (IntKind.i64.wrap (v2 + v1)) v3 v4 v5 v6 v7 v8 v9 v10 v11 v12 v13 v14 v15 v16 v17 v18 v19 v20 v21 v22 v23 v24 v25 v26 v27 v28 v29 v30 v31 v32 v33 v34 v35 v36 v37 (v38 ++ ([y2] : List Int))
      else
        none
    else
      (spec_BitsOf v36).bind fun y3 =>
      (spec_WidthOf (v0.length : Int)).bind fun y4 =>
      (spec_PackOf v37 y4).bind fun y5 =>
      (spec_WidthOf (v0.length : Int)).bind fun y6 =>
      (spec_PackOf v38 y6).bind fun y7 =>
      some ((v20, v21, v22, v30, v31, v32, y3.1.1, y3.1.2, y5.1.1, y5.1.2.1, y5.1.2.2.1, y5.1.2.2.2, y7.1.1, y7.1.2.1, y7.1.2.2.1, y7.1.2.2.2), true) := (Lw_eq tysOk (getG_con (spec_FmOf.gok _)) _ _).trans (by kernel_rfl)

noncomputable abbrev spec_l03Same.s : Sg := ⟨[.lend, .lend], [.agg [.int .i64, .sl false false 106], .agg [.int .i64, .sl false false 106]], ⟨[vb], [none, none]⟩, Tryz.f124⟩
noncomputable def spec_l03Same.gs (δ : Type) : List (Nat × Callee (GT tab) δ) := []
theorem spec_l03Same.gok (δ : Type) : AllCon Tryz.prog tab (spec_l03Same.gs δ) := .nil
noncomputable def spec_l03Same.c := cx spec_l03Same.s [3] [(3, [2, 3]), (4, [2, 3, 5])] false (spec_l03Same.gs _)
noncomputable def spec_l03Same (x0 x1 : Int × (List Int)) : Option (Bool) := fnW spec_l03Same.s spec_l03Same.c (x0, x1)
theorem spec_l03Same.fok : FkS spec_l03Same.s 124 := ⟨Tryz.func124, by kernel_rfl, by kernel_rfl⟩
noncomputable def spec_l03Same.fn (x : Args tab spec_l03Same.s.ar) : Option (ResT tab spec_l03Same.s.rs) := spec_l03Same x.1 x.2
noncomputable abbrev spec_l03Same.k {δ : Type} : Callee (GT tab) δ := kS spec_l03Same.s spec_l03Same.fn
theorem spec_l03Same.con {δ : Type} : Con Tryz.prog (KT tab) 124 (spec_l03Same.k (δ := δ)) := con_shape (c := spec_l03Same.c) mixed tysOk (getG_con (spec_l03Same.gok _)) spec_l03Same.fok rfl rfl fun _ => rfl
noncomputable def spec_l03Same_l0 (v0 : Int) (v1 : List Int) (v2 : Int) (v3 : List Int) : Option (Bool) := lpW spec_l03Same.s spec_l03Same.c 0 (ud 34 [.undef, .undef, .ptr 0 0, .ptr 1 0]) [.box 29 [.int .i64 v0, .vs false 106 v1], .box 29 [.int .i64 v2, .vs false 106 v3]] 2
noncomputable def spec_l03Same_l1 (v0 v1 : Int) (v2 : List Int) (v3 : Int) (v4 : List Int) : Option (Bool) := lpW spec_l03Same.s spec_l03Same.c 1 (ud 32 [.undef, .undef, .ptr 0 0, .ptr 1 0, .undef, .int .i64 v0]) [.box 29 [.int .i64 v1, .vs false 106 v2], .box 29 [.int .i64 v3, .vs false 106 v4]] 2
theorem spec_l03Same.eq (x0 x1 : Int × (List Int)) : spec_l03Same x0 x1 =
    bif x0.1 != x1.1 then
      some false
    else
      bif (x0.2.length : Int) != (x1.2.length : Int) then
        some false
      else
        spec_l03Same_l0 x0.1 x0.2 x1.1 x1.2 := by kernel_rfl
theorem spec_l03Same_l0.eq (v0 : Int) (v1 : List Int) (v2 : Int) (v3 : List Int) : spec_l03Same_l0 v0 v1 v2 v3 =
    spec_l03Same_l1 (0 : Int) v0 v1 v2 v3 := (Lw_eq tysOk (getG_con (spec_l03Same.gok _)) _ _).trans (by kernel_rfl)
theorem spec_l03Same_l1.eq (v0 v1 : Int) (v2 : List Int) (v3 : Int) (v4 : List Int) : spec_l03Same_l1 v0 v1 v2 v3 v4 =
    bif decide (v0 < (v2.length : Int)) then
      (at? v2 v0).bind fun y1 =>
      (at? v4 v0).bind fun y2 =>
      bif y1 != y2 then
        some false
      else
        spec_l03Same_l1 (IntKind.i64.wrap (v0 + (1 : Int))) v1 v2 v3 v4
    else
      some true := (Lw_eq tysOk (getG_con (spec_l03Same.gok _)) _ _).trans (by kernel_rfl)

noncomputable abbrev spec_l09Packs.s : Sg := ⟨[.lend, .lend], [.agg [.int .i64, .int .i64, .int .i64, .sl false false 106], .agg [.int .i64, .int .i64, .int .i64, .sl false false 106]], ⟨[vb], [none, none]⟩, Tryz.f125⟩
noncomputable def spec_l09Packs.gs (δ : Type) : List (Nat × Callee (GT tab) δ) := [(124, spec_l03Same.k)]
theorem spec_l09Packs.gok (δ : Type) : AllCon Tryz.prog tab (spec_l09Packs.gs δ) := .cons spec_l03Same.con .nil
noncomputable def spec_l09Packs.c := cx spec_l09Packs.s [] [] false (spec_l09Packs.gs _)
noncomputable def spec_l09Packs (x0 x1 : Int × Int × Int × (List Int)) : Option (Bool) := fnW spec_l09Packs.s spec_l09Packs.c (x0, x1)
theorem spec_l09Packs.fok : FkS spec_l09Packs.s 125 := ⟨Tryz.func125, by kernel_rfl, by kernel_rfl⟩
noncomputable def spec_l09Packs.fn (x : Args tab spec_l09Packs.s.ar) : Option (ResT tab spec_l09Packs.s.rs) := spec_l09Packs x.1 x.2
noncomputable abbrev spec_l09Packs.k {δ : Type} : Callee (GT tab) δ := kS spec_l09Packs.s spec_l09Packs.fn
theorem spec_l09Packs.con {δ : Type} : Con Tryz.prog (KT tab) 125 (spec_l09Packs.k (δ := δ)) := con_shape (c := spec_l09Packs.c) mixed tysOk (getG_con (spec_l09Packs.gok _)) spec_l09Packs.fok rfl rfl fun _ => rfl
theorem spec_l09Packs.eq (x0 x1 : Int × Int × Int × (List Int)) : spec_l09Packs x0 x1 =
    bif x0.1 == x1.1 then
      bif x0.2.1 == x1.2.1 then
        (spec_l03Same x0.2.2 x1.2.2).bind fun y1 =>
        some y1
      else
        some false
    else
      some false := by kernel_rfl

noncomputable abbrev spec_l09Text.s : Sg := ⟨[.lend], [.agg [.int .i64, .int .i64, .int .i64, .sl false false 3, .sl false false 29, .sl false false 3, .int .i64, .sl false false 106, .int .i64, .int .i64, .int .i64, .sl false false 106, .int .i64, .int .i64, .int .i64, .sl false false 106]], ⟨[vo 5, vb], [none]⟩, Tryz.f104⟩
noncomputable def spec_l09Text.gs (δ : Type) : List (Nat × Callee (GT tab) δ) := [(15, spec_BwtText.k), (16, spec_WaveList.k), (17, spec_FmOf.k), (47, spec_l01Same.k), (51, spec_l09Rate.k), (124, spec_l03Same.k), (125, spec_l09Packs.k)]
theorem spec_l09Text.gok (δ : Type) : AllCon Tryz.prog tab (spec_l09Text.gs δ) := .cons spec_BwtText.con (.cons spec_WaveList.con (.cons spec_FmOf.con (.cons spec_l01Same.con (.cons spec_l09Rate.con (.cons spec_l03Same.con (.cons spec_l09Packs.con .nil))))))
noncomputable def spec_l09Text.c := cx spec_l09Text.s [3] [(3, [1])] false (spec_l09Text.gs _)
noncomputable def spec_l09Text (x0 : Int × Int × Int × (List Int) × (List (Int × (List Int))) × (List Int) × Int × (List Int) × Int × Int × Int × (List Int) × Int × Int × Int × (List Int)) : Option ((List Int) × Bool) := fnW spec_l09Text.s spec_l09Text.c x0
theorem spec_l09Text.fok : FkS spec_l09Text.s 104 := ⟨Tryz.func104, by kernel_rfl, by kernel_rfl⟩
noncomputable def spec_l09Text.fn (x : Args tab spec_l09Text.s.ar) : Option (ResT tab spec_l09Text.s.rs) := spec_l09Text x
noncomputable abbrev spec_l09Text.k {δ : Type} : Callee (GT tab) δ := kS spec_l09Text.s spec_l09Text.fn
theorem spec_l09Text.con {δ : Type} : Con Tryz.prog (KT tab) 104 (spec_l09Text.k (δ := δ)) := con_shape (c := spec_l09Text.c) mixed tysOk (getG_con (spec_l09Text.gok _)) spec_l09Text.fok rfl rfl fun _ => rfl
noncomputable def spec_l09Text_l0 (v0 v1 v2 : Int) (v3 : List Int) (v4 : List (Int × (List Int))) (v5 : List Int) (v6 : Int) (v7 : List Int) (v8 v9 v10 : Int) (v11 : List Int) (v12 v13 v14 : Int) (v15 : List Int) : Option ((List Int) × Bool) := lpW spec_l09Text.s spec_l09Text.c 0 (ud 70 [.undef, .ptr 0 0]) [.box 33 [.int .i64 v0, .int .i64 v1, .int .i64 v2, .vs false 3 v3, .vs false 29 v4, .vs false 3 v5, .int .i64 v6, .vs false 106 v7, .int .i64 v8, .int .i64 v9, .int .i64 v10, .vs false 106 v11, .int .i64 v12, .int .i64 v13, .int .i64 v14, .vs false 106 v15]] 1
theorem spec_l09Text.eq (x0 : Int × Int × Int × (List Int) × (List (Int × (List Int))) × (List Int) × Int × (List Int) × Int × Int × Int × (List Int) × Int × Int × Int × (List Int)) : spec_l09Text x0 =
    (spec_l09Rate x0.2.1).bind fun y1 =>
    bif !y1 then
      some (([] : List Int), false)
    else
      bif decide (x0.2.2.1 > (301 : Int)) then
        some (([] : List Int), false)
      else
        spec_l09Text_l0 x0.1 x0.2.1 x0.2.2.1 x0.2.2.2.1 x0.2.2.2.2.1 x0.2.2.2.2.2.1 x0.2.2.2.2.2.2.1 x0.2.2.2.2.2.2.2.1 x0.2.2.2.2.2.2.2.2.1 x0.2.2.2.2.2.2.2.2.2.1 x0.2.2.2.2.2.2.2.2.2.2.1 x0.2.2.2.2.2.2.2.2.2.2.2.1 x0.2.2.2.2.2.2.2.2.2.2.2.2.1 x0.2.2.2.2.2.2.2.2.2.2.2.2.2.1 x0.2.2.2.2.2.2.2.2.2.2.2.2.2.2.1 x0.2.2.2.2.2.2.2.2.2.2.2.2.2.2.2 := by kernel_rfl
theorem spec_l09Text_l0.eq (v0 v1 v2 : Int) (v3 : List Int) (v4 : List (Int × (List Int))) (v5 : List Int) (v6 : Int) (v7 : List Int) (v8 v9 v10 : Int) (v11 : List Int) (v12 v13 v14 : Int) (v15 : List Int) : spec_l09Text_l0 v0 v1 v2 v3 v4 v5 v6 v7 v8 v9 v10 v11 v12 v13 v14 v15 =
    (spec_WaveList (v2, v3, v4)).bind fun y1 =>
    (spec_BwtText y1).bind fun y2 =>
    bif !y2.2 then
      some (([] : List Int), false)
    else
      (spec_FmOf y2.1 v1).bind fun y3 =>
      bif v0 != y3.1.1 then
        some (([] : List Int), false)
      else
        (spec_l01Same v5 y3.1.2.2.2.2.2.1).bind fun y4 =>
        bif !y4 then
          some (([] : List Int), false)
        else
          (spec_l03Same (v6, v7) (y3.1.2.2.2.2.2.2.1, y3.1.2.2.2.2.2.2.2.1)).bind fun y5 =>
          bif !y5 then
            some (([] : List Int), false)
          else
            (spec_l09Packs (v8, v9, v10, v11) (y3.1.2.2.2.2.2.2.2.2.1, y3.1.2.2.2.2.2.2.2.2.2.1, y3.1.2.2.2.2.2.2.2.2.2.2.1, y3.1.2.2.2.2.2.2.2.2.2.2.2.1)).bind fun y6 =>
            bif !y6 then
              some (([] : List Int), false)
            else
              (spec_l09Packs (v12, v13, v14, v15) y3.1.2.2.2.2.2.2.2.2.2.2.2.2).bind fun y7 =>
              bif !y7 then
                some (([] : List Int), false)
              else
                some (y2.1, true) := (Lw_eq tysOk (getG_con (spec_l09Text.gok _)) _ _).trans (by kernel_rfl)

noncomputable abbrev spec_FmOk.s : Sg := ⟨[.lend], [.agg [.int .i64, .int .i64, .int .i64, .sl false false 3, .sl false false 29, .sl false false 3, .int .i64, .sl false false 106, .int .i64, .int .i64, .int .i64, .sl false false 106, .int .i64, .int .i64, .int .i64, .sl false false 106]], ⟨[vb], [none]⟩, Tryz.f60⟩
noncomputable def spec_FmOk.gs (δ : Type) : List (Nat × Callee (GT tab) δ) := [(104, spec_l09Text.k)]
theorem spec_FmOk.gok (δ : Type) : AllCon Tryz.prog tab (spec_FmOk.gs δ) := .cons spec_l09Text.con .nil
noncomputable def spec_FmOk.c := cx spec_FmOk.s [] [] false (spec_FmOk.gs _)
noncomputable def spec_FmOk (x0 : Int × Int × Int × (List Int) × (List (Int × (List Int))) × (List Int) × Int × (List Int) × Int × Int × Int × (List Int) × Int × Int × Int × (List Int)) : Option (Bool) := fnW spec_FmOk.s spec_FmOk.c x0
theorem spec_FmOk.fok : FkS spec_FmOk.s 60 := ⟨Tryz.func60, by kernel_rfl, by kernel_rfl⟩
noncomputable def spec_FmOk.fn (x : Args tab spec_FmOk.s.ar) : Option (ResT tab spec_FmOk.s.rs) := spec_FmOk x
noncomputable abbrev spec_FmOk.k {δ : Type} : Callee (GT tab) δ := kS spec_FmOk.s spec_FmOk.fn
theorem spec_FmOk.con {δ : Type} : Con Tryz.prog (KT tab) 60 (spec_FmOk.k (δ := δ)) := con_shape (c := spec_FmOk.c) mixed tysOk (getG_con (spec_FmOk.gok _)) spec_FmOk.fok rfl rfl fun _ => rfl
theorem spec_FmOk.eq (x0 : Int × Int × Int × (List Int) × (List (Int × (List Int))) × (List Int) × Int × (List Int) × Int × Int × Int × (List Int) × Int × Int × Int × (List Int)) : spec_FmOk x0 =
    (spec_l09Text x0).bind fun y1 =>
    some y1.2 := by kernel_rfl

noncomputable abbrev spec_WaveBytes.s : Sg := ⟨[.lend], [.agg [.int .i64, .sl false false 3, .sl false false 29]], ⟨[vo 5], [none]⟩, Tryz.f61⟩
noncomputable def spec_WaveBytes.gs (δ : Type) : List (Nat × Callee (GT tab) δ) := [(44, spec_WaveOk.k), (97, spec_BitsBytes.k)]
theorem spec_WaveBytes.gok (δ : Type) : AllCon Tryz.prog tab (spec_WaveBytes.gs δ) := .cons spec_WaveOk.con (.cons spec_BitsBytes.con .nil)
noncomputable def spec_WaveBytes.c := cx spec_WaveBytes.s [] [(5, [1, 3, 4])] false (spec_WaveBytes.gs _)
noncomputable def spec_WaveBytes (x0 : Int × (List Int) × (List (Int × (List Int)))) : Option (List Int) := fnW spec_WaveBytes.s spec_WaveBytes.c x0
theorem spec_WaveBytes.fok : FkS spec_WaveBytes.s 61 := ⟨Tryz.func61, by kernel_rfl, by kernel_rfl⟩
noncomputable def spec_WaveBytes.fn (x : Args tab spec_WaveBytes.s.ar) : Option (ResT tab spec_WaveBytes.s.rs) := spec_WaveBytes x
noncomputable abbrev spec_WaveBytes.k {δ : Type} : Callee (GT tab) δ := kS spec_WaveBytes.s spec_WaveBytes.fn
theorem spec_WaveBytes.con {δ : Type} : Con Tryz.prog (KT tab) 61 (spec_WaveBytes.k (δ := δ)) := con_shape (c := spec_WaveBytes.c) mixed tysOk (getG_con (spec_WaveBytes.gok _)) spec_WaveBytes.fok rfl rfl fun _ => rfl
noncomputable def spec_WaveBytes_l0 (v0 v1 : Int) (v2 : List Int) (v3 : List (Int × (List Int))) (v4 : List Int) : Option (List Int) := lpW spec_WaveBytes.s spec_WaveBytes.c 0 (ud 17 [.undef, .ptr 0 0, .undef, .sl 1 0, .int .i64 v0]) [.box 26 [.int .i64 v1, .vs false 3 v2, .vs false 29 v3], .row 0 true 5 v4] 2
theorem spec_WaveBytes.eq (x0 : Int × (List Int) × (List (Int × (List Int)))) : spec_WaveBytes x0 =
    (spec_WaveOk x0).bind fun y1 =>
    bif !y1 then
      some ([] : List Int)
    else
      spec_WaveBytes_l0 (0 : Int) x0.1 x0.2.1 x0.2.2 ([] : List Int) := by kernel_rfl
theorem spec_WaveBytes_l0.eq (v0 v1 : Int) (v2 : List Int) (v3 : List (Int × (List Int))) (v4 : List Int) : spec_WaveBytes_l0 v0 v1 v2 v3 v4 =
    bif decide (v0 < (9 : Int)) then
      (at? v3 v0).bind fun y1 =>
      (spec_BitsBytes y1).bind fun y2 =>
      bif decide ((v4.length + y2.length) * 1 ≤ 140737488355328) then
        spec_WaveBytes_l0 (IntKind.i64.wrap (v0 + (1 : Int))) v1 v2 v3 (v4 ++ y2)
      else
        none
    else
      some v4 := (Lw_eq tysOk (getG_con (spec_WaveBytes.gok _)) _ _).trans (by kernel_rfl)

noncomputable abbrev spec_PackOk.s : Sg := ⟨[.lend], [.agg [.int .i64, .int .i64, .int .i64, .sl false false 106]], ⟨[vb], [none]⟩, Tryz.f126⟩
noncomputable def spec_PackOk.gs (δ : Type) : List (Nat × Callee (GT tab) δ) := [(99, spec_BitsOk.k)]
theorem spec_PackOk.gok (δ : Type) : AllCon Tryz.prog tab (spec_PackOk.gs δ) := .cons spec_BitsOk.con .nil
noncomputable def spec_PackOk.c := cx spec_PackOk.s [] [] false (spec_PackOk.gs _)
noncomputable def spec_PackOk (x0 : Int × Int × Int × (List Int)) : Option (Bool) := fnW spec_PackOk.s spec_PackOk.c x0
theorem spec_PackOk.fok : FkS spec_PackOk.s 126 := ⟨Tryz.func126, by kernel_rfl, by kernel_rfl⟩
noncomputable def spec_PackOk.fn (x : Args tab spec_PackOk.s.ar) : Option (ResT tab spec_PackOk.s.rs) := spec_PackOk x
noncomputable abbrev spec_PackOk.k {δ : Type} : Callee (GT tab) δ := kS spec_PackOk.s spec_PackOk.fn
theorem spec_PackOk.con {δ : Type} : Con Tryz.prog (KT tab) 126 (spec_PackOk.k (δ := δ)) := con_shape (c := spec_PackOk.c) mixed tysOk (getG_con (spec_PackOk.gok _)) spec_PackOk.fok rfl rfl fun _ => rfl
theorem spec_PackOk.eq (x0 : Int × Int × Int × (List Int)) : spec_PackOk x0 =
    bif decide (x0.1 ≥ (0 : Int)) then
      bif decide (x0.1 ≤ (32 : Int)) then
        bif decide (x0.2.1 ≥ (0 : Int)) then
          bif decide (x0.2.1 ≤ (5000 : Int)) then
            (spec_BitsOk x0.2.2).bind fun y1 =>
            bif y1 then
              some (x0.2.2.1 == IntKind.i64.wrap (x0.1 * x0.2.1))
            else
              some false
          else
            some false
        else
          some false
      else
        some false
    else
      some false := by kernel_rfl

noncomputable abbrev spec_PackBytes.s : Sg := ⟨[.lend], [.agg [.int .i64, .int .i64, .int .i64, .sl false false 106]], ⟨[vo 5], [none]⟩, Tryz.f105⟩
noncomputable def spec_PackBytes.gs (δ : Type) : List (Nat × Callee (GT tab) δ) := [(41, spec_VarOf.k), (97, spec_BitsBytes.k), (126, spec_PackOk.k)]
theorem spec_PackBytes.gok (δ : Type) : AllCon Tryz.prog tab (spec_PackBytes.gs δ) := .cons spec_VarOf.con (.cons spec_BitsBytes.con (.cons spec_PackOk.con .nil))
noncomputable def spec_PackBytes.c := cx spec_PackBytes.s [] [] false (spec_PackBytes.gs _)
noncomputable def spec_PackBytes (x0 : Int × Int × Int × (List Int)) : Option (List Int) := fnW spec_PackBytes.s spec_PackBytes.c x0
theorem spec_PackBytes.fok : FkS spec_PackBytes.s 105 := ⟨Tryz.func105, by kernel_rfl, by kernel_rfl⟩
noncomputable def spec_PackBytes.fn (x : Args tab spec_PackBytes.s.ar) : Option (ResT tab spec_PackBytes.s.rs) := spec_PackBytes x
noncomputable abbrev spec_PackBytes.k {δ : Type} : Callee (GT tab) δ := kS spec_PackBytes.s spec_PackBytes.fn
theorem spec_PackBytes.con {δ : Type} : Con Tryz.prog (KT tab) 105 (spec_PackBytes.k (δ := δ)) := con_shape (c := spec_PackBytes.c) mixed tysOk (getG_con (spec_PackBytes.gok _)) spec_PackBytes.fok rfl rfl fun _ => rfl
theorem spec_PackBytes.eq (x0 : Int × Int × Int × (List Int)) : spec_PackBytes x0 =
    (spec_PackOk x0).bind fun y1 =>
    bif !y1 then
      some ([] : List Int)
    else
      (spec_VarOf x0.1).bind fun y2 =>
      (spec_VarOf x0.2.1).bind fun y3 =>
      bif decide ((y2.length + y3.length) * 1 ≤ 140737488355328) then
        (spec_BitsBytes x0.2.2).bind fun y4 =>
        bif decide (((y2 ++ y3).length + y4.length) * 1 ≤ 140737488355328) then
          some ((y2 ++ y3) ++ y4)
        else
          none
      else
        none := by kernel_rfl

noncomputable abbrev spec_l16Ends.s : Sg := ⟨[.lend, .lend, .lend], [.agg [.int .i64, .sl false false 106], .agg [.int .i64, .int .i64, .int .i64, .sl false false 106], .agg [.int .i64, .int .i64, .int .i64, .sl false false 106]], ⟨[vo 5], [none, none, none]⟩, Tryz.f62⟩
noncomputable def spec_l16Ends.gs (δ : Type) : List (Nat × Callee (GT tab) δ) := [(97, spec_BitsBytes.k), (105, spec_PackBytes.k)]
theorem spec_l16Ends.gok (δ : Type) : AllCon Tryz.prog tab (spec_l16Ends.gs δ) := .cons spec_BitsBytes.con (.cons spec_PackBytes.con .nil)
noncomputable def spec_l16Ends.c := cx spec_l16Ends.s [] [] false (spec_l16Ends.gs _)
noncomputable def spec_l16Ends (x0 : Int × (List Int)) (x1 x2 : Int × Int × Int × (List Int)) : Option (List Int) := fnW spec_l16Ends.s spec_l16Ends.c (x0, x1, x2)
theorem spec_l16Ends.fok : FkS spec_l16Ends.s 62 := ⟨Tryz.func62, by kernel_rfl, by kernel_rfl⟩
noncomputable def spec_l16Ends.fn (x : Args tab spec_l16Ends.s.ar) : Option (ResT tab spec_l16Ends.s.rs) := spec_l16Ends x.1 x.2.1 x.2.2
noncomputable abbrev spec_l16Ends.k {δ : Type} : Callee (GT tab) δ := kS spec_l16Ends.s spec_l16Ends.fn
theorem spec_l16Ends.con {δ : Type} : Con Tryz.prog (KT tab) 62 (spec_l16Ends.k (δ := δ)) := con_shape (c := spec_l16Ends.c) mixed tysOk (getG_con (spec_l16Ends.gok _)) spec_l16Ends.fok rfl rfl fun _ => rfl
theorem spec_l16Ends.eq (x0 : Int × (List Int)) (x1 x2 : Int × Int × Int × (List Int)) : spec_l16Ends x0 x1 x2 =
    (spec_BitsBytes x0).bind fun y1 =>
    (spec_PackBytes x1).bind fun y2 =>
    bif decide ((y1.length + y2.length) * 1 ≤ 140737488355328) then
      (spec_PackBytes x2).bind fun y3 =>
      bif decide (((y1 ++ y2).length + y3.length) * 1 ≤ 140737488355328) then
        some ((y1 ++ y2) ++ y3)
      else
        none
    else
      none := by kernel_rfl

noncomputable abbrev spec_FmBytes.s : Sg := ⟨[.lend], [.agg [.int .i64, .int .i64, .int .i64, .sl false false 3, .sl false false 29, .sl false false 3, .int .i64, .sl false false 106, .int .i64, .int .i64, .int .i64, .sl false false 106, .int .i64, .int .i64, .int .i64, .sl false false 106]], ⟨[vo 5], [none]⟩, Tryz.f18⟩
noncomputable def spec_FmBytes.gs (δ : Type) : List (Nat × Callee (GT tab) δ) := [(40, spec_FrameOf.k), (41, spec_VarOf.k), (60, spec_FmOk.k), (61, spec_WaveBytes.k), (62, spec_l16Ends.k)]
theorem spec_FmBytes.gok (δ : Type) : AllCon Tryz.prog tab (spec_FmBytes.gs δ) := .cons spec_FrameOf.con (.cons spec_VarOf.con (.cons spec_FmOk.con (.cons spec_WaveBytes.con (.cons spec_l16Ends.con .nil))))
noncomputable def spec_FmBytes.c := cx spec_FmBytes.s [] [] false (spec_FmBytes.gs _)
noncomputable def spec_FmBytes (x0 : Int × Int × Int × (List Int) × (List (Int × (List Int))) × (List Int) × Int × (List Int) × Int × Int × Int × (List Int) × Int × Int × Int × (List Int)) : Option (List Int) := fnW spec_FmBytes.s spec_FmBytes.c x0
theorem spec_FmBytes.fok : FkS spec_FmBytes.s 18 := ⟨Tryz.func18, by kernel_rfl, by kernel_rfl⟩
noncomputable def spec_FmBytes.fn (x : Args tab spec_FmBytes.s.ar) : Option (ResT tab spec_FmBytes.s.rs) := spec_FmBytes x
noncomputable abbrev spec_FmBytes.k {δ : Type} : Callee (GT tab) δ := kS spec_FmBytes.s spec_FmBytes.fn
theorem spec_FmBytes.con {δ : Type} : Con Tryz.prog (KT tab) 18 (spec_FmBytes.k (δ := δ)) := con_shape (c := spec_FmBytes.c) mixed tysOk (getG_con (spec_FmBytes.gok _)) spec_FmBytes.fok rfl rfl fun _ => rfl
theorem spec_FmBytes.eq (x0 : Int × Int × Int × (List Int) × (List (Int × (List Int))) × (List Int) × Int × (List Int) × Int × Int × Int × (List Int) × Int × Int × Int × (List Int)) : spec_FmBytes x0 =
    (spec_FmOk x0).bind fun y1 =>
    bif !y1 then
      some ([] : List Int)
    else
      (spec_VarOf x0.2.1).bind fun y2 =>
      (spec_WaveBytes (x0.2.2.1, x0.2.2.2.1, x0.2.2.2.2.1)).bind fun y3 =>
      bif decide ((y2.length + y3.length) * 1 ≤ 140737488355328) then
        (spec_l16Ends (x0.2.2.2.2.2.2.1, x0.2.2.2.2.2.2.2.1) (x0.2.2.2.2.2.2.2.2.1, x0.2.2.2.2.2.2.2.2.2.1, x0.2.2.2.2.2.2.2.2.2.2.1, x0.2.2.2.2.2.2.2.2.2.2.2.1) x0.2.2.2.2.2.2.2.2.2.2.2.2).bind fun y4 =>
        bif decide (((y2 ++ y3).length + y4.length) * 1 ≤ 140737488355328) then
          (spec_FrameOf ((1 : Int), (y2 ++ y3) ++ y4)).bind fun y5 =>
          some y5
        else
          none
      else
        none := by kernel_rfl

noncomputable abbrev spec_FmRead.s : Sg := ⟨[.lend], [vl 5], ⟨[.agg [.int .i64, .int .i64, .int .i64, .sl true true 3, .sl true true 29, .sl true true 3, .int .i64, .sl true true 106, .int .i64, .int .i64, .int .i64, .sl true true 106, .int .i64, .int .i64, .int .i64, .sl true true 106], vb], [none]⟩, Tryz.f4⟩
noncomputable def spec_FmRead.gs (δ : Type) : List (Nat × Callee (GT tab) δ) := [(12, spec_FrameRead.k), (13, spec_VarRead.k), (14, spec_WaveRead.k), (15, spec_BwtText.k), (16, spec_WaveList.k), (17, spec_FmOf.k), (18, spec_FmBytes.k)]
theorem spec_FmRead.gok (δ : Type) : AllCon Tryz.prog tab (spec_FmRead.gs δ) := .cons spec_FrameRead.con (.cons spec_VarRead.con (.cons spec_WaveRead.con (.cons spec_BwtText.con (.cons spec_WaveList.con (.cons spec_FmOf.con (.cons spec_FmBytes.con .nil))))))
noncomputable def spec_FmRead.c := cx spec_FmRead.s [4] [(4, [0, 2, 4])] false (spec_FmRead.gs _)
noncomputable def spec_FmRead (x0 : List Int) : Option ((Int × Int × Int × (List Int) × (List (Int × (List Int))) × (List Int) × Int × (List Int) × Int × Int × Int × (List Int) × Int × Int × Int × (List Int)) × Bool) := fnW spec_FmRead.s spec_FmRead.c x0
theorem spec_FmRead.fok : FkS spec_FmRead.s 4 := ⟨Tryz.func4, by kernel_rfl, by kernel_rfl⟩
noncomputable def spec_FmRead.fn (x : Args tab spec_FmRead.s.ar) : Option (ResT tab spec_FmRead.s.rs) := spec_FmRead x
noncomputable abbrev spec_FmRead.k {δ : Type} : Callee (GT tab) δ := kS spec_FmRead.s spec_FmRead.fn
theorem spec_FmRead.con {δ : Type} : Con Tryz.prog (KT tab) 4 (spec_FmRead.k (δ := δ)) := con_shape (c := spec_FmRead.c) mixed tysOk (getG_con (spec_FmRead.gok _)) spec_FmRead.fok rfl rfl fun _ => rfl
noncomputable def spec_FmRead_l0 (v0 : List Int) (v1 v2 v3 v4 v5 v6 v7 v8 v9 v10 : Int) (v11 : List Int) (v12 : List (Int × (List Int))) (v13 v14 v15 v16 : List Int) (v17 : Int) (v18 : List Int) : Option ((Int × Int × Int × (List Int) × (List (Int × (List Int))) × (List Int) × Int × (List Int) × Int × Int × Int × (List Int) × Int × Int × Int × (List Int)) × Bool) := lpW spec_FmRead.s spec_FmRead.c 0 (ud 82 [.vs false 5 v0, .undef, .ptr 0 0, .undef, .ptr 7 0]) [.box 33 [.int .i64 v1, .int .i64 v2, .int .i64 v3, .sl 1 0, .sl 2 0, .sl 3 0, .int .i64 v4, .sl 4 0, .int .i64 v5, .int .i64 v6, .int .i64 v7, .sl 5 0, .int .i64 v8, .int .i64 v9, .int .i64 v10, .sl 6 0], .row 0 true 3 v11, .row 0 true 29 v12, .row 0 true 3 v13, .row 0 true 106 v14, .row 0 true 106 v15, .row 0 true 106 v16, .box 43 [.int .i64 v17, .sl 8 0], .row 0 true 5 v18] 9
theorem spec_FmRead.eq (x0 : List Int) : spec_FmRead x0 =
    (spec_FrameRead x0 (0 : Int)).bind fun y1 =>
    bif !y1.2.2 then
      some (((0 : Int), (0 : Int), (0 : Int), ([] : List Int), ([] : List (Int × (List Int))), ([] : List Int), (0 : Int), ([] : List Int), (0 : Int), (0 : Int), (0 : Int), ([] : List Int), (0 : Int), (0 : Int), (0 : Int), ([] : List Int)), false)
    else
      bif y1.2.1 != (x0.length : Int) then
        some (((0 : Int), (0 : Int), (0 : Int), ([] : List Int), ([] : List (Int × (List Int))), ([] : List Int), (0 : Int), ([] : List Int), (0 : Int), (0 : Int), (0 : Int), ([] : List Int), (0 : Int), (0 : Int), (0 : Int), ([] : List Int)), false)
      else
        bif y1.1.1 != (1 : Int) then
          some (((0 : Int), (0 : Int), (0 : Int), ([] : List Int), ([] : List (Int × (List Int))), ([] : List Int), (0 : Int), ([] : List Int), (0 : Int), (0 : Int), (0 : Int), ([] : List Int), (0 : Int), (0 : Int), (0 : Int), ([] : List Int)), false)
        else
          spec_FmRead_l0 x0 (0 : Int) (0 : Int) (0 : Int) (0 : Int) (0 : Int) (0 : Int) (0 : Int) (0 : Int) (0 : Int) (0 : Int) ([] : List Int) ([] : List (Int × (List Int))) ([] : List Int) ([] : List Int) ([] : List Int) ([] : List Int) y1.1.1 y1.1.2 := by kernel_rfl
theorem spec_FmRead_l0.eq (v0 : List Int) (v1 v2 v3 v4 v5 v6 v7 v8 v9 v10 : Int) (v11 : List Int) (v12 : List (Int × (List Int))) (v13 v14 v15 v16 : List Int) (v17 : Int) (v18 : List Int) : spec_FmRead_l0 v0 v1 v2 v3 v4 v5 v6 v7 v8 v9 v10 v11 v12 v13 v14 v15 v16 v17 v18 =
    (spec_VarRead v18 (0 : Int)).bind fun y1 =>
    bif !y1.2.2 then
      some (((0 : Int), (0 : Int), (0 : Int), ([] : List Int), ([] : List (Int × (List Int))), ([] : List Int), (0 : Int), ([] : List Int), (0 : Int), (0 : Int), (0 : Int), ([] : List Int), (0 : Int), (0 : Int), (0 : Int), ([] : List Int)), false)
    else
      (spec_WaveRead v18 y1.2.1).bind fun y2 =>
      (spec_WaveList y2.1).bind fun y3 =>
      (spec_BwtText y3).bind fun y4 =>
      (spec_FmOf y4.1 y1.1).bind fun y5 =>
      bif !y2.2.2 then
        some (((0 : Int), (0 : Int), (0 : Int), ([] : List Int), ([] : List (Int × (List Int))), ([] : List Int), (0 : Int), ([] : List Int), (0 : Int), (0 : Int), (0 : Int), ([] : List Int), (0 : Int), (0 : Int), (0 : Int), ([] : List Int)), false)
      else
        bif !y4.2 then
          some (((0 : Int), (0 : Int), (0 : Int), ([] : List Int), ([] : List (Int × (List Int))), ([] : List Int), (0 : Int), ([] : List Int), (0 : Int), (0 : Int), (0 : Int), ([] : List Int), (0 : Int), (0 : Int), (0 : Int), ([] : List Int)), false)
        else
          bif !y5.2 then
            some (((0 : Int), (0 : Int), (0 : Int), ([] : List Int), ([] : List (Int × (List Int))), ([] : List Int), (0 : Int), ([] : List Int), (0 : Int), (0 : Int), (0 : Int), ([] : List Int), (0 : Int), (0 : Int), (0 : Int), ([] : List Int)), false)
          else
            (spec_FmBytes y5.1).bind fun y6 =>
            bif !((strOf (y6.map fun x => x)).toList == (strOf (v0.map fun x => x)).toList) then
              some (((0 : Int), (0 : Int), (0 : Int), ([] : List Int), ([] : List (Int × (List Int))), ([] : List Int), (0 : Int), ([] : List Int), (0 : Int), (0 : Int), (0 : Int), ([] : List Int), (0 : Int), (0 : Int), (0 : Int), ([] : List Int)), false)
            else
              some (y5.1, true) := (Lw_eq tysOk (getG_con (spec_FmRead.gok _)) _ _).trans (by kernel_rfl)

noncomputable abbrev impl_within.s : Sg := ⟨[.lend, .lend, .lend], [vi, vi, vi], ⟨[vb], [none, none, none]⟩, Tryz.f64⟩
noncomputable def impl_within.gs (δ : Type) : List (Nat × Callee (GT tab) δ) := []
theorem impl_within.gok (δ : Type) : AllCon Tryz.prog tab (impl_within.gs δ) := .nil
noncomputable def impl_within.c := cx impl_within.s [] [] false (impl_within.gs _)
noncomputable def impl_within (x0 x1 x2 : Int) : Option (Bool) := fnW impl_within.s impl_within.c (x0, x1, x2)
theorem impl_within.fok : FkS impl_within.s 64 := ⟨Tryz.func64, by kernel_rfl, by kernel_rfl⟩
noncomputable def impl_within.fn (x : Args tab impl_within.s.ar) : Option (ResT tab impl_within.s.rs) := impl_within x.1 x.2.1 x.2.2
noncomputable abbrev impl_within.k {δ : Type} : Callee (GT tab) δ := kS impl_within.s impl_within.fn
theorem impl_within.con {δ : Type} : Con Tryz.prog (KT tab) 64 (impl_within.k (δ := δ)) := con_shape (c := impl_within.c) mixed tysOk (getG_con (impl_within.gok _)) impl_within.fok rfl rfl fun _ => rfl
theorem impl_within.eq (x0 x1 x2 : Int) : impl_within x0 x1 x2 =
    bif decide (x1 ≤ x0) then
      some (decide (x0 ≤ x2))
    else
      some false := by kernel_rfl

noncomputable abbrev impl_VarOf.s : Sg := ⟨[.lend], [vi], ⟨[vo 5], [none]⟩, Tryz.f65⟩
noncomputable def impl_VarOf.gs (δ : Type) : List (Nat × Callee (GT tab) δ) := [(64, impl_within.k)]
theorem impl_VarOf.gok (δ : Type) : AllCon Tryz.prog tab (impl_VarOf.gs δ) := .cons impl_within.con .nil
noncomputable def impl_VarOf.c := cx impl_VarOf.s [] [(4, [0, 3])] false (impl_VarOf.gs _)
noncomputable def impl_VarOf (x0 : Int) : Option (List Int) := fnW impl_VarOf.s impl_VarOf.c x0
theorem impl_VarOf.fok : FkS impl_VarOf.s 65 := ⟨Tryz.func65, by kernel_rfl, by kernel_rfl⟩
noncomputable def impl_VarOf.fn (x : Args tab impl_VarOf.s.ar) : Option (ResT tab impl_VarOf.s.rs) := impl_VarOf x
noncomputable abbrev impl_VarOf.k {δ : Type} : Callee (GT tab) δ := kS impl_VarOf.s impl_VarOf.fn
theorem impl_VarOf.con {δ : Type} : Con Tryz.prog (KT tab) 65 (impl_VarOf.k (δ := δ)) := con_shape (c := impl_VarOf.c) mixed tysOk (getG_con (impl_VarOf.gok _)) impl_VarOf.fok rfl rfl fun _ => rfl
noncomputable def impl_VarOf_l0 (v0 : Int) (v1 : List Int) : Option (List Int) := lpW impl_VarOf.s impl_VarOf.c 0 (ud 19 [.int .i64 v0, .undef, .undef, .sl 0 0]) [.row 0 true 5 v1] 1
theorem impl_VarOf.eq (x0 : Int) : impl_VarOf x0 =
    (impl_within x0 (0 : Int) (4294967295 : Int)).bind fun y1 =>
    bif !y1 then
      some ([] : List Int)
    else
      impl_VarOf_l0 x0 ([] : List Int) := by kernel_rfl
theorem impl_VarOf_l0.eq (v0 : Int) (v1 : List Int) : impl_VarOf_l0 v0 v1 =
    bif decide (v0 ≥ (128 : Int)) then
      bif decide ((v1.length + ([IntKind.u8.wrap (IntKind.i64.wrap (((BitVec.ofInt 64 (IntKind.i64.wrap (((BitVec.ofInt 64 v0) &&& (BitVec.ofInt 64 (127 : Int))).toNat : Int))) ||| (BitVec.ofInt 64 (128 : Int))).toNat : Int))] : List Int).length) * 1 ≤ 140737488355328) then
        impl_VarOf_l0 (v0.fdiv (2 ^ 7)) (v1 ++ ([IntKind.u8.wrap (IntKind.i64.wrap (((BitVec.ofInt 64 (IntKind.i64.wrap (((BitVec.ofInt 64 v0) &&& (BitVec.ofInt 64 (127 : Int))).toNat : Int))) ||| (BitVec.ofInt 64 (128 : Int))).toNat : Int))] : List Int))
      else
        none
    else
      bif decide ((v1.length + ([IntKind.u8.wrap v0] : List Int).length) * 1 ≤ 140737488355328) then
        some (v1 ++ ([IntKind.u8.wrap v0] : List Int))
      else
        none := (Lw_eq tysOk (getG_con (impl_VarOf.gok _)) _ _).trans (by kernel_rfl)

noncomputable abbrev bytes_Equal.s : Sg := ⟨[.lend, .lend], [vl 5, vl 5], ⟨[vb], [none, none]⟩, Tryz.f26⟩
noncomputable def bytes_Equal.gs (δ : Type) : List (Nat × Callee (GT tab) δ) := []
theorem bytes_Equal.gok (δ : Type) : AllCon Tryz.prog tab (bytes_Equal.gs δ) := .nil
noncomputable def bytes_Equal.c := cx bytes_Equal.s [] [] false (bytes_Equal.gs _)
noncomputable def bytes_Equal (x0 x1 : List Int) : Option (Bool) := fnW bytes_Equal.s bytes_Equal.c (x0, x1)
theorem bytes_Equal.fok : FkS bytes_Equal.s 26 := ⟨Tryz.func26, by kernel_rfl, by kernel_rfl⟩
noncomputable def bytes_Equal.fn (x : Args tab bytes_Equal.s.ar) : Option (ResT tab bytes_Equal.s.rs) := bytes_Equal x.1 x.2
noncomputable abbrev bytes_Equal.k {δ : Type} : Callee (GT tab) δ := kS bytes_Equal.s bytes_Equal.fn
theorem bytes_Equal.con {δ : Type} : Con Tryz.prog (KT tab) 26 (bytes_Equal.k (δ := δ)) := con_shape (c := bytes_Equal.c) mixed tysOk (getG_con (bytes_Equal.gok _)) bytes_Equal.fok rfl rfl fun _ => rfl
theorem bytes_Equal.eq (x0 x1 : List Int) : bytes_Equal x0 x1 =
    some ((strOf (x0.map fun x => x)).toList == (strOf (x1.map fun x => x)).toList) := by kernel_rfl

noncomputable abbrev impl_VarRead.s : Sg := ⟨[.lend, .lend], [vl 5, vi], ⟨[vi, vi, vb], [none, none]⟩, Tryz.f20⟩
noncomputable def impl_VarRead.gs (δ : Type) : List (Nat × Callee (GT tab) δ) := [(26, bytes_Equal.k), (64, impl_within.k), (65, impl_VarOf.k)]
theorem impl_VarRead.gok (δ : Type) : AllCon Tryz.prog tab (impl_VarRead.gs δ) := .cons bytes_Equal.con (.cons impl_within.con (.cons impl_VarOf.con .nil))
noncomputable def impl_VarRead.c := cx impl_VarRead.s [] [(5, [0, 1, 7, 18, 19, 20])] false (impl_VarRead.gs _)
noncomputable def impl_VarRead (x0 : List Int) (x1 : Int) : Option (Int × Int × Bool) := fnW impl_VarRead.s impl_VarRead.c (x0, x1)
theorem impl_VarRead.fok : FkS impl_VarRead.s 20 := ⟨Tryz.func20, by kernel_rfl, by kernel_rfl⟩
noncomputable def impl_VarRead.fn (x : Args tab impl_VarRead.s.ar) : Option (ResT tab impl_VarRead.s.rs) := impl_VarRead x.1 x.2
noncomputable abbrev impl_VarRead.k {δ : Type} : Callee (GT tab) δ := kS impl_VarRead.s impl_VarRead.fn
theorem impl_VarRead.con {δ : Type} : Con Tryz.prog (KT tab) 20 (impl_VarRead.k (δ := δ)) := con_shape (c := impl_VarRead.c) mixed tysOk (getG_con (impl_VarRead.gok _)) impl_VarRead.fok rfl rfl fun _ => rfl
noncomputable def impl_VarRead_l0 (v0 : List Int) (v1 v2 : Int) (v3 : List Int) (v4 v5 : Int) : Option (Int × Int × Bool) := lpW impl_VarRead.s impl_VarRead.c 0 (ud 31 [.vs false 5 v0, .int .i64 v1, .undef, .undef, .undef, .undef, .undef, .int .i64 v2, .undef, .undef, .undef, .undef, .undef, .undef, .undef, .undef, .undef, .undef, .vs false 5 v3, .int .i64 v4, .int .i64 v5]) [] 0
theorem impl_VarRead.eq (x0 : List Int) (x1 : Int) : impl_VarRead x0 x1 =
    (impl_within x1 (0 : Int) (x0.length : Int)).bind fun y1 =>
    bif !y1 then
      some ((0 : Int), (0 : Int), false)
    else
      bif decide (0 ≤ x1 ∧ x1 ≤ ((x0.length : Nat) : Int)) then
        impl_VarRead_l0 x0 x1 (0 : Int) ((x0.take x0.length).drop x1.toNat) (((x0.take x0.length).drop x1.toNat).length : Int) (0 : Int)
      else
        none := by kernel_rfl
theorem impl_VarRead_l0.eq (v0 : List Int) (v1 v2 : Int) (v3 : List Int) (v4 v5 : Int) : impl_VarRead_l0 v0 v1 v2 v3 v4 v5 =
    bif decide (v5 < v4) then
      (at? v3 v5).bind fun y1 =>
      bif v5 == (5 : Int) then
        some ((0 : Int), (0 : Int), false)
      else
        bif decide (IntKind.i64.wrap ((7 : Int) * v5) < (0 : Int)) then
          none
        else
          bif decide (y1 ≥ (128 : Int)) then
            impl_VarRead_l0 v0 v1 (IntKind.i64.wrap (((BitVec.ofInt 64 v2) ||| (BitVec.ofInt 64 (IntKind.i64.wrap ((IntKind.i64.wrap (IntKind.u8.wrap (((BitVec.ofInt 8 y1) &&& (BitVec.ofInt 8 (127 : Int))).toNat : Int))) * 2 ^ (min (IntKind.i64.wrap ((7 : Int) * v5)).toNat 64))))).toNat : Int)) v3 v4 (IntKind.i64.wrap (v5 + (1 : Int)))
          else
            (impl_VarOf (IntKind.i64.wrap (((BitVec.ofInt 64 v2) ||| (BitVec.ofInt 64 (IntKind.i64.wrap ((IntKind.i64.wrap (IntKind.u8.wrap (((BitVec.ofInt 8 y1) &&& (BitVec.ofInt 8 (127 : Int))).toNat : Int))) * 2 ^ (min (IntKind.i64.wrap ((7 : Int) * v5)).toNat 64))))).toNat : Int))).bind fun y2 =>
            bif decide (0 ≤ IntKind.i64.wrap ((IntKind.i64.wrap (v1 + v5)) + (1 : Int)) ∧ IntKind.i64.wrap ((IntKind.i64.wrap (v1 + v5)) + (1 : Int)) ≤ ((v0.length : Nat) : Int)) then
              bif decide (0 ≤ v1 ∧ v1 ≤ (((IntKind.i64.wrap ((IntKind.i64.wrap (v1 + v5)) + (1 : Int))).toNat : Nat) : Int)) then
                (bytes_Equal y2 ((v0.take ((IntKind.i64.wrap ((IntKind.i64.wrap (v1 + v5)) + (1 : Int))).toNat)).drop v1.toNat)).bind fun y3 =>
                bif !y3 then
                  some ((0 : Int), (0 : Int), false)
                else
                  some (IntKind.i64.wrap (((BitVec.ofInt 64 v2) ||| (BitVec.ofInt 64 (IntKind.i64.wrap ((IntKind.i64.wrap (IntKind.u8.wrap (((BitVec.ofInt 8 y1) &&& (BitVec.ofInt 8 (127 : Int))).toNat : Int))) * 2 ^ (min (IntKind.i64.wrap ((7 : Int) * v5)).toNat 64))))).toNat : Int), IntKind.i64.wrap ((IntKind.i64.wrap (v1 + v5)) + (1 : Int)), true)
              else
                none
            else
              none
    else
      some ((0 : Int), (0 : Int), false) := (Lw_eq tysOk (getG_con (impl_VarRead.gok _)) _ _).trans (by kernel_rfl)

noncomputable abbrev bytes_Clone.s : Sg := ⟨[.lend], [vl 5], ⟨[vo 5], [none]⟩, Tryz.f106⟩
noncomputable def bytes_Clone.gs (δ : Type) : List (Nat × Callee (GT tab) δ) := []
theorem bytes_Clone.gok (δ : Type) : AllCon Tryz.prog tab (bytes_Clone.gs δ) := .nil
noncomputable def bytes_Clone.c := cx bytes_Clone.s [] [] false (bytes_Clone.gs _)
noncomputable def bytes_Clone (x0 : List Int) : Option (List Int) := fnW bytes_Clone.s bytes_Clone.c x0
theorem bytes_Clone.fok : FkS bytes_Clone.s 106 := ⟨Tryz.func106, by kernel_rfl, by kernel_rfl⟩
noncomputable def bytes_Clone.fn (x : Args tab bytes_Clone.s.ar) : Option (ResT tab bytes_Clone.s.rs) := bytes_Clone x
noncomputable abbrev bytes_Clone.k {δ : Type} : Callee (GT tab) δ := kS bytes_Clone.s bytes_Clone.fn
theorem bytes_Clone.con {δ : Type} : Con Tryz.prog (KT tab) 106 (bytes_Clone.k (δ := δ)) := con_shape (c := bytes_Clone.c) mixed tysOk (getG_con (bytes_Clone.gok _)) bytes_Clone.fok rfl rfl fun _ => rfl
theorem bytes_Clone.eq (x0 : List Int) : bytes_Clone x0 =
    bif x0.length.beq 0 then
      both (some ([] : List Int)) (bif decide ((([] : List Int).length + x0.length) * 1 ≤ 140737488355328) then
        some (([] : List Int) ++ x0)
      else
        none)
    else
      bif decide ((([] : List Int).length + x0.length) * 1 ≤ 140737488355328) then
        some (([] : List Int) ++ x0)
      else
        none := by kernel_rfl

noncomputable abbrev impl_FrameOk.s : Sg := ⟨[.lend], [.agg [.int .i64, .sl false false 5]], ⟨[vb], [none]⟩, Tryz.f122⟩
noncomputable def impl_FrameOk.gs (δ : Type) : List (Nat × Callee (GT tab) δ) := [(64, impl_within.k)]
theorem impl_FrameOk.gok (δ : Type) : AllCon Tryz.prog tab (impl_FrameOk.gs δ) := .cons impl_within.con .nil
noncomputable def impl_FrameOk.c := cx impl_FrameOk.s [] [] false (impl_FrameOk.gs _)
noncomputable def impl_FrameOk (x0 : Int × (List Int)) : Option (Bool) := fnW impl_FrameOk.s impl_FrameOk.c x0
theorem impl_FrameOk.fok : FkS impl_FrameOk.s 122 := ⟨Tryz.func122, by kernel_rfl, by kernel_rfl⟩
noncomputable def impl_FrameOk.fn (x : Args tab impl_FrameOk.s.ar) : Option (ResT tab impl_FrameOk.s.rs) := impl_FrameOk x
noncomputable abbrev impl_FrameOk.k {δ : Type} : Callee (GT tab) δ := kS impl_FrameOk.s impl_FrameOk.fn
theorem impl_FrameOk.con {δ : Type} : Con Tryz.prog (KT tab) 122 (impl_FrameOk.k (δ := δ)) := con_shape (c := impl_FrameOk.c) mixed tysOk (getG_con (impl_FrameOk.gok _)) impl_FrameOk.fok rfl rfl fun _ => rfl
theorem impl_FrameOk.eq (x0 : Int × (List Int)) : impl_FrameOk x0 =
    (impl_within x0.1 (0 : Int) (255 : Int)).bind fun y1 =>
    bif y1 then
      some (decide ((x0.2.length : Int) ≤ (8000 : Int)))
    else
      some false := by kernel_rfl

noncomputable abbrev impl_crc.s : Sg := ⟨[.lend], [vl 5], ⟨[vi], [none]⟩, Tryz.f123⟩
noncomputable def impl_crc.gs (δ : Type) : List (Nat × Callee (GT tab) δ) := []
theorem impl_crc.gok (δ : Type) : AllCon Tryz.prog tab (impl_crc.gs δ) := .nil
noncomputable def impl_crc.c := cx impl_crc.s [] [(3, [3, 6, 7, 8]), (7, [3, 6, 7, 8, 16])] false (impl_crc.gs _)
noncomputable def impl_crc (x0 : List Int) : Option (Int) := fnW impl_crc.s impl_crc.c x0
theorem impl_crc.fok : FkS impl_crc.s 123 := ⟨Tryz.func123, by kernel_rfl, by kernel_rfl⟩
noncomputable def impl_crc.fn (x : Args tab impl_crc.s.ar) : Option (ResT tab impl_crc.s.rs) := impl_crc x
noncomputable abbrev impl_crc.k {δ : Type} : Callee (GT tab) δ := kS impl_crc.s impl_crc.fn
theorem impl_crc.con {δ : Type} : Con Tryz.prog (KT tab) 123 (impl_crc.k (δ := δ)) := con_shape (c := impl_crc.c) mixed tysOk (getG_con (impl_crc.gok _)) impl_crc.fok rfl rfl fun _ => rfl
noncomputable def impl_crc_l0 (v0 : Int) (v1 : List Int) (v2 v3 : Int) : Option (Int) := lpW impl_crc.s impl_crc.c 0 (ud 20 [.undef, .undef, .undef, .int .u32 v0, .undef, .undef, .vs false 5 v1, .int .i64 v2, .int .i64 v3]) [] 0
noncomputable def impl_crc_l1 (v0 : Int) (v1 : List Int) (v2 v3 v4 : Int) : Option (Int) := lpW impl_crc.s impl_crc.c 1 (ud 12 [.undef, .undef, .undef, .int .u32 v0, .undef, .undef, .vs false 5 v1, .int .i64 v2, .int .i64 v3, .undef, .undef, .undef, .undef, .undef, .undef, .undef, .int .i64 v4]) [] 0
theorem impl_crc.eq (x0 : List Int) : impl_crc x0 =
    impl_crc_l0 (4294967295 : Int) x0 (x0.length : Int) (0 : Int) := by kernel_rfl
theorem impl_crc_l0.eq (v0 : Int) (v1 : List Int) (v2 v3 : Int) : impl_crc_l0 v0 v1 v2 v3 =
    bif decide (v3 < v2) then
      (at? v1 v3).bind fun y1 =>
      impl_crc_l1 (IntKind.u32.wrap (((BitVec.ofInt 32 v0) ^^^ (BitVec.ofInt 32 (IntKind.u32.wrap y1))).toNat : Int)) v1 v2 v3 (0 : Int)
    else
      some (IntKind.i64.wrap (IntKind.u32.wrap (((BitVec.ofInt 32 v0) ^^^ (BitVec.ofInt 32 (4294967295 : Int))).toNat : Int))) := (Lw_eq tysOk (getG_con (impl_crc.gok _)) _ _).trans (by kernel_rfl)
theorem impl_crc_l1.eq (v0 : Int) (v1 : List Int) (v2 v3 v4 : Int) : impl_crc_l1 v0 v1 v2 v3 v4 =
    bif decide (v4 < (8 : Int)) then
      impl_crc_l1 (IntKind.u32.wrap (((BitVec.ofInt 32 (v0.fdiv (2 ^ 1))) ^^^ (BitVec.ofInt 32 (IntKind.u32.wrap ((IntKind.u32.wrap (((BitVec.ofInt 32 v0) &&& (BitVec.ofInt 32 (1 : Int))).toNat : Int)) * (3988292384 : Int))))).toNat : Int)) v1 v2 v3 (IntKind.i64.wrap (v4 + (1 : Int)))
    else
      impl_crc_l0 v0 v1 v2 (IntKind.i64.wrap (v3 + (1 : Int))) := (Lw_eq tysOk (getG_con (impl_crc.gok _)) _ _).trans (by kernel_rfl)

noncomputable abbrev impl_FrameOf.s : Sg := ⟨[.lend], [.agg [.int .i64, .sl false false 5]], ⟨[vo 5], [none]⟩, Tryz.f86⟩
noncomputable def impl_FrameOf.gs (δ : Type) : List (Nat × Callee (GT tab) δ) := [(65, impl_VarOf.k), (122, impl_FrameOk.k), (123, impl_crc.k)]
theorem impl_FrameOf.gok (δ : Type) : AllCon Tryz.prog tab (impl_FrameOf.gs δ) := .cons impl_VarOf.con (.cons impl_FrameOk.con (.cons impl_crc.con .nil))
noncomputable def impl_FrameOf.c := cx impl_FrameOf.s [] [(7, [3, 4, 24])] false (impl_FrameOf.gs _)
noncomputable def impl_FrameOf (x0 : Int × (List Int)) : Option (List Int) := fnW impl_FrameOf.s impl_FrameOf.c x0
theorem impl_FrameOf.fok : FkS impl_FrameOf.s 86 := ⟨Tryz.func86, by kernel_rfl, by kernel_rfl⟩
noncomputable def impl_FrameOf.fn (x : Args tab impl_FrameOf.s.ar) : Option (ResT tab impl_FrameOf.s.rs) := impl_FrameOf x
noncomputable abbrev impl_FrameOf.k {δ : Type} : Callee (GT tab) δ := kS impl_FrameOf.s impl_FrameOf.fn
theorem impl_FrameOf.con {δ : Type} : Con Tryz.prog (KT tab) 86 (impl_FrameOf.k (δ := δ)) := con_shape (c := impl_FrameOf.c) mixed tysOk (getG_con (impl_FrameOf.gok _)) impl_FrameOf.fok rfl rfl fun _ => rfl
noncomputable def impl_FrameOf_l0 (v0 v1 : Int) (v2 : List Int) : Option (List Int) := lpW impl_FrameOf.s impl_FrameOf.c 0 (ud 12 [.undef, .undef, .undef, .sl 0 0, .int .i64 v0, .undef, .undef, .undef, .undef, .undef, .undef, .undef, .undef, .undef, .undef, .undef, .undef, .undef, .undef, .undef, .undef, .undef, .undef, .undef, .int .i64 v1]) [.row 0 true 5 v2] 1
theorem impl_FrameOf.eq (x0 : Int × (List Int)) : impl_FrameOf x0 =
    (impl_FrameOk x0).bind fun y1 =>
    bif !y1 then
      some ([] : List Int)
    else
      (impl_VarOf (x0.2.length : Int)).bind fun y2 =>
      bif decide ((([(90 : Int), IntKind.u8.wrap x0.1] : List Int).length + y2.length) * 1 ≤ 140737488355328) then
        bif decide (((([(90 : Int), IntKind.u8.wrap x0.1] : List Int) ++ y2).length + x0.2.length) * 1 ≤ 140737488355328) then
          (impl_crc ((([(90 : Int), IntKind.u8.wrap x0.1] : List Int) ++ y2) ++ x0.2)).bind fun y3 =>
          impl_FrameOf_l0 y3 (0 : Int) ((([(90 : Int), IntKind.u8.wrap x0.1] : List Int) ++ y2) ++ x0.2)
        else
          none
      else
        none := by kernel_rfl
theorem impl_FrameOf_l0.eq (v0 v1 : Int) (v2 : List Int) : impl_FrameOf_l0 v0 v1 v2 =
    bif decide (v1 < (4 : Int)) then
      bif decide (IntKind.i64.wrap ((8 : Int) * v1) < (0 : Int)) then
        none
      else
        bif decide ((v2.length + ([IntKind.u8.wrap (v0.fdiv (2 ^ (min (IntKind.i64.wrap ((8 : Int) * v1)).toNat 64)))] : List Int).length) * 1 ≤ 140737488355328) then
          impl_FrameOf_l0 v0 (IntKind.i64.wrap (v1 + (1 : Int))) (v2 ++ ([IntKind.u8.wrap (v0.fdiv (2 ^ (min (IntKind.i64.wrap ((8 : Int) * v1)).toNat 64)))] : List Int))
        else
          none
    else
      some v2 := (Lw_eq tysOk (getG_con (impl_FrameOf.gok _)) _ _).trans (by kernel_rfl)

noncomputable abbrev impl_FrameRead.s : Sg := ⟨[.lend, .lend], [vl 5, vi], ⟨[.agg [.int .i64, .sl true true 5], vi, vb], [none, none]⟩, Tryz.f63⟩
noncomputable def impl_FrameRead.gs (δ : Type) : List (Nat × Callee (GT tab) δ) := [(20, impl_VarRead.k), (26, bytes_Equal.k), (64, impl_within.k), (86, impl_FrameOf.k), (106, bytes_Clone.k)]
theorem impl_FrameRead.gok (δ : Type) : AllCon Tryz.prog tab (impl_FrameRead.gs δ) := .cons impl_VarRead.con (.cons bytes_Equal.con (.cons impl_within.con (.cons impl_FrameOf.con (.cons bytes_Clone.con .nil))))
noncomputable def impl_FrameRead.c := cx impl_FrameRead.s [6] [(6, [0, 1, 4, 7, 8])] false (impl_FrameRead.gs _)
noncomputable def impl_FrameRead (x0 : List Int) (x1 : Int) : Option ((Int × (List Int)) × Int × Bool) := fnW impl_FrameRead.s impl_FrameRead.c (x0, x1)
theorem impl_FrameRead.fok : FkS impl_FrameRead.s 63 := ⟨Tryz.func63, by kernel_rfl, by kernel_rfl⟩
noncomputable def impl_FrameRead.fn (x : Args tab impl_FrameRead.s.ar) : Option (ResT tab impl_FrameRead.s.rs) := impl_FrameRead x.1 x.2
noncomputable abbrev impl_FrameRead.k {δ : Type} : Callee (GT tab) δ := kS impl_FrameRead.s impl_FrameRead.fn
theorem impl_FrameRead.con {δ : Type} : Con Tryz.prog (KT tab) 63 (impl_FrameRead.k (δ := δ)) := con_shape (c := impl_FrameRead.c) mixed tysOk (getG_con (impl_FrameRead.gok _)) impl_FrameRead.fok rfl rfl fun _ => rfl
noncomputable def impl_FrameRead_l0 (v0 : List Int) (v1 v2 v3 v4 : Int) (v5 : List Int) : Option ((Int × (List Int)) × Int × Bool) := lpW impl_FrameRead.s impl_FrameRead.c 0 (ud 63 [.vs false 5 v0, .int .i64 v1, .undef, .undef, .ptr 0 0, .undef, .undef, .int .i64 v2, .int .i64 v3]) [.box 43 [.int .i64 v4, .sl 1 0], .row 0 true 5 v5] 2
theorem impl_FrameRead.eq (x0 : List Int) (x1 : Int) : impl_FrameRead x0 x1 =
    (impl_within x1 (0 : Int) (IntKind.i64.wrap ((x0.length : Int) - (2 : Int)))).bind fun y1 =>
    bif !y1 then
      some (((0 : Int), ([] : List Int)), (0 : Int), false)
    else
      (impl_VarRead x0 (IntKind.i64.wrap (x1 + (2 : Int)))).bind fun y2 =>
      bif !y2.2.2 then
        some (((0 : Int), ([] : List Int)), (0 : Int), false)
      else
        bif decide (y2.1 > (8000 : Int)) then
          some (((0 : Int), ([] : List Int)), (0 : Int), false)
        else
          bif decide (IntKind.i64.wrap (y2.1 + (4 : Int)) > IntKind.i64.wrap ((x0.length : Int) - y2.2.1)) then
            some (((0 : Int), ([] : List Int)), (0 : Int), false)
          else
            impl_FrameRead_l0 x0 x1 y2.1 y2.2.1 (0 : Int) ([] : List Int) := by kernel_rfl
theorem impl_FrameRead_l0.eq (v0 : List Int) (v1 v2 v3 v4 : Int) (v5 : List Int) : impl_FrameRead_l0 v0 v1 v2 v3 v4 v5 =
    (at? v0 (IntKind.i64.wrap (v1 + (1 : Int)))).bind fun y1 =>
    bif decide (0 ≤ IntKind.i64.wrap (v3 + v2) ∧ IntKind.i64.wrap (v3 + v2) ≤ ((v0.length : Nat) : Int)) then
      bif decide (0 ≤ v3 ∧ v3 ≤ (((IntKind.i64.wrap (v3 + v2)).toNat : Nat) : Int)) then
        (bytes_Clone ((v0.take ((IntKind.i64.wrap (v3 + v2)).toNat)).drop v3.toNat)).bind fun y2 =>
        (impl_FrameOf (IntKind.i64.wrap y1, y2)).bind fun y3 =>
        bif decide (0 ≤ IntKind.i64.wrap ((IntKind.i64.wrap (v3 + v2)) + (4 : Int)) ∧ IntKind.i64.wrap ((IntKind.i64.wrap (v3 + v2)) + (4 : Int)) ≤ ((v0.length : Nat) : Int)) then
          bif decide (0 ≤ v1 ∧ v1 ≤ (((IntKind.i64.wrap ((IntKind.i64.wrap (v3 + v2)) + (4 : Int))).toNat : Nat) : Int)) then
            (bytes_Equal y3 ((v0.take ((IntKind.i64.wrap ((IntKind.i64.wrap (v3 + v2)) + (4 : Int))).toNat)).drop v1.toNat)).bind fun y4 =>
            bif !y4 then
              some (((0 : Int), ([] : List Int)), (0 : Int), false)
            else
              some ((IntKind.i64.wrap y1, y2), IntKind.i64.wrap ((IntKind.i64.wrap (v3 + v2)) + (4 : Int)), true)
          else
            none
        else
          none
      else
        none
    else
      none := (Lw_eq tysOk (getG_con (impl_FrameRead.gok _)) _ _).trans (by kernel_rfl)

noncomputable abbrev impl_frameOnly.s : Sg := ⟨[.lend, .lend], [vl 5, vi], ⟨[vo 5, vb], [none, none]⟩, Tryz.f19⟩
noncomputable def impl_frameOnly.gs (δ : Type) : List (Nat × Callee (GT tab) δ) := [(63, impl_FrameRead.k)]
theorem impl_frameOnly.gok (δ : Type) : AllCon Tryz.prog tab (impl_frameOnly.gs δ) := .cons impl_FrameRead.con .nil
noncomputable def impl_frameOnly.c := cx impl_frameOnly.s [] [] false (impl_frameOnly.gs _)
noncomputable def impl_frameOnly (x0 : List Int) (x1 : Int) : Option ((List Int) × Bool) := fnW impl_frameOnly.s impl_frameOnly.c (x0, x1)
theorem impl_frameOnly.fok : FkS impl_frameOnly.s 19 := ⟨Tryz.func19, by kernel_rfl, by kernel_rfl⟩
noncomputable def impl_frameOnly.fn (x : Args tab impl_frameOnly.s.ar) : Option (ResT tab impl_frameOnly.s.rs) := impl_frameOnly x.1 x.2
noncomputable abbrev impl_frameOnly.k {δ : Type} : Callee (GT tab) δ := kS impl_frameOnly.s impl_frameOnly.fn
theorem impl_frameOnly.con {δ : Type} : Con Tryz.prog (KT tab) 19 (impl_frameOnly.k (δ := δ)) := con_shape (c := impl_frameOnly.c) mixed tysOk (getG_con (impl_frameOnly.gok _)) impl_frameOnly.fok rfl rfl fun _ => rfl
theorem impl_frameOnly.eq (x0 : List Int) (x1 : Int) : impl_frameOnly x0 x1 =
    (impl_FrameRead x0 (0 : Int)).bind fun y1 =>
    bif y1.2.2 then
      bif y1.2.1 == (x0.length : Int) then
        some (y1.1.2, y1.1.1 == x1)
      else
        some (y1.1.2, false)
    else
      some (y1.1.2, false) := by kernel_rfl

noncomputable abbrev impl_isRate.s : Sg := ⟨[.lend], [vi], ⟨[vb], [none]⟩, Tryz.f21⟩
noncomputable def impl_isRate.gs (δ : Type) : List (Nat × Callee (GT tab) δ) := [(64, impl_within.k)]
theorem impl_isRate.gok (δ : Type) : AllCon Tryz.prog tab (impl_isRate.gs δ) := .cons impl_within.con .nil
noncomputable def impl_isRate.c := cx impl_isRate.s [] [] false (impl_isRate.gs _)
noncomputable def impl_isRate (x0 : Int) : Option (Bool) := fnW impl_isRate.s impl_isRate.c x0
theorem impl_isRate.fok : FkS impl_isRate.s 21 := ⟨Tryz.func21, by kernel_rfl, by kernel_rfl⟩
noncomputable def impl_isRate.fn (x : Args tab impl_isRate.s.ar) : Option (ResT tab impl_isRate.s.rs) := impl_isRate x
noncomputable abbrev impl_isRate.k {δ : Type} : Callee (GT tab) δ := kS impl_isRate.s impl_isRate.fn
theorem impl_isRate.con {δ : Type} : Con Tryz.prog (KT tab) 21 (impl_isRate.k (δ := δ)) := con_shape (c := impl_isRate.c) mixed tysOk (getG_con (impl_isRate.gok _)) impl_isRate.fok rfl rfl fun _ => rfl
theorem impl_isRate.eq (x0 : Int) : impl_isRate x0 =
    (impl_within x0 (1 : Int) (64 : Int)).bind fun y1 =>
    some y1 := by kernel_rfl

noncomputable abbrev impl_BitsOk.s : Sg := ⟨[.lend], [.agg [.int .i64, .sl false false 106]], ⟨[vb], [none]⟩, Tryz.f107⟩
noncomputable def impl_BitsOk.gs (δ : Type) : List (Nat × Callee (GT tab) δ) := [(64, impl_within.k)]
theorem impl_BitsOk.gok (δ : Type) : AllCon Tryz.prog tab (impl_BitsOk.gs δ) := .cons impl_within.con .nil
noncomputable def impl_BitsOk.c := cx impl_BitsOk.s [] [] false (impl_BitsOk.gs _)
noncomputable def impl_BitsOk (x0 : Int × (List Int)) : Option (Bool) := fnW impl_BitsOk.s impl_BitsOk.c x0
theorem impl_BitsOk.fok : FkS impl_BitsOk.s 107 := ⟨Tryz.func107, by kernel_rfl, by kernel_rfl⟩
noncomputable def impl_BitsOk.fn (x : Args tab impl_BitsOk.s.ar) : Option (ResT tab impl_BitsOk.s.rs) := impl_BitsOk x
noncomputable abbrev impl_BitsOk.k {δ : Type} : Callee (GT tab) δ := kS impl_BitsOk.s impl_BitsOk.fn
theorem impl_BitsOk.con {δ : Type} : Con Tryz.prog (KT tab) 107 (impl_BitsOk.k (δ := δ)) := con_shape (c := impl_BitsOk.c) mixed tysOk (getG_con (impl_BitsOk.gok _)) impl_BitsOk.fok rfl rfl fun _ => rfl
theorem impl_BitsOk.eq (x0 : Int × (List Int)) : impl_BitsOk x0 =
    (impl_within x0.1 (0 : Int) (5000 : Int)).bind fun y1 =>
    bif !y1 then
      some false
    else
      bif (x0.2.length : Int) != IntKind.i64.wrap ((IntKind.i64.wrap ((IntKind.i64.wrap (x0.1 + (64 : Int))) - (1 : Int))).tdiv (64 : Int)) then
        some false
      else
        bif x0.1.tmod (64 : Int) == (0 : Int) then
          some true
        else
          (at? x0.2 (IntKind.i64.wrap ((x0.2.length : Int) - (1 : Int)))).bind fun y2 =>
          bif decide (x0.1.tmod (64 : Int) < (0 : Int)) then
            none
          else
            some (y2.fdiv (2 ^ (min (x0.1.tmod (64 : Int)).toNat 64)) == (0 : Int)) := by kernel_rfl

noncomputable abbrev impl_BitsRead.s : Sg := ⟨[.lend, .lend], [vl 5, vi], ⟨[.agg [.int .i64, .sl true true 106], vi, vb], [none, none]⟩, Tryz.f66⟩
noncomputable def impl_BitsRead.gs (δ : Type) : List (Nat × Callee (GT tab) δ) := [(20, impl_VarRead.k), (107, impl_BitsOk.k)]
theorem impl_BitsRead.gok (δ : Type) : AllCon Tryz.prog tab (impl_BitsRead.gs δ) := .cons impl_VarRead.con (.cons impl_BitsOk.con .nil)
noncomputable def impl_BitsRead.c := cx impl_BitsRead.s [5] [(5, [0, 1, 4, 7, 9]), (7, [1, 4, 9, 10, 51, 52, 53])] false (impl_BitsRead.gs _)
noncomputable def impl_BitsRead (x0 : List Int) (x1 : Int) : Option ((Int × (List Int)) × Int × Bool) := fnW impl_BitsRead.s impl_BitsRead.c (x0, x1)
theorem impl_BitsRead.fok : FkS impl_BitsRead.s 66 := ⟨Tryz.func66, by kernel_rfl, by kernel_rfl⟩
noncomputable def impl_BitsRead.fn (x : Args tab impl_BitsRead.s.ar) : Option (ResT tab impl_BitsRead.s.rs) := impl_BitsRead x.1 x.2
noncomputable abbrev impl_BitsRead.k {δ : Type} : Callee (GT tab) δ := kS impl_BitsRead.s impl_BitsRead.fn
theorem impl_BitsRead.con {δ : Type} : Con Tryz.prog (KT tab) 66 (impl_BitsRead.k (δ := δ)) := con_shape (c := impl_BitsRead.c) mixed tysOk (getG_con (impl_BitsRead.gok _)) impl_BitsRead.fok rfl rfl fun _ => rfl
noncomputable def impl_BitsRead_l0 (v0 : List Int) (v1 v2 v3 v4 : Int) (v5 : List Int) : Option ((Int × (List Int)) × Int × Bool) := lpW impl_BitsRead.s impl_BitsRead.c 0 (ud 72 [.vs false 5 v0, .int .i64 v1, .undef, .undef, .ptr 0 0, .undef, .undef, .int .i64 v2, .undef, .int .i64 v3]) [.box 29 [.int .i64 v4, .sl 1 0], .row 0 true 106 v5] 2
noncomputable def impl_BitsRead_l1 (v0 v1 : Int) (v2 : List Int) (v3 v4 v5 : Int) (v6 : List Int) (v7 : Int) (v8 : List Int) : Option ((Int × (List Int)) × Int × Bool) := lpW impl_BitsRead.s impl_BitsRead.c 1 (ud 28 [.undef, .int .i64 v0, .undef, .undef, .ptr 0 0, .undef, .undef, .undef, .undef, .int .i64 v1, .ptr 2 0, .undef, .undef, .undef, .undef, .undef, .undef, .undef, .undef, .undef, .undef, .undef, .undef, .undef, .undef, .undef, .undef, .undef, .undef, .undef, .undef, .undef, .undef, .undef, .undef, .undef, .undef, .undef, .undef, .undef, .undef, .undef, .undef, .undef, .undef, .undef, .undef, .undef, .undef, .undef, .undef, .vs false 5 v2, .int .i64 v3, .int .i64 v4]) [.box 29 [.int .i64 v5, .sl 1 0], .row 0 true 106 v6, .box 29 [.int .i64 v7, .sl 3 0], .row 0 true 106 v8] 4
theorem impl_BitsRead.eq (x0 : List Int) (x1 : Int) : impl_BitsRead x0 x1 =
    (impl_VarRead x0 x1).bind fun y1 =>
    bif !y1.2.2 then
      some (((0 : Int), ([] : List Int)), (0 : Int), false)
    else
      bif decide (y1.1 > (5000 : Int)) then
        some (((0 : Int), ([] : List Int)), (0 : Int), false)
      else
        bif decide (IntKind.i64.wrap ((IntKind.i64.wrap ((IntKind.i64.wrap (y1.1 + (8 : Int))) - (1 : Int))).tdiv (8 : Int)) > IntKind.i64.wrap ((x0.length : Int) - y1.2.1)) then
          some (((0 : Int), ([] : List Int)), (0 : Int), false)
        else
          impl_BitsRead_l0 x0 y1.2.1 y1.1 (IntKind.i64.wrap ((IntKind.i64.wrap ((IntKind.i64.wrap (y1.1 + (8 : Int))) - (1 : Int))).tdiv (8 : Int))) (0 : Int) ([] : List Int) := by kernel_rfl
theorem impl_BitsRead_l0.eq (v0 : List Int) (v1 v2 v3 v4 : Int) (v5 : List Int) : impl_BitsRead_l0 v0 v1 v2 v3 v4 v5 =
    bif decide ((0 : Int) ≤ IntKind.i64.wrap ((IntKind.i64.wrap ((IntKind.i64.wrap (v2 + (64 : Int))) - (1 : Int))).tdiv (64 : Int))) && decide (((IntKind.i64.wrap ((IntKind.i64.wrap ((IntKind.i64.wrap (v2 + (64 : Int))) - (1 : Int))).tdiv (64 : Int))).toNat) * 8 ≤ 140737488355328) then
      bif decide (0 ≤ IntKind.i64.wrap (v1 + v3) ∧ IntKind.i64.wrap (v1 + v3) ≤ ((v0.length : Nat) : Int)) then
        bif decide (0 ≤ v1 ∧ v1 ≤ (((IntKind.i64.wrap (v1 + v3)).toNat : Nat) : Int)) then
          impl_BitsRead_l1 v1 v3 ((v0.take ((IntKind.i64.wrap (v1 + v3)).toNat)).drop v1.toNat) (((v0.take ((IntKind.i64.wrap (v1 + v3)).toNat)).drop v1.toNat).length : Int) (0 : Int) v4 v5 v2 (List.replicate ((IntKind.i64.wrap ((IntKind.i64.wrap ((IntKind.i64.wrap (v2 + (64 : Int))) - (1 : Int))).tdiv (64 : Int))).toNat) (0 : Int))
        else
          none
      else
        none
    else
      none := (Lw_eq tysOk (getG_con (impl_BitsRead.gok _)) _ _).trans (by kernel_rfl)
theorem impl_BitsRead_l1.eq (v0 v1 : Int) (v2 : List Int) (v3 v4 v5 : Int) (v6 : List Int) (v7 : Int) (v8 : List Int) : impl_BitsRead_l1 v0 v1 v2 v3 v4 v5 v6 v7 v8 =
    bif decide (v4 < v3) then
      (at? v2 v4).bind fun y1 =>
      (at? v8 (IntKind.i64.wrap ((IntKind.i64.wrap (v4 * (8 : Int))).tdiv (64 : Int)))).bind fun y2 =>
      v8[(IntKind.i64.wrap ((IntKind.i64.wrap (v4 * (8 : Int))).tdiv (64 : Int))).toNat]?.bind fun y3 =>
      bif decide ((IntKind.i64.wrap (v4 * (8 : Int))).tmod (64 : Int) < (0 : Int)) then
        none
      else
        (at? v8 (IntKind.i64.wrap ((IntKind.i64.wrap (v4 * (8 : Int))).tdiv (64 : Int)))).bind fun y4 =>
        v8[(IntKind.i64.wrap ((IntKind.i64.wrap (v4 * (8 : Int))).tdiv (64 : Int))).toNat]?.bind fun y5 =>
        impl_BitsRead_l1 v0 v1 v2 v3 (IntKind.i64.wrap (v4 + (1 : Int))) v5 v6 v7 (v8.set ((IntKind.i64.wrap ((IntKind.i64.wrap (v4 * (8 : Int))).tdiv (64 : Int))).toNat) (IntKind.u64.wrap (((BitVec.ofInt 64 y3) ||| (BitVec.ofInt 64 (IntKind.u64.wrap ((IntKind.u64.wrap y1) * 2 ^ (min ((IntKind.i64.wrap (v4 * (8 : Int))).tmod (64 : Int)).toNat 64))))).toNat : Int)))
    else
      (impl_BitsOk (v7, v8)).bind fun y6 =>
      bif !y6 then
        some (((0 : Int), ([] : List Int)), (0 : Int), false)
      else
        some ((v7, v8), IntKind.i64.wrap (v0 + v1), true) := (Lw_eq tysOk (getG_con (impl_BitsRead.gok _)) _ _).trans (by kernel_rfl)

noncomputable abbrev impl_Bits_at.s : Sg := ⟨[.lend, .lend], [.agg [.int .i64, .sl false false 106], vi], ⟨[vi], [none, none]⟩, Tryz.f108⟩
noncomputable def impl_Bits_at.gs (δ : Type) : List (Nat × Callee (GT tab) δ) := []
theorem impl_Bits_at.gok (δ : Type) : AllCon Tryz.prog tab (impl_Bits_at.gs δ) := .nil
noncomputable def impl_Bits_at.c := cx impl_Bits_at.s [] [] false (impl_Bits_at.gs _)
noncomputable def impl_Bits_at (x0 : Int × (List Int)) (x1 : Int) : Option (Int) := fnW impl_Bits_at.s impl_Bits_at.c (x0, x1)
theorem impl_Bits_at.fok : FkS impl_Bits_at.s 108 := ⟨Tryz.func108, by kernel_rfl, by kernel_rfl⟩
noncomputable def impl_Bits_at.fn (x : Args tab impl_Bits_at.s.ar) : Option (ResT tab impl_Bits_at.s.rs) := impl_Bits_at x.1 x.2
noncomputable abbrev impl_Bits_at.k {δ : Type} : Callee (GT tab) δ := kS impl_Bits_at.s impl_Bits_at.fn
theorem impl_Bits_at.con {δ : Type} : Con Tryz.prog (KT tab) 108 (impl_Bits_at.k (δ := δ)) := con_shape (c := impl_Bits_at.c) mixed tysOk (getG_con (impl_Bits_at.gok _)) impl_Bits_at.fok rfl rfl fun _ => rfl
theorem impl_Bits_at.eq (x0 : Int × (List Int)) (x1 : Int) : impl_Bits_at x0 x1 =
    (at? x0.2 (IntKind.i64.wrap (x1.tdiv (64 : Int)))).bind fun y1 =>
    bif decide (x1.tmod (64 : Int) < (0 : Int)) then
      none
    else
      some (IntKind.i64.wrap (IntKind.u64.wrap (((BitVec.ofInt 64 (y1.fdiv (2 ^ (min (x1.tmod (64 : Int)).toNat 64)))) &&& (BitVec.ofInt 64 (1 : Int))).toNat : Int))) := by kernel_rfl

noncomputable abbrev impl_Bits_list.s : Sg := ⟨[.lend], [.agg [.int .i64, .sl false false 106]], ⟨[vo 3], [none]⟩, Tryz.f68⟩
noncomputable def impl_Bits_list.gs (δ : Type) : List (Nat × Callee (GT tab) δ) := [(108, impl_Bits_at.k)]
theorem impl_Bits_list.gok (δ : Type) : AllCon Tryz.prog tab (impl_Bits_list.gs δ) := .cons impl_Bits_at.con .nil
noncomputable def impl_Bits_list.c := cx impl_Bits_list.s [] [(3, [1, 3, 6, 7])] false (impl_Bits_list.gs _)
noncomputable def impl_Bits_list (x0 : Int × (List Int)) : Option (List Int) := fnW impl_Bits_list.s impl_Bits_list.c x0
theorem impl_Bits_list.fok : FkS impl_Bits_list.s 68 := ⟨Tryz.func68, by kernel_rfl, by kernel_rfl⟩
noncomputable def impl_Bits_list.fn (x : Args tab impl_Bits_list.s.ar) : Option (ResT tab impl_Bits_list.s.rs) := impl_Bits_list x
noncomputable abbrev impl_Bits_list.k {δ : Type} : Callee (GT tab) δ := kS impl_Bits_list.s impl_Bits_list.fn
theorem impl_Bits_list.con {δ : Type} : Con Tryz.prog (KT tab) 68 (impl_Bits_list.k (δ := δ)) := con_shape (c := impl_Bits_list.c) mixed tysOk (getG_con (impl_Bits_list.gok _)) impl_Bits_list.fok rfl rfl fun _ => rfl
noncomputable def impl_Bits_list_l0 (v0 v1 v2 : Int) (v3 v4 : List Int) : Option (List Int) := lpW impl_Bits_list.s impl_Bits_list.c 0 (ud 10 [.undef, .ptr 0 0, .undef, .sl 1 0, .undef, .undef, .int .i64 v0, .int .i64 v1]) [.box 29 [.int .i64 v2, .vs false 106 v3], .row 0 true 3 v4] 2
theorem impl_Bits_list.eq (x0 : Int × (List Int)) : impl_Bits_list x0 =
    impl_Bits_list_l0 x0.1 (0 : Int) x0.1 x0.2 ([] : List Int) := by kernel_rfl
theorem impl_Bits_list_l0.eq (v0 v1 v2 : Int) (v3 v4 : List Int) : impl_Bits_list_l0 v0 v1 v2 v3 v4 =
    bif decide (v1 < v0) then
      (impl_Bits_at (v2, v3) v1).bind fun y1 =>
      bif decide ((v4.length + ([y1] : List Int).length) * 8 ≤ 140737488355328) then
        impl_Bits_list_l0 v0 (IntKind.i64.wrap (v1 + (1 : Int))) v2 v3 (v4 ++ ([y1] : List Int))
      else
        none
    else
      some v4 := (Lw_eq tysOk (getG_con (impl_Bits_list.gok _)) _ _).trans (by kernel_rfl)

noncomputable abbrev impl_count.s : Sg := ⟨[.lend, .lend], [vl 3, vi], ⟨[vi], [none, none]⟩, Tryz.f67⟩
noncomputable def impl_count.gs (δ : Type) : List (Nat × Callee (GT tab) δ) := []
theorem impl_count.gok (δ : Type) : AllCon Tryz.prog tab (impl_count.gs δ) := .nil
noncomputable def impl_count.c := cx impl_count.s [] [(3, [1, 5, 8, 9, 10])] false (impl_count.gs _)
noncomputable def impl_count (x0 : List Int) (x1 : Int) : Option (Int) := fnW impl_count.s impl_count.c (x0, x1)
theorem impl_count.fok : FkS impl_count.s 67 := ⟨Tryz.func67, by kernel_rfl, by kernel_rfl⟩
noncomputable def impl_count.fn (x : Args tab impl_count.s.ar) : Option (ResT tab impl_count.s.rs) := impl_count x.1 x.2
noncomputable abbrev impl_count.k {δ : Type} : Callee (GT tab) δ := kS impl_count.s impl_count.fn
theorem impl_count.con {δ : Type} : Con Tryz.prog (KT tab) 67 (impl_count.k (δ := δ)) := con_shape (c := impl_count.c) mixed tysOk (getG_con (impl_count.gok _)) impl_count.fok rfl rfl fun _ => rfl
noncomputable def impl_count_l0 (v0 v1 : Int) (v2 : List Int) (v3 v4 : Int) : Option (Int) := lpW impl_count.s impl_count.c 0 (ud 10 [.undef, .int .i64 v0, .undef, .undef, .undef, .int .i64 v1, .undef, .undef, .vs false 3 v2, .int .i64 v3, .int .i64 v4]) [] 0
theorem impl_count.eq (x0 : List Int) (x1 : Int) : impl_count x0 x1 =
    impl_count_l0 x1 (0 : Int) x0 (x0.length : Int) (0 : Int) := by kernel_rfl
theorem impl_count_l0.eq (v0 v1 : Int) (v2 : List Int) (v3 v4 : Int) : impl_count_l0 v0 v1 v2 v3 v4 =
    bif decide (v4 < v3) then
      (at? v2 v4).bind fun y1 =>
      bif y1 == v0 then
        impl_count_l0 v0 (IntKind.i64.wrap (v1 + (1 : Int))) v2 v3 (IntKind.i64.wrap (v4 + (1 : Int)))
      else
        impl_count_l0 v0 v1 v2 v3 (IntKind.i64.wrap (v4 + (1 : Int)))
    else
      some v1 := (Lw_eq tysOk (getG_con (impl_count.gok _)) _ _).trans (by kernel_rfl)

noncomputable abbrev impl_BitsList.s : Sg := ⟨[.lend], [.agg [.int .i64, .sl false false 106]], ⟨[vo 3], [none]⟩, Tryz.f111⟩
noncomputable def impl_BitsList.gs (δ : Type) : List (Nat × Callee (GT tab) δ) := [(68, impl_Bits_list.k), (107, impl_BitsOk.k)]
theorem impl_BitsList.gok (δ : Type) : AllCon Tryz.prog tab (impl_BitsList.gs δ) := .cons impl_Bits_list.con (.cons impl_BitsOk.con .nil)
noncomputable def impl_BitsList.c := cx impl_BitsList.s [] [] false (impl_BitsList.gs _)
noncomputable def impl_BitsList (x0 : Int × (List Int)) : Option (List Int) := fnW impl_BitsList.s impl_BitsList.c x0
theorem impl_BitsList.fok : FkS impl_BitsList.s 111 := ⟨Tryz.func111, by kernel_rfl, by kernel_rfl⟩
noncomputable def impl_BitsList.fn (x : Args tab impl_BitsList.s.ar) : Option (ResT tab impl_BitsList.s.rs) := impl_BitsList x
noncomputable abbrev impl_BitsList.k {δ : Type} : Callee (GT tab) δ := kS impl_BitsList.s impl_BitsList.fn
theorem impl_BitsList.con {δ : Type} : Con Tryz.prog (KT tab) 111 (impl_BitsList.k (δ := δ)) := con_shape (c := impl_BitsList.c) mixed tysOk (getG_con (impl_BitsList.gok _)) impl_BitsList.fok rfl rfl fun _ => rfl
theorem impl_BitsList.eq (x0 : Int × (List Int)) : impl_BitsList x0 =
    (impl_BitsOk x0).bind fun y1 =>
    bif !y1 then
      some ([] : List Int)
    else
      (impl_Bits_list x0).bind fun y2 =>
      some y2 := by kernel_rfl

noncomputable abbrev impl_Wave_read.s : Sg := ⟨[.lend], [.agg [.int .i64, .sl false false 3, .sl false false 29]], ⟨[vo 3, vb], [none]⟩, Tryz.f74⟩
noncomputable def impl_Wave_read.gs (δ : Type) : List (Nat × Callee (GT tab) δ) := [(64, impl_within.k), (67, impl_count.k), (107, impl_BitsOk.k), (111, impl_BitsList.k)]
theorem impl_Wave_read.gok (δ : Type) : AllCon Tryz.prog tab (impl_Wave_read.gs δ) := .cons impl_within.con (.cons impl_count.con (.cons impl_BitsOk.con (.cons impl_BitsList.con .nil)))
noncomputable def impl_Wave_read.c := cx impl_Wave_read.s [3, 15] [(3, [1]), (5, [1, 4, 5, 40, 41]), (10, [1, 4, 5, 50, 51, 52]), (15, [1, 4, 5, 7, 9, 50, 51, 52]), (17, [1, 4, 5, 9, 10, 11, 12, 50, 51, 52, 87, 88, 89]), (24, [1, 4, 5, 9, 10, 50, 51, 52, 109, 110, 111])] false (impl_Wave_read.gs _)
noncomputable def impl_Wave_read (x0 : Int × (List Int) × (List (Int × (List Int)))) : Option ((List Int) × Bool) := fnW impl_Wave_read.s impl_Wave_read.c x0
theorem impl_Wave_read.fok : FkS impl_Wave_read.s 74 := ⟨Tryz.func74, by kernel_rfl, by kernel_rfl⟩
noncomputable def impl_Wave_read.fn (x : Args tab impl_Wave_read.s.ar) : Option (ResT tab impl_Wave_read.s.rs) := impl_Wave_read x
noncomputable abbrev impl_Wave_read.k {δ : Type} : Callee (GT tab) δ := kS impl_Wave_read.s impl_Wave_read.fn
theorem impl_Wave_read.con {δ : Type} : Con Tryz.prog (KT tab) 74 (impl_Wave_read.k (δ := δ)) := con_shape (c := impl_Wave_read.c) mixed tysOk (getG_con (impl_Wave_read.gok _)) impl_Wave_read.fok rfl rfl fun _ => rfl
noncomputable def impl_Wave_read_l0 (v0 : Int) (v1 : List Int) (v2 : List (Int × (List Int))) : Option ((List Int) × Bool) := lpW impl_Wave_read.s impl_Wave_read.c 0 (ud 137 [.undef, .ptr 0 0]) [.box 26 [.int .i64 v0, .vs false 3 v1, .vs false 29 v2]] 1
noncomputable def impl_Wave_read_l1 (v0 v1 v2 : Int) (v3 : List Int) (v4 : List (Int × (List Int))) (v5 v6 : List Int) : Option ((List Int) × Bool) := lpW impl_Wave_read.s impl_Wave_read.c 1 (ud 97 [.undef, .ptr 0 0, .undef, .undef, .sl 1 0, .sl 2 0, .undef, .undef, .undef, .undef, .undef, .undef, .undef, .undef, .undef, .undef, .undef, .undef, .undef, .undef, .undef, .undef, .undef, .undef, .undef, .undef, .undef, .undef, .undef, .undef, .undef, .undef, .undef, .undef, .undef, .undef, .undef, .undef, .undef, .undef, .int .i64 v0, .int .i64 v1]) [.box 26 [.int .i64 v2, .vs false 3 v3, .vs false 29 v4], .row 0 true 3 v5, .row 0 true 3 v6] 3
noncomputable def impl_Wave_read_l2 (v0 : List (Int × (List Int))) (v1 v2 v3 : Int) (v4 : List Int) (v5 : List (Int × (List Int))) (v6 v7 : List Int) : Option ((List Int) × Bool) := lpW impl_Wave_read.s impl_Wave_read.c 2 (ud 86 [.undef, .ptr 0 0, .undef, .undef, .sl 1 0, .sl 2 0, .undef, .undef, .undef, .undef, .undef, .undef, .undef, .undef, .undef, .undef, .undef, .undef, .undef, .undef, .undef, .undef, .undef, .undef, .undef, .undef, .undef, .undef, .undef, .undef, .undef, .undef, .undef, .undef, .undef, .undef, .undef, .undef, .undef, .undef, .undef, .undef, .undef, .undef, .undef, .undef, .undef, .undef, .undef, .undef, .vs false 29 v0, .int .i64 v1, .int .i64 v2]) [.box 26 [.int .i64 v3, .vs false 3 v4, .vs false 29 v5], .row 0 true 3 v6, .row 0 true 3 v7] 3
noncomputable def impl_Wave_read_l3 (v0 : Int) (v1 : List (Int × (List Int))) (v2 v3 v4 : Int) (v5 : List Int) (v6 : List (Int × (List Int))) (v7 v8 v9 : List Int) : Option ((List Int) × Bool) := lpW impl_Wave_read.s impl_Wave_read.c 3 (ud 86 [.undef, .ptr 0 0, .undef, .undef, .sl 1 0, .sl 2 0, .undef, .int .i64 v0, .undef, .sl 3 0, .undef, .undef, .undef, .undef, .undef, .undef, .undef, .undef, .undef, .undef, .undef, .undef, .undef, .undef, .undef, .undef, .undef, .undef, .undef, .undef, .undef, .undef, .undef, .undef, .undef, .undef, .undef, .undef, .undef, .undef, .undef, .undef, .undef, .undef, .undef, .undef, .undef, .undef, .undef, .undef, .vs false 29 v1, .int .i64 v2, .int .i64 v3]) [.box 26 [.int .i64 v4, .vs false 3 v5, .vs false 29 v6], .row 0 true 3 v7, .row 0 true 3 v8, .row 0 true 3 v9] 4
noncomputable def impl_Wave_read_l4 (v0 v1 : Int) (v2 : List (Int × (List Int))) (v3 v4 v5 v6 v7 : Int) (v8 : List Int) (v9 : List (Int × (List Int))) (v10 v11 v12 v13 : List Int) : Option ((List Int) × Bool) := lpW impl_Wave_read.s impl_Wave_read.c 4 (ud 49 [.undef, .ptr 0 0, .undef, .undef, .sl 1 0, .sl 2 0, .undef, .undef, .undef, .sl 3 0, .sl 4 0, .int .i64 v0, .int .i64 v1, .undef, .undef, .undef, .undef, .undef, .undef, .undef, .undef, .undef, .undef, .undef, .undef, .undef, .undef, .undef, .undef, .undef, .undef, .undef, .undef, .undef, .undef, .undef, .undef, .undef, .undef, .undef, .undef, .undef, .undef, .undef, .undef, .undef, .undef, .undef, .undef, .undef, .vs false 29 v2, .int .i64 v3, .int .i64 v4, .undef, .undef, .undef, .undef, .undef, .undef, .undef, .undef, .undef, .undef, .undef, .undef, .undef, .undef, .undef, .undef, .undef, .undef, .undef, .undef, .undef, .undef, .undef, .undef, .undef, .undef, .undef, .undef, .undef, .undef, .undef, .undef, .undef, .undef, .sl 3 0, .int .i64 v5, .int .i64 v6]) [.box 26 [.int .i64 v7, .vs false 3 v8, .vs false 29 v9], .row 0 true 3 v10, .row 0 true 3 v11, .row 0 true 3 v12, .row 0 true 3 v13] 5
noncomputable def impl_Wave_read_l5 (v0 : List (Int × (List Int))) (v1 v2 v3 v4 v5 : Int) (v6 : List Int) (v7 : List (Int × (List Int))) (v8 v9 v10 v11 : List Int) : Option ((List Int) × Bool) := lpW impl_Wave_read.s impl_Wave_read.c 5 (ud 27 [.undef, .ptr 0 0, .undef, .undef, .sl 1 0, .sl 2 0, .undef, .undef, .undef, .sl 3 0, .sl 4 0, .undef, .undef, .undef, .undef, .undef, .undef, .undef, .undef, .undef, .undef, .undef, .undef, .undef, .undef, .undef, .undef, .undef, .undef, .undef, .undef, .undef, .undef, .undef, .undef, .undef, .undef, .undef, .undef, .undef, .undef, .undef, .undef, .undef, .undef, .undef, .undef, .undef, .undef, .undef, .vs false 29 v0, .int .i64 v1, .int .i64 v2, .undef, .undef, .undef, .undef, .undef, .undef, .undef, .undef, .undef, .undef, .undef, .undef, .undef, .undef, .undef, .undef, .undef, .undef, .undef, .undef, .undef, .undef, .undef, .undef, .undef, .undef, .undef, .undef, .undef, .undef, .undef, .undef, .undef, .undef, .undef, .undef, .undef, .undef, .undef, .undef, .undef, .undef, .undef, .undef, .undef, .undef, .undef, .undef, .undef, .undef, .undef, .undef, .undef, .undef, .undef, .undef, .sl 2 0, .int .i64 v3, .int .i64 v4]) [.box 26 [.int .i64 v5, .vs false 3 v6, .vs false 29 v7], .row 0 true 3 v8, .row 0 true 3 v9, .row 0 true 3 v10, .row 0 true 3 v11] 5
theorem impl_Wave_read.eq (x0 : Int × (List Int) × (List (Int × (List Int)))) : impl_Wave_read x0 =
    (impl_within x0.1 (0 : Int) (1000 : Int)).bind fun y1 =>
    bif !y1 then
      some (([] : List Int), false)
    else
      bif (x0.2.1.length : Int) != (9 : Int) then
        some (([] : List Int), false)
      else
        bif (x0.2.2.length : Int) != (9 : Int) then
          some (([] : List Int), false)
        else
          impl_Wave_read_l0 x0.1 x0.2.1 x0.2.2 := by kernel_rfl
theorem impl_Wave_read_l0.eq (v0 : Int) (v1 : List Int) (v2 : List (Int × (List Int))) : impl_Wave_read_l0 v0 v1 v2 =
    bif decide ((0 : Int) ≤ v0) && decide (v0.toNat * 8 ≤ 140737488355328) then
      bif decide ((0 : Int) ≤ v0) && decide (v0.toNat * 8 ≤ 140737488355328) then
        impl_Wave_read_l1 ((List.replicate v0.toNat (0 : Int)).length : Int) (0 : Int) v0 v1 v2 (List.replicate v0.toNat (0 : Int)) (List.replicate v0.toNat (0 : Int))
      else
        none
    else
      none := (Lw_eq tysOk (getG_con (impl_Wave_read.gok _)) _ _).trans (by kernel_rfl)
theorem impl_Wave_read_l1.eq (v0 v1 v2 : Int) (v3 : List Int) (v4 : List (Int × (List Int))) (v5 v6 : List Int) : impl_Wave_read_l1 v0 v1 v2 v3 v4 v5 v6 =
    bif decide (v1 < v0) then
      (at? v6 v1).bind fun y1 =>
      v6[v1.toNat]?.bind fun y2 =>
      impl_Wave_read_l1 v0 (IntKind.i64.wrap (v1 + (1 : Int))) v2 v3 v4 v5 (v6.set v1.toNat v1)
    else
      impl_Wave_read_l2 v4 (v4.length : Int) (0 : Int) v2 v3 v4 v5 v6 := (Lw_eq tysOk (getG_con (impl_Wave_read.gok _)) _ _).trans (by kernel_rfl)
theorem impl_Wave_read_l2.eq (v0 : List (Int × (List Int))) (v1 v2 v3 : Int) (v4 : List Int) (v5 : List (Int × (List Int))) (v6 v7 : List Int) : impl_Wave_read_l2 v0 v1 v2 v3 v4 v5 v6 v7 =
    bif decide (v2 < v1) then
      (at? v0 v2).bind fun y1 =>
      (impl_BitsList y1).bind fun y2 =>
      (impl_BitsOk y1).bind fun y3 =>
      bif !y3 then
        some (([] : List Int), false)
      else
        bif y1.1 != v3 then
          some (([] : List Int), false)
        else
          (impl_count y2 (0 : Int)).bind fun y4 =>
          (at? v4 v2).bind fun y5 =>
          bif y4 != y5 then
            some (([] : List Int), false)
          else
            impl_Wave_read_l3 v2 v0 v1 v2 v3 v4 v5 v6 v7 y2
    else
      some (v6, true) := (Lw_eq tysOk (getG_con (impl_Wave_read.gok _)) _ _).trans (by kernel_rfl)
theorem impl_Wave_read_l3.eq (v0 : Int) (v1 : List (Int × (List Int))) (v2 v3 v4 : Int) (v5 : List Int) (v6 : List (Int × (List Int))) (v7 v8 v9 : List Int) : impl_Wave_read_l3 v0 v1 v2 v3 v4 v5 v6 v7 v8 v9 =
    bif decide ((0 : Int) ≤ v4) && decide (v4.toNat * 8 ≤ 140737488355328) then
      (at? v5 v0).bind fun y1 =>
      impl_Wave_read_l4 (0 : Int) y1 v1 v2 v3 (v9.length : Int) (0 : Int) v4 v5 v6 v7 v8 v9 (List.replicate v4.toNat (0 : Int))
    else
      none := (Lw_eq tysOk (getG_con (impl_Wave_read.gok _)) _ _).trans (by kernel_rfl)
theorem impl_Wave_read_l4.eq (v0 v1 : Int) (v2 : List (Int × (List Int))) (v3 v4 v5 v6 v7 : Int) (v8 : List Int) (v9 : List (Int × (List Int))) (v10 v11 v12 v13 : List Int) : impl_Wave_read_l4 v0 v1 v2 v3 v4 v5 v6 v7 v8 v9 v10 v11 v12 v13 =
    bif decide (v6 < v5) then
      (at? v12 v6).bind fun y1 =>
      v12[v6.toNat]?.bind fun y2 =>
      bif y2 == (0 : Int) then
        (at? v13 v6).bind fun y3 =>
        v13[v6.toNat]?.bind fun y4 =>
        impl_Wave_read_l4 (IntKind.i64.wrap (v0 + (1 : Int))) v1 v2 v3 v4 v5 (IntKind.i64.wrap (v6 + (1 : Int))) v7 v8 v9 v10 v11 v12 (v13.set v6.toNat v0)
      else
        (at? v13 v6).bind fun y5 =>
        v13[v6.toNat]?.bind fun y6 =>
        impl_Wave_read_l4 v0 (IntKind.i64.wrap (v1 + (1 : Int))) v2 v3 v4 v5 (IntKind.i64.wrap (v6 + (1 : Int))) v7 v8 v9 v10 v11 v12 (v13.set v6.toNat v1)
    else
      impl_Wave_read_l5 v2 v3 v4 (v11.length : Int) (0 : Int) v7 v8 v9 v10 v11 v12 v13 := (Lw_eq tysOk (getG_con (impl_Wave_read.gok _)) _ _).trans (by kernel_rfl)
theorem impl_Wave_read_l5.eq (v0 : List (Int × (List Int))) (v1 v2 v3 v4 v5 : Int) (v6 : List Int) (v7 : List (Int × (List Int))) (v8 v9 v10 v11 : List Int) : impl_Wave_read_l5 v0 v1 v2 v3 v4 v5 v6 v7 v8 v9 v10 v11 =
    bif decide (v4 < v3) then
      (at? v9 v4).bind fun y1 =>
      v9[v4.toNat]?.bind fun y2 =>
      (at? v8 v4).bind fun y3 =>
      v8[v4.toNat]?.bind fun y4 =>
      (at? v10 y2).bind fun y5 =>
      v10[y2.toNat]?.bind fun y6 =>
      (at? v8 v4).bind fun y7 =>
      v8[v4.toNat]?.bind fun y8 =>
      (at? v11 y2).bind fun y9 =>
      v11[y2.toNat]?.bind fun y10 =>
      (at? v9 v4).bind fun y11 =>
      v9[v4.toNat]?.bind fun y12 =>
      impl_Wave_read_l5 v0 v1 v2 v3 (IntKind.i64.wrap (v4 + (1 : Int))) v5 v6 v7 (v8.set v4.toNat (IntKind.i64.wrap (((BitVec.ofInt 64 (IntKind.i64.wrap (y4 * 2 ^ 1))) ||| (BitVec.ofInt 64 y6)).toNat : Int))) (v9.set v4.toNat y10) v10 v11
    else
      impl_Wave_read_l2 v0 v1 (IntKind.i64.wrap (v2 + (1 : Int))) v5 v6 v7 v8 v9 := (Lw_eq tysOk (getG_con (impl_Wave_read.gok _)) _ _).trans (by kernel_rfl)

noncomputable abbrev impl_WaveOk.s : Sg := ⟨[.lend], [.agg [.int .i64, .sl false false 3, .sl false false 29]], ⟨[vb], [none]⟩, Tryz.f69⟩
noncomputable def impl_WaveOk.gs (δ : Type) : List (Nat × Callee (GT tab) δ) := [(74, impl_Wave_read.k)]
theorem impl_WaveOk.gok (δ : Type) : AllCon Tryz.prog tab (impl_WaveOk.gs δ) := .cons impl_Wave_read.con .nil
noncomputable def impl_WaveOk.c := cx impl_WaveOk.s [] [] false (impl_WaveOk.gs _)
noncomputable def impl_WaveOk (x0 : Int × (List Int) × (List (Int × (List Int)))) : Option (Bool) := fnW impl_WaveOk.s impl_WaveOk.c x0
theorem impl_WaveOk.fok : FkS impl_WaveOk.s 69 := ⟨Tryz.func69, by kernel_rfl, by kernel_rfl⟩
noncomputable def impl_WaveOk.fn (x : Args tab impl_WaveOk.s.ar) : Option (ResT tab impl_WaveOk.s.rs) := impl_WaveOk x
noncomputable abbrev impl_WaveOk.k {δ : Type} : Callee (GT tab) δ := kS impl_WaveOk.s impl_WaveOk.fn
theorem impl_WaveOk.con {δ : Type} : Con Tryz.prog (KT tab) 69 (impl_WaveOk.k (δ := δ)) := con_shape (c := impl_WaveOk.c) mixed tysOk (getG_con (impl_WaveOk.gok _)) impl_WaveOk.fok rfl rfl fun _ => rfl
theorem impl_WaveOk.eq (x0 : Int × (List Int) × (List (Int × (List Int)))) : impl_WaveOk x0 =
    (impl_Wave_read x0).bind fun y1 =>
    some y1.2 := by kernel_rfl

noncomputable abbrev impl_WaveRead.s : Sg := ⟨[.lend, .lend], [vl 5, vi], ⟨[.agg [.int .i64, .sl true true 3, .sl true true 29], vi, vb], [none, none]⟩, Tryz.f22⟩
noncomputable def impl_WaveRead.gs (δ : Type) : List (Nat × Callee (GT tab) δ) := [(66, impl_BitsRead.k), (67, impl_count.k), (68, impl_Bits_list.k), (69, impl_WaveOk.k)]
theorem impl_WaveRead.gok (δ : Type) : AllCon Tryz.prog tab (impl_WaveRead.gs δ) := .cons impl_BitsRead.con (.cons impl_count.con (.cons impl_Bits_list.con (.cons impl_WaveOk.con .nil)))
noncomputable def impl_WaveRead.c := cx impl_WaveRead.s [] [(3, [0, 1, 4, 7, 11])] true (impl_WaveRead.gs _)
noncomputable def impl_WaveRead (x0 : List Int) (x1 : Int) : Option ((Int × (List Int) × (List (Int × (List Int)))) × Int × Bool) := fnW impl_WaveRead.s impl_WaveRead.c (x0, x1)
theorem impl_WaveRead.fok : FkS impl_WaveRead.s 22 := ⟨Tryz.func22, by kernel_rfl, by kernel_rfl⟩
noncomputable def impl_WaveRead.fn (x : Args tab impl_WaveRead.s.ar) : Option (ResT tab impl_WaveRead.s.rs) := impl_WaveRead x.1 x.2
noncomputable abbrev impl_WaveRead.k {δ : Type} : Callee (GT tab) δ := kS impl_WaveRead.s impl_WaveRead.fn
theorem impl_WaveRead.con {δ : Type} : Con Tryz.prog (KT tab) 22 (impl_WaveRead.k (δ := δ)) := con_shape (c := impl_WaveRead.c) mixed tysOk (getG_con (impl_WaveRead.gok _)) impl_WaveRead.fok rfl rfl fun _ => rfl
noncomputable def impl_WaveRead_l0 (v0 : List Int) (v1 v2 v3 : Int) (v4 : List Int) (v5 : List (Int × (List Int))) (v6 : Int) (v7 : List Int) (v8 : List (Int × (List Int))) : Option ((Int × (List Int) × (List (Int × (List Int)))) × Int × Bool) := lpW impl_WaveRead.s impl_WaveRead.c 0 (ud 36 [.vs false 5 v0, .int .i64 v1, .undef, .undef, .ptr 0 0, .undef, .undef, .ptr 3 0, .undef, .undef, .undef, .int .i64 v2]) [.box 26 [.int .i64 v3, .sl 1 0, .sl 2 0], .row 0 true 3 v4, .row 0 true 29 v5, .box 26 [.int .i64 v6, .sl 4 0, .sl 5 0], .row 0 true 3 v7, .row 0 true 29 v8] 6
theorem impl_WaveRead.eq (x0 : List Int) (x1 : Int) : impl_WaveRead x0 x1 =
    impl_WaveRead_l0 x0 x1 (0 : Int) (0 : Int) ([] : List Int) ([] : List (Int × (List Int))) (0 : Int) ([] : List Int) ([] : List (Int × (List Int))) := by kernel_rfl
theorem impl_WaveRead_l0.eq (v0 : List Int) (v1 v2 v3 : Int) (v4 : List Int) (v5 : List (Int × (List Int))) (v6 : Int) (v7 : List Int) (v8 : List (Int × (List Int))) : impl_WaveRead_l0 v0 v1 v2 v3 v4 v5 v6 v7 v8 =
    bif decide (v2 < (9 : Int)) then
      (impl_BitsRead v0 v1).bind fun y1 =>
      bif !y1.2.2 then
        some (((0 : Int), ([] : List Int), ([] : List (Int × (List Int)))), (0 : Int), false)
      else
        (impl_Bits_list y1.1).bind fun y2 =>
        (impl_count y2 (0 : Int)).bind fun y3 =>
        bif decide ((v7.length + ([y3] : List Int).length) * 8 ≤ 140737488355328) then
          bif decide ((v8.length + ([(y1.1.1, y1.1.2)] : List (Int × (List Int))).length) * 32 ≤ 140737488355328) then
            impl_WaveRead_l0 v0 y1.2.1 (IntKind.i64.wrap (v2 + (1 : Int))) v3 v4 v5 y1.1.1 (v7 ++ ([y3] : List Int)) (v8 ++ ([(y1.1.1, y1.1.2)] : List (Int × (List Int))))
          else
            none
        else
          none
    else
      (impl_WaveOk (v6, v7, v8)).bind fun y4 =>
      bif !y4 then
        some (((0 : Int), ([] : List Int), ([] : List (Int × (List Int)))), (0 : Int), false)
      else
        some ((v6, v7, v8), v1, true) := (Lw_eq tysOk (getG_con (impl_WaveRead.gok _)) _ _).trans (by kernel_rfl)

noncomputable abbrev impl_WaveList.s : Sg := ⟨[.lend], [.agg [.int .i64, .sl false false 3, .sl false false 29]], ⟨[vo 3], [none]⟩, Tryz.f24⟩
noncomputable def impl_WaveList.gs (δ : Type) : List (Nat × Callee (GT tab) δ) := [(74, impl_Wave_read.k)]
theorem impl_WaveList.gok (δ : Type) : AllCon Tryz.prog tab (impl_WaveList.gs δ) := .cons impl_Wave_read.con .nil
noncomputable def impl_WaveList.c := cx impl_WaveList.s [] [] false (impl_WaveList.gs _)
noncomputable def impl_WaveList (x0 : Int × (List Int) × (List (Int × (List Int)))) : Option (List Int) := fnW impl_WaveList.s impl_WaveList.c x0
theorem impl_WaveList.fok : FkS impl_WaveList.s 24 := ⟨Tryz.func24, by kernel_rfl, by kernel_rfl⟩
noncomputable def impl_WaveList.fn (x : Args tab impl_WaveList.s.ar) : Option (ResT tab impl_WaveList.s.rs) := impl_WaveList x
noncomputable abbrev impl_WaveList.k {δ : Type} : Callee (GT tab) δ := kS impl_WaveList.s impl_WaveList.fn
theorem impl_WaveList.con {δ : Type} : Con Tryz.prog (KT tab) 24 (impl_WaveList.k (δ := δ)) := con_shape (c := impl_WaveList.c) mixed tysOk (getG_con (impl_WaveList.gok _)) impl_WaveList.fok rfl rfl fun _ => rfl
theorem impl_WaveList.eq (x0 : Int × (List Int) × (List (Int × (List Int)))) : impl_WaveList x0 =
    (impl_Wave_read x0).bind fun y1 =>
    bif !y1.2 then
      some ([] : List Int)
    else
      some y1.1 := by kernel_rfl

noncomputable abbrev impl_SymsOk_1.s : Sg := ⟨[.lend], [vi], ⟨[vb], [none]⟩, Tryz.f110⟩
noncomputable def impl_SymsOk_1.gs (δ : Type) : List (Nat × Callee (GT tab) δ) := [(64, impl_within.k)]
theorem impl_SymsOk_1.gok (δ : Type) : AllCon Tryz.prog tab (impl_SymsOk_1.gs δ) := .cons impl_within.con .nil
noncomputable def impl_SymsOk_1.c := cx impl_SymsOk_1.s [] [] false (impl_SymsOk_1.gs _)
noncomputable def impl_SymsOk_1 (x0 : Int) : Option (Bool) := fnW impl_SymsOk_1.s impl_SymsOk_1.c x0
theorem impl_SymsOk_1.fok : FkS impl_SymsOk_1.s 110 := ⟨Tryz.func110, by kernel_rfl, by kernel_rfl⟩
noncomputable def impl_SymsOk_1.fn (x : Args tab impl_SymsOk_1.s.ar) : Option (ResT tab impl_SymsOk_1.s.rs) := impl_SymsOk_1 x
noncomputable abbrev impl_SymsOk_1.k {δ : Type} : Callee (GT tab) δ := kS impl_SymsOk_1.s impl_SymsOk_1.fn
theorem impl_SymsOk_1.con {δ : Type} : Con Tryz.prog (KT tab) 110 (impl_SymsOk_1.k (δ := δ)) := con_shape (c := impl_SymsOk_1.c) mixed tysOk (getG_con (impl_SymsOk_1.gok _)) impl_SymsOk_1.fok rfl rfl fun _ => rfl
theorem impl_SymsOk_1.eq (x0 : Int) : impl_SymsOk_1 x0 =
    (impl_within x0 (0 : Int) (256 : Int)).bind fun y1 =>
    some y1 := by kernel_rfl

noncomputable abbrev impl_areAll_int_1_SymsOk_1.s : Sg := ⟨[.lend, .lend], [vi, .one (.ptr false 0 [.fn 110 []])], ⟨[vb], [none, none]⟩, Tryz.f128⟩
noncomputable def impl_areAll_int_1_SymsOk_1.gs (δ : Type) : List (Nat × Callee (GT tab) δ) := [(110, impl_SymsOk_1.k)]
theorem impl_areAll_int_1_SymsOk_1.gok (δ : Type) : AllCon Tryz.prog tab (impl_areAll_int_1_SymsOk_1.gs δ) := .cons impl_SymsOk_1.con .nil
noncomputable def impl_areAll_int_1_SymsOk_1.c := cx impl_areAll_int_1_SymsOk_1.s [] [] false (impl_areAll_int_1_SymsOk_1.gs _)
noncomputable def impl_areAll_int_1_SymsOk_1 (x0 : Int) (x1 : Unit) : Option (Bool) := fnW impl_areAll_int_1_SymsOk_1.s impl_areAll_int_1_SymsOk_1.c (x0, x1)
theorem impl_areAll_int_1_SymsOk_1.fok : FkS impl_areAll_int_1_SymsOk_1.s 128 := ⟨Tryz.func128, by kernel_rfl, by kernel_rfl⟩
noncomputable def impl_areAll_int_1_SymsOk_1.fn (x : Args tab impl_areAll_int_1_SymsOk_1.s.ar) : Option (ResT tab impl_areAll_int_1_SymsOk_1.s.rs) := impl_areAll_int_1_SymsOk_1 x.1 x.2
noncomputable abbrev impl_areAll_int_1_SymsOk_1.k {δ : Type} : Callee (GT tab) δ := kS impl_areAll_int_1_SymsOk_1.s impl_areAll_int_1_SymsOk_1.fn
theorem impl_areAll_int_1_SymsOk_1.con {δ : Type} : Con Tryz.prog (KT tab) 128 (impl_areAll_int_1_SymsOk_1.k (δ := δ)) := con_shape (c := impl_areAll_int_1_SymsOk_1.c) mixed tysOk (getG_con (impl_areAll_int_1_SymsOk_1.gok _)) impl_areAll_int_1_SymsOk_1.fok rfl rfl fun _ => rfl
theorem impl_areAll_int_1_SymsOk_1.eq (x0 : Int) (x1 : Unit) : impl_areAll_int_1_SymsOk_1 x0 x1 =
    (impl_SymsOk_1 x0).bind fun y1 =>
    some (!y1) := by kernel_rfl

noncomputable abbrev slices_IndexFunc_int_int_areAll_int_1_SymsOk_1.s : Sg := ⟨[.lend, .lend], [vl 3, .one (.fn 128 [.ptr false 0 [.fn 110 []]])], ⟨[vi], [none, none]⟩, Tryz.f134⟩
noncomputable def slices_IndexFunc_int_int_areAll_int_1_SymsOk_1.gs (δ : Type) : List (Nat × Callee (GT tab) δ) := [(128, impl_areAll_int_1_SymsOk_1.k)]
theorem slices_IndexFunc_int_int_areAll_int_1_SymsOk_1.gok (δ : Type) : AllCon Tryz.prog tab (slices_IndexFunc_int_int_areAll_int_1_SymsOk_1.gs δ) := .cons impl_areAll_int_1_SymsOk_1.con .nil
noncomputable def slices_IndexFunc_int_int_areAll_int_1_SymsOk_1.c := cx slices_IndexFunc_int_int_areAll_int_1_SymsOk_1.s [] [(2, [0, 1, 7, 8])] false (slices_IndexFunc_int_int_areAll_int_1_SymsOk_1.gs _)
noncomputable def slices_IndexFunc_int_int_areAll_int_1_SymsOk_1 (x0 : List Int) (x1 : Unit) : Option (Int) := fnW slices_IndexFunc_int_int_areAll_int_1_SymsOk_1.s slices_IndexFunc_int_int_areAll_int_1_SymsOk_1.c (x0, x1)
theorem slices_IndexFunc_int_int_areAll_int_1_SymsOk_1.fok : FkS slices_IndexFunc_int_int_areAll_int_1_SymsOk_1.s 134 := ⟨Tryz.func134, by kernel_rfl, by kernel_rfl⟩
noncomputable def slices_IndexFunc_int_int_areAll_int_1_SymsOk_1.fn (x : Args tab slices_IndexFunc_int_int_areAll_int_1_SymsOk_1.s.ar) : Option (ResT tab slices_IndexFunc_int_int_areAll_int_1_SymsOk_1.s.rs) := slices_IndexFunc_int_int_areAll_int_1_SymsOk_1 x.1 x.2
noncomputable abbrev slices_IndexFunc_int_int_areAll_int_1_SymsOk_1.k {δ : Type} : Callee (GT tab) δ := kS slices_IndexFunc_int_int_areAll_int_1_SymsOk_1.s slices_IndexFunc_int_int_areAll_int_1_SymsOk_1.fn
theorem slices_IndexFunc_int_int_areAll_int_1_SymsOk_1.con {δ : Type} : Con Tryz.prog (KT tab) 134 (slices_IndexFunc_int_int_areAll_int_1_SymsOk_1.k (δ := δ)) := con_shape (c := slices_IndexFunc_int_int_areAll_int_1_SymsOk_1.c) mixed tysOk (getG_con (slices_IndexFunc_int_int_areAll_int_1_SymsOk_1.gok _)) slices_IndexFunc_int_int_areAll_int_1_SymsOk_1.fok rfl rfl fun _ => rfl
noncomputable def slices_IndexFunc_int_int_areAll_int_1_SymsOk_1_l0 (v0 : List Int) (v1 v2 : Int) : Option (Int) := lpW slices_IndexFunc_int_int_areAll_int_1_SymsOk_1.s slices_IndexFunc_int_int_areAll_int_1_SymsOk_1.c 0 (ud 10 [.vs false 3 v0, .fn 128 [.vp [.fn 110 []]], .undef, .undef, .undef, .undef, .undef, .int .i64 v1, .int .i64 v2]) [] 0
theorem slices_IndexFunc_int_int_areAll_int_1_SymsOk_1.eq (x0 : List Int) (x1 : Unit) : slices_IndexFunc_int_int_areAll_int_1_SymsOk_1 x0 x1 =
    slices_IndexFunc_int_int_areAll_int_1_SymsOk_1_l0 x0 (x0.length : Int) (0 : Int) := by kernel_rfl
theorem slices_IndexFunc_int_int_areAll_int_1_SymsOk_1_l0.eq (v0 : List Int) (v1 v2 : Int) : slices_IndexFunc_int_int_areAll_int_1_SymsOk_1_l0 v0 v1 v2 =
    bif decide (v2 < v1) then
      (at? v0 v2).bind fun y1 =>
      (impl_areAll_int_1_SymsOk_1 y1 ()).bind fun y2 =>
      bif y2 then
        some v2
      else
        slices_IndexFunc_int_int_areAll_int_1_SymsOk_1_l0 v0 v1 (IntKind.i64.wrap (v2 + (1 : Int)))
    else
      some (-1 : Int) := (Lw_eq tysOk (getG_con (slices_IndexFunc_int_int_areAll_int_1_SymsOk_1.gok _)) _ _).trans (by kernel_rfl)

noncomputable abbrev slices_ContainsFunc_int_int_areAll_int_1_SymsOk_1.s : Sg := ⟨[.lend, .lend], [vl 3, .one (.fn 128 [.ptr false 56 [.fn 110 []]])], ⟨[vb], [none, none]⟩, Tryz.f127⟩
noncomputable def slices_ContainsFunc_int_int_areAll_int_1_SymsOk_1.gs (δ : Type) : List (Nat × Callee (GT tab) δ) := [(134, slices_IndexFunc_int_int_areAll_int_1_SymsOk_1.k)]
theorem slices_ContainsFunc_int_int_areAll_int_1_SymsOk_1.gok (δ : Type) : AllCon Tryz.prog tab (slices_ContainsFunc_int_int_areAll_int_1_SymsOk_1.gs δ) := .cons slices_IndexFunc_int_int_areAll_int_1_SymsOk_1.con .nil
noncomputable def slices_ContainsFunc_int_int_areAll_int_1_SymsOk_1.c := cx slices_ContainsFunc_int_int_areAll_int_1_SymsOk_1.s [] [] false (slices_ContainsFunc_int_int_areAll_int_1_SymsOk_1.gs _)
noncomputable def slices_ContainsFunc_int_int_areAll_int_1_SymsOk_1 (x0 : List Int) (x1 : Unit) : Option (Bool) := fnW slices_ContainsFunc_int_int_areAll_int_1_SymsOk_1.s slices_ContainsFunc_int_int_areAll_int_1_SymsOk_1.c (x0, x1)
theorem slices_ContainsFunc_int_int_areAll_int_1_SymsOk_1.fok : FkS slices_ContainsFunc_int_int_areAll_int_1_SymsOk_1.s 127 := ⟨Tryz.func127, by kernel_rfl, by kernel_rfl⟩
noncomputable def slices_ContainsFunc_int_int_areAll_int_1_SymsOk_1.fn (x : Args tab slices_ContainsFunc_int_int_areAll_int_1_SymsOk_1.s.ar) : Option (ResT tab slices_ContainsFunc_int_int_areAll_int_1_SymsOk_1.s.rs) := slices_ContainsFunc_int_int_areAll_int_1_SymsOk_1 x.1 x.2
noncomputable abbrev slices_ContainsFunc_int_int_areAll_int_1_SymsOk_1.k {δ : Type} : Callee (GT tab) δ := kS slices_ContainsFunc_int_int_areAll_int_1_SymsOk_1.s slices_ContainsFunc_int_int_areAll_int_1_SymsOk_1.fn
theorem slices_ContainsFunc_int_int_areAll_int_1_SymsOk_1.con {δ : Type} : Con Tryz.prog (KT tab) 127 (slices_ContainsFunc_int_int_areAll_int_1_SymsOk_1.k (δ := δ)) := con_shape (c := slices_ContainsFunc_int_int_areAll_int_1_SymsOk_1.c) mixed tysOk (getG_con (slices_ContainsFunc_int_int_areAll_int_1_SymsOk_1.gok _)) slices_ContainsFunc_int_int_areAll_int_1_SymsOk_1.fok rfl rfl fun _ => rfl
theorem slices_ContainsFunc_int_int_areAll_int_1_SymsOk_1.eq (x0 : List Int) (x1 : Unit) : slices_ContainsFunc_int_int_areAll_int_1_SymsOk_1 x0 x1 =
    (slices_IndexFunc_int_int_areAll_int_1_SymsOk_1 x0 ()).bind fun y1 =>
    some (decide (y1 ≥ (0 : Int))) := by kernel_rfl

noncomputable abbrev impl_areAll_int_SymsOk_1.s : Sg := ⟨[.lend, .lend], [vl 3, .one (.fn 110 [])], ⟨[vb], [none, none]⟩, Tryz.f109⟩
noncomputable def impl_areAll_int_SymsOk_1.gs (δ : Type) : List (Nat × Callee (GT tab) δ) := [(127, slices_ContainsFunc_int_int_areAll_int_1_SymsOk_1.k)]
theorem impl_areAll_int_SymsOk_1.gok (δ : Type) : AllCon Tryz.prog tab (impl_areAll_int_SymsOk_1.gs δ) := .cons slices_ContainsFunc_int_int_areAll_int_1_SymsOk_1.con .nil
noncomputable def impl_areAll_int_SymsOk_1.c := cx impl_areAll_int_SymsOk_1.s [] [] false (impl_areAll_int_SymsOk_1.gs _)
noncomputable def impl_areAll_int_SymsOk_1 (x0 : List Int) (x1 : Unit) : Option (Bool) := fnW impl_areAll_int_SymsOk_1.s impl_areAll_int_SymsOk_1.c (x0, x1)
theorem impl_areAll_int_SymsOk_1.fok : FkS impl_areAll_int_SymsOk_1.s 109 := ⟨Tryz.func109, by kernel_rfl, by kernel_rfl⟩
noncomputable def impl_areAll_int_SymsOk_1.fn (x : Args tab impl_areAll_int_SymsOk_1.s.ar) : Option (ResT tab impl_areAll_int_SymsOk_1.s.rs) := impl_areAll_int_SymsOk_1 x.1 x.2
noncomputable abbrev impl_areAll_int_SymsOk_1.k {δ : Type} : Callee (GT tab) δ := kS impl_areAll_int_SymsOk_1.s impl_areAll_int_SymsOk_1.fn
theorem impl_areAll_int_SymsOk_1.con {δ : Type} : Con Tryz.prog (KT tab) 109 (impl_areAll_int_SymsOk_1.k (δ := δ)) := con_shape (c := impl_areAll_int_SymsOk_1.c) mixed tysOk (getG_con (impl_areAll_int_SymsOk_1.gok _)) impl_areAll_int_SymsOk_1.fok rfl rfl fun _ => rfl
theorem impl_areAll_int_SymsOk_1.eq (x0 : List Int) (x1 : Unit) : impl_areAll_int_SymsOk_1 x0 x1 =
    (slices_ContainsFunc_int_int_areAll_int_1_SymsOk_1 x0 ()).bind fun y1 =>
    some (!y1) := by kernel_rfl

noncomputable abbrev impl_SymsOk.s : Sg := ⟨[.lend], [vl 3], ⟨[vb], [none]⟩, Tryz.f70⟩
noncomputable def impl_SymsOk.gs (δ : Type) : List (Nat × Callee (GT tab) δ) := [(109, impl_areAll_int_SymsOk_1.k)]
theorem impl_SymsOk.gok (δ : Type) : AllCon Tryz.prog tab (impl_SymsOk.gs δ) := .cons impl_areAll_int_SymsOk_1.con .nil
noncomputable def impl_SymsOk.c := cx impl_SymsOk.s [] [] false (impl_SymsOk.gs _)
noncomputable def impl_SymsOk (x0 : List Int) : Option (Bool) := fnW impl_SymsOk.s impl_SymsOk.c x0
theorem impl_SymsOk.fok : FkS impl_SymsOk.s 70 := ⟨Tryz.func70, by kernel_rfl, by kernel_rfl⟩
noncomputable def impl_SymsOk.fn (x : Args tab impl_SymsOk.s.ar) : Option (ResT tab impl_SymsOk.s.rs) := impl_SymsOk x
noncomputable abbrev impl_SymsOk.k {δ : Type} : Callee (GT tab) δ := kS impl_SymsOk.s impl_SymsOk.fn
theorem impl_SymsOk.con {δ : Type} : Con Tryz.prog (KT tab) 70 (impl_SymsOk.k (δ := δ)) := con_shape (c := impl_SymsOk.c) mixed tysOk (getG_con (impl_SymsOk.gok _)) impl_SymsOk.fok rfl rfl fun _ => rfl
theorem impl_SymsOk.eq (x0 : List Int) : impl_SymsOk x0 =
    bif decide ((x0.length : Int) ≤ (301 : Int)) then
      (impl_areAll_int_SymsOk_1 x0 ()).bind fun y1 =>
      some y1
    else
      some false := by kernel_rfl

noncomputable abbrev impl_counts.s : Sg := ⟨[.lend], [vl 3], ⟨[vo 3], [none]⟩, Tryz.f76⟩
noncomputable def impl_counts.gs (δ : Type) : List (Nat × Callee (GT tab) δ) := []
theorem impl_counts.gok (δ : Type) : AllCon Tryz.prog tab (impl_counts.gs δ) := .nil
noncomputable def impl_counts.c := cx impl_counts.s [] [(3, [3, 8, 9, 10]), (8, [3, 6])] false (impl_counts.gs _)
noncomputable def impl_counts (x0 : List Int) : Option (List Int) := fnW impl_counts.s impl_counts.c x0
theorem impl_counts.fok : FkS impl_counts.s 76 := ⟨Tryz.func76, by kernel_rfl, by kernel_rfl⟩
noncomputable def impl_counts.fn (x : Args tab impl_counts.s.ar) : Option (ResT tab impl_counts.s.rs) := impl_counts x
noncomputable abbrev impl_counts.k {δ : Type} : Callee (GT tab) δ := kS impl_counts.s impl_counts.fn
theorem impl_counts.con {δ : Type} : Con Tryz.prog (KT tab) 76 (impl_counts.k (δ := δ)) := con_shape (c := impl_counts.c) mixed tysOk (getG_con (impl_counts.gok _)) impl_counts.fok rfl rfl fun _ => rfl
noncomputable def impl_counts_l0 (v0 : List Int) (v1 v2 : Int) (v3 : List Int) : Option (List Int) := lpW impl_counts.s impl_counts.c 0 (ud 27 [.undef, .undef, .undef, .sl 0 0, .undef, .undef, .undef, .undef, .vs false 3 v0, .int .i64 v1, .int .i64 v2]) [.row 0 true 3 v3] 1
noncomputable def impl_counts_l1 (v0 : Int) (v1 : List Int) : Option (List Int) := lpW impl_counts.s impl_counts.c 1 (ud 31 [.undef, .undef, .undef, .sl 0 0, .undef, .undef, .int .i64 v0]) [.row 0 true 3 v1] 1
theorem impl_counts.eq (x0 : List Int) : impl_counts x0 =
    impl_counts_l0 x0 (x0.length : Int) (0 : Int) (List.replicate 258 (0 : Int)) := by kernel_rfl
theorem impl_counts_l0.eq (v0 : List Int) (v1 v2 : Int) (v3 : List Int) : impl_counts_l0 v0 v1 v2 v3 =
    bif decide (v2 < v1) then
      (at? v0 v2).bind fun y1 =>
      (at? v3 (IntKind.i64.wrap (y1 + (1 : Int)))).bind fun y2 =>
      v3[(IntKind.i64.wrap (y1 + (1 : Int))).toNat]?.bind fun y3 =>
      (at? v3 (IntKind.i64.wrap (y1 + (1 : Int)))).bind fun y4 =>
      v3[(IntKind.i64.wrap (y1 + (1 : Int))).toNat]?.bind fun y5 =>
      impl_counts_l0 v0 v1 (IntKind.i64.wrap (v2 + (1 : Int))) (v3.set ((IntKind.i64.wrap (y1 + (1 : Int))).toNat) (IntKind.i64.wrap (y3 + (1 : Int))))
    else
      impl_counts_l1 (1 : Int) v3 := (Lw_eq tysOk (getG_con (impl_counts.gok _)) _ _).trans (by kernel_rfl)
theorem impl_counts_l1.eq (v0 : Int) (v1 : List Int) : impl_counts_l1 v0 v1 =
    bif decide (v0 < (258 : Int)) then
      (at? v1 v0).bind fun y1 =>
      v1[v0.toNat]?.bind fun y2 =>
      (at? v1 (IntKind.i64.wrap (v0 - (1 : Int)))).bind fun y3 =>
      v1[(IntKind.i64.wrap (v0 - (1 : Int))).toNat]?.bind fun y4 =>
      (at? v1 v0).bind fun y5 =>
      v1[v0.toNat]?.bind fun y6 =>
      impl_counts_l1 (IntKind.i64.wrap (v0 + (1 : Int))) (v1.set v0.toNat (IntKind.i64.wrap (y2 + y4)))
    else
      some v1 := (Lw_eq tysOk (getG_con (impl_counts.gok _)) _ _).trans (by kernel_rfl)

noncomputable abbrev impl_lfOf.s : Sg := ⟨[.lend], [vl 3], ⟨[vo 3], [none]⟩, Tryz.f71⟩
noncomputable def impl_lfOf.gs (δ : Type) : List (Nat × Callee (GT tab) δ) := [(76, impl_counts.k)]
theorem impl_lfOf.gok (δ : Type) : AllCon Tryz.prog tab (impl_lfOf.gs δ) := .cons impl_counts.con .nil
noncomputable def impl_lfOf.c := cx impl_lfOf.s [] [(4, [3, 4, 9, 10, 11])] false (impl_lfOf.gs _)
noncomputable def impl_lfOf (x0 : List Int) : Option (List Int) := fnW impl_lfOf.s impl_lfOf.c x0
theorem impl_lfOf.fok : FkS impl_lfOf.s 71 := ⟨Tryz.func71, by kernel_rfl, by kernel_rfl⟩
noncomputable def impl_lfOf.fn (x : Args tab impl_lfOf.s.ar) : Option (ResT tab impl_lfOf.s.rs) := impl_lfOf x
noncomputable abbrev impl_lfOf.k {δ : Type} : Callee (GT tab) δ := kS impl_lfOf.s impl_lfOf.fn
theorem impl_lfOf.con {δ : Type} : Con Tryz.prog (KT tab) 71 (impl_lfOf.k (δ := δ)) := con_shape (c := impl_lfOf.c) mixed tysOk (getG_con (impl_lfOf.gok _)) impl_lfOf.fok rfl rfl fun _ => rfl
noncomputable def impl_lfOf_l0 (v0 : List Int) (v1 v2 : Int) (v3 v4 : List Int) : Option (List Int) := lpW impl_lfOf.s impl_lfOf.c 0 (ud 18 [.undef, .undef, .undef, .sl 0 0, .sl 1 0, .undef, .undef, .undef, .undef, .vs false 3 v0, .int .i64 v1, .int .i64 v2]) [.row 0 true 3 v3, .row 0 true 3 v4] 2
theorem impl_lfOf.eq (x0 : List Int) : impl_lfOf x0 =
    (impl_counts x0).bind fun y1 =>
    impl_lfOf_l0 x0 (x0.length : Int) (0 : Int) y1 ([] : List Int) := by kernel_rfl
theorem impl_lfOf_l0.eq (v0 : List Int) (v1 v2 : Int) (v3 v4 : List Int) : impl_lfOf_l0 v0 v1 v2 v3 v4 =
    bif decide (v2 < v1) then
      (at? v0 v2).bind fun y1 =>
      (at? v3 y1).bind fun y2 =>
      v3[y1.toNat]?.bind fun y3 =>
      bif decide ((v4.length + ([y3] : List Int).length) * 8 ≤ 140737488355328) then
        (at? v3 y1).bind fun y4 =>
        v3[y1.toNat]?.bind fun y5 =>
        (at? v3 y1).bind fun y6 =>
        v3[y1.toNat]?.bind fun y7 =>
        impl_lfOf_l0 v0 v1 (IntKind.i64.wrap (v2 + (1 : Int))) (v3.set y1.toNat (IntKind.i64.wrap (y5 + (1 : Int)))) (v4 ++ ([y3] : List Int))
      else
        none
    else
      some v4 := (Lw_eq tysOk (getG_con (impl_lfOf.gok _)) _ _).trans (by kernel_rfl)

/-! ### bytealg_Compare: internal/bytealg.Compare (by hand) -/
def bytealg_Compare.ms : List Mode := [.lend, .lend]
def bytealg_Compare.as : List VSh := [.one (.b (.b (.b (.b (.sl false false 5))))), .one (.b (.b (.b (.b (.sl false false 5)))))]
def bytealg_Compare.rs : RSh := ⟨[.one (.b (.b (.b (.b (.int .i64)))))], [none, none]⟩
noncomputable def bytealg_Compare (x0 : List Int) (x1 : List Int) : Option (Int) := some (cmpB (x0.map fun x => x) (x1.map fun x => x))
noncomputable def bytealg_Compare.fn : Args tab bytealg_Compare.as → Option (ResT tab bytealg_Compare.rs) := fun x => bytealg_Compare x.1 x.2
noncomputable abbrev bytealg_Compare.k {δ : Type} : Callee (GT tab) δ := calleeS tab bytealg_Compare.ms bytealg_Compare.as bytealg_Compare.rs bytealg_Compare.fn
theorem bytealg_Compare.con {δ : Type} : Con Tryz.prog (KT tab) 130 (bytealg_Compare.k (δ := δ)) := con_compare Tryz.func130 (by kernel_rfl) (by kernel_rfl) (by kernel_rfl) (by kernel_rfl) (l := tab) (e := 5) (g := fun x => x) rfl

noncomputable abbrev bytes_Compare.s : Sg := ⟨[.lend, .lend], [vl 5, vl 5], ⟨[vi], [none, none]⟩, Tryz.f114⟩
noncomputable def bytes_Compare.gs (δ : Type) : List (Nat × Callee (GT tab) δ) := [(130, bytealg_Compare.k)]
theorem bytes_Compare.gok (δ : Type) : AllCon Tryz.prog tab (bytes_Compare.gs δ) := .cons bytealg_Compare.con .nil
noncomputable def bytes_Compare.c := cx bytes_Compare.s [] [] false (bytes_Compare.gs _)
noncomputable def bytes_Compare (x0 x1 : List Int) : Option (Int) := fnW bytes_Compare.s bytes_Compare.c (x0, x1)
theorem bytes_Compare.fok : FkS bytes_Compare.s 114 := ⟨Tryz.func114, by kernel_rfl, by kernel_rfl⟩
noncomputable def bytes_Compare.fn (x : Args tab bytes_Compare.s.ar) : Option (ResT tab bytes_Compare.s.rs) := bytes_Compare x.1 x.2
noncomputable abbrev bytes_Compare.k {δ : Type} : Callee (GT tab) δ := kS bytes_Compare.s bytes_Compare.fn
theorem bytes_Compare.con {δ : Type} : Con Tryz.prog (KT tab) 114 (bytes_Compare.k (δ := δ)) := con_shape (c := bytes_Compare.c) mixed tysOk (getG_con (bytes_Compare.gok _)) bytes_Compare.fok rfl rfl fun _ => rfl
theorem bytes_Compare.eq (x0 x1 : List Int) : bytes_Compare x0 x1 =
    (bytealg_Compare x0 x1).bind fun y1 =>
    some y1 := by kernel_rfl

noncomputable abbrev impl_suffixRows_1.s : Sg := ⟨[.lend, .lend, .lend], [vi, vi, .one (.ptr false 22 [.b (.b (.b (.sl false false 5)))])], ⟨[vi], [none, none, none]⟩, Tryz.f113⟩
noncomputable def impl_suffixRows_1.gs (δ : Type) : List (Nat × Callee (GT tab) δ) := [(114, bytes_Compare.k)]
theorem impl_suffixRows_1.gok (δ : Type) : AllCon Tryz.prog tab (impl_suffixRows_1.gs δ) := .cons bytes_Compare.con .nil
noncomputable def impl_suffixRows_1.c := cx impl_suffixRows_1.s [] [] false (impl_suffixRows_1.gs _)
noncomputable def impl_suffixRows_1 (x0 x1 : Int) (x2 : List Int) : Option (Int) := fnW impl_suffixRows_1.s impl_suffixRows_1.c (x0, x1, x2)
theorem impl_suffixRows_1.fok : FkS impl_suffixRows_1.s 113 := ⟨Tryz.func113, by kernel_rfl, by kernel_rfl⟩
noncomputable def impl_suffixRows_1.fn (x : Args tab impl_suffixRows_1.s.ar) : Option (ResT tab impl_suffixRows_1.s.rs) := impl_suffixRows_1 x.1 x.2.1 x.2.2
noncomputable abbrev impl_suffixRows_1.k {δ : Type} : Callee (GT tab) δ := kS impl_suffixRows_1.s impl_suffixRows_1.fn
theorem impl_suffixRows_1.con {δ : Type} : Con Tryz.prog (KT tab) 113 (impl_suffixRows_1.k (δ := δ)) := con_shape (c := impl_suffixRows_1.c) mixed tysOk (getG_con (impl_suffixRows_1.gok _)) impl_suffixRows_1.fok rfl rfl fun _ => rfl
theorem impl_suffixRows_1.eq (x0 x1 : Int) (x2 : List Int) : impl_suffixRows_1 x0 x1 x2 =
    bif decide (0 ≤ x0 ∧ x0 ≤ ((x2.length : Nat) : Int)) then
      bif decide (0 ≤ x1 ∧ x1 ≤ ((x2.length : Nat) : Int)) then
        (bytes_Compare ((x2.take x2.length).drop x0.toNat) ((x2.take x2.length).drop x1.toNat)).bind fun y1 =>
        some y1
      else
        none
    else
      none := by kernel_rfl

/-! ### slices_SortFunc_int_int_suffixRows_1: slices.SortFunc[[]int,int] (by hand) -/
def slices_SortFunc_int_int_suffixRows_1.ms : List Mode := [.keep, .lend]
def slices_SortFunc_int_int_suffixRows_1.as : List VSh := [.one (.b (.b (.b (.b (.sl true true 3))))), .one (.fn 113 [.ptr false 22 [.b (.b (.sl false false 5))]])]
def slices_SortFunc_int_int_suffixRows_1.rs : RSh := ⟨[], [some (.one (.b (.b (.b (.b (.sl true true 3)))))), none]⟩
noncomputable def slices_SortFunc_int_int_suffixRows_1 (x0 : List Int) (x1 : List Int) : Option (List Int) := sortC (fun a b => impl_suffixRows_1 a b x1) x0
noncomputable def slices_SortFunc_int_int_suffixRows_1.fn : Args tab slices_SortFunc_int_int_suffixRows_1.as → Option (ResT tab slices_SortFunc_int_int_suffixRows_1.rs) := fun x => slices_SortFunc_int_int_suffixRows_1 x.1 x.2
noncomputable abbrev slices_SortFunc_int_int_suffixRows_1.k {δ : Type} : Callee (GT tab) δ := calleeS tab slices_SortFunc_int_int_suffixRows_1.ms slices_SortFunc_int_int_suffixRows_1.as slices_SortFunc_int_int_suffixRows_1.rs slices_SortFunc_int_int_suffixRows_1.fn
theorem slices_SortFunc_int_int_suffixRows_1.con {δ : Type} : Con Tryz.prog (KT tab) 112 (slices_SortFunc_int_int_suffixRows_1.k (δ := δ)) := con_sort (l := tab) Tryz.laysSort112 rfl (e := 3) (g := fun x => x) rfl (gf := 113) (fun a w => FnOk.enters impl_suffixRows_1.fok a w) (cv := .one (.fn 113 [.ptr false 22 [.b (.b (.sl false false 5))]])) (capsT := fun y => [.ptr false 22 [.sl false false 5 y]]) (fun _ => by kernel_rfl) (fun y => List.all_eq_true.1 (by kernel_rfl)) (cal := impl_suffixRows_1.k) impl_suffixRows_1.con (ks := [none, none, none]) (F := fun a b y => impl_suffixRows_1 a b y) (fun a b y => sem_map (by kernel_rfl))

noncomputable abbrev impl_suffixRows.s : Sg := ⟨[.lend], [vl 5], ⟨[vo 3], [none]⟩, Tryz.f75⟩
noncomputable def impl_suffixRows.gs (δ : Type) : List (Nat × Callee (GT tab) δ) := [(112, slices_SortFunc_int_int_suffixRows_1.k)]
theorem impl_suffixRows.gok (δ : Type) : AllCon Tryz.prog tab (impl_suffixRows.gs δ) := .cons slices_SortFunc_int_int_suffixRows_1.con .nil
noncomputable def impl_suffixRows.c := cx impl_suffixRows.s [] [(3, [1, 3, 7, 8])] false (impl_suffixRows.gs _)
noncomputable def impl_suffixRows (x0 : List Int) : Option (List Int) := fnW impl_suffixRows.s impl_suffixRows.c x0
theorem impl_suffixRows.fok : FkS impl_suffixRows.s 75 := ⟨Tryz.func75, by kernel_rfl, by kernel_rfl⟩
noncomputable def impl_suffixRows.fn (x : Args tab impl_suffixRows.s.ar) : Option (ResT tab impl_suffixRows.s.rs) := impl_suffixRows x
noncomputable abbrev impl_suffixRows.k {δ : Type} : Callee (GT tab) δ := kS impl_suffixRows.s impl_suffixRows.fn
theorem impl_suffixRows.con {δ : Type} : Con Tryz.prog (KT tab) 75 (impl_suffixRows.k (δ := δ)) := con_shape (c := impl_suffixRows.c) mixed tysOk (getG_con (impl_suffixRows.gok _)) impl_suffixRows.fok rfl rfl fun _ => rfl
noncomputable def impl_suffixRows_l0 (v0 v1 : Int) (v2 v3 : List Int) : Option (List Int) := lpW impl_suffixRows.s impl_suffixRows.c 0 (ud 11 [.undef, .ptr 0 0, .undef, .sl 1 0, .undef, .undef, .undef, .int .i64 v0, .int .i64 v1]) [.box 22 [.vs false 5 v2], .row 0 true 3 v3] 2
theorem impl_suffixRows.eq (x0 : List Int) : impl_suffixRows x0 =
    impl_suffixRows_l0 (IntKind.i64.wrap ((x0.length : Int) + (1 : Int))) (0 : Int) x0 ([] : List Int) := by kernel_rfl
theorem impl_suffixRows_l0.eq (v0 v1 : Int) (v2 v3 : List Int) : impl_suffixRows_l0 v0 v1 v2 v3 =
    bif decide (v1 < v0) then
      bif decide ((v3.length + ([v1] : List Int).length) * 8 ≤ 140737488355328) then
        impl_suffixRows_l0 v0 (IntKind.i64.wrap (v1 + (1 : Int))) v2 (v3 ++ ([v1] : List Int))
      else
        none
    else
      (slices_SortFunc_int_int_suffixRows_1 v3 v2).bind fun y1 =>
      some y1 := (Lw_eq tysOk (getG_con (impl_suffixRows.gok _)) _ _).trans (by kernel_rfl)

noncomputable abbrev impl_bwtOf.s : Sg := ⟨[.lend], [vl 5], ⟨[vo 3], [none]⟩, Tryz.f73⟩
noncomputable def impl_bwtOf.gs (δ : Type) : List (Nat × Callee (GT tab) δ) := [(75, impl_suffixRows.k)]
theorem impl_bwtOf.gok (δ : Type) : AllCon Tryz.prog tab (impl_bwtOf.gs δ) := .cons impl_suffixRows.con .nil
noncomputable def impl_bwtOf.c := cx impl_bwtOf.s [] [(3, [0, 3, 7, 8, 9])] false (impl_bwtOf.gs _)
noncomputable def impl_bwtOf (x0 : List Int) : Option (List Int) := fnW impl_bwtOf.s impl_bwtOf.c x0
theorem impl_bwtOf.fok : FkS impl_bwtOf.s 73 := ⟨Tryz.func73, by kernel_rfl, by kernel_rfl⟩
noncomputable def impl_bwtOf.fn (x : Args tab impl_bwtOf.s.ar) : Option (ResT tab impl_bwtOf.s.rs) := impl_bwtOf x
noncomputable abbrev impl_bwtOf.k {δ : Type} : Callee (GT tab) δ := kS impl_bwtOf.s impl_bwtOf.fn
theorem impl_bwtOf.con {δ : Type} : Con Tryz.prog (KT tab) 73 (impl_bwtOf.k (δ := δ)) := con_shape (c := impl_bwtOf.c) mixed tysOk (getG_con (impl_bwtOf.gok _)) impl_bwtOf.fok rfl rfl fun _ => rfl
noncomputable def impl_bwtOf_l0 (v0 : List Int) (v1 v2 : Int) (v3 v4 : List Int) : Option (List Int) := lpW impl_bwtOf.s impl_bwtOf.c 0 (ud 20 [.vs false 5 v0, .undef, .undef, .sl 0 0, .undef, .undef, .undef, .sl 1 0, .int .i64 v1, .int .i64 v2]) [.row 0 true 3 v3, .row 0 true 3 v4] 2
theorem impl_bwtOf.eq (x0 : List Int) : impl_bwtOf x0 =
    (impl_suffixRows x0).bind fun y1 =>
    impl_bwtOf_l0 x0 (y1.length : Int) (0 : Int) ([] : List Int) y1 := by kernel_rfl
theorem impl_bwtOf_l0.eq (v0 : List Int) (v1 v2 : Int) (v3 v4 : List Int) : impl_bwtOf_l0 v0 v1 v2 v3 v4 =
    bif decide (v2 < v1) then
      (at? v4 v2).bind fun y1 =>
      v4[v2.toNat]?.bind fun y2 =>
      bif y2 == (0 : Int) then
        bif decide ((v3.length + ([(0 : Int)] : List Int).length) * 8 ≤ 140737488355328) then
          impl_bwtOf_l0 v0 v1 (IntKind.i64.wrap (v2 + (1 : Int))) (v3 ++ ([(0 : Int)] : List Int)) v4
        else
          none
      else
        (at? v0 (IntKind.i64.wrap (y2 - (1 : Int)))).bind fun y3 =>
        bif decide ((v3.length + ([IntKind.i64.wrap ((IntKind.i64.wrap y3) + (1 : Int))] : List Int).length) * 8 ≤ 140737488355328) then
          impl_bwtOf_l0 v0 v1 (IntKind.i64.wrap (v2 + (1 : Int))) (v3 ++ ([IntKind.i64.wrap ((IntKind.i64.wrap y3) + (1 : Int))] : List Int)) v4
        else
          none
    else
      some v3 := (Lw_eq tysOk (getG_con (impl_bwtOf.gok _)) _ _).trans (by kernel_rfl)

noncomputable abbrev slices_Equal_int_int.s : Sg := ⟨[.lend, .lend], [vl 3, vl 3], ⟨[vb], [none, none]⟩, Tryz.f72⟩
noncomputable def slices_Equal_int_int.gs (δ : Type) : List (Nat × Callee (GT tab) δ) := []
theorem slices_Equal_int_int.gok (δ : Type) : AllCon Tryz.prog tab (slices_Equal_int_int.gs δ) := .nil
noncomputable def slices_Equal_int_int.c := cx slices_Equal_int_int.s [] [(4, [0, 1, 12, 13])] false (slices_Equal_int_int.gs _)
noncomputable def slices_Equal_int_int (x0 x1 : List Int) : Option (Bool) := fnW slices_Equal_int_int.s slices_Equal_int_int.c (x0, x1)
theorem slices_Equal_int_int.fok : FkS slices_Equal_int_int.s 72 := ⟨Tryz.func72, by kernel_rfl, by kernel_rfl⟩
noncomputable def slices_Equal_int_int.fn (x : Args tab slices_Equal_int_int.s.ar) : Option (ResT tab slices_Equal_int_int.s.rs) := slices_Equal_int_int x.1 x.2
noncomputable abbrev slices_Equal_int_int.k {δ : Type} : Callee (GT tab) δ := kS slices_Equal_int_int.s slices_Equal_int_int.fn
theorem slices_Equal_int_int.con {δ : Type} : Con Tryz.prog (KT tab) 72 (slices_Equal_int_int.k (δ := δ)) := con_shape (c := slices_Equal_int_int.c) mixed tysOk (getG_con (slices_Equal_int_int.gok _)) slices_Equal_int_int.fok rfl rfl fun _ => rfl
noncomputable def slices_Equal_int_int_l0 (v0 v1 : List Int) (v2 v3 : Int) : Option (Bool) := lpW slices_Equal_int_int.s slices_Equal_int_int.c 0 (ud 12 [.vs false 3 v0, .vs false 3 v1, .undef, .undef, .undef, .undef, .undef, .undef, .undef, .undef, .undef, .undef, .int .i64 v2, .int .i64 v3]) [] 0
theorem slices_Equal_int_int.eq (x0 x1 : List Int) : slices_Equal_int_int x0 x1 =
    bif (x0.length : Int) != (x1.length : Int) then
      some false
    else
      slices_Equal_int_int_l0 x0 x1 (x0.length : Int) (0 : Int) := by kernel_rfl
theorem slices_Equal_int_int_l0.eq (v0 v1 : List Int) (v2 v3 : Int) : slices_Equal_int_int_l0 v0 v1 v2 v3 =
    bif decide (v3 < v2) then
      (at? v0 v3).bind fun y1 =>
      (at? v1 v3).bind fun y2 =>
      bif y1 != y2 then
        some false
      else
        slices_Equal_int_int_l0 v0 v1 v2 (IntKind.i64.wrap (v3 + (1 : Int)))
    else
      some true := (Lw_eq tysOk (getG_con (slices_Equal_int_int.gok _)) _ _).trans (by kernel_rfl)

noncomputable abbrev impl_BwtText.s : Sg := ⟨[.lend], [vl 3], ⟨[vo 5, vb], [none]⟩, Tryz.f23⟩
noncomputable def impl_BwtText.gs (δ : Type) : List (Nat × Callee (GT tab) δ) := [(67, impl_count.k), (70, impl_SymsOk.k), (71, impl_lfOf.k), (72, slices_Equal_int_int.k), (73, impl_bwtOf.k)]
theorem impl_BwtText.gok (δ : Type) : AllCon Tryz.prog tab (impl_BwtText.gs δ) := .cons impl_count.con (.cons impl_SymsOk.con (.cons impl_lfOf.con (.cons slices_Equal_int_int.con (.cons impl_bwtOf.con .nil))))
noncomputable def impl_BwtText.c := cx impl_BwtText.s [3] [(3, [0]), (7, [0, 4, 5, 6, 7])] false (impl_BwtText.gs _)
noncomputable def impl_BwtText (x0 : List Int) : Option ((List Int) × Bool) := fnW impl_BwtText.s impl_BwtText.c x0
theorem impl_BwtText.fok : FkS impl_BwtText.s 23 := ⟨Tryz.func23, by kernel_rfl, by kernel_rfl⟩
noncomputable def impl_BwtText.fn (x : Args tab impl_BwtText.s.ar) : Option (ResT tab impl_BwtText.s.rs) := impl_BwtText x
noncomputable abbrev impl_BwtText.k {δ : Type} : Callee (GT tab) δ := kS impl_BwtText.s impl_BwtText.fn
theorem impl_BwtText.con {δ : Type} : Con Tryz.prog (KT tab) 23 (impl_BwtText.k (δ := δ)) := con_shape (c := impl_BwtText.c) mixed tysOk (getG_con (impl_BwtText.gok _)) impl_BwtText.fok rfl rfl fun _ => rfl
noncomputable def impl_BwtText_l0 (v0 : List Int) : Option ((List Int) × Bool) := lpW impl_BwtText.s impl_BwtText.c 0 (ud 52 [.vs false 3 v0]) [] 0
noncomputable def impl_BwtText_l1 (v0 : List Int) (v1 v2 : Int) (v3 v4 : List Int) : Option ((List Int) × Bool) := lpW impl_BwtText.s impl_BwtText.c 1 (ud 45 [.vs false 3 v0, .undef, .undef, .undef, .sl 0 0, .sl 1 0, .int .i64 v1, .int .i64 v2]) [.row 0 true 3 v3, .row 0 true 5 v4] 2
theorem impl_BwtText.eq (x0 : List Int) : impl_BwtText x0 =
    (impl_SymsOk x0).bind fun y1 =>
    bif !y1 then
      some (([] : List Int), false)
    else
      (impl_count x0 (0 : Int)).bind fun y2 =>
      bif y2 != (1 : Int) then
        some (([] : List Int), false)
      else
        impl_BwtText_l0 x0 := by kernel_rfl
theorem impl_BwtText_l0.eq (v0 : List Int) : impl_BwtText_l0 v0 =
    (impl_lfOf v0).bind fun y1 =>
    bif decide ((0 : Int) ≤ IntKind.i64.wrap ((v0.length : Int) - (1 : Int))) && decide (((IntKind.i64.wrap ((v0.length : Int) - (1 : Int))).toNat) * 1 ≤ 140737488355328) then
      impl_BwtText_l1 v0 (0 : Int) (IntKind.i64.wrap (((List.replicate ((IntKind.i64.wrap ((v0.length : Int) - (1 : Int))).toNat) (0 : Int)).length : Int) - (1 : Int))) y1 (List.replicate ((IntKind.i64.wrap ((v0.length : Int) - (1 : Int))).toNat) (0 : Int))
    else
      none := (Lw_eq tysOk (getG_con (impl_BwtText.gok _)) _ _).trans (by kernel_rfl)
theorem impl_BwtText_l1.eq (v0 : List Int) (v1 v2 : Int) (v3 v4 : List Int) : impl_BwtText_l1 v0 v1 v2 v3 v4 =
    bif decide (v2 ≥ (0 : Int)) then
      (at? v0 v1).bind fun y1 =>
      bif y1 == (0 : Int) then
        some (([] : List Int), false)
      else
        (at? v0 v1).bind fun y2 =>
        (at? v4 v2).bind fun y3 =>
        v4[v2.toNat]?.bind fun y4 =>
        (at? v3 v1).bind fun y5 =>
        v3[v1.toNat]?.bind fun y6 =>
        impl_BwtText_l1 v0 y6 (IntKind.i64.wrap (v2 - (1 : Int))) v3 (v4.set v2.toNat (IntKind.u8.wrap (IntKind.i64.wrap (y2 - (1 : Int)))))
    else
      (impl_bwtOf v4).bind fun y7 =>
      (slices_Equal_int_int y7 v0).bind fun y8 =>
      bif !y8 then
        some (([] : List Int), false)
      else
        some (v4, true) := (Lw_eq tysOk (getG_con (impl_BwtText.gok _)) _ _).trans (by kernel_rfl)

noncomputable abbrev impl_WaveOf_1.s : Sg := ⟨[.lend], [vi], ⟨[vb], [none]⟩, Tryz.f115⟩
noncomputable def impl_WaveOf_1.gs (δ : Type) : List (Nat × Callee (GT tab) δ) := [(64, impl_within.k)]
theorem impl_WaveOf_1.gok (δ : Type) : AllCon Tryz.prog tab (impl_WaveOf_1.gs δ) := .cons impl_within.con .nil
noncomputable def impl_WaveOf_1.c := cx impl_WaveOf_1.s [] [] false (impl_WaveOf_1.gs _)
noncomputable def impl_WaveOf_1 (x0 : Int) : Option (Bool) := fnW impl_WaveOf_1.s impl_WaveOf_1.c x0
theorem impl_WaveOf_1.fok : FkS impl_WaveOf_1.s 115 := ⟨Tryz.func115, by kernel_rfl, by kernel_rfl⟩
noncomputable def impl_WaveOf_1.fn (x : Args tab impl_WaveOf_1.s.ar) : Option (ResT tab impl_WaveOf_1.s.rs) := impl_WaveOf_1 x
noncomputable abbrev impl_WaveOf_1.k {δ : Type} : Callee (GT tab) δ := kS impl_WaveOf_1.s impl_WaveOf_1.fn
theorem impl_WaveOf_1.con {δ : Type} : Con Tryz.prog (KT tab) 115 (impl_WaveOf_1.k (δ := δ)) := con_shape (c := impl_WaveOf_1.c) mixed tysOk (getG_con (impl_WaveOf_1.gok _)) impl_WaveOf_1.fok rfl rfl fun _ => rfl
theorem impl_WaveOf_1.eq (x0 : Int) : impl_WaveOf_1 x0 =
    (impl_within x0 (0 : Int) (511 : Int)).bind fun y1 =>
    some y1 := by kernel_rfl

noncomputable abbrev impl_areAll_int_1_WaveOf_1.s : Sg := ⟨[.lend, .lend], [vi, .one (.ptr false 0 [.fn 115 []])], ⟨[vb], [none, none]⟩, Tryz.f128⟩
noncomputable def impl_areAll_int_1_WaveOf_1.gs (δ : Type) : List (Nat × Callee (GT tab) δ) := [(115, impl_WaveOf_1.k)]
theorem impl_areAll_int_1_WaveOf_1.gok (δ : Type) : AllCon Tryz.prog tab (impl_areAll_int_1_WaveOf_1.gs δ) := .cons impl_WaveOf_1.con .nil
noncomputable def impl_areAll_int_1_WaveOf_1.c := cx impl_areAll_int_1_WaveOf_1.s [] [] false (impl_areAll_int_1_WaveOf_1.gs _)
noncomputable def impl_areAll_int_1_WaveOf_1 (x0 : Int) (x1 : Unit) : Option (Bool) := fnW impl_areAll_int_1_WaveOf_1.s impl_areAll_int_1_WaveOf_1.c (x0, x1)
theorem impl_areAll_int_1_WaveOf_1.fok : FkS impl_areAll_int_1_WaveOf_1.s 128 := ⟨Tryz.func128, by kernel_rfl, by kernel_rfl⟩
noncomputable def impl_areAll_int_1_WaveOf_1.fn (x : Args tab impl_areAll_int_1_WaveOf_1.s.ar) : Option (ResT tab impl_areAll_int_1_WaveOf_1.s.rs) := impl_areAll_int_1_WaveOf_1 x.1 x.2
noncomputable abbrev impl_areAll_int_1_WaveOf_1.k {δ : Type} : Callee (GT tab) δ := kS impl_areAll_int_1_WaveOf_1.s impl_areAll_int_1_WaveOf_1.fn
theorem impl_areAll_int_1_WaveOf_1.con {δ : Type} : Con Tryz.prog (KT tab) 128 (impl_areAll_int_1_WaveOf_1.k (δ := δ)) := con_shape (c := impl_areAll_int_1_WaveOf_1.c) mixed tysOk (getG_con (impl_areAll_int_1_WaveOf_1.gok _)) impl_areAll_int_1_WaveOf_1.fok rfl rfl fun _ => rfl
theorem impl_areAll_int_1_WaveOf_1.eq (x0 : Int) (x1 : Unit) : impl_areAll_int_1_WaveOf_1 x0 x1 =
    (impl_WaveOf_1 x0).bind fun y1 =>
    some (!y1) := by kernel_rfl

noncomputable abbrev slices_IndexFunc_int_int_areAll_int_1_WaveOf_1.s : Sg := ⟨[.lend, .lend], [vl 3, .one (.fn 128 [.ptr false 0 [.fn 115 []]])], ⟨[vi], [none, none]⟩, Tryz.f134⟩
noncomputable def slices_IndexFunc_int_int_areAll_int_1_WaveOf_1.gs (δ : Type) : List (Nat × Callee (GT tab) δ) := [(128, impl_areAll_int_1_WaveOf_1.k)]
theorem slices_IndexFunc_int_int_areAll_int_1_WaveOf_1.gok (δ : Type) : AllCon Tryz.prog tab (slices_IndexFunc_int_int_areAll_int_1_WaveOf_1.gs δ) := .cons impl_areAll_int_1_WaveOf_1.con .nil
noncomputable def slices_IndexFunc_int_int_areAll_int_1_WaveOf_1.c := cx slices_IndexFunc_int_int_areAll_int_1_WaveOf_1.s [] [(2, [0, 1, 7, 8])] false (slices_IndexFunc_int_int_areAll_int_1_WaveOf_1.gs _)
noncomputable def slices_IndexFunc_int_int_areAll_int_1_WaveOf_1 (x0 : List Int) (x1 : Unit) : Option (Int) := fnW slices_IndexFunc_int_int_areAll_int_1_WaveOf_1.s slices_IndexFunc_int_int_areAll_int_1_WaveOf_1.c (x0, x1)
theorem slices_IndexFunc_int_int_areAll_int_1_WaveOf_1.fok : FkS slices_IndexFunc_int_int_areAll_int_1_WaveOf_1.s 134 := ⟨Tryz.func134, by kernel_rfl, by kernel_rfl⟩
noncomputable def slices_IndexFunc_int_int_areAll_int_1_WaveOf_1.fn (x : Args tab slices_IndexFunc_int_int_areAll_int_1_WaveOf_1.s.ar) : Option (ResT tab slices_IndexFunc_int_int_areAll_int_1_WaveOf_1.s.rs) := slices_IndexFunc_int_int_areAll_int_1_WaveOf_1 x.1 x.2
noncomputable abbrev slices_IndexFunc_int_int_areAll_int_1_WaveOf_1.k {δ : Type} : Callee (GT tab) δ := kS slices_IndexFunc_int_int_areAll_int_1_WaveOf_1.s slices_IndexFunc_int_int_areAll_int_1_WaveOf_1.fn
theorem slices_IndexFunc_int_int_areAll_int_1_WaveOf_1.con {δ : Type} : Con Tryz.prog (KT tab) 134 (slices_IndexFunc_int_int_areAll_int_1_WaveOf_1.k (δ := δ)) := con_shape (c := slices_IndexFunc_int_int_areAll_int_1_WaveOf_1.c) mixed tysOk (getG_con (slices_IndexFunc_int_int_areAll_int_1_WaveOf_1.gok _)) slices_IndexFunc_int_int_areAll_int_1_WaveOf_1.fok rfl rfl fun _ => rfl
noncomputable def slices_IndexFunc_int_int_areAll_int_1_WaveOf_1_l0 (v0 : List Int) (v1 v2 : Int) : Option (Int) := lpW slices_IndexFunc_int_int_areAll_int_1_WaveOf_1.s slices_IndexFunc_int_int_areAll_int_1_WaveOf_1.c 0 (ud 10 [.vs false 3 v0, .fn 128 [.vp [.fn 115 []]], .undef, .undef, .undef, .undef, .undef, .int .i64 v1, .int .i64 v2]) [] 0
theorem slices_IndexFunc_int_int_areAll_int_1_WaveOf_1.eq (x0 : List Int) (x1 : Unit) : slices_IndexFunc_int_int_areAll_int_1_WaveOf_1 x0 x1 =
    slices_IndexFunc_int_int_areAll_int_1_WaveOf_1_l0 x0 (x0.length : Int) (0 : Int) := by kernel_rfl
theorem slices_IndexFunc_int_int_areAll_int_1_WaveOf_1_l0.eq (v0 : List Int) (v1 v2 : Int) : slices_IndexFunc_int_int_areAll_int_1_WaveOf_1_l0 v0 v1 v2 =
    bif decide (v2 < v1) then
      (at? v0 v2).bind fun y1 =>
      (impl_areAll_int_1_WaveOf_1 y1 ()).bind fun y2 =>
      bif y2 then
        some v2
      else
        slices_IndexFunc_int_int_areAll_int_1_WaveOf_1_l0 v0 v1 (IntKind.i64.wrap (v2 + (1 : Int)))
    else
      some (-1 : Int) := (Lw_eq tysOk (getG_con (slices_IndexFunc_int_int_areAll_int_1_WaveOf_1.gok _)) _ _).trans (by kernel_rfl)

noncomputable abbrev slices_ContainsFunc_int_int_areAll_int_1_WaveOf_1.s : Sg := ⟨[.lend, .lend], [vl 3, .one (.fn 128 [.ptr false 56 [.fn 115 []]])], ⟨[vb], [none, none]⟩, Tryz.f127⟩
noncomputable def slices_ContainsFunc_int_int_areAll_int_1_WaveOf_1.gs (δ : Type) : List (Nat × Callee (GT tab) δ) := [(134, slices_IndexFunc_int_int_areAll_int_1_WaveOf_1.k)]
theorem slices_ContainsFunc_int_int_areAll_int_1_WaveOf_1.gok (δ : Type) : AllCon Tryz.prog tab (slices_ContainsFunc_int_int_areAll_int_1_WaveOf_1.gs δ) := .cons slices_IndexFunc_int_int_areAll_int_1_WaveOf_1.con .nil
noncomputable def slices_ContainsFunc_int_int_areAll_int_1_WaveOf_1.c := cx slices_ContainsFunc_int_int_areAll_int_1_WaveOf_1.s [] [] false (slices_ContainsFunc_int_int_areAll_int_1_WaveOf_1.gs _)
noncomputable def slices_ContainsFunc_int_int_areAll_int_1_WaveOf_1 (x0 : List Int) (x1 : Unit) : Option (Bool) := fnW slices_ContainsFunc_int_int_areAll_int_1_WaveOf_1.s slices_ContainsFunc_int_int_areAll_int_1_WaveOf_1.c (x0, x1)
theorem slices_ContainsFunc_int_int_areAll_int_1_WaveOf_1.fok : FkS slices_ContainsFunc_int_int_areAll_int_1_WaveOf_1.s 127 := ⟨Tryz.func127, by kernel_rfl, by kernel_rfl⟩
noncomputable def slices_ContainsFunc_int_int_areAll_int_1_WaveOf_1.fn (x : Args tab slices_ContainsFunc_int_int_areAll_int_1_WaveOf_1.s.ar) : Option (ResT tab slices_ContainsFunc_int_int_areAll_int_1_WaveOf_1.s.rs) := slices_ContainsFunc_int_int_areAll_int_1_WaveOf_1 x.1 x.2
noncomputable abbrev slices_ContainsFunc_int_int_areAll_int_1_WaveOf_1.k {δ : Type} : Callee (GT tab) δ := kS slices_ContainsFunc_int_int_areAll_int_1_WaveOf_1.s slices_ContainsFunc_int_int_areAll_int_1_WaveOf_1.fn
theorem slices_ContainsFunc_int_int_areAll_int_1_WaveOf_1.con {δ : Type} : Con Tryz.prog (KT tab) 127 (slices_ContainsFunc_int_int_areAll_int_1_WaveOf_1.k (δ := δ)) := con_shape (c := slices_ContainsFunc_int_int_areAll_int_1_WaveOf_1.c) mixed tysOk (getG_con (slices_ContainsFunc_int_int_areAll_int_1_WaveOf_1.gok _)) slices_ContainsFunc_int_int_areAll_int_1_WaveOf_1.fok rfl rfl fun _ => rfl
theorem slices_ContainsFunc_int_int_areAll_int_1_WaveOf_1.eq (x0 : List Int) (x1 : Unit) : slices_ContainsFunc_int_int_areAll_int_1_WaveOf_1 x0 x1 =
    (slices_IndexFunc_int_int_areAll_int_1_WaveOf_1 x0 ()).bind fun y1 =>
    some (decide (y1 ≥ (0 : Int))) := by kernel_rfl

noncomputable abbrev impl_areAll_int_WaveOf_1.s : Sg := ⟨[.lend, .lend], [vl 3, .one (.fn 115 [])], ⟨[vb], [none, none]⟩, Tryz.f109⟩
noncomputable def impl_areAll_int_WaveOf_1.gs (δ : Type) : List (Nat × Callee (GT tab) δ) := [(127, slices_ContainsFunc_int_int_areAll_int_1_WaveOf_1.k)]
theorem impl_areAll_int_WaveOf_1.gok (δ : Type) : AllCon Tryz.prog tab (impl_areAll_int_WaveOf_1.gs δ) := .cons slices_ContainsFunc_int_int_areAll_int_1_WaveOf_1.con .nil
noncomputable def impl_areAll_int_WaveOf_1.c := cx impl_areAll_int_WaveOf_1.s [] [] false (impl_areAll_int_WaveOf_1.gs _)
noncomputable def impl_areAll_int_WaveOf_1 (x0 : List Int) (x1 : Unit) : Option (Bool) := fnW impl_areAll_int_WaveOf_1.s impl_areAll_int_WaveOf_1.c (x0, x1)
theorem impl_areAll_int_WaveOf_1.fok : FkS impl_areAll_int_WaveOf_1.s 109 := ⟨Tryz.func109, by kernel_rfl, by kernel_rfl⟩
noncomputable def impl_areAll_int_WaveOf_1.fn (x : Args tab impl_areAll_int_WaveOf_1.s.ar) : Option (ResT tab impl_areAll_int_WaveOf_1.s.rs) := impl_areAll_int_WaveOf_1 x.1 x.2
noncomputable abbrev impl_areAll_int_WaveOf_1.k {δ : Type} : Callee (GT tab) δ := kS impl_areAll_int_WaveOf_1.s impl_areAll_int_WaveOf_1.fn
theorem impl_areAll_int_WaveOf_1.con {δ : Type} : Con Tryz.prog (KT tab) 109 (impl_areAll_int_WaveOf_1.k (δ := δ)) := con_shape (c := impl_areAll_int_WaveOf_1.c) mixed tysOk (getG_con (impl_areAll_int_WaveOf_1.gok _)) impl_areAll_int_WaveOf_1.fok rfl rfl fun _ => rfl
theorem impl_areAll_int_WaveOf_1.eq (x0 : List Int) (x1 : Unit) : impl_areAll_int_WaveOf_1 x0 x1 =
    (slices_ContainsFunc_int_int_areAll_int_1_WaveOf_1 x0 ()).bind fun y1 =>
    some (!y1) := by kernel_rfl

noncomputable abbrev impl_bitsOf.s : Sg := ⟨[.lend], [vl 3], ⟨[.agg [.int .i64, .sl true true 106]], [none]⟩, Tryz.f79⟩
noncomputable def impl_bitsOf.gs (δ : Type) : List (Nat × Callee (GT tab) δ) := []
theorem impl_bitsOf.gok (δ : Type) : AllCon Tryz.prog tab (impl_bitsOf.gs δ) := .nil
noncomputable def impl_bitsOf.c := cx impl_bitsOf.s [] [(3, [2, 3, 15, 16, 17])] false (impl_bitsOf.gs _)
noncomputable def impl_bitsOf (x0 : List Int) : Option (Int × (List Int)) := fnW impl_bitsOf.s impl_bitsOf.c x0
theorem impl_bitsOf.fok : FkS impl_bitsOf.s 79 := ⟨Tryz.func79, by kernel_rfl, by kernel_rfl⟩
noncomputable def impl_bitsOf.fn (x : Args tab impl_bitsOf.s.ar) : Option (ResT tab impl_bitsOf.s.rs) := impl_bitsOf x
noncomputable abbrev impl_bitsOf.k {δ : Type} : Callee (GT tab) δ := kS impl_bitsOf.s impl_bitsOf.fn
theorem impl_bitsOf.con {δ : Type} : Con Tryz.prog (KT tab) 79 (impl_bitsOf.k (δ := δ)) := con_shape (c := impl_bitsOf.c) mixed tysOk (getG_con (impl_bitsOf.gok _)) impl_bitsOf.fok rfl rfl fun _ => rfl
noncomputable def impl_bitsOf_l0 (v0 : List Int) (v1 v2 v3 : Int) (v4 : List Int) (v5 : Int) (v6 : List Int) : Option (Int × (List Int)) := lpW impl_bitsOf.s impl_bitsOf.c 0 (ud 19 [.undef, .undef, .ptr 0 0, .ptr 2 0, .undef, .undef, .undef, .undef, .undef, .undef, .undef, .undef, .undef, .undef, .undef, .vs false 3 v0, .int .i64 v1, .int .i64 v2]) [.box 29 [.int .i64 v3, .sl 1 0], .row 0 true 106 v4, .box 29 [.int .i64 v5, .sl 3 0], .row 0 true 106 v6] 4
theorem impl_bitsOf.eq (x0 : List Int) : impl_bitsOf x0 =
    bif decide ((0 : Int) ≤ IntKind.i64.wrap ((IntKind.i64.wrap ((IntKind.i64.wrap ((x0.length : Int) + (64 : Int))) - (1 : Int))).tdiv (64 : Int))) && decide (((IntKind.i64.wrap ((IntKind.i64.wrap ((IntKind.i64.wrap ((x0.length : Int) + (64 : Int))) - (1 : Int))).tdiv (64 : Int))).toNat) * 8 ≤ 140737488355328) then
      impl_bitsOf_l0 x0 (x0.length : Int) (0 : Int) (0 : Int) ([] : List Int) (x0.length : Int) (List.replicate ((IntKind.i64.wrap ((IntKind.i64.wrap ((IntKind.i64.wrap ((x0.length : Int) + (64 : Int))) - (1 : Int))).tdiv (64 : Int))).toNat) (0 : Int))
    else
      none := by kernel_rfl
theorem impl_bitsOf_l0.eq (v0 : List Int) (v1 v2 v3 : Int) (v4 : List Int) (v5 : Int) (v6 : List Int) : impl_bitsOf_l0 v0 v1 v2 v3 v4 v5 v6 =
    bif decide (v2 < v1) then
      (at? v0 v2).bind fun y1 =>
      (at? v6 (IntKind.i64.wrap (v2.tdiv (64 : Int)))).bind fun y2 =>
      v6[(IntKind.i64.wrap (v2.tdiv (64 : Int))).toNat]?.bind fun y3 =>
      bif decide (v2.tmod (64 : Int) < (0 : Int)) then
        none
      else
        (at? v6 (IntKind.i64.wrap (v2.tdiv (64 : Int)))).bind fun y4 =>
        v6[(IntKind.i64.wrap (v2.tdiv (64 : Int))).toNat]?.bind fun y5 =>
        impl_bitsOf_l0 v0 v1 (IntKind.i64.wrap (v2 + (1 : Int))) v3 v4 v5 (v6.set ((IntKind.i64.wrap (v2.tdiv (64 : Int))).toNat) (IntKind.u64.wrap (((BitVec.ofInt 64 y3) ||| (BitVec.ofInt 64 (IntKind.u64.wrap ((IntKind.u64.wrap y1) * 2 ^ (min (v2.tmod (64 : Int)).toNat 64))))).toNat : Int)))
    else
      some (v5, v6) := (Lw_eq tysOk (getG_con (impl_bitsOf.gok _)) _ _).trans (by kernel_rfl)

/-! ### slices_Grow_int_int: slices.Grow[[]int,int] (by hand) -/
def slices_Grow_int_int.ms : List Mode := [.give, .lend]
def slices_Grow_int_int.as : List VSh := [.one (.b (.b (.b (.b (.sl true true 3))))), .one (.b (.b (.b (.b (.int .i64)))))]
def slices_Grow_int_int.rs : RSh := ⟨[.one (.b (.b (.b (.b (.sl true true 3)))))], [none, none]⟩
noncomputable def slices_Grow_int_int (x0 : List Int) (x1 : Int) : Option (List Int) := growF 8 (x0, x1)
noncomputable def slices_Grow_int_int.fn : Args tab slices_Grow_int_int.as → Option (ResT tab slices_Grow_int_int.rs) := fun x => slices_Grow_int_int x.1 x.2
noncomputable abbrev slices_Grow_int_int.k {δ : Type} : Callee (GT tab) δ := calleeS tab slices_Grow_int_int.ms slices_Grow_int_int.as slices_Grow_int_int.rs slices_Grow_int_int.fn
theorem slices_Grow_int_int.con {δ : Type} : Con Tryz.prog (KT tab) 131 (slices_Grow_int_int.k (δ := δ)) := con_grow2 Tryz.laysGrow131 rfl rfl (ty := tyOf tys) tysOk (e := 3) rfl (by decide) rfl rfl

noncomputable abbrev slices_Concat_int_int.s : Sg := ⟨[.lend], [vl 23], ⟨[vo 3], [none]⟩, Tryz.f116⟩
noncomputable def slices_Concat_int_int.gs (δ : Type) : List (Nat × Callee (GT tab) δ) := [(131, slices_Grow_int_int.k)]
theorem slices_Concat_int_int.gok (δ : Type) : AllCon Tryz.prog tab (slices_Concat_int_int.gs δ) := .cons slices_Grow_int_int.con .nil
noncomputable def slices_Concat_int_int.c := cx slices_Concat_int_int.s [] [(3, [0, 3, 9, 10, 11]), (11, [6, 25, 26, 27])] false (slices_Concat_int_int.gs _)
noncomputable def slices_Concat_int_int (x0 : List (List Int)) : Option (List Int) := fnW slices_Concat_int_int.s slices_Concat_int_int.c x0
theorem slices_Concat_int_int.fok : FkS slices_Concat_int_int.s 116 := ⟨Tryz.func116, by kernel_rfl, by kernel_rfl⟩
noncomputable def slices_Concat_int_int.fn (x : Args tab slices_Concat_int_int.s.ar) : Option (ResT tab slices_Concat_int_int.s.rs) := slices_Concat_int_int x
noncomputable abbrev slices_Concat_int_int.k {δ : Type} : Callee (GT tab) δ := kS slices_Concat_int_int.s slices_Concat_int_int.fn
theorem slices_Concat_int_int.con {δ : Type} : Con Tryz.prog (KT tab) 116 (slices_Concat_int_int.k (δ := δ)) := con_shape (c := slices_Concat_int_int.c) mixed tysOk (getG_con (slices_Concat_int_int.gok _)) slices_Concat_int_int.fok rfl rfl fun _ => rfl
noncomputable def slices_Concat_int_int_l0 (v0 : List (List Int)) (v1 : Int) (v2 : List (List Int)) (v3 v4 : Int) : Option (List Int) := lpW slices_Concat_int_int.s slices_Concat_int_int.c 0 (ud 24 [.vs false 23 v0, .undef, .undef, .int .i64 v1, .undef, .undef, .undef, .undef, .undef, .vs false 23 v2, .int .i64 v3, .int .i64 v4]) [] 0
noncomputable def slices_Concat_int_int_l1 (v0 : List (List Int)) (v1 v2 : Int) (v3 : List Int) : Option (List Int) := lpW slices_Concat_int_int.s slices_Concat_int_int.c 1 (ud 8 [.undef, .undef, .undef, .undef, .undef, .undef, .sl 0 0, .undef, .undef, .undef, .undef, .undef, .undef, .undef, .undef, .undef, .undef, .undef, .undef, .undef, .undef, .undef, .undef, .undef, .undef, .vs false 23 v0, .int .i64 v1, .int .i64 v2]) [.row 0 true 3 v3] 1
theorem slices_Concat_int_int.eq (x0 : List (List Int)) : slices_Concat_int_int x0 =
    slices_Concat_int_int_l0 x0 (0 : Int) x0 (x0.length : Int) (0 : Int) := by kernel_rfl
theorem slices_Concat_int_int_l0.eq (v0 : List (List Int)) (v1 : Int) (v2 : List (List Int)) (v3 v4 : Int) : slices_Concat_int_int_l0 v0 v1 v2 v3 v4 =
    bif decide (v4 < v3) then
      (at? v2 v4).bind fun y1 =>
      bif decide (IntKind.i64.wrap (v1 + (y1.length : Int)) < (0 : Int)) then
        none
      else
        slices_Concat_int_int_l0 v0 (IntKind.i64.wrap (v1 + (y1.length : Int))) v2 v3 (IntKind.i64.wrap (v4 + (1 : Int)))
    else
      (slices_Grow_int_int ([] : List Int) v1).bind fun y2 =>
      slices_Concat_int_int_l1 v0 (v0.length : Int) (0 : Int) y2 := (Lw_eq tysOk (getG_con (slices_Concat_int_int.gok _)) _ _).trans (by kernel_rfl)
theorem slices_Concat_int_int_l1.eq (v0 : List (List Int)) (v1 v2 : Int) (v3 : List Int) : slices_Concat_int_int_l1 v0 v1 v2 v3 =
    bif decide (v2 < v1) then
      (at? v0 v2).bind fun y1 =>
      bif decide ((v3.length + y1.length) * 8 ≤ 140737488355328) then
        slices_Concat_int_int_l1 v0 v1 (IntKind.i64.wrap (v2 + (1 : Int))) (v3 ++ y1)
      else
        none
    else
      some v3 := (Lw_eq tysOk (getG_con (slices_Concat_int_int.gok _)) _ _).trans (by kernel_rfl)

noncomputable abbrev impl_WaveOf.s : Sg := ⟨[.lend], [vl 3], ⟨[.agg [.int .i64, .sl true true 3, .sl true true 29], vb], [none]⟩, Tryz.f77⟩
noncomputable def impl_WaveOf.gs (δ : Type) : List (Nat × Callee (GT tab) δ) := [(79, impl_bitsOf.k), (109, impl_areAll_int_WaveOf_1.k), (116, slices_Concat_int_int.k)]
theorem impl_WaveOf.gok (δ : Type) : AllCon Tryz.prog tab (impl_WaveOf.gs δ) := .cons impl_bitsOf.con (.cons impl_areAll_int_WaveOf_1.con (.cons slices_Concat_int_int.con .nil))
noncomputable def impl_WaveOf.c := cx impl_WaveOf.s [3] [(3, [0, 2]), (5, [0, 2, 4, 24]), (9, [2, 4, 5, 6, 7, 8, 24, 27, 28, 29])] false (impl_WaveOf.gs _)
noncomputable def impl_WaveOf (x0 : List Int) : Option ((Int × (List Int) × (List (Int × (List Int)))) × Bool) := fnW impl_WaveOf.s impl_WaveOf.c x0
theorem impl_WaveOf.fok : FkS impl_WaveOf.s 77 := ⟨Tryz.func77, by kernel_rfl, by kernel_rfl⟩
noncomputable def impl_WaveOf.fn (x : Args tab impl_WaveOf.s.ar) : Option (ResT tab impl_WaveOf.s.rs) := impl_WaveOf x
noncomputable abbrev impl_WaveOf.k {δ : Type} : Callee (GT tab) δ := kS impl_WaveOf.s impl_WaveOf.fn
theorem impl_WaveOf.con {δ : Type} : Con Tryz.prog (KT tab) 77 (impl_WaveOf.k (δ := δ)) := con_shape (c := impl_WaveOf.c) mixed tysOk (getG_con (impl_WaveOf.gok _)) impl_WaveOf.fok rfl rfl fun _ => rfl
noncomputable def impl_WaveOf_l0 (v0 : List Int) (v1 : Int) (v2 : List Int) (v3 : List (Int × (List Int))) : Option ((Int × (List Int) × (List (Int × (List Int)))) × Bool) := lpW impl_WaveOf.s impl_WaveOf.c 0 (ud 70 [.vs false 3 v0, .undef, .ptr 0 0]) [.box 26 [.int .i64 v1, .sl 1 0, .sl 2 0], .row 0 true 3 v2, .row 0 true 29 v3] 3
noncomputable def impl_WaveOf_l1 (v0 : List Int) (v1 v2 : Int) (v3 : List Int) (v4 : List (Int × (List Int))) (v5 : Int) (v6 : List Int) (v7 : List (Int × (List Int))) : Option ((Int × (List Int) × (List (Int × (List Int)))) × Bool) := lpW impl_WaveOf.s impl_WaveOf.c 1 (ud 48 [.vs false 3 v0, .undef, .ptr 0 0, .undef, .ptr 3 0, .undef, .undef, .undef, .undef, .undef, .undef, .undef, .undef, .undef, .undef, .undef, .undef, .undef, .undef, .undef, .undef, .undef, .undef, .undef, .int .i64 v1]) [.box 26 [.int .i64 v2, .sl 1 0, .sl 2 0], .row 0 true 3 v3, .row 0 true 29 v4, .box 26 [.int .i64 v5, .sl 4 0, .sl 5 0], .row 0 true 3 v6, .row 0 true 29 v7] 6
noncomputable def impl_WaveOf_l2 (v0 v1 : Int) (v2 : List Int) (v3 v4 v5 : Int) (v6 : List Int) (v7 : List (Int × (List Int))) (v8 : Int) (v9 : List Int) (v10 : List (Int × (List Int))) (v11 v12 v13 : List Int) : Option ((Int × (List Int) × (List (Int × (List Int)))) × Bool) := lpW impl_WaveOf.s impl_WaveOf.c 2 (ud 43 [.undef, .undef, .ptr 0 0, .undef, .ptr 3 0, .int .i64 v0, .sl 6 0, .sl 7 0, .sl 8 0, .undef, .undef, .undef, .undef, .undef, .undef, .undef, .undef, .undef, .undef, .undef, .undef, .undef, .undef, .undef, .int .i64 v1, .undef, .undef, .vs false 3 v2, .int .i64 v3, .int .i64 v4]) [.box 26 [.int .i64 v5, .sl 1 0, .sl 2 0], .row 0 true 3 v6, .row 0 true 29 v7, .box 26 [.int .i64 v8, .sl 4 0, .sl 5 0], .row 0 true 3 v9, .row 0 true 29 v10, .row 0 true 3 v11, .row 0 true 3 v12, .row 0 true 3 v13] 9
noncomputable def impl_WaveOf_l3 (v0 : Int) (v1 : List Int) (v2 : Int) (v3 : List Int) (v4 : List (Int × (List Int))) (v5 : Int) (v6 : List Int) (v7 : List (Int × (List Int))) : Option ((Int × (List Int) × (List (Int × (List Int)))) × Bool) := lpW impl_WaveOf.s impl_WaveOf.c 1 (ud 48 [.sl 0 0, .undef, .ptr 1 0, .undef, .ptr 4 0, .undef, .undef, .undef, .undef, .undef, .undef, .undef, .undef, .undef, .undef, .undef, .undef, .undef, .undef, .undef, .undef, .undef, .undef, .undef, .int .i64 v0]) [.row 0 true 3 v1, .box 26 [.int .i64 v2, .sl 2 0, .sl 3 0], .row 0 true 3 v3, .row 0 true 29 v4, .box 26 [.int .i64 v5, .sl 5 0, .sl 6 0], .row 0 true 3 v6, .row 0 true 29 v7] 7
noncomputable def impl_WaveOf_l4 (v0 v1 v2 v3 v4 : Int) (v5 : List Int) (v6 : List (Int × (List Int))) (v7 : Int) (v8 : List Int) (v9 : List (Int × (List Int))) (v10 v11 v12 v13 : List Int) : Option ((Int × (List Int) × (List (Int × (List Int)))) × Bool) := lpW impl_WaveOf.s impl_WaveOf.c 2 (ud 43 [.undef, .undef, .ptr 0 0, .undef, .ptr 3 0, .int .i64 v0, .sl 6 0, .sl 7 0, .sl 8 0, .undef, .undef, .undef, .undef, .undef, .undef, .undef, .undef, .undef, .undef, .undef, .undef, .undef, .undef, .undef, .int .i64 v1, .undef, .undef, .sl 9 0, .int .i64 v2, .int .i64 v3]) [.box 26 [.int .i64 v4, .sl 1 0, .sl 2 0], .row 0 true 3 v5, .row 0 true 29 v6, .box 26 [.int .i64 v7, .sl 4 0, .sl 5 0], .row 0 true 3 v8, .row 0 true 29 v9, .row 0 true 3 v10, .row 0 true 3 v11, .row 0 true 3 v12, .row 0 true 3 v13] 10
theorem impl_WaveOf.eq (x0 : List Int) : impl_WaveOf x0 =
    bif decide ((x0.length : Int) > (1000 : Int)) then
      some (((0 : Int), ([] : List Int), ([] : List (Int × (List Int)))), false)
    else
      (impl_areAll_int_WaveOf_1 x0 ()).bind fun y1 =>
      bif !y1 then
        some (((0 : Int), ([] : List Int), ([] : List (Int × (List Int)))), false)
      else
        impl_WaveOf_l0 x0 (0 : Int) ([] : List Int) ([] : List (Int × (List Int))) := by kernel_rfl
theorem impl_WaveOf_l0.eq (v0 : List Int) (v1 : Int) (v2 : List Int) (v3 : List (Int × (List Int))) : impl_WaveOf_l0 v0 v1 v2 v3 =
    impl_WaveOf_l1 v0 (0 : Int) v1 v2 v3 (v0.length : Int) ([] : List Int) ([] : List (Int × (List Int))) := (Lw_eq tysOk (getG_con (impl_WaveOf.gok _)) _ _).trans (by kernel_rfl)
theorem impl_WaveOf_l1.eq (v0 : List Int) (v1 v2 : Int) (v3 : List Int) (v4 : List (Int × (List Int))) (v5 : Int) (v6 : List Int) (v7 : List (Int × (List Int))) : impl_WaveOf_l1 v0 v1 v2 v3 v4 v5 v6 v7 =
    bif decide (v1 < (9 : Int)) then
      impl_WaveOf_l2 v1 v1 v0 (v0.length : Int) (0 : Int) v2 v3 v4 v5 v6 v7 ([] : List Int) ([] : List Int) ([] : List Int)
    else
      some ((v5, v6, v7), true) := (Lw_eq tysOk (getG_con (impl_WaveOf.gok _)) _ _).trans (by kernel_rfl)
theorem impl_WaveOf_l2.eq (v0 v1 : Int) (v2 : List Int) (v3 v4 v5 : Int) (v6 : List Int) (v7 : List (Int × (List Int))) (v8 : Int) (v9 : List Int) (v10 : List (Int × (List Int))) (v11 v12 v13 : List Int) : impl_WaveOf_l2 v0 v1 v2 v3 v4 v5 v6 v7 v8 v9 v10 v11 v12 v13 =
    bif decide (v4 < v3) then
      (at? v2 v4).bind fun y1 =>
      bif decide (IntKind.i64.wrap ((8 : Int) - v0) < (0 : Int)) then
        none
      else
        bif decide ((v13.length + ([IntKind.i64.wrap (((BitVec.ofInt 64 (y1.fdiv (2 ^ (min (IntKind.i64.wrap ((8 : Int) - v0)).toNat 64)))) &&& (BitVec.ofInt 64 (1 : Int))).toNat : Int)] : List Int).length) * 8 ≤ 140737488355328) then
          bif IntKind.i64.wrap (((BitVec.ofInt 64 (y1.fdiv (2 ^ (min (IntKind.i64.wrap ((8 : Int) - v0)).toNat 64)))) &&& (BitVec.ofInt 64 (1 : Int))).toNat : Int) == (0 : Int) then
            bif decide ((v11.length + ([y1] : List Int).length) * 8 ≤ 140737488355328) then
              impl_WaveOf_l2 v0 v1 v2 v3 (IntKind.i64.wrap (v4 + (1 : Int))) v5 v6 v7 v8 v9 v10 (v11 ++ ([y1] : List Int)) v12 (v13 ++ ([IntKind.i64.wrap (((BitVec.ofInt 64 (y1.fdiv (2 ^ (min (IntKind.i64.wrap ((8 : Int) - v0)).toNat 64)))) &&& (BitVec.ofInt 64 (1 : Int))).toNat : Int)] : List Int))
            else
              none
          else
            bif decide ((v12.length + ([y1] : List Int).length) * 8 ≤ 140737488355328) then
              impl_WaveOf_l2 v0 v1 v2 v3 (IntKind.i64.wrap (v4 + (1 : Int))) v5 v6 v7 v8 v9 v10 v11 (v12 ++ ([y1] : List Int)) (v13 ++ ([IntKind.i64.wrap (((BitVec.ofInt 64 (y1.fdiv (2 ^ (min (IntKind.i64.wrap ((8 : Int) - v0)).toNat 64)))) &&& (BitVec.ofInt 64 (1 : Int))).toNat : Int)] : List Int))
            else
              none
        else
          none
    else
      bif decide ((v9.length + ([(v11.length : Int)] : List Int).length) * 8 ≤ 140737488355328) then
        (impl_bitsOf v13).bind fun y2 =>
        bif decide ((v10.length + ([(y2.1, y2.2)] : List (Int × (List Int))).length) * 32 ≤ 140737488355328) then
          (slices_Concat_int_int ([v11, v12] : List (List Int))).bind fun y3 =>
          impl_WaveOf_l3 (IntKind.i64.wrap (v1 + (1 : Int))) y3 v5 v6 v7 v8 (v9 ++ ([(v11.length : Int)] : List Int)) (v10 ++ ([(y2.1, y2.2)] : List (Int × (List Int))))
        else
          none
      else
        none := (Lw_eq tysOk (getG_con (impl_WaveOf.gok _)) _ _).trans (by kernel_rfl)
theorem impl_WaveOf_l3.eq (v0 : Int) (v1 : List Int) (v2 : Int) (v3 : List Int) (v4 : List (Int × (List Int))) (v5 : Int) (v6 : List Int) (v7 : List (Int × (List Int))) : impl_WaveOf_l3 v0 v1 v2 v3 v4 v5 v6 v7 =
    bif decide (v0 < (9 : Int)) then
      impl_WaveOf_l4 v0 v0 (v1.length : Int) (0 : Int) v2 v3 v4 v5 v6 v7 ([] : List Int) ([] : List Int) ([] : List Int) v1
    else
      some ((v5, v6, v7), true) := (Lw_eq tysOk (getG_con (impl_WaveOf.gok _)) _ _).trans (by kernel_rfl)
theorem impl_WaveOf_l4.eq (v0 v1 v2 v3 v4 : Int) (v5 : List Int) (v6 : List (Int × (List Int))) (v7 : Int) (v8 : List Int) (v9 : List (Int × (List Int))) (v10 v11 v12 v13 : List Int) : impl_WaveOf_l4 v0 v1 v2 v3 v4 v5 v6 v7 v8 v9 v10 v11 v12 v13 =
    bif decide (v3 < v2) then
      (at? v13 v3).bind fun y1 =>
      v13[v3.toNat]?.bind fun y2 =>
      bif decide (IntKind.i64.wrap ((8 : Int) - v0) < (0 : Int)) then
        none
      else
        bif decide ((v12.length + ([IntKind.i64.wrap (((BitVec.ofInt 64 (y2.fdiv (2 ^ (min (IntKind.i64.wrap ((8 : Int) - v0)).toNat 64)))) &&& (BitVec.ofInt 64 (1 : Int))).toNat : Int)] : List Int).length) * 8 ≤ 140737488355328) then
          bif IntKind.i64.wrap (((BitVec.ofInt 64 (y2.fdiv (2 ^ (min (IntKind.i64.wrap ((8 : Int) - v0)).toNat 64)))) &&& (BitVec.ofInt 64 (1 : Int))).toNat : Int) == (0 : Int) then
            bif decide ((v10.length + ([y2] : List Int).length) * 8 ≤ 140737488355328) then
              impl_WaveOf_l4 v0 v1 v2 (IntKind.i64.wrap (v3 + (1 : Int))) v4 v5 v6 v7 v8 v9 (v10 ++ ([y2] : List Int)) v11 (v12 ++ ([IntKind.i64.wrap (((BitVec.ofInt 64 (y2.fdiv (2 ^ (min (IntKind.i64.wrap ((8 : Int) - v0)).toNat 64)))) &&& (BitVec.ofInt 64 (1 : Int))).toNat : Int)] : List Int)) v13
            else
              none
          else
            bif decide ((v11.length + ([y2] : List Int).length) * 8 ≤ 140737488355328) then
              impl_WaveOf_l4 v0 v1 v2 (IntKind.i64.wrap (v3 + (1 : Int))) v4 v5 v6 v7 v8 v9 v10 (v11 ++ ([y2] : List Int)) (v12 ++ ([IntKind.i64.wrap (((BitVec.ofInt 64 (y2.fdiv (2 ^ (min (IntKind.i64.wrap ((8 : Int) - v0)).toNat 64)))) &&& (BitVec.ofInt 64 (1 : Int))).toNat : Int)] : List Int)) v13
            else
              none
        else
          none
    else
      bif decide ((v8.length + ([(v10.length : Int)] : List Int).length) * 8 ≤ 140737488355328) then
        (impl_bitsOf v12).bind fun y3 =>
        bif decide ((v9.length + ([(y3.1, y3.2)] : List (Int × (List Int))).length) * 32 ≤ 140737488355328) then
          (slices_Concat_int_int ([v10, v11] : List (List Int))).bind fun y4 =>
          impl_WaveOf_l3 (IntKind.i64.wrap (v1 + (1 : Int))) y4 v4 v5 v6 v7 (v8 ++ ([(v10.length : Int)] : List Int)) (v9 ++ ([(y3.1, y3.2)] : List (Int × (List Int))))
        else
          none
      else
        none := (Lw_eq tysOk (getG_con (impl_WaveOf.gok _)) _ _).trans (by kernel_rfl)

noncomputable abbrev impl_inverse.s : Sg := ⟨[.lend], [vl 3], ⟨[vo 3], [none]⟩, Tryz.f78⟩
noncomputable def impl_inverse.gs (δ : Type) : List (Nat × Callee (GT tab) δ) := []
theorem impl_inverse.gok (δ : Type) : AllCon Tryz.prog tab (impl_inverse.gs δ) := .nil
noncomputable def impl_inverse.c := cx impl_inverse.s [] [(3, [3, 9, 10, 11])] false (impl_inverse.gs _)
noncomputable def impl_inverse (x0 : List Int) : Option (List Int) := fnW impl_inverse.s impl_inverse.c x0
theorem impl_inverse.fok : FkS impl_inverse.s 78 := ⟨Tryz.func78, by kernel_rfl, by kernel_rfl⟩
noncomputable def impl_inverse.fn (x : Args tab impl_inverse.s.ar) : Option (ResT tab impl_inverse.s.rs) := impl_inverse x
noncomputable abbrev impl_inverse.k {δ : Type} : Callee (GT tab) δ := kS impl_inverse.s impl_inverse.fn
theorem impl_inverse.con {δ : Type} : Con Tryz.prog (KT tab) 78 (impl_inverse.k (δ := δ)) := con_shape (c := impl_inverse.c) mixed tysOk (getG_con (impl_inverse.gok _)) impl_inverse.fok rfl rfl fun _ => rfl
noncomputable def impl_inverse_l0 (v0 : List Int) (v1 v2 : Int) (v3 : List Int) : Option (List Int) := lpW impl_inverse.s impl_inverse.c 0 (ud 10 [.undef, .undef, .undef, .sl 0 0, .undef, .undef, .undef, .undef, .undef, .vs false 3 v0, .int .i64 v1, .int .i64 v2]) [.row 0 true 3 v3] 1
theorem impl_inverse.eq (x0 : List Int) : impl_inverse x0 =
    bif decide ((0 : Int) ≤ (x0.length : Int)) && decide (((x0.length : Int).toNat) * 8 ≤ 140737488355328) then
      impl_inverse_l0 x0 (x0.length : Int) (0 : Int) (List.replicate ((x0.length : Int).toNat) (0 : Int))
    else
      none := by kernel_rfl
theorem impl_inverse_l0.eq (v0 : List Int) (v1 v2 : Int) (v3 : List Int) : impl_inverse_l0 v0 v1 v2 v3 =
    bif decide (v2 < v1) then
      (at? v0 v2).bind fun y1 =>
      (at? v3 y1).bind fun y2 =>
      v3[y1.toNat]?.bind fun y3 =>
      impl_inverse_l0 v0 v1 (IntKind.i64.wrap (v2 + (1 : Int))) (v3.set y1.toNat v2)
    else
      some v3 := (Lw_eq tysOk (getG_con (impl_inverse.gok _)) _ _).trans (by kernel_rfl)

noncomputable abbrev bits_Len64.s : Sg := ⟨[.lend], [.one (.b (.b (.b (.b (.int .u64)))))], ⟨[vi], [none]⟩, Tryz.f133⟩
noncomputable def bits_Len64.gs (δ : Type) : List (Nat × Callee (GT tab) δ) := []
theorem bits_Len64.gok (δ : Type) : AllCon Tryz.prog tab (bits_Len64.gs δ) := .nil
noncomputable def bits_Len64.c := cx bits_Len64.s [4, 7] [(4, [0, 2]), (7, [0, 2])] false (bits_Len64.gs _)
noncomputable def bits_Len64 (x0 : Int) : Option (Int) := fnW bits_Len64.s bits_Len64.c x0
theorem bits_Len64.fok : FkS bits_Len64.s 133 := ⟨Tryz.func133, by kernel_rfl, by kernel_rfl⟩
noncomputable def bits_Len64.fn (x : Args tab bits_Len64.s.ar) : Option (ResT tab bits_Len64.s.rs) := bits_Len64 x
noncomputable abbrev bits_Len64.k {δ : Type} : Callee (GT tab) δ := kS bits_Len64.s bits_Len64.fn
theorem bits_Len64.con {δ : Type} : Con Tryz.prog (KT tab) 133 (bits_Len64.k (δ := δ)) := con_shape (c := bits_Len64.c) mixed tysOk (getG_con (bits_Len64.gok _)) bits_Len64.fok rfl rfl fun _ => rfl
noncomputable def bits_Len64_l0 (v0 v1 : Int) : Option (Int) := lpW bits_Len64.s bits_Len64.c 0 (ud 22 [.int .u64 v0, .undef, .int .i64 v1]) [] 0
noncomputable def bits_Len64_l1 (v0 v1 : Int) : Option (Int) := lpW bits_Len64.s bits_Len64.c 1 (ud 22 [.int .u64 v0, .undef, .int .i64 v1]) [] 0
theorem bits_Len64.eq (x0 : Int) : bits_Len64 x0 =
    bif decide (x0 ≥ (4294967296 : Int)) then
      bits_Len64_l0 (x0.fdiv (2 ^ 32)) (32 : Int)
    else
      bits_Len64_l0 x0 (0 : Int) := by kernel_rfl
theorem bits_Len64_l0.eq (v0 v1 : Int) : bits_Len64_l0 v0 v1 =
    bif decide (v0 ≥ (65536 : Int)) then
      bits_Len64_l1 (v0.fdiv (2 ^ 16)) (IntKind.i64.wrap (v1 + (16 : Int)))
    else
      bits_Len64_l1 v0 v1 := (Lw_eq tysOk (getG_con (bits_Len64.gok _)) _ _).trans (by kernel_rfl)
theorem bits_Len64_l1.eq (v0 v1 : Int) : bits_Len64_l1 v0 v1 =
    bif decide (v0 ≥ (256 : Int)) then
      (at? ((⟨(List.toArray ([0, 1, 2, 2, 3, 3, 3, 3, 4, 4, 4, 4, 4, 4, 4, 4, 5, 5, 5, 5, 5, 5, 5, 5, 5, 5, 5, 5, 5, 5, 5, 5, 6, 6, 6, 6, 6, 6, 6, 6, 6, 6, 6, 6, 6, 6, 6, 6, 6, 6, 6, 6, 6, 6, 6, 6, 6, 6, 6, 6, 6, 6, 6, 6, 7, 7, 7, 7, 7, 7, 7, 7, 7, 7, 7, 7, 7, 7, 7, 7, 7, 7, 7, 7, 7, 7, 7, 7, 7, 7, 7, 7, 7, 7, 7, 7, 7, 7, 7, 7, 7, 7, 7, 7, 7, 7, 7, 7, 7, 7, 7, 7, 7, 7, 7, 7, 7, 7, 7, 7, 7, 7, 7, 7, 7, 7, 7, 7] ++ [8, 8, 8, 8, 8, 8, 8, 8, 8, 8, 8, 8, 8, 8, 8, 8, 8, 8, 8, 8, 8, 8, 8, 8, 8, 8, 8, 8, 8, 8, 8, 8, 8, 8, 8, 8, 8, 8, 8, 8, 8, 8, 8, 8, 8, 8, 8, 8, 8, 8, 8, 8, 8, 8, 8, 8, 8, 8, 8, 8, 8, 8, 8, 8, 8, 8, 8, 8, 8, 8, 8, 8, 8, 8, 8, 8, 8, 8, 8, 8, 8, 8, 8, 8, 8, 8, 8, 8, 8, 8, 8, 8, 8, 8, 8, 8, 8, 8, 8, 8, 8, 8, 8, 8, 8, 8, 8, 8, 8, 8, 8, 8, 8, 8, 8, 8, 8, 8, 8, 8, 8, 8, 8, 8, 8, 8, 8, 8]))⟩ : ByteArray).data.toList) (IntKind.u8.wrap (v0.fdiv (2 ^ 8)))).bind fun y1 =>
      some (IntKind.i64.wrap ((IntKind.i64.wrap (v1 + (8 : Int))) + (IntKind.i64.wrap (y1.toNat : Int))))
    else
      (at? ((⟨(List.toArray ([0, 1, 2, 2, 3, 3, 3, 3, 4, 4, 4, 4, 4, 4, 4, 4, 5, 5, 5, 5, 5, 5, 5, 5, 5, 5, 5, 5, 5, 5, 5, 5, 6, 6, 6, 6, 6, 6, 6, 6, 6, 6, 6, 6, 6, 6, 6, 6, 6, 6, 6, 6, 6, 6, 6, 6, 6, 6, 6, 6, 6, 6, 6, 6, 7, 7, 7, 7, 7, 7, 7, 7, 7, 7, 7, 7, 7, 7, 7, 7, 7, 7, 7, 7, 7, 7, 7, 7, 7, 7, 7, 7, 7, 7, 7, 7, 7, 7, 7, 7, 7, 7, 7, 7, 7, 7, 7, 7, 7, 7, 7, 7, 7, 7, 7, 7, 7, 7, 7, 7, 7, 7, 7, 7, 7, 7, 7, 7] ++ [8, 8, 8, 8, 8, 8, 8, 8, 8, 8, 8, 8, 8, 8, 8, 8, 8, 8, 8, 8, 8, 8, 8, 8, 8, 8, 8, 8, 8, 8, 8, 8, 8, 8, 8, 8, 8, 8, 8, 8, 8, 8, 8, 8, 8, 8, 8, 8, 8, 8, 8, 8, 8, 8, 8, 8, 8, 8, 8, 8, 8, 8, 8, 8, 8, 8, 8, 8, 8, 8, 8, 8, 8, 8, 8, 8, 8, 8, 8, 8, 8, 8, 8, 8, 8, 8, 8, 8, 8, 8, 8, 8, 8, 8, 8, 8, 8, 8, 8, 8, 8, 8, 8, 8, 8, 8, 8, 8, 8, 8, 8, 8, 8, 8, 8, 8, 8, 8, 8, 8, 8, 8, 8, 8, 8, 8, 8, 8]))⟩ : ByteArray).data.toList) (IntKind.u8.wrap v0)).bind fun y2 =>
      some (IntKind.i64.wrap (v1 + (IntKind.i64.wrap (y2.toNat : Int)))) := (Lw_eq tysOk (getG_con (bits_Len64.gok _)) _ _).trans (by kernel_rfl)

noncomputable abbrev bits_Len.s : Sg := ⟨[.lend], [.one (.b (.b (.b (.b (.int .u64)))))], ⟨[vi], [none]⟩, Tryz.f119⟩
noncomputable def bits_Len.gs (δ : Type) : List (Nat × Callee (GT tab) δ) := [(133, bits_Len64.k)]
theorem bits_Len.gok (δ : Type) : AllCon Tryz.prog tab (bits_Len.gs δ) := .cons bits_Len64.con .nil
noncomputable def bits_Len.c := cx bits_Len.s [] [] false (bits_Len.gs _)
noncomputable def bits_Len (x0 : Int) : Option (Int) := fnW bits_Len.s bits_Len.c x0
theorem bits_Len.fok : FkS bits_Len.s 119 := ⟨Tryz.func119, by kernel_rfl, by kernel_rfl⟩
noncomputable def bits_Len.fn (x : Args tab bits_Len.s.ar) : Option (ResT tab bits_Len.s.rs) := bits_Len x
noncomputable abbrev bits_Len.k {δ : Type} : Callee (GT tab) δ := kS bits_Len.s bits_Len.fn
theorem bits_Len.con {δ : Type} : Con Tryz.prog (KT tab) 119 (bits_Len.k (δ := δ)) := con_shape (c := bits_Len.c) mixed tysOk (getG_con (bits_Len.gok _)) bits_Len.fok rfl rfl fun _ => rfl
theorem bits_Len.eq (x0 : Int) : bits_Len x0 =
    (bits_Len64 x0).bind fun y1 =>
    some y1 := by kernel_rfl

noncomputable abbrev impl_WidthOf.s : Sg := ⟨[.lend], [vi], ⟨[vi], [none]⟩, Tryz.f81⟩
noncomputable def impl_WidthOf.gs (δ : Type) : List (Nat × Callee (GT tab) δ) := [(119, bits_Len.k)]
theorem impl_WidthOf.gok (δ : Type) : AllCon Tryz.prog tab (impl_WidthOf.gs δ) := .cons bits_Len.con .nil
noncomputable def impl_WidthOf.c := cx impl_WidthOf.s [] [] false (impl_WidthOf.gs _)
noncomputable def impl_WidthOf (x0 : Int) : Option (Int) := fnW impl_WidthOf.s impl_WidthOf.c x0
theorem impl_WidthOf.fok : FkS impl_WidthOf.s 81 := ⟨Tryz.func81, by kernel_rfl, by kernel_rfl⟩
noncomputable def impl_WidthOf.fn (x : Args tab impl_WidthOf.s.ar) : Option (ResT tab impl_WidthOf.s.rs) := impl_WidthOf x
noncomputable abbrev impl_WidthOf.k {δ : Type} : Callee (GT tab) δ := kS impl_WidthOf.s impl_WidthOf.fn
theorem impl_WidthOf.con {δ : Type} : Con Tryz.prog (KT tab) 81 (impl_WidthOf.k (δ := δ)) := con_shape (c := impl_WidthOf.c) mixed tysOk (getG_con (impl_WidthOf.gok _)) impl_WidthOf.fok rfl rfl fun _ => rfl
theorem impl_WidthOf.eq (x0 : Int) : impl_WidthOf x0 =
    bif decide (x0 < (0 : Int)) then
      some (-1 : Int)
    else
      (bits_Len (IntKind.u64.wrap x0)).bind fun y1 =>
      some y1 := by kernel_rfl

noncomputable abbrev impl_PackOf_1.s : Sg := ⟨[.lend, .lend], [vi, .one (.ptr false 0 [.b (.b (.b (.int .i64)))])], ⟨[vb], [none, none]⟩, Tryz.f117⟩
noncomputable def impl_PackOf_1.gs (δ : Type) : List (Nat × Callee (GT tab) δ) := [(64, impl_within.k)]
theorem impl_PackOf_1.gok (δ : Type) : AllCon Tryz.prog tab (impl_PackOf_1.gs δ) := .cons impl_within.con .nil
noncomputable def impl_PackOf_1.c := cx impl_PackOf_1.s [] [] false (impl_PackOf_1.gs _)
noncomputable def impl_PackOf_1 (x0 x1 : Int) : Option (Bool) := fnW impl_PackOf_1.s impl_PackOf_1.c (x0, x1)
theorem impl_PackOf_1.fok : FkS impl_PackOf_1.s 117 := ⟨Tryz.func117, by kernel_rfl, by kernel_rfl⟩
noncomputable def impl_PackOf_1.fn (x : Args tab impl_PackOf_1.s.ar) : Option (ResT tab impl_PackOf_1.s.rs) := impl_PackOf_1 x.1 x.2
noncomputable abbrev impl_PackOf_1.k {δ : Type} : Callee (GT tab) δ := kS impl_PackOf_1.s impl_PackOf_1.fn
theorem impl_PackOf_1.con {δ : Type} : Con Tryz.prog (KT tab) 117 (impl_PackOf_1.k (δ := δ)) := con_shape (c := impl_PackOf_1.c) mixed tysOk (getG_con (impl_PackOf_1.gok _)) impl_PackOf_1.fok rfl rfl fun _ => rfl
theorem impl_PackOf_1.eq (x0 x1 : Int) : impl_PackOf_1 x0 x1 =
    bif decide (x1 < (0 : Int)) then
      none
    else
      (impl_within x0 (0 : Int) (IntKind.i64.wrap ((IntKind.i64.wrap ((1 : Int) * 2 ^ (min x1.toNat 64))) - (1 : Int)))).bind fun y1 =>
      some y1 := by kernel_rfl

noncomputable abbrev impl_areAll_int_1_PackOf_1.s : Sg := ⟨[.lend, .lend], [vi, .one (.ptr false 0 [.fn 117 [.ptr false 0 [.b (.int .i64)]]])], ⟨[vb], [none, none]⟩, Tryz.f128⟩
noncomputable def impl_areAll_int_1_PackOf_1.gs (δ : Type) : List (Nat × Callee (GT tab) δ) := [(117, impl_PackOf_1.k)]
theorem impl_areAll_int_1_PackOf_1.gok (δ : Type) : AllCon Tryz.prog tab (impl_areAll_int_1_PackOf_1.gs δ) := .cons impl_PackOf_1.con .nil
noncomputable def impl_areAll_int_1_PackOf_1.c := cx impl_areAll_int_1_PackOf_1.s [] [] false (impl_areAll_int_1_PackOf_1.gs _)
noncomputable def impl_areAll_int_1_PackOf_1 (x0 x1 : Int) : Option (Bool) := fnW impl_areAll_int_1_PackOf_1.s impl_areAll_int_1_PackOf_1.c (x0, x1)
theorem impl_areAll_int_1_PackOf_1.fok : FkS impl_areAll_int_1_PackOf_1.s 128 := ⟨Tryz.func128, by kernel_rfl, by kernel_rfl⟩
noncomputable def impl_areAll_int_1_PackOf_1.fn (x : Args tab impl_areAll_int_1_PackOf_1.s.ar) : Option (ResT tab impl_areAll_int_1_PackOf_1.s.rs) := impl_areAll_int_1_PackOf_1 x.1 x.2
noncomputable abbrev impl_areAll_int_1_PackOf_1.k {δ : Type} : Callee (GT tab) δ := kS impl_areAll_int_1_PackOf_1.s impl_areAll_int_1_PackOf_1.fn
theorem impl_areAll_int_1_PackOf_1.con {δ : Type} : Con Tryz.prog (KT tab) 128 (impl_areAll_int_1_PackOf_1.k (δ := δ)) := con_shape (c := impl_areAll_int_1_PackOf_1.c) mixed tysOk (getG_con (impl_areAll_int_1_PackOf_1.gok _)) impl_areAll_int_1_PackOf_1.fok rfl rfl fun _ => rfl
theorem impl_areAll_int_1_PackOf_1.eq (x0 x1 : Int) : impl_areAll_int_1_PackOf_1 x0 x1 =
    (impl_PackOf_1 x0 x1).bind fun y1 =>
    some (!y1) := by kernel_rfl

noncomputable abbrev slices_IndexFunc_int_int_areAll_int_1_PackOf_1.s : Sg := ⟨[.lend, .lend], [vl 3, .one (.fn 128 [.ptr false 0 [.fn 117 [.ptr false 0 [.int .i64]]]])], ⟨[vi], [none, none]⟩, Tryz.f134⟩
noncomputable def slices_IndexFunc_int_int_areAll_int_1_PackOf_1.gs (δ : Type) : List (Nat × Callee (GT tab) δ) := [(128, impl_areAll_int_1_PackOf_1.k)]
theorem slices_IndexFunc_int_int_areAll_int_1_PackOf_1.gok (δ : Type) : AllCon Tryz.prog tab (slices_IndexFunc_int_int_areAll_int_1_PackOf_1.gs δ) := .cons impl_areAll_int_1_PackOf_1.con .nil
noncomputable def slices_IndexFunc_int_int_areAll_int_1_PackOf_1.c := cx slices_IndexFunc_int_int_areAll_int_1_PackOf_1.s [] [(2, [0, 1, 7, 8])] false (slices_IndexFunc_int_int_areAll_int_1_PackOf_1.gs _)
noncomputable def slices_IndexFunc_int_int_areAll_int_1_PackOf_1 (x0 : List Int) (x1 : Int) : Option (Int) := fnW slices_IndexFunc_int_int_areAll_int_1_PackOf_1.s slices_IndexFunc_int_int_areAll_int_1_PackOf_1.c (x0, x1)
theorem slices_IndexFunc_int_int_areAll_int_1_PackOf_1.fok : FkS slices_IndexFunc_int_int_areAll_int_1_PackOf_1.s 134 := ⟨Tryz.func134, by kernel_rfl, by kernel_rfl⟩
noncomputable def slices_IndexFunc_int_int_areAll_int_1_PackOf_1.fn (x : Args tab slices_IndexFunc_int_int_areAll_int_1_PackOf_1.s.ar) : Option (ResT tab slices_IndexFunc_int_int_areAll_int_1_PackOf_1.s.rs) := slices_IndexFunc_int_int_areAll_int_1_PackOf_1 x.1 x.2
noncomputable abbrev slices_IndexFunc_int_int_areAll_int_1_PackOf_1.k {δ : Type} : Callee (GT tab) δ := kS slices_IndexFunc_int_int_areAll_int_1_PackOf_1.s slices_IndexFunc_int_int_areAll_int_1_PackOf_1.fn
theorem slices_IndexFunc_int_int_areAll_int_1_PackOf_1.con {δ : Type} : Con Tryz.prog (KT tab) 134 (slices_IndexFunc_int_int_areAll_int_1_PackOf_1.k (δ := δ)) := con_shape (c := slices_IndexFunc_int_int_areAll_int_1_PackOf_1.c) mixed tysOk (getG_con (slices_IndexFunc_int_int_areAll_int_1_PackOf_1.gok _)) slices_IndexFunc_int_int_areAll_int_1_PackOf_1.fok rfl rfl fun _ => rfl
noncomputable def slices_IndexFunc_int_int_areAll_int_1_PackOf_1_l0 (v0 : List Int) (v1 v2 v3 : Int) : Option (Int) := lpW slices_IndexFunc_int_int_areAll_int_1_PackOf_1.s slices_IndexFunc_int_int_areAll_int_1_PackOf_1.c 0 (ud 10 [.vs false 3 v0, .fn 128 [.vp [.fn 117 [.ptr false 0 [.int .i64 v1]]]], .undef, .undef, .undef, .undef, .undef, .int .i64 v2, .int .i64 v3]) [] 0
theorem slices_IndexFunc_int_int_areAll_int_1_PackOf_1.eq (x0 : List Int) (x1 : Int) : slices_IndexFunc_int_int_areAll_int_1_PackOf_1 x0 x1 =
    slices_IndexFunc_int_int_areAll_int_1_PackOf_1_l0 x0 x1 (x0.length : Int) (0 : Int) := by kernel_rfl
theorem slices_IndexFunc_int_int_areAll_int_1_PackOf_1_l0.eq (v0 : List Int) (v1 v2 v3 : Int) : slices_IndexFunc_int_int_areAll_int_1_PackOf_1_l0 v0 v1 v2 v3 =
    bif decide (v3 < v2) then
      (at? v0 v3).bind fun y1 =>
      (impl_areAll_int_1_PackOf_1 y1 v1).bind fun y2 =>
      bif y2 then
        some v3
      else
        slices_IndexFunc_int_int_areAll_int_1_PackOf_1_l0 v0 v1 v2 (IntKind.i64.wrap (v3 + (1 : Int)))
    else
      some (-1 : Int) := (Lw_eq tysOk (getG_con (slices_IndexFunc_int_int_areAll_int_1_PackOf_1.gok _)) _ _).trans (by kernel_rfl)

noncomputable abbrev slices_ContainsFunc_int_int_areAll_int_1_PackOf_1.s : Sg := ⟨[.lend, .lend], [vl 3, .one (.fn 128 [.ptr false 56 [.fn 117 [.ptr false 0 [.int .i64]]]])], ⟨[vb], [none, none]⟩, Tryz.f127⟩
noncomputable def slices_ContainsFunc_int_int_areAll_int_1_PackOf_1.gs (δ : Type) : List (Nat × Callee (GT tab) δ) := [(134, slices_IndexFunc_int_int_areAll_int_1_PackOf_1.k)]
theorem slices_ContainsFunc_int_int_areAll_int_1_PackOf_1.gok (δ : Type) : AllCon Tryz.prog tab (slices_ContainsFunc_int_int_areAll_int_1_PackOf_1.gs δ) := .cons slices_IndexFunc_int_int_areAll_int_1_PackOf_1.con .nil
noncomputable def slices_ContainsFunc_int_int_areAll_int_1_PackOf_1.c := cx slices_ContainsFunc_int_int_areAll_int_1_PackOf_1.s [] [] false (slices_ContainsFunc_int_int_areAll_int_1_PackOf_1.gs _)
noncomputable def slices_ContainsFunc_int_int_areAll_int_1_PackOf_1 (x0 : List Int) (x1 : Int) : Option (Bool) := fnW slices_ContainsFunc_int_int_areAll_int_1_PackOf_1.s slices_ContainsFunc_int_int_areAll_int_1_PackOf_1.c (x0, x1)
theorem slices_ContainsFunc_int_int_areAll_int_1_PackOf_1.fok : FkS slices_ContainsFunc_int_int_areAll_int_1_PackOf_1.s 127 := ⟨Tryz.func127, by kernel_rfl, by kernel_rfl⟩
noncomputable def slices_ContainsFunc_int_int_areAll_int_1_PackOf_1.fn (x : Args tab slices_ContainsFunc_int_int_areAll_int_1_PackOf_1.s.ar) : Option (ResT tab slices_ContainsFunc_int_int_areAll_int_1_PackOf_1.s.rs) := slices_ContainsFunc_int_int_areAll_int_1_PackOf_1 x.1 x.2
noncomputable abbrev slices_ContainsFunc_int_int_areAll_int_1_PackOf_1.k {δ : Type} : Callee (GT tab) δ := kS slices_ContainsFunc_int_int_areAll_int_1_PackOf_1.s slices_ContainsFunc_int_int_areAll_int_1_PackOf_1.fn
theorem slices_ContainsFunc_int_int_areAll_int_1_PackOf_1.con {δ : Type} : Con Tryz.prog (KT tab) 127 (slices_ContainsFunc_int_int_areAll_int_1_PackOf_1.k (δ := δ)) := con_shape (c := slices_ContainsFunc_int_int_areAll_int_1_PackOf_1.c) mixed tysOk (getG_con (slices_ContainsFunc_int_int_areAll_int_1_PackOf_1.gok _)) slices_ContainsFunc_int_int_areAll_int_1_PackOf_1.fok rfl rfl fun _ => rfl
theorem slices_ContainsFunc_int_int_areAll_int_1_PackOf_1.eq (x0 : List Int) (x1 : Int) : slices_ContainsFunc_int_int_areAll_int_1_PackOf_1 x0 x1 =
    (slices_IndexFunc_int_int_areAll_int_1_PackOf_1 x0 x1).bind fun y1 =>
    some (decide (y1 ≥ (0 : Int))) := by kernel_rfl

noncomputable abbrev impl_areAll_int_PackOf_1.s : Sg := ⟨[.lend, .lend], [vl 3, .one (.fn 117 [.ptr false 3 [.b (.b (.int .i64))]])], ⟨[vb], [none, none]⟩, Tryz.f109⟩
noncomputable def impl_areAll_int_PackOf_1.gs (δ : Type) : List (Nat × Callee (GT tab) δ) := [(127, slices_ContainsFunc_int_int_areAll_int_1_PackOf_1.k)]
theorem impl_areAll_int_PackOf_1.gok (δ : Type) : AllCon Tryz.prog tab (impl_areAll_int_PackOf_1.gs δ) := .cons slices_ContainsFunc_int_int_areAll_int_1_PackOf_1.con .nil
noncomputable def impl_areAll_int_PackOf_1.c := cx impl_areAll_int_PackOf_1.s [] [] false (impl_areAll_int_PackOf_1.gs _)
noncomputable def impl_areAll_int_PackOf_1 (x0 : List Int) (x1 : Int) : Option (Bool) := fnW impl_areAll_int_PackOf_1.s impl_areAll_int_PackOf_1.c (x0, x1)
theorem impl_areAll_int_PackOf_1.fok : FkS impl_areAll_int_PackOf_1.s 109 := ⟨Tryz.func109, by kernel_rfl, by kernel_rfl⟩
noncomputable def impl_areAll_int_PackOf_1.fn (x : Args tab impl_areAll_int_PackOf_1.s.ar) : Option (ResT tab impl_areAll_int_PackOf_1.s.rs) := impl_areAll_int_PackOf_1 x.1 x.2
noncomputable abbrev impl_areAll_int_PackOf_1.k {δ : Type} : Callee (GT tab) δ := kS impl_areAll_int_PackOf_1.s impl_areAll_int_PackOf_1.fn
theorem impl_areAll_int_PackOf_1.con {δ : Type} : Con Tryz.prog (KT tab) 109 (impl_areAll_int_PackOf_1.k (δ := δ)) := con_shape (c := impl_areAll_int_PackOf_1.c) mixed tysOk (getG_con (impl_areAll_int_PackOf_1.gok _)) impl_areAll_int_PackOf_1.fok rfl rfl fun _ => rfl
theorem impl_areAll_int_PackOf_1.eq (x0 : List Int) (x1 : Int) : impl_areAll_int_PackOf_1 x0 x1 =
    (slices_ContainsFunc_int_int_areAll_int_1_PackOf_1 x0 x1).bind fun y1 =>
    some (!y1) := by kernel_rfl

end Go.Ev.W
