/- What functions of the program come to. -/
import Derived.Test.YtcinoldiilbhmaaGreatPdT
import Derived.Test.YtcinoldiilbhmaaGreatEvGrow
import Derived.Test.YtcinoldiilbhmaaGreatPd1
import Derived.Test.YtcinoldiilbhmaaGreatPd5
import Derived.Test.YtcinoldiilbhmaaGreatPdL
namespace Go.Ev.W
open Go.Ev Go.Proofs
set_option maxRecDepth 100000
set_option linter.unusedVariables false

noncomputable abbrev spec_VarOf.s : Sg := ⟨[.lend], [vi], ⟨[vo 5], [none]⟩, Tryz.f105⟩
noncomputable def spec_VarOf.gs (δ : Type) : List (Nat × Callee (GT tab) δ) := []
theorem spec_VarOf.gok (δ : Type) : AllCon Tryz.prog tab (spec_VarOf.gs δ) := .nil
noncomputable def spec_VarOf.c := cx spec_VarOf.s [3] [(3, [0]), (4, [0, 3])] false (spec_VarOf.gs _)
noncomputable def spec_VarOf (x0 : Int) : Option (List Int) := fnW spec_VarOf.s spec_VarOf.c x0
theorem spec_VarOf.fok : FkS spec_VarOf.s 105 := ⟨Tryz.func105, by kernel_rfl, by kernel_rfl⟩
noncomputable def spec_VarOf.fn (x : Args tab spec_VarOf.s.ar) : Option (ResT tab spec_VarOf.s.rs) := spec_VarOf x
noncomputable abbrev spec_VarOf.k {δ : Type} : Callee (GT tab) δ := kS spec_VarOf.s spec_VarOf.fn
theorem spec_VarOf.con {δ : Type} : Con Tryz.prog (KT tab) 105 (spec_VarOf.k (δ := δ)) := con_shape (c := spec_VarOf.c) mixed tysOk (getG_con (spec_VarOf.gok _)) spec_VarOf.fok rfl rfl fun _ => rfl
noncomputable def spec_VarOf_l0 (v0 : Int) : Option (List Int) := lpW spec_VarOf.s spec_VarOf.c 0 (ud 26 [.int .i64 v0]) [] 0
noncomputable def spec_VarOf_l1 (v0 : Int) (v1 : List Int) : Option (List Int) := lpW spec_VarOf.s spec_VarOf.c 1 (ud 23 [.int .i64 v0, .undef, .undef, .sl 0 0]) [.row 0 true 5 v1] 1
theorem spec_VarOf.eq (x0 : Int) : spec_VarOf x0 =
    bif decide (x0 < (0 : Int)) then
      some ([] : List Int)
    else
      bif decide (x0 > (4294967295 : Int)) then
        some ([] : List Int)
      else
        spec_VarOf_l0 x0 := by kernel_rfl
theorem spec_VarOf_l0.eq (v0 : Int) : spec_VarOf_l0 v0 =
    spec_VarOf_l1 v0 ([] : List Int) := (Lw_eq tysOk (getG_con (spec_VarOf.gok _)) _ _).trans (by kernel_rfl)
theorem spec_VarOf_l1.eq (v0 : Int) (v1 : List Int) : spec_VarOf_l1 v0 v1 =
    bif decide (v0 ≥ (128 : Int)) then
      bif decide ((v1.length + ([IntKind.u8.wrap (IntKind.i64.wrap ((128 : Int) + (v0.tmod (128 : Int))))] : List Int).length) * 1 ≤ 140737488355328) then
        spec_VarOf_l1 (IntKind.i64.wrap (v0.tdiv (128 : Int))) (v1 ++ ([IntKind.u8.wrap (IntKind.i64.wrap ((128 : Int) + (v0.tmod (128 : Int))))] : List Int))
      else
        none
    else
      bif decide ((v1.length + ([IntKind.u8.wrap v0] : List Int).length) * 1 ≤ 140737488355328) then
        some (v1 ++ ([IntKind.u8.wrap v0] : List Int))
      else
        none := (Lw_eq tysOk (getG_con (spec_VarOf.gok _)) _ _).trans (by kernel_rfl)

noncomputable abbrev spec_Crc.s : Sg := ⟨[.lend], [vl 5], ⟨[vi], [none]⟩, Tryz.f164⟩
noncomputable def spec_Crc.gs (δ : Type) : List (Nat × Callee (GT tab) δ) := []
theorem spec_Crc.gok (δ : Type) : AllCon Tryz.prog tab (spec_Crc.gs δ) := .nil
noncomputable def spec_Crc.c := cx spec_Crc.s [] [(5, [0, 3, 4]), (9, [0, 3, 4, 5])] false (spec_Crc.gs _)
noncomputable def spec_Crc (x0 : List Int) : Option (Int) := fnW spec_Crc.s spec_Crc.c x0
theorem spec_Crc.fok : FkS spec_Crc.s 164 := ⟨Tryz.func164, by kernel_rfl, by kernel_rfl⟩
noncomputable def spec_Crc.fn (x : Args tab spec_Crc.s.ar) : Option (ResT tab spec_Crc.s.rs) := spec_Crc x
noncomputable abbrev spec_Crc.k {δ : Type} : Callee (GT tab) δ := kS spec_Crc.s spec_Crc.fn
theorem spec_Crc.con {δ : Type} : Con Tryz.prog (KT tab) 164 (spec_Crc.k (δ := δ)) := con_shape (c := spec_Crc.c) mixed tysOk (getG_con (spec_Crc.gok _)) spec_Crc.fok rfl rfl fun _ => rfl
noncomputable def spec_Crc_l0 (v0 : List Int) (v1 v2 : Int) : Option (Int) := lpW spec_Crc.s spec_Crc.c 0 (ud 32 [.vs false 5 v0, .undef, .undef, .int .i64 v1, .int .i64 v2]) [] 0
noncomputable def spec_Crc_l1 (v0 : List Int) (v1 v2 v3 : Int) : Option (Int) := lpW spec_Crc.s spec_Crc.c 1 (ud 31 [.vs false 5 v0, .undef, .undef, .int .i64 v1, .int .i64 v2, .int .i64 v3]) [] 0
theorem spec_Crc.eq (x0 : List Int) : spec_Crc x0 =
    bif decide ((x0.length : Int) > (16000 : Int)) then
      some (-1 : Int)
    else
      spec_Crc_l0 x0 (4294967295 : Int) (0 : Int) := by kernel_rfl
theorem spec_Crc_l0.eq (v0 : List Int) (v1 v2 : Int) : spec_Crc_l0 v0 v1 v2 =
    bif decide (v2 < (v0.length : Int)) then
      (at? v0 v2).bind fun y1 =>
      spec_Crc_l1 v0 (IntKind.i64.wrap (((BitVec.ofInt 64 v1) ^^^ (BitVec.ofInt 64 (IntKind.i64.wrap y1))).toNat : Int)) v2 (0 : Int)
    else
      some (IntKind.i64.wrap (((BitVec.ofInt 64 v1) ^^^ (BitVec.ofInt 64 (4294967295 : Int))).toNat : Int)) := (Lw_eq tysOk (getG_con (spec_Crc.gok _)) _ _).trans (by kernel_rfl)
theorem spec_Crc_l1.eq (v0 : List Int) (v1 v2 v3 : Int) : spec_Crc_l1 v0 v1 v2 v3 =
    bif decide (v3 < (8 : Int)) then
      bif v1.tmod (2 : Int) == (1 : Int) then
        spec_Crc_l1 v0 (IntKind.i64.wrap (((BitVec.ofInt 64 (IntKind.i64.wrap (v1.tdiv (2 : Int)))) ^^^ (BitVec.ofInt 64 (3988292384 : Int))).toNat : Int)) v2 (IntKind.i64.wrap (v3 + (1 : Int)))
      else
        spec_Crc_l1 v0 (IntKind.i64.wrap (v1.tdiv (2 : Int))) v2 (IntKind.i64.wrap (v3 + (1 : Int)))
    else
      spec_Crc_l0 v0 v1 (IntKind.i64.wrap (v2 + (1 : Int))) := (Lw_eq tysOk (getG_con (spec_Crc.gok _)) _ _).trans (by kernel_rfl)

noncomputable abbrev spec_l04Four.s : Sg := ⟨[.lend], [vi], ⟨[vo 5], [none]⟩, Tryz.f163⟩
noncomputable def spec_l04Four.gs (δ : Type) : List (Nat × Callee (GT tab) δ) := []
theorem spec_l04Four.gok (δ : Type) : AllCon Tryz.prog tab (spec_l04Four.gs δ) := .nil
noncomputable def spec_l04Four.c := cx spec_l04Four.s [] [] false (spec_l04Four.gs _)
noncomputable def spec_l04Four (x0 : Int) : Option (List Int) := fnW spec_l04Four.s spec_l04Four.c x0
theorem spec_l04Four.fok : FkS spec_l04Four.s 163 := ⟨Tryz.func163, by kernel_rfl, by kernel_rfl⟩
noncomputable def spec_l04Four.fn (x : Args tab spec_l04Four.s.ar) : Option (ResT tab spec_l04Four.s.rs) := spec_l04Four x
noncomputable abbrev spec_l04Four.k {δ : Type} : Callee (GT tab) δ := kS spec_l04Four.s spec_l04Four.fn
theorem spec_l04Four.con {δ : Type} : Con Tryz.prog (KT tab) 163 (spec_l04Four.k (δ := δ)) := con_shape (c := spec_l04Four.c) mixed tysOk (getG_con (spec_l04Four.gok _)) spec_l04Four.fok rfl rfl fun _ => rfl
theorem spec_l04Four.eq (x0 : Int) : spec_l04Four x0 =
    some ([IntKind.u8.wrap (x0.tmod (256 : Int)), IntKind.u8.wrap ((IntKind.i64.wrap (x0.tdiv (256 : Int))).tmod (256 : Int)), IntKind.u8.wrap ((IntKind.i64.wrap (x0.tdiv (65536 : Int))).tmod (256 : Int)), IntKind.u8.wrap ((IntKind.i64.wrap (x0.tdiv (16777216 : Int))).tmod (256 : Int))] : List Int) := by kernel_rfl

noncomputable abbrev spec_l16Print.s : Sg := ⟨[.lend], [.agg [.int .i64, .int .i64, .int .i64, .sl false false 3, .sl false false 41, .sl false false 3, .int .i64, .sl false false 157, .int .i64, .int .i64, .int .i64, .sl false false 157, .int .i64, .int .i64, .int .i64, .sl false false 157]], ⟨[vo 5], [none]⟩, Tryz.f104⟩
noncomputable def spec_l16Print.gs (δ : Type) : List (Nat × Callee (GT tab) δ) := [(105, spec_VarOf.k), (114, spec_l09Text.k), (163, spec_l04Four.k), (164, spec_Crc.k)]
theorem spec_l16Print.gok (δ : Type) : AllCon Tryz.prog tab (spec_l16Print.gs δ) := .cons spec_VarOf.con (.cons spec_l09Text.con (.cons spec_l04Four.con (.cons spec_Crc.con .nil)))
noncomputable def spec_l16Print.c := cx spec_l16Print.s [] [] false (spec_l16Print.gs _)
noncomputable def spec_l16Print (x0 : Int × Int × Int × (List Int) × (List (Int × (List Int))) × (List Int) × Int × (List Int) × Int × Int × Int × (List Int) × Int × Int × Int × (List Int)) : Option (List Int) := fnW spec_l16Print.s spec_l16Print.c x0
theorem spec_l16Print.fok : FkS spec_l16Print.s 104 := ⟨Tryz.func104, by kernel_rfl, by kernel_rfl⟩
noncomputable def spec_l16Print.fn (x : Args tab spec_l16Print.s.ar) : Option (ResT tab spec_l16Print.s.rs) := spec_l16Print x
noncomputable abbrev spec_l16Print.k {δ : Type} : Callee (GT tab) δ := kS spec_l16Print.s spec_l16Print.fn
theorem spec_l16Print.con {δ : Type} : Con Tryz.prog (KT tab) 104 (spec_l16Print.k (δ := δ)) := con_shape (c := spec_l16Print.c) mixed tysOk (getG_con (spec_l16Print.gok _)) spec_l16Print.fok rfl rfl fun _ => rfl
theorem spec_l16Print.eq (x0 : Int × Int × Int × (List Int) × (List (Int × (List Int))) × (List Int) × Int × (List Int) × Int × Int × Int × (List Int) × Int × Int × Int × (List Int)) : spec_l16Print x0 =
    (spec_l09Text x0).bind fun y1 =>
    (spec_VarOf (y1.1.length : Int)).bind fun y2 =>
    (spec_Crc y1.1).bind fun y3 =>
    (spec_l04Four y3).bind fun y4 =>
    bif decide ((y2.length + y4.length) * 1 ≤ 140737488355328) then
      some (y2 ++ y4)
    else
      none := by kernel_rfl

noncomputable abbrev spec_BitsBytes.s : Sg := ⟨[.lend], [.agg [.int .i64, .sl false false 157]], ⟨[vo 5], [none]⟩, Tryz.f106⟩
noncomputable def spec_BitsBytes.gs (δ : Type) : List (Nat × Callee (GT tab) δ) := [(105, spec_VarOf.k), (117, spec_BitsOk.k), (124, spec_l01List.k)]
theorem spec_BitsBytes.gok (δ : Type) : AllCon Tryz.prog tab (spec_BitsBytes.gs δ) := .cons spec_VarOf.con (.cons spec_BitsOk.con (.cons spec_l01List.con .nil))
noncomputable def spec_BitsBytes.c := cx spec_BitsBytes.s [] [(6, [3, 4, 5]), (10, [3, 4, 5, 6, 7])] false (spec_BitsBytes.gs _)
noncomputable def spec_BitsBytes (x0 : Int × (List Int)) : Option (List Int) := fnW spec_BitsBytes.s spec_BitsBytes.c x0
theorem spec_BitsBytes.fok : FkS spec_BitsBytes.s 106 := ⟨Tryz.func106, by kernel_rfl, by kernel_rfl⟩
noncomputable def spec_BitsBytes.fn (x : Args tab spec_BitsBytes.s.ar) : Option (ResT tab spec_BitsBytes.s.rs) := spec_BitsBytes x
noncomputable abbrev spec_BitsBytes.k {δ : Type} : Callee (GT tab) δ := kS spec_BitsBytes.s spec_BitsBytes.fn
theorem spec_BitsBytes.con {δ : Type} : Con Tryz.prog (KT tab) 106 (spec_BitsBytes.k (δ := δ)) := con_shape (c := spec_BitsBytes.c) mixed tysOk (getG_con (spec_BitsBytes.gok _)) spec_BitsBytes.fok rfl rfl fun _ => rfl
noncomputable def spec_BitsBytes_l0 (v0 : Int) (v1 v2 : List Int) : Option (List Int) := lpW spec_BitsBytes.s spec_BitsBytes.c 0 (ud 42 [.undef, .undef, .undef, .sl 0 0, .sl 1 0, .int .i64 v0]) [.row 0 true 5 v1, .row 0 true 3 v2] 2
noncomputable def spec_BitsBytes_l1 (v0 v1 v2 : Int) (v3 v4 : List Int) : Option (List Int) := lpW spec_BitsBytes.s spec_BitsBytes.c 1 (ud 40 [.undef, .undef, .undef, .sl 0 0, .sl 1 0, .int .i64 v0, .int .i64 v1, .int .i64 v2]) [.row 0 true 5 v3, .row 0 true 3 v4] 2
theorem spec_BitsBytes.eq (x0 : Int × (List Int)) : spec_BitsBytes x0 =
    (spec_BitsOk x0).bind fun y1 =>
    bif !y1 then
      some ([] : List Int)
    else
      (spec_VarOf x0.1).bind fun y2 =>
      (spec_l01List x0).bind fun y3 =>
      spec_BitsBytes_l0 (0 : Int) y2 y3 := by kernel_rfl
theorem spec_BitsBytes_l0.eq (v0 : Int) (v1 v2 : List Int) : spec_BitsBytes_l0 v0 v1 v2 =
    bif decide (v0 < (v2.length : Int)) then
      spec_BitsBytes_l1 v0 (0 : Int) (7 : Int) v1 v2
    else
      some v1 := (Lw_eq tysOk (getG_con (spec_BitsBytes.gok _)) _ _).trans (by kernel_rfl)
theorem spec_BitsBytes_l1.eq (v0 v1 v2 : Int) (v3 v4 : List Int) : spec_BitsBytes_l1 v0 v1 v2 v3 v4 =
    bif decide (v2 ≥ (0 : Int)) then
      bif decide (IntKind.i64.wrap (v0 + v2) < (v4.length : Int)) then
        (at? v4 (IntKind.i64.wrap (v0 + v2))).bind fun y1 =>
        v4[(IntKind.i64.wrap (v0 + v2)).toNat]?.bind fun y2 =>
        spec_BitsBytes_l1 v0 (IntKind.i64.wrap ((IntKind.i64.wrap ((2 : Int) * v1)) + y2)) (IntKind.i64.wrap (v2 - (1 : Int))) v3 v4
      else
        spec_BitsBytes_l1 v0 (IntKind.i64.wrap ((2 : Int) * v1)) (IntKind.i64.wrap (v2 - (1 : Int))) v3 v4
    else
      bif decide ((v3.length + ([IntKind.u8.wrap v1] : List Int).length) * 1 ≤ 140737488355328) then
        spec_BitsBytes_l0 (IntKind.i64.wrap (v0 + (8 : Int))) (v3 ++ ([IntKind.u8.wrap v1] : List Int)) v4
      else
        none := (Lw_eq tysOk (getG_con (spec_BitsBytes.gok _)) _ _).trans (by kernel_rfl)

noncomputable abbrev spec_WaveBytes.s : Sg := ⟨[.lend], [.agg [.int .i64, .sl false false 3, .sl false false 41]], ⟨[vo 5], [none]⟩, Tryz.f107⟩
noncomputable def spec_WaveBytes.gs (δ : Type) : List (Nat × Callee (GT tab) δ) := [(106, spec_BitsBytes.k), (116, spec_WaveOk.k)]
theorem spec_WaveBytes.gok (δ : Type) : AllCon Tryz.prog tab (spec_WaveBytes.gs δ) := .cons spec_BitsBytes.con (.cons spec_WaveOk.con .nil)
noncomputable def spec_WaveBytes.c := cx spec_WaveBytes.s [] [(5, [1, 3, 4])] false (spec_WaveBytes.gs _)
noncomputable def spec_WaveBytes (x0 : Int × (List Int) × (List (Int × (List Int)))) : Option (List Int) := fnW spec_WaveBytes.s spec_WaveBytes.c x0
theorem spec_WaveBytes.fok : FkS spec_WaveBytes.s 107 := ⟨Tryz.func107, by kernel_rfl, by kernel_rfl⟩
noncomputable def spec_WaveBytes.fn (x : Args tab spec_WaveBytes.s.ar) : Option (ResT tab spec_WaveBytes.s.rs) := spec_WaveBytes x
noncomputable abbrev spec_WaveBytes.k {δ : Type} : Callee (GT tab) δ := kS spec_WaveBytes.s spec_WaveBytes.fn
theorem spec_WaveBytes.con {δ : Type} : Con Tryz.prog (KT tab) 107 (spec_WaveBytes.k (δ := δ)) := con_shape (c := spec_WaveBytes.c) mixed tysOk (getG_con (spec_WaveBytes.gok _)) spec_WaveBytes.fok rfl rfl fun _ => rfl
noncomputable def spec_WaveBytes_l0 (v0 v1 : Int) (v2 : List Int) (v3 : List (Int × (List Int))) (v4 : List Int) : Option (List Int) := lpW spec_WaveBytes.s spec_WaveBytes.c 0 (ud 17 [.undef, .ptr 0 0, .undef, .sl 1 0, .int .i64 v0]) [.box 40 [.int .i64 v1, .vs false 3 v2, .vs false 41 v3], .row 0 true 5 v4] 2
theorem spec_WaveBytes.eq (x0 : Int × (List Int) × (List (Int × (List Int)))) : spec_WaveBytes x0 =
    (spec_WaveOk x0).bind fun y1 =>
    bif !y1 then
      some ([] : List Int)
    else
      spec_WaveBytes_l0 (0 : Int) x0.1 x0.2.1 x0.2.2 ([] : List Int) := by kernel_rfl
theorem spec_WaveBytes_l0.eq (v0 v1 : Int) (v2 : List Int) (v3 : List (Int × (List Int))) (v4 : List Int) : spec_WaveBytes_l0 v0 v1 v2 v3 v4 =
    bif decide (v0 < (9 : Int)) then
      (at? v3 v0).bind fun y1 =>
      (spec_BitsBytes y1).bind fun y2 =>
      bif decide ((v4.length + y2.length) * 1 ≤ 140737488355328) then
        spec_WaveBytes_l0 (IntKind.i64.wrap (v0 + (1 : Int))) v1 v2 v3 (v4 ++ y2)
      else
        none
    else
      some v4 := (Lw_eq tysOk (getG_con (spec_WaveBytes.gok _)) _ _).trans (by kernel_rfl)

noncomputable abbrev spec_PackOk.s : Sg := ⟨[.lend], [.agg [.int .i64, .int .i64, .int .i64, .sl false false 157]], ⟨[vb], [none]⟩, Tryz.f212⟩
noncomputable def spec_PackOk.gs (δ : Type) : List (Nat × Callee (GT tab) δ) := [(117, spec_BitsOk.k)]
theorem spec_PackOk.gok (δ : Type) : AllCon Tryz.prog tab (spec_PackOk.gs δ) := .cons spec_BitsOk.con .nil
noncomputable def spec_PackOk.c := cx spec_PackOk.s [] [] false (spec_PackOk.gs _)
noncomputable def spec_PackOk (x0 : Int × Int × Int × (List Int)) : Option (Bool) := fnW spec_PackOk.s spec_PackOk.c x0
theorem spec_PackOk.fok : FkS spec_PackOk.s 212 := ⟨Tryz.func212, by kernel_rfl, by kernel_rfl⟩
noncomputable def spec_PackOk.fn (x : Args tab spec_PackOk.s.ar) : Option (ResT tab spec_PackOk.s.rs) := spec_PackOk x
noncomputable abbrev spec_PackOk.k {δ : Type} : Callee (GT tab) δ := kS spec_PackOk.s spec_PackOk.fn
theorem spec_PackOk.con {δ : Type} : Con Tryz.prog (KT tab) 212 (spec_PackOk.k (δ := δ)) := con_shape (c := spec_PackOk.c) mixed tysOk (getG_con (spec_PackOk.gok _)) spec_PackOk.fok rfl rfl fun _ => rfl
theorem spec_PackOk.eq (x0 : Int × Int × Int × (List Int)) : spec_PackOk x0 =
    bif decide (x0.1 ≥ (0 : Int)) then
      bif decide (x0.1 ≤ (32 : Int)) then
        bif decide (x0.2.1 ≥ (0 : Int)) then
          bif decide (x0.2.1 ≤ (5000 : Int)) then
            (spec_BitsOk x0.2.2).bind fun y1 =>
            bif y1 then
              some (x0.2.2.1 == IntKind.i64.wrap (x0.1 * x0.2.1))
            else
              some false
          else
            some false
        else
          some false
      else
        some false
    else
      some false := by kernel_rfl

noncomputable abbrev spec_PackBytes.s : Sg := ⟨[.lend], [.agg [.int .i64, .int .i64, .int .i64, .sl false false 157]], ⟨[vo 5], [none]⟩, Tryz.f166⟩
noncomputable def spec_PackBytes.gs (δ : Type) : List (Nat × Callee (GT tab) δ) := [(105, spec_VarOf.k), (106, spec_BitsBytes.k), (212, spec_PackOk.k)]
theorem spec_PackBytes.gok (δ : Type) : AllCon Tryz.prog tab (spec_PackBytes.gs δ) := .cons spec_VarOf.con (.cons spec_BitsBytes.con (.cons spec_PackOk.con .nil))
noncomputable def spec_PackBytes.c := cx spec_PackBytes.s [] [] false (spec_PackBytes.gs _)
noncomputable def spec_PackBytes (x0 : Int × Int × Int × (List Int)) : Option (List Int) := fnW spec_PackBytes.s spec_PackBytes.c x0
theorem spec_PackBytes.fok : FkS spec_PackBytes.s 166 := ⟨Tryz.func166, by kernel_rfl, by kernel_rfl⟩
noncomputable def spec_PackBytes.fn (x : Args tab spec_PackBytes.s.ar) : Option (ResT tab spec_PackBytes.s.rs) := spec_PackBytes x
noncomputable abbrev spec_PackBytes.k {δ : Type} : Callee (GT tab) δ := kS spec_PackBytes.s spec_PackBytes.fn
theorem spec_PackBytes.con {δ : Type} : Con Tryz.prog (KT tab) 166 (spec_PackBytes.k (δ := δ)) := con_shape (c := spec_PackBytes.c) mixed tysOk (getG_con (spec_PackBytes.gok _)) spec_PackBytes.fok rfl rfl fun _ => rfl
theorem spec_PackBytes.eq (x0 : Int × Int × Int × (List Int)) : spec_PackBytes x0 =
    (spec_PackOk x0).bind fun y1 =>
    bif !y1 then
      some ([] : List Int)
    else
      (spec_VarOf x0.1).bind fun y2 =>
      (spec_VarOf x0.2.1).bind fun y3 =>
      bif decide ((y2.length + y3.length) * 1 ≤ 140737488355328) then
        (spec_BitsBytes x0.2.2).bind fun y4 =>
        bif decide (((y2 ++ y3).length + y4.length) * 1 ≤ 140737488355328) then
          some ((y2 ++ y3) ++ y4)
        else
          none
      else
        none := by kernel_rfl

noncomputable abbrev spec_l16Ends.s : Sg := ⟨[.lend, .lend, .lend], [.agg [.int .i64, .sl false false 157], .agg [.int .i64, .int .i64, .int .i64, .sl false false 157], .agg [.int .i64, .int .i64, .int .i64, .sl false false 157]], ⟨[vo 5], [none, none, none]⟩, Tryz.f109⟩
noncomputable def spec_l16Ends.gs (δ : Type) : List (Nat × Callee (GT tab) δ) := [(106, spec_BitsBytes.k), (166, spec_PackBytes.k)]
theorem spec_l16Ends.gok (δ : Type) : AllCon Tryz.prog tab (spec_l16Ends.gs δ) := .cons spec_BitsBytes.con (.cons spec_PackBytes.con .nil)
noncomputable def spec_l16Ends.c := cx spec_l16Ends.s [] [] false (spec_l16Ends.gs _)
noncomputable def spec_l16Ends (x0 : Int × (List Int)) (x1 x2 : Int × Int × Int × (List Int)) : Option (List Int) := fnW spec_l16Ends.s spec_l16Ends.c (x0, x1, x2)
theorem spec_l16Ends.fok : FkS spec_l16Ends.s 109 := ⟨Tryz.func109, by kernel_rfl, by kernel_rfl⟩
noncomputable def spec_l16Ends.fn (x : Args tab spec_l16Ends.s.ar) : Option (ResT tab spec_l16Ends.s.rs) := spec_l16Ends x.1 x.2.1 x.2.2
noncomputable abbrev spec_l16Ends.k {δ : Type} : Callee (GT tab) δ := kS spec_l16Ends.s spec_l16Ends.fn
theorem spec_l16Ends.con {δ : Type} : Con Tryz.prog (KT tab) 109 (spec_l16Ends.k (δ := δ)) := con_shape (c := spec_l16Ends.c) mixed tysOk (getG_con (spec_l16Ends.gok _)) spec_l16Ends.fok rfl rfl fun _ => rfl
theorem spec_l16Ends.eq (x0 : Int × (List Int)) (x1 x2 : Int × Int × Int × (List Int)) : spec_l16Ends x0 x1 x2 =
    (spec_BitsBytes x0).bind fun y1 =>
    (spec_PackBytes x1).bind fun y2 =>
    bif decide ((y1.length + y2.length) * 1 ≤ 140737488355328) then
      (spec_PackBytes x2).bind fun y3 =>
      bif decide (((y1 ++ y2).length + y3.length) * 1 ≤ 140737488355328) then
        some ((y1 ++ y2) ++ y3)
      else
        none
    else
      none := by kernel_rfl

noncomputable abbrev spec_FrameOk.s : Sg := ⟨[.lend], [.agg [.int .i64, .sl false false 5]], ⟨[vb], [none]⟩, Tryz.f165⟩
noncomputable def spec_FrameOk.gs (δ : Type) : List (Nat × Callee (GT tab) δ) := []
theorem spec_FrameOk.gok (δ : Type) : AllCon Tryz.prog tab (spec_FrameOk.gs δ) := .nil
noncomputable def spec_FrameOk.c := cx spec_FrameOk.s [] [] false (spec_FrameOk.gs _)
noncomputable def spec_FrameOk (x0 : Int × (List Int)) : Option (Bool) := fnW spec_FrameOk.s spec_FrameOk.c x0
theorem spec_FrameOk.fok : FkS spec_FrameOk.s 165 := ⟨Tryz.func165, by kernel_rfl, by kernel_rfl⟩
noncomputable def spec_FrameOk.fn (x : Args tab spec_FrameOk.s.ar) : Option (ResT tab spec_FrameOk.s.rs) := spec_FrameOk x
noncomputable abbrev spec_FrameOk.k {δ : Type} : Callee (GT tab) δ := kS spec_FrameOk.s spec_FrameOk.fn
theorem spec_FrameOk.con {δ : Type} : Con Tryz.prog (KT tab) 165 (spec_FrameOk.k (δ := δ)) := con_shape (c := spec_FrameOk.c) mixed tysOk (getG_con (spec_FrameOk.gok _)) spec_FrameOk.fok rfl rfl fun _ => rfl
theorem spec_FrameOk.eq (x0 : Int × (List Int)) : spec_FrameOk x0 =
    bif decide (x0.1 ≥ (0 : Int)) then
      bif decide (x0.1 ≤ (255 : Int)) then
        some (decide ((x0.2.length : Int) ≤ (8000 : Int)))
      else
        some false
    else
      some false := by kernel_rfl

noncomputable abbrev spec_FrameOf.s : Sg := ⟨[.lend], [.agg [.int .i64, .sl false false 5]], ⟨[vo 5], [none]⟩, Tryz.f108⟩
noncomputable def spec_FrameOf.gs (δ : Type) : List (Nat × Callee (GT tab) δ) := [(105, spec_VarOf.k), (163, spec_l04Four.k), (164, spec_Crc.k), (165, spec_FrameOk.k)]
theorem spec_FrameOf.gok (δ : Type) : AllCon Tryz.prog tab (spec_FrameOf.gs δ) := .cons spec_VarOf.con (.cons spec_l04Four.con (.cons spec_Crc.con (.cons spec_FrameOk.con .nil)))
noncomputable def spec_FrameOf.c := cx spec_FrameOf.s [] [] false (spec_FrameOf.gs _)
noncomputable def spec_FrameOf (x0 : Int × (List Int)) : Option (List Int) := fnW spec_FrameOf.s spec_FrameOf.c x0
theorem spec_FrameOf.fok : FkS spec_FrameOf.s 108 := ⟨Tryz.func108, by kernel_rfl, by kernel_rfl⟩
noncomputable def spec_FrameOf.fn (x : Args tab spec_FrameOf.s.ar) : Option (ResT tab spec_FrameOf.s.rs) := spec_FrameOf x
noncomputable abbrev spec_FrameOf.k {δ : Type} : Callee (GT tab) δ := kS spec_FrameOf.s spec_FrameOf.fn
theorem spec_FrameOf.con {δ : Type} : Con Tryz.prog (KT tab) 108 (spec_FrameOf.k (δ := δ)) := con_shape (c := spec_FrameOf.c) mixed tysOk (getG_con (spec_FrameOf.gok _)) spec_FrameOf.fok rfl rfl fun _ => rfl
theorem spec_FrameOf.eq (x0 : Int × (List Int)) : spec_FrameOf x0 =
    (spec_FrameOk x0).bind fun y1 =>
    bif !y1 then
      some ([] : List Int)
    else
      (spec_VarOf (x0.2.length : Int)).bind fun y2 =>
      bif decide ((([(90 : Int), IntKind.u8.wrap x0.1] : List Int).length + y2.length) * 1 ≤ 140737488355328) then
        bif decide (((([(90 : Int), IntKind.u8.wrap x0.1] : List Int) ++ y2).length + x0.2.length) * 1 ≤ 140737488355328) then
          (spec_Crc ((([(90 : Int), IntKind.u8.wrap x0.1] : List Int) ++ y2) ++ x0.2)).bind fun y3 =>
          (spec_l04Four y3).bind fun y4 =>
          bif decide ((((([(90 : Int), IntKind.u8.wrap x0.1] : List Int) ++ y2) ++ x0.2).length + y4.length) * 1 ≤ 140737488355328) then
            some (((([(90 : Int), IntKind.u8.wrap x0.1] : List Int) ++ y2) ++ x0.2) ++ y4)
          else
            none
        else
          none
      else
        none := by kernel_rfl

noncomputable abbrev spec_RelBytes.s : Sg := ⟨[.lend, .lend], [.agg [.int .i64, .int .i64, .int .i64, .sl false false 3, .sl false false 41, .sl false false 3, .int .i64, .sl false false 157, .int .i64, .int .i64, .int .i64, .sl false false 157, .int .i64, .int .i64, .int .i64, .sl false false 157], .agg [.int .i64, .int .i64, .int .i64, .sl false false 157, .int .i64, .sl false false 157, .int .i64, .sl false false 3, .sl false false 41, .int .i64, .sl false false 3, .sl false false 41, .sl false false 3, .int .i64, .sl false false 157, .int .i64, .int .i64, .int .i64, .sl false false 157, .int .i64, .int .i64, .int .i64, .sl false false 157]], ⟨[vo 5], [none, none]⟩, Tryz.f55⟩
noncomputable def spec_RelBytes.gs (δ : Type) : List (Nat × Callee (GT tab) δ) := [(73, spec_RelOk.k), (104, spec_l16Print.k), (105, spec_VarOf.k), (106, spec_BitsBytes.k), (107, spec_WaveBytes.k), (108, spec_FrameOf.k), (109, spec_l16Ends.k)]
theorem spec_RelBytes.gok (δ : Type) : AllCon Tryz.prog tab (spec_RelBytes.gs δ) := .cons spec_RelOk.con (.cons spec_l16Print.con (.cons spec_VarOf.con (.cons spec_BitsBytes.con (.cons spec_WaveBytes.con (.cons spec_FrameOf.con (.cons spec_l16Ends.con .nil))))))
noncomputable def spec_RelBytes.c := cx spec_RelBytes.s [] [] false (spec_RelBytes.gs _)
noncomputable def spec_RelBytes (x0 : Int × Int × Int × (List Int) × (List (Int × (List Int))) × (List Int) × Int × (List Int) × Int × Int × Int × (List Int) × Int × Int × Int × (List Int)) (x1 : Int × Int × Int × (List Int) × Int × (List Int) × Int × (List Int) × (List (Int × (List Int))) × Int × (List Int) × (List (Int × (List Int))) × (List Int) × Int × (List Int) × Int × Int × Int × (List Int) × Int × Int × Int × (List Int)) : Option (List Int) := fnW spec_RelBytes.s spec_RelBytes.c (x0, x1)
theorem spec_RelBytes.fok : FkS spec_RelBytes.s 55 := ⟨Tryz.func55, by kernel_rfl, by kernel_rfl⟩
noncomputable def spec_RelBytes.fn (x : Args tab spec_RelBytes.s.ar) : Option (ResT tab spec_RelBytes.s.rs) := spec_RelBytes x.1 x.2
noncomputable abbrev spec_RelBytes.k {δ : Type} : Callee (GT tab) δ := kS spec_RelBytes.s spec_RelBytes.fn
theorem spec_RelBytes.con {δ : Type} : Con Tryz.prog (KT tab) 55 (spec_RelBytes.k (δ := δ)) := con_shape (c := spec_RelBytes.c) mixed tysOk (getG_con (spec_RelBytes.gok _)) spec_RelBytes.fok rfl rfl fun _ => rfl
theorem spec_RelBytes.eq (x0 : Int × Int × Int × (List Int) × (List (Int × (List Int))) × (List Int) × Int × (List Int) × Int × Int × Int × (List Int) × Int × Int × Int × (List Int)) (x1 : Int × Int × Int × (List Int) × Int × (List Int) × Int × (List Int) × (List (Int × (List Int))) × Int × (List Int) × (List (Int × (List Int))) × (List Int) × Int × (List Int) × Int × Int × Int × (List Int) × Int × Int × Int × (List Int)) : spec_RelBytes x0 x1 =
    (spec_RelOk x0 x1).bind fun y1 =>
    bif !y1 then
      some ([] : List Int)
    else
      (spec_l16Print x0).bind fun y2 =>
      (spec_VarOf x1.2.1).bind fun y3 =>
      bif decide ((y2.length + y3.length) * 1 ≤ 140737488355328) then
        (spec_BitsBytes (x1.2.2.1, x1.2.2.2.1)).bind fun y4 =>
        bif decide (((y2 ++ y3).length + y4.length) * 1 ≤ 140737488355328) then
          (spec_BitsBytes (x1.2.2.2.2.1, x1.2.2.2.2.2.1)).bind fun y5 =>
          bif decide ((((y2 ++ y3) ++ y4).length + y5.length) * 1 ≤ 140737488355328) then
            (spec_WaveBytes (x1.2.2.2.2.2.2.1, x1.2.2.2.2.2.2.2.1, x1.2.2.2.2.2.2.2.2.1)).bind fun y6 =>
            bif decide (((((y2 ++ y3) ++ y4) ++ y5).length + y6.length) * 1 ≤ 140737488355328) then
              (spec_WaveBytes (x1.2.2.2.2.2.2.2.2.2.1, x1.2.2.2.2.2.2.2.2.2.2.1, x1.2.2.2.2.2.2.2.2.2.2.2.1)).bind fun y7 =>
              bif decide ((((((y2 ++ y3) ++ y4) ++ y5) ++ y6).length + y7.length) * 1 ≤ 140737488355328) then
                (spec_l16Ends (x1.2.2.2.2.2.2.2.2.2.2.2.2.2.1, x1.2.2.2.2.2.2.2.2.2.2.2.2.2.2.1) (x1.2.2.2.2.2.2.2.2.2.2.2.2.2.2.2.1, x1.2.2.2.2.2.2.2.2.2.2.2.2.2.2.2.2.1, x1.2.2.2.2.2.2.2.2.2.2.2.2.2.2.2.2.2.1, x1.2.2.2.2.2.2.2.2.2.2.2.2.2.2.2.2.2.2.1) x1.2.2.2.2.2.2.2.2.2.2.2.2.2.2.2.2.2.2.2).bind fun y8 =>
                bif decide (((((((y2 ++ y3) ++ y4) ++ y5) ++ y6) ++ y7).length + y8.length) * 1 ≤ 140737488355328) then
                  (spec_FrameOf ((2 : Int), (((((y2 ++ y3) ++ y4) ++ y5) ++ y6) ++ y7) ++ y8)).bind fun y9 =>
                  some y9
                else
                  none
              else
                none
            else
              none
          else
            none
        else
          none
      else
        none := by kernel_rfl

noncomputable abbrev impl_FmText.s : Sg := ⟨[.lend], [.agg [.int .i64, .int .i64, .int .i64, .sl false false 3, .sl false false 41, .sl false false 3, .int .i64, .sl false false 157, .int .i64, .int .i64, .int .i64, .sl false false 157, .int .i64, .int .i64, .int .i64, .sl false false 157]], ⟨[vo 5], [none]⟩, Tryz.f111⟩
noncomputable def impl_FmText.gs (δ : Type) : List (Nat × Callee (GT tab) δ) := [(132, impl_Fm_read.k)]
theorem impl_FmText.gok (δ : Type) : AllCon Tryz.prog tab (impl_FmText.gs δ) := .cons impl_Fm_read.con .nil
noncomputable def impl_FmText.c := cx impl_FmText.s [] [] false (impl_FmText.gs _)
noncomputable def impl_FmText (x0 : Int × Int × Int × (List Int) × (List (Int × (List Int))) × (List Int) × Int × (List Int) × Int × Int × Int × (List Int) × Int × Int × Int × (List Int)) : Option (List Int) := fnW impl_FmText.s impl_FmText.c x0
theorem impl_FmText.fok : FkS impl_FmText.s 111 := ⟨Tryz.func111, by kernel_rfl, by kernel_rfl⟩
noncomputable def impl_FmText.fn (x : Args tab impl_FmText.s.ar) : Option (ResT tab impl_FmText.s.rs) := impl_FmText x
noncomputable abbrev impl_FmText.k {δ : Type} : Callee (GT tab) δ := kS impl_FmText.s impl_FmText.fn
theorem impl_FmText.con {δ : Type} : Con Tryz.prog (KT tab) 111 (impl_FmText.k (δ := δ)) := con_shape (c := impl_FmText.c) mixed tysOk (getG_con (impl_FmText.gok _)) impl_FmText.fok rfl rfl fun _ => rfl
theorem impl_FmText.eq (x0 : Int × Int × Int × (List Int) × (List (Int × (List Int))) × (List Int) × Int × (List Int) × Int × Int × Int × (List Int) × Int × Int × Int × (List Int)) : impl_FmText x0 =
    (impl_Fm_read x0).bind fun y1 =>
    bif !y1.2 then
      some ([] : List Int)
    else
      some y1.1 := by kernel_rfl

noncomputable abbrev impl_VarOf.s : Sg := ⟨[.lend], [vi], ⟨[vo 5], [none]⟩, Tryz.f169⟩
noncomputable def impl_VarOf.gs (δ : Type) : List (Nat × Callee (GT tab) δ) := [(68, impl_within.k)]
theorem impl_VarOf.gok (δ : Type) : AllCon Tryz.prog tab (impl_VarOf.gs δ) := .cons impl_within.con .nil
noncomputable def impl_VarOf.c := cx impl_VarOf.s [] [(4, [0, 3])] false (impl_VarOf.gs _)
noncomputable def impl_VarOf (x0 : Int) : Option (List Int) := fnW impl_VarOf.s impl_VarOf.c x0
theorem impl_VarOf.fok : FkS impl_VarOf.s 169 := ⟨Tryz.func169, by kernel_rfl, by kernel_rfl⟩
noncomputable def impl_VarOf.fn (x : Args tab impl_VarOf.s.ar) : Option (ResT tab impl_VarOf.s.rs) := impl_VarOf x
noncomputable abbrev impl_VarOf.k {δ : Type} : Callee (GT tab) δ := kS impl_VarOf.s impl_VarOf.fn
theorem impl_VarOf.con {δ : Type} : Con Tryz.prog (KT tab) 169 (impl_VarOf.k (δ := δ)) := con_shape (c := impl_VarOf.c) mixed tysOk (getG_con (impl_VarOf.gok _)) impl_VarOf.fok rfl rfl fun _ => rfl
noncomputable def impl_VarOf_l0 (v0 : Int) (v1 : List Int) : Option (List Int) := lpW impl_VarOf.s impl_VarOf.c 0 (ud 19 [.int .i64 v0, .undef, .undef, .sl 0 0]) [.row 0 true 5 v1] 1
theorem impl_VarOf.eq (x0 : Int) : impl_VarOf x0 =
    (impl_within x0 (0 : Int) (4294967295 : Int)).bind fun y1 =>
    bif !y1 then
      some ([] : List Int)
    else
      impl_VarOf_l0 x0 ([] : List Int) := by kernel_rfl
theorem impl_VarOf_l0.eq (v0 : Int) (v1 : List Int) : impl_VarOf_l0 v0 v1 =
    bif decide (v0 ≥ (128 : Int)) then
      bif decide ((v1.length + ([IntKind.u8.wrap (IntKind.i64.wrap (((BitVec.ofInt 64 (IntKind.i64.wrap (((BitVec.ofInt 64 v0) &&& (BitVec.ofInt 64 (127 : Int))).toNat : Int))) ||| (BitVec.ofInt 64 (128 : Int))).toNat : Int))] : List Int).length) * 1 ≤ 140737488355328) then
        impl_VarOf_l0 (v0.fdiv (2 ^ 7)) (v1 ++ ([IntKind.u8.wrap (IntKind.i64.wrap (((BitVec.ofInt 64 (IntKind.i64.wrap (((BitVec.ofInt 64 v0) &&& (BitVec.ofInt 64 (127 : Int))).toNat : Int))) ||| (BitVec.ofInt 64 (128 : Int))).toNat : Int))] : List Int))
      else
        none
    else
      bif decide ((v1.length + ([IntKind.u8.wrap v0] : List Int).length) * 1 ≤ 140737488355328) then
        some (v1 ++ ([IntKind.u8.wrap v0] : List Int))
      else
        none := (Lw_eq tysOk (getG_con (impl_VarOf.gok _)) _ _).trans (by kernel_rfl)

noncomputable abbrev impl_crc.s : Sg := ⟨[.lend], [vl 5], ⟨[vi], [none]⟩, Tryz.f214⟩
noncomputable def impl_crc.gs (δ : Type) : List (Nat × Callee (GT tab) δ) := []
theorem impl_crc.gok (δ : Type) : AllCon Tryz.prog tab (impl_crc.gs δ) := .nil
noncomputable def impl_crc.c := cx impl_crc.s [] [(3, [3, 6, 7, 8]), (7, [3, 6, 7, 8, 16])] false (impl_crc.gs _)
noncomputable def impl_crc (x0 : List Int) : Option (Int) := fnW impl_crc.s impl_crc.c x0
theorem impl_crc.fok : FkS impl_crc.s 214 := ⟨Tryz.func214, by kernel_rfl, by kernel_rfl⟩
noncomputable def impl_crc.fn (x : Args tab impl_crc.s.ar) : Option (ResT tab impl_crc.s.rs) := impl_crc x
noncomputable abbrev impl_crc.k {δ : Type} : Callee (GT tab) δ := kS impl_crc.s impl_crc.fn
theorem impl_crc.con {δ : Type} : Con Tryz.prog (KT tab) 214 (impl_crc.k (δ := δ)) := con_shape (c := impl_crc.c) mixed tysOk (getG_con (impl_crc.gok _)) impl_crc.fok rfl rfl fun _ => rfl
noncomputable def impl_crc_l0 (v0 : Int) (v1 : List Int) (v2 v3 : Int) : Option (Int) := lpW impl_crc.s impl_crc.c 0 (ud 20 [.undef, .undef, .undef, .int .u32 v0, .undef, .undef, .vs false 5 v1, .int .i64 v2, .int .i64 v3]) [] 0
noncomputable def impl_crc_l1 (v0 : Int) (v1 : List Int) (v2 v3 v4 : Int) : Option (Int) := lpW impl_crc.s impl_crc.c 1 (ud 12 [.undef, .undef, .undef, .int .u32 v0, .undef, .undef, .vs false 5 v1, .int .i64 v2, .int .i64 v3, .undef, .undef, .undef, .undef, .undef, .undef, .undef, .int .i64 v4]) [] 0
theorem impl_crc.eq (x0 : List Int) : impl_crc x0 =
    impl_crc_l0 (4294967295 : Int) x0 (x0.length : Int) (0 : Int) := by kernel_rfl
theorem impl_crc_l0.eq (v0 : Int) (v1 : List Int) (v2 v3 : Int) : impl_crc_l0 v0 v1 v2 v3 =
    bif decide (v3 < v2) then
      (at? v1 v3).bind fun y1 =>
      impl_crc_l1 (IntKind.u32.wrap (((BitVec.ofInt 32 v0) ^^^ (BitVec.ofInt 32 (IntKind.u32.wrap y1))).toNat : Int)) v1 v2 v3 (0 : Int)
    else
      some (IntKind.i64.wrap (IntKind.u32.wrap (((BitVec.ofInt 32 v0) ^^^ (BitVec.ofInt 32 (4294967295 : Int))).toNat : Int))) := (Lw_eq tysOk (getG_con (impl_crc.gok _)) _ _).trans (by kernel_rfl)
theorem impl_crc_l1.eq (v0 : Int) (v1 : List Int) (v2 v3 v4 : Int) : impl_crc_l1 v0 v1 v2 v3 v4 =
    bif decide (v4 < (8 : Int)) then
      impl_crc_l1 (IntKind.u32.wrap (((BitVec.ofInt 32 (v0.fdiv (2 ^ 1))) ^^^ (BitVec.ofInt 32 (IntKind.u32.wrap ((IntKind.u32.wrap (((BitVec.ofInt 32 v0) &&& (BitVec.ofInt 32 (1 : Int))).toNat : Int)) * (3988292384 : Int))))).toNat : Int)) v1 v2 v3 (IntKind.i64.wrap (v4 + (1 : Int)))
    else
      impl_crc_l0 v0 v1 v2 (IntKind.i64.wrap (v3 + (1 : Int))) := (Lw_eq tysOk (getG_con (impl_crc.gok _)) _ _).trans (by kernel_rfl)

noncomputable abbrev impl_relHead.s : Sg := ⟨[.lend], [vl 5], ⟨[vo 5], [none]⟩, Tryz.f168⟩
noncomputable def impl_relHead.gs (δ : Type) : List (Nat × Callee (GT tab) δ) := [(169, impl_VarOf.k), (214, impl_crc.k)]
theorem impl_relHead.gok (δ : Type) : AllCon Tryz.prog tab (impl_relHead.gs δ) := .cons impl_VarOf.con (.cons impl_crc.con .nil)
noncomputable def impl_relHead.c := cx impl_relHead.s [] [(4, [3, 4, 11])] false (impl_relHead.gs _)
noncomputable def impl_relHead (x0 : List Int) : Option (List Int) := fnW impl_relHead.s impl_relHead.c x0
theorem impl_relHead.fok : FkS impl_relHead.s 168 := ⟨Tryz.func168, by kernel_rfl, by kernel_rfl⟩
noncomputable def impl_relHead.fn (x : Args tab impl_relHead.s.ar) : Option (ResT tab impl_relHead.s.rs) := impl_relHead x
noncomputable abbrev impl_relHead.k {δ : Type} : Callee (GT tab) δ := kS impl_relHead.s impl_relHead.fn
theorem impl_relHead.con {δ : Type} : Con Tryz.prog (KT tab) 168 (impl_relHead.k (δ := δ)) := con_shape (c := impl_relHead.c) mixed tysOk (getG_con (impl_relHead.gok _)) impl_relHead.fok rfl rfl fun _ => rfl
noncomputable def impl_relHead_l0 (v0 v1 : Int) (v2 : List Int) : Option (List Int) := lpW impl_relHead.s impl_relHead.c 0 (ud 12 [.undef, .undef, .undef, .sl 0 0, .int .i64 v0, .undef, .undef, .undef, .undef, .undef, .undef, .int .i64 v1]) [.row 0 true 5 v2] 1
theorem impl_relHead.eq (x0 : List Int) : impl_relHead x0 =
    (impl_VarOf (x0.length : Int)).bind fun y1 =>
    (impl_crc x0).bind fun y2 =>
    impl_relHead_l0 y2 (0 : Int) y1 := by kernel_rfl
theorem impl_relHead_l0.eq (v0 v1 : Int) (v2 : List Int) : impl_relHead_l0 v0 v1 v2 =
    bif decide (v1 < (4 : Int)) then
      bif decide (IntKind.i64.wrap ((8 : Int) * v1) < (0 : Int)) then
        none
      else
        bif decide ((v2.length + ([IntKind.u8.wrap (v0.fdiv (2 ^ (min (IntKind.i64.wrap ((8 : Int) * v1)).toNat 64)))] : List Int).length) * 1 ≤ 140737488355328) then
          impl_relHead_l0 v0 (IntKind.i64.wrap (v1 + (1 : Int))) (v2 ++ ([IntKind.u8.wrap (v0.fdiv (2 ^ (min (IntKind.i64.wrap ((8 : Int) * v1)).toNat 64)))] : List Int))
        else
          none
    else
      some v2 := (Lw_eq tysOk (getG_con (impl_relHead.gok _)) _ _).trans (by kernel_rfl)

noncomputable abbrev impl_bitsBytes.s : Sg := ⟨[.lend], [.agg [.int .i64, .sl false false 157]], ⟨[vo 5], [none]⟩, Tryz.f170⟩
noncomputable def impl_bitsBytes.gs (δ : Type) : List (Nat × Callee (GT tab) δ) := [(169, impl_VarOf.k)]
theorem impl_bitsBytes.gok (δ : Type) : AllCon Tryz.prog tab (impl_bitsBytes.gs δ) := .cons impl_VarOf.con .nil
noncomputable def impl_bitsBytes.c := cx impl_bitsBytes.s [] [(3, [1, 3, 4])] false (impl_bitsBytes.gs _)
noncomputable def impl_bitsBytes (x0 : Int × (List Int)) : Option (List Int) := fnW impl_bitsBytes.s impl_bitsBytes.c x0
theorem impl_bitsBytes.fok : FkS impl_bitsBytes.s 170 := ⟨Tryz.func170, by kernel_rfl, by kernel_rfl⟩
noncomputable def impl_bitsBytes.fn (x : Args tab impl_bitsBytes.s.ar) : Option (ResT tab impl_bitsBytes.s.rs) := impl_bitsBytes x
noncomputable abbrev impl_bitsBytes.k {δ : Type} : Callee (GT tab) δ := kS impl_bitsBytes.s impl_bitsBytes.fn
theorem impl_bitsBytes.con {δ : Type} : Con Tryz.prog (KT tab) 170 (impl_bitsBytes.k (δ := δ)) := con_shape (c := impl_bitsBytes.c) mixed tysOk (getG_con (impl_bitsBytes.gok _)) impl_bitsBytes.fok rfl rfl fun _ => rfl
noncomputable def impl_bitsBytes_l0 (v0 v1 : Int) (v2 v3 : List Int) : Option (List Int) := lpW impl_bitsBytes.s impl_bitsBytes.c 0 (ud 23 [.undef, .ptr 0 0, .undef, .sl 1 0, .int .i64 v0]) [.box 41 [.int .i64 v1, .vs false 157 v2], .row 0 true 5 v3] 2
theorem impl_bitsBytes.eq (x0 : Int × (List Int)) : impl_bitsBytes x0 =
    (impl_VarOf x0.1).bind fun y1 =>
    impl_bitsBytes_l0 (0 : Int) x0.1 x0.2 y1 := by kernel_rfl
theorem impl_bitsBytes_l0.eq (v0 v1 : Int) (v2 v3 : List Int) : impl_bitsBytes_l0 v0 v1 v2 v3 =
    bif decide (v0 < v1) then
      (at? v2 (IntKind.i64.wrap (v0.tdiv (64 : Int)))).bind fun y1 =>
      bif decide (v0.tmod (64 : Int) < (0 : Int)) then
        none
      else
        bif decide ((v3.length + ([IntKind.u8.wrap (y1.fdiv (2 ^ (min (v0.tmod (64 : Int)).toNat 64)))] : List Int).length) * 1 ≤ 140737488355328) then
          impl_bitsBytes_l0 (IntKind.i64.wrap (v0 + (8 : Int))) v1 v2 (v3 ++ ([IntKind.u8.wrap (y1.fdiv (2 ^ (min (v0.tmod (64 : Int)).toNat 64)))] : List Int))
        else
          none
    else
      some v3 := (Lw_eq tysOk (getG_con (impl_bitsBytes.gok _)) _ _).trans (by kernel_rfl)

noncomputable abbrev impl_waveBytes.s : Sg := ⟨[.lend], [.agg [.int .i64, .sl false false 3, .sl false false 41]], ⟨[vo 5], [none]⟩, Tryz.f171⟩
noncomputable def impl_waveBytes.gs (δ : Type) : List (Nat × Callee (GT tab) δ) := [(170, impl_bitsBytes.k)]
theorem impl_waveBytes.gok (δ : Type) : AllCon Tryz.prog tab (impl_waveBytes.gs δ) := .cons impl_bitsBytes.con .nil
noncomputable def impl_waveBytes.c := cx impl_waveBytes.s [] [(3, [3, 7, 8, 9])] false (impl_waveBytes.gs _)
noncomputable def impl_waveBytes (x0 : Int × (List Int) × (List (Int × (List Int)))) : Option (List Int) := fnW impl_waveBytes.s impl_waveBytes.c x0
theorem impl_waveBytes.fok : FkS impl_waveBytes.s 171 := ⟨Tryz.func171, by kernel_rfl, by kernel_rfl⟩
noncomputable def impl_waveBytes.fn (x : Args tab impl_waveBytes.s.ar) : Option (ResT tab impl_waveBytes.s.rs) := impl_waveBytes x
noncomputable abbrev impl_waveBytes.k {δ : Type} : Callee (GT tab) δ := kS impl_waveBytes.s impl_waveBytes.fn
theorem impl_waveBytes.con {δ : Type} : Con Tryz.prog (KT tab) 171 (impl_waveBytes.k (δ := δ)) := con_shape (c := impl_waveBytes.c) mixed tysOk (getG_con (impl_waveBytes.gok _)) impl_waveBytes.fok rfl rfl fun _ => rfl
noncomputable def impl_waveBytes_l0 (v0 : List (Int × (List Int))) (v1 v2 : Int) (v3 : List Int) : Option (List Int) := lpW impl_waveBytes.s impl_waveBytes.c 0 (ud 9 [.undef, .undef, .undef, .sl 0 0, .undef, .undef, .undef, .vs false 41 v0, .int .i64 v1, .int .i64 v2]) [.row 0 true 5 v3] 1
theorem impl_waveBytes.eq (x0 : Int × (List Int) × (List (Int × (List Int)))) : impl_waveBytes x0 =
    impl_waveBytes_l0 x0.2.2 (x0.2.2.length : Int) (0 : Int) ([] : List Int) := by kernel_rfl
theorem impl_waveBytes_l0.eq (v0 : List (Int × (List Int))) (v1 v2 : Int) (v3 : List Int) : impl_waveBytes_l0 v0 v1 v2 v3 =
    bif decide (v2 < v1) then
      (at? v0 v2).bind fun y1 =>
      (impl_bitsBytes y1).bind fun y2 =>
      bif decide ((v3.length + y2.length) * 1 ≤ 140737488355328) then
        impl_waveBytes_l0 v0 v1 (IntKind.i64.wrap (v2 + (1 : Int))) (v3 ++ y2)
      else
        none
    else
      some v3 := (Lw_eq tysOk (getG_con (impl_waveBytes.gok _)) _ _).trans (by kernel_rfl)

noncomputable abbrev impl_PackOk.s : Sg := ⟨[.lend], [.agg [.int .i64, .int .i64, .int .i64, .sl false false 157]], ⟨[vb], [none]⟩, Tryz.f215⟩
noncomputable def impl_PackOk.gs (δ : Type) : List (Nat × Callee (GT tab) δ) := [(68, impl_within.k), (96, impl_BitsOk.k)]
theorem impl_PackOk.gok (δ : Type) : AllCon Tryz.prog tab (impl_PackOk.gs δ) := .cons impl_within.con (.cons impl_BitsOk.con .nil)
noncomputable def impl_PackOk.c := cx impl_PackOk.s [] [] false (impl_PackOk.gs _)
noncomputable def impl_PackOk (x0 : Int × Int × Int × (List Int)) : Option (Bool) := fnW impl_PackOk.s impl_PackOk.c x0
theorem impl_PackOk.fok : FkS impl_PackOk.s 215 := ⟨Tryz.func215, by kernel_rfl, by kernel_rfl⟩
noncomputable def impl_PackOk.fn (x : Args tab impl_PackOk.s.ar) : Option (ResT tab impl_PackOk.s.rs) := impl_PackOk x
noncomputable abbrev impl_PackOk.k {δ : Type} : Callee (GT tab) δ := kS impl_PackOk.s impl_PackOk.fn
theorem impl_PackOk.con {δ : Type} : Con Tryz.prog (KT tab) 215 (impl_PackOk.k (δ := δ)) := con_shape (c := impl_PackOk.c) mixed tysOk (getG_con (impl_PackOk.gok _)) impl_PackOk.fok rfl rfl fun _ => rfl
theorem impl_PackOk.eq (x0 : Int × Int × Int × (List Int)) : impl_PackOk x0 =
    (impl_within x0.1 (0 : Int) (32 : Int)).bind fun y1 =>
    bif y1 then
      (impl_within x0.2.1 (0 : Int) (5000 : Int)).bind fun y2 =>
      bif y2 then
        (impl_BitsOk x0.2.2).bind fun y3 =>
        bif y3 then
          some (x0.2.2.1 == IntKind.i64.wrap (x0.2.1 * x0.1))
        else
          some false
      else
        some false
    else
      some false := by kernel_rfl

/-! ### slices_Grow_byte_byte: slices.Grow[[]byte,byte] (by hand) -/
def slices_Grow_byte_byte.ms : List Mode := [.give, .lend]
def slices_Grow_byte_byte.as : List VSh := [.one (.b (.b (.b (.b (.sl true true 5))))), .one (.b (.b (.b (.b (.int .i64)))))]
def slices_Grow_byte_byte.rs : RSh := ⟨[.one (.b (.b (.b (.b (.sl true true 5)))))], [none, none]⟩
noncomputable def slices_Grow_byte_byte (x0 : List Int) (x1 : Int) : Option (List Int) := growF 1 (x0, x1)
noncomputable def slices_Grow_byte_byte.fn : Args tab slices_Grow_byte_byte.as → Option (ResT tab slices_Grow_byte_byte.rs) := fun x => slices_Grow_byte_byte x.1 x.2
noncomputable abbrev slices_Grow_byte_byte.k {δ : Type} : Callee (GT tab) δ := calleeS tab slices_Grow_byte_byte.ms slices_Grow_byte_byte.as slices_Grow_byte_byte.rs slices_Grow_byte_byte.fn
theorem slices_Grow_byte_byte.con {δ : Type} : Con Tryz.prog (KT tab) 213 (slices_Grow_byte_byte.k (δ := δ)) := con_grow2 Tryz.laysGrow213 rfl rfl (ty := tyOf tys) tysOk (e := 5) rfl (by decide) rfl rfl

noncomputable abbrev slices_Concat_byte_byte.s : Sg := ⟨[.lend], [vl 57], ⟨[vo 5], [none]⟩, Tryz.f167⟩
noncomputable def slices_Concat_byte_byte.gs (δ : Type) : List (Nat × Callee (GT tab) δ) := [(213, slices_Grow_byte_byte.k)]
theorem slices_Concat_byte_byte.gok (δ : Type) : AllCon Tryz.prog tab (slices_Concat_byte_byte.gs δ) := .cons slices_Grow_byte_byte.con .nil
noncomputable def slices_Concat_byte_byte.c := cx slices_Concat_byte_byte.s [] [(3, [0, 3, 9, 10, 11]), (11, [6, 25, 26, 27])] false (slices_Concat_byte_byte.gs _)
noncomputable def slices_Concat_byte_byte (x0 : List (List Int)) : Option (List Int) := fnW slices_Concat_byte_byte.s slices_Concat_byte_byte.c x0
theorem slices_Concat_byte_byte.fok : FkS slices_Concat_byte_byte.s 167 := ⟨Tryz.func167, by kernel_rfl, by kernel_rfl⟩
noncomputable def slices_Concat_byte_byte.fn (x : Args tab slices_Concat_byte_byte.s.ar) : Option (ResT tab slices_Concat_byte_byte.s.rs) := slices_Concat_byte_byte x
noncomputable abbrev slices_Concat_byte_byte.k {δ : Type} : Callee (GT tab) δ := kS slices_Concat_byte_byte.s slices_Concat_byte_byte.fn
theorem slices_Concat_byte_byte.con {δ : Type} : Con Tryz.prog (KT tab) 167 (slices_Concat_byte_byte.k (δ := δ)) := con_shape (c := slices_Concat_byte_byte.c) mixed tysOk (getG_con (slices_Concat_byte_byte.gok _)) slices_Concat_byte_byte.fok rfl rfl fun _ => rfl
noncomputable def slices_Concat_byte_byte_l0 (v0 : List (List Int)) (v1 : Int) (v2 : List (List Int)) (v3 v4 : Int) : Option (List Int) := lpW slices_Concat_byte_byte.s slices_Concat_byte_byte.c 0 (ud 24 [.vs false 57 v0, .undef, .undef, .int .i64 v1, .undef, .undef, .undef, .undef, .undef, .vs false 57 v2, .int .i64 v3, .int .i64 v4]) [] 0
noncomputable def slices_Concat_byte_byte_l1 (v0 : List (List Int)) (v1 v2 : Int) (v3 : List Int) : Option (List Int) := lpW slices_Concat_byte_byte.s slices_Concat_byte_byte.c 1 (ud 8 [.undef, .undef, .undef, .undef, .undef, .undef, .sl 0 0, .undef, .undef, .undef, .undef, .undef, .undef, .undef, .undef, .undef, .undef, .undef, .undef, .undef, .undef, .undef, .undef, .undef, .undef, .vs false 57 v0, .int .i64 v1, .int .i64 v2]) [.row 0 true 5 v3] 1
theorem slices_Concat_byte_byte.eq (x0 : List (List Int)) : slices_Concat_byte_byte x0 =
    slices_Concat_byte_byte_l0 x0 (0 : Int) x0 (x0.length : Int) (0 : Int) := by kernel_rfl
theorem slices_Concat_byte_byte_l0.eq (v0 : List (List Int)) (v1 : Int) (v2 : List (List Int)) (v3 v4 : Int) : slices_Concat_byte_byte_l0 v0 v1 v2 v3 v4 =
    bif decide (v4 < v3) then
      (at? v2 v4).bind fun y1 =>
      bif decide (IntKind.i64.wrap (v1 + (y1.length : Int)) < (0 : Int)) then
        none
      else
        slices_Concat_byte_byte_l0 v0 (IntKind.i64.wrap (v1 + (y1.length : Int))) v2 v3 (IntKind.i64.wrap (v4 + (1 : Int)))
    else
      (slices_Grow_byte_byte ([] : List Int) v1).bind fun y2 =>
      slices_Concat_byte_byte_l1 v0 (v0.length : Int) (0 : Int) y2 := (Lw_eq tysOk (getG_con (slices_Concat_byte_byte.gok _)) _ _).trans (by kernel_rfl)
theorem slices_Concat_byte_byte_l1.eq (v0 : List (List Int)) (v1 v2 : Int) (v3 : List Int) : slices_Concat_byte_byte_l1 v0 v1 v2 v3 =
    bif decide (v2 < v1) then
      (at? v0 v2).bind fun y1 =>
      bif decide ((v3.length + y1.length) * 1 ≤ 140737488355328) then
        slices_Concat_byte_byte_l1 v0 v1 (IntKind.i64.wrap (v2 + (1 : Int))) (v3 ++ y1)
      else
        none
    else
      some v3 := (Lw_eq tysOk (getG_con (slices_Concat_byte_byte.gok _)) _ _).trans (by kernel_rfl)

noncomputable abbrev impl_PackBytes.s : Sg := ⟨[.lend], [.agg [.int .i64, .int .i64, .int .i64, .sl false false 157]], ⟨[vo 5], [none]⟩, Tryz.f172⟩
noncomputable def impl_PackBytes.gs (δ : Type) : List (Nat × Callee (GT tab) δ) := [(167, slices_Concat_byte_byte.k), (169, impl_VarOf.k), (170, impl_bitsBytes.k), (215, impl_PackOk.k)]
theorem impl_PackBytes.gok (δ : Type) : AllCon Tryz.prog tab (impl_PackBytes.gs δ) := .cons slices_Concat_byte_byte.con (.cons impl_VarOf.con (.cons impl_bitsBytes.con (.cons impl_PackOk.con .nil)))
noncomputable def impl_PackBytes.c := cx impl_PackBytes.s [] [] false (impl_PackBytes.gs _)
noncomputable def impl_PackBytes (x0 : Int × Int × Int × (List Int)) : Option (List Int) := fnW impl_PackBytes.s impl_PackBytes.c x0
theorem impl_PackBytes.fok : FkS impl_PackBytes.s 172 := ⟨Tryz.func172, by kernel_rfl, by kernel_rfl⟩
noncomputable def impl_PackBytes.fn (x : Args tab impl_PackBytes.s.ar) : Option (ResT tab impl_PackBytes.s.rs) := impl_PackBytes x
noncomputable abbrev impl_PackBytes.k {δ : Type} : Callee (GT tab) δ := kS impl_PackBytes.s impl_PackBytes.fn
theorem impl_PackBytes.con {δ : Type} : Con Tryz.prog (KT tab) 172 (impl_PackBytes.k (δ := δ)) := con_shape (c := impl_PackBytes.c) mixed tysOk (getG_con (impl_PackBytes.gok _)) impl_PackBytes.fok rfl rfl fun _ => rfl
theorem impl_PackBytes.eq (x0 : Int × Int × Int × (List Int)) : impl_PackBytes x0 =
    (impl_PackOk x0).bind fun y1 =>
    bif !y1 then
      some ([] : List Int)
    else
      (impl_VarOf x0.1).bind fun y2 =>
      (impl_VarOf x0.2.1).bind fun y3 =>
      (impl_bitsBytes x0.2.2).bind fun y4 =>
      (slices_Concat_byte_byte ([y2, y3, y4] : List (List Int))).bind fun y5 =>
      some y5 := by kernel_rfl

noncomputable abbrev impl_FrameOk.s : Sg := ⟨[.lend], [.agg [.int .i64, .sl false false 5]], ⟨[vb], [none]⟩, Tryz.f216⟩
noncomputable def impl_FrameOk.gs (δ : Type) : List (Nat × Callee (GT tab) δ) := [(68, impl_within.k)]
theorem impl_FrameOk.gok (δ : Type) : AllCon Tryz.prog tab (impl_FrameOk.gs δ) := .cons impl_within.con .nil
noncomputable def impl_FrameOk.c := cx impl_FrameOk.s [] [] false (impl_FrameOk.gs _)
noncomputable def impl_FrameOk (x0 : Int × (List Int)) : Option (Bool) := fnW impl_FrameOk.s impl_FrameOk.c x0
theorem impl_FrameOk.fok : FkS impl_FrameOk.s 216 := ⟨Tryz.func216, by kernel_rfl, by kernel_rfl⟩
noncomputable def impl_FrameOk.fn (x : Args tab impl_FrameOk.s.ar) : Option (ResT tab impl_FrameOk.s.rs) := impl_FrameOk x
noncomputable abbrev impl_FrameOk.k {δ : Type} : Callee (GT tab) δ := kS impl_FrameOk.s impl_FrameOk.fn
theorem impl_FrameOk.con {δ : Type} : Con Tryz.prog (KT tab) 216 (impl_FrameOk.k (δ := δ)) := con_shape (c := impl_FrameOk.c) mixed tysOk (getG_con (impl_FrameOk.gok _)) impl_FrameOk.fok rfl rfl fun _ => rfl
theorem impl_FrameOk.eq (x0 : Int × (List Int)) : impl_FrameOk x0 =
    (impl_within x0.1 (0 : Int) (255 : Int)).bind fun y1 =>
    bif y1 then
      some (decide ((x0.2.length : Int) ≤ (8000 : Int)))
    else
      some false := by kernel_rfl

noncomputable abbrev impl_FrameOf.s : Sg := ⟨[.lend], [.agg [.int .i64, .sl false false 5]], ⟨[vo 5], [none]⟩, Tryz.f173⟩
noncomputable def impl_FrameOf.gs (δ : Type) : List (Nat × Callee (GT tab) δ) := [(169, impl_VarOf.k), (214, impl_crc.k), (216, impl_FrameOk.k)]
theorem impl_FrameOf.gok (δ : Type) : AllCon Tryz.prog tab (impl_FrameOf.gs δ) := .cons impl_VarOf.con (.cons impl_crc.con (.cons impl_FrameOk.con .nil))
noncomputable def impl_FrameOf.c := cx impl_FrameOf.s [] [(7, [3, 4, 24])] false (impl_FrameOf.gs _)
noncomputable def impl_FrameOf (x0 : Int × (List Int)) : Option (List Int) := fnW impl_FrameOf.s impl_FrameOf.c x0
theorem impl_FrameOf.fok : FkS impl_FrameOf.s 173 := ⟨Tryz.func173, by kernel_rfl, by kernel_rfl⟩
noncomputable def impl_FrameOf.fn (x : Args tab impl_FrameOf.s.ar) : Option (ResT tab impl_FrameOf.s.rs) := impl_FrameOf x
noncomputable abbrev impl_FrameOf.k {δ : Type} : Callee (GT tab) δ := kS impl_FrameOf.s impl_FrameOf.fn
theorem impl_FrameOf.con {δ : Type} : Con Tryz.prog (KT tab) 173 (impl_FrameOf.k (δ := δ)) := con_shape (c := impl_FrameOf.c) mixed tysOk (getG_con (impl_FrameOf.gok _)) impl_FrameOf.fok rfl rfl fun _ => rfl
noncomputable def impl_FrameOf_l0 (v0 v1 : Int) (v2 : List Int) : Option (List Int) := lpW impl_FrameOf.s impl_FrameOf.c 0 (ud 12 [.undef, .undef, .undef, .sl 0 0, .int .i64 v0, .undef, .undef, .undef, .undef, .undef, .undef, .undef, .undef, .undef, .undef, .undef, .undef, .undef, .undef, .undef, .undef, .undef, .undef, .undef, .int .i64 v1]) [.row 0 true 5 v2] 1
theorem impl_FrameOf.eq (x0 : Int × (List Int)) : impl_FrameOf x0 =
    (impl_FrameOk x0).bind fun y1 =>
    bif !y1 then
      some ([] : List Int)
    else
      (impl_VarOf (x0.2.length : Int)).bind fun y2 =>
      bif decide ((([(90 : Int), IntKind.u8.wrap x0.1] : List Int).length + y2.length) * 1 ≤ 140737488355328) then
        bif decide (((([(90 : Int), IntKind.u8.wrap x0.1] : List Int) ++ y2).length + x0.2.length) * 1 ≤ 140737488355328) then
          (impl_crc ((([(90 : Int), IntKind.u8.wrap x0.1] : List Int) ++ y2) ++ x0.2)).bind fun y3 =>
          impl_FrameOf_l0 y3 (0 : Int) ((([(90 : Int), IntKind.u8.wrap x0.1] : List Int) ++ y2) ++ x0.2)
        else
          none
      else
        none := by kernel_rfl
theorem impl_FrameOf_l0.eq (v0 v1 : Int) (v2 : List Int) : impl_FrameOf_l0 v0 v1 v2 =
    bif decide (v1 < (4 : Int)) then
      bif decide (IntKind.i64.wrap ((8 : Int) * v1) < (0 : Int)) then
        none
      else
        bif decide ((v2.length + ([IntKind.u8.wrap (v0.fdiv (2 ^ (min (IntKind.i64.wrap ((8 : Int) * v1)).toNat 64)))] : List Int).length) * 1 ≤ 140737488355328) then
          impl_FrameOf_l0 v0 (IntKind.i64.wrap (v1 + (1 : Int))) (v2 ++ ([IntKind.u8.wrap (v0.fdiv (2 ^ (min (IntKind.i64.wrap ((8 : Int) * v1)).toNat 64)))] : List Int))
        else
          none
    else
      some v2 := (Lw_eq tysOk (getG_con (impl_FrameOf.gok _)) _ _).trans (by kernel_rfl)

noncomputable abbrev impl_relBytes.s : Sg := ⟨[.lend, .lend], [vl 5, .agg [.int .i64, .int .i64, .int .i64, .sl false false 157, .int .i64, .sl false false 157, .int .i64, .sl false false 3, .sl false false 41, .int .i64, .sl false false 3, .sl false false 41, .sl false false 3, .int .i64, .sl false false 157, .int .i64, .int .i64, .int .i64, .sl false false 157, .int .i64, .int .i64, .int .i64, .sl false false 157]], ⟨[vo 5], [none, none]⟩, Tryz.f110⟩
noncomputable def impl_relBytes.gs (δ : Type) : List (Nat × Callee (GT tab) δ) := [(167, slices_Concat_byte_byte.k), (168, impl_relHead.k), (169, impl_VarOf.k), (170, impl_bitsBytes.k), (171, impl_waveBytes.k), (172, impl_PackBytes.k), (173, impl_FrameOf.k)]
theorem impl_relBytes.gok (δ : Type) : AllCon Tryz.prog tab (impl_relBytes.gs δ) := .cons slices_Concat_byte_byte.con (.cons impl_relHead.con (.cons impl_VarOf.con (.cons impl_bitsBytes.con (.cons impl_waveBytes.con (.cons impl_PackBytes.con (.cons impl_FrameOf.con .nil))))))
noncomputable def impl_relBytes.c := cx impl_relBytes.s [] [] false (impl_relBytes.gs _)
noncomputable def impl_relBytes (x0 : List Int) (x1 : Int × Int × Int × (List Int) × Int × (List Int) × Int × (List Int) × (List (Int × (List Int))) × Int × (List Int) × (List (Int × (List Int))) × (List Int) × Int × (List Int) × Int × Int × Int × (List Int) × Int × Int × Int × (List Int)) : Option (List Int) := fnW impl_relBytes.s impl_relBytes.c (x0, x1)
theorem impl_relBytes.fok : FkS impl_relBytes.s 110 := ⟨Tryz.func110, by kernel_rfl, by kernel_rfl⟩
noncomputable def impl_relBytes.fn (x : Args tab impl_relBytes.s.ar) : Option (ResT tab impl_relBytes.s.rs) := impl_relBytes x.1 x.2
noncomputable abbrev impl_relBytes.k {δ : Type} : Callee (GT tab) δ := kS impl_relBytes.s impl_relBytes.fn
theorem impl_relBytes.con {δ : Type} : Con Tryz.prog (KT tab) 110 (impl_relBytes.k (δ := δ)) := con_shape (c := impl_relBytes.c) mixed tysOk (getG_con (impl_relBytes.gok _)) impl_relBytes.fok rfl rfl fun _ => rfl
theorem impl_relBytes.eq (x0 : List Int) (x1 : Int × Int × Int × (List Int) × Int × (List Int) × Int × (List Int) × (List (Int × (List Int))) × Int × (List Int) × (List (Int × (List Int))) × (List Int) × Int × (List Int) × Int × Int × Int × (List Int) × Int × Int × Int × (List Int)) : impl_relBytes x0 x1 =
    (impl_relHead x0).bind fun y1 =>
    (impl_VarOf x1.2.1).bind fun y2 =>
    (impl_bitsBytes (x1.2.2.1, x1.2.2.2.1)).bind fun y3 =>
    (impl_bitsBytes (x1.2.2.2.2.1, x1.2.2.2.2.2.1)).bind fun y4 =>
    (impl_waveBytes (x1.2.2.2.2.2.2.1, x1.2.2.2.2.2.2.2.1, x1.2.2.2.2.2.2.2.2.1)).bind fun y5 =>
    (impl_waveBytes (x1.2.2.2.2.2.2.2.2.2.1, x1.2.2.2.2.2.2.2.2.2.2.1, x1.2.2.2.2.2.2.2.2.2.2.2.1)).bind fun y6 =>
    (impl_bitsBytes (x1.2.2.2.2.2.2.2.2.2.2.2.2.2.1, x1.2.2.2.2.2.2.2.2.2.2.2.2.2.2.1)).bind fun y7 =>
    (impl_PackBytes (x1.2.2.2.2.2.2.2.2.2.2.2.2.2.2.2.1, x1.2.2.2.2.2.2.2.2.2.2.2.2.2.2.2.2.1, x1.2.2.2.2.2.2.2.2.2.2.2.2.2.2.2.2.2.1, x1.2.2.2.2.2.2.2.2.2.2.2.2.2.2.2.2.2.2.1)).bind fun y8 =>
    (impl_PackBytes x1.2.2.2.2.2.2.2.2.2.2.2.2.2.2.2.2.2.2.2).bind fun y9 =>
    (slices_Concat_byte_byte ([y1, y2, y3, y4, y5, y6, y7, y8, y9] : List (List Int))).bind fun y10 =>
    (impl_FrameOf ((2 : Int), y10)).bind fun y11 =>
    some y11 := by kernel_rfl

noncomputable abbrev impl_RelBytes.s : Sg := ⟨[.lend, .lend], [.agg [.int .i64, .int .i64, .int .i64, .sl false false 3, .sl false false 41, .sl false false 3, .int .i64, .sl false false 157, .int .i64, .int .i64, .int .i64, .sl false false 157, .int .i64, .int .i64, .int .i64, .sl false false 157], .agg [.int .i64, .int .i64, .int .i64, .sl false false 157, .int .i64, .sl false false 157, .int .i64, .sl false false 3, .sl false false 41, .int .i64, .sl false false 3, .sl false false 41, .sl false false 3, .int .i64, .sl false false 157, .int .i64, .int .i64, .int .i64, .sl false false 157, .int .i64, .int .i64, .int .i64, .sl false false 157]], ⟨[vo 5], [none, none]⟩, Tryz.f56⟩
noncomputable def impl_RelBytes.gs (δ : Type) : List (Nat × Callee (GT tab) δ) := [(75, impl_RelOk.k), (110, impl_relBytes.k), (111, impl_FmText.k)]
theorem impl_RelBytes.gok (δ : Type) : AllCon Tryz.prog tab (impl_RelBytes.gs δ) := .cons impl_RelOk.con (.cons impl_relBytes.con (.cons impl_FmText.con .nil))
noncomputable def impl_RelBytes.c := cx impl_RelBytes.s [] [] false (impl_RelBytes.gs _)
noncomputable def impl_RelBytes (x0 : Int × Int × Int × (List Int) × (List (Int × (List Int))) × (List Int) × Int × (List Int) × Int × Int × Int × (List Int) × Int × Int × Int × (List Int)) (x1 : Int × Int × Int × (List Int) × Int × (List Int) × Int × (List Int) × (List (Int × (List Int))) × Int × (List Int) × (List (Int × (List Int))) × (List Int) × Int × (List Int) × Int × Int × Int × (List Int) × Int × Int × Int × (List Int)) : Option (List Int) := fnW impl_RelBytes.s impl_RelBytes.c (x0, x1)
theorem impl_RelBytes.fok : FkS impl_RelBytes.s 56 := ⟨Tryz.func56, by kernel_rfl, by kernel_rfl⟩
noncomputable def impl_RelBytes.fn (x : Args tab impl_RelBytes.s.ar) : Option (ResT tab impl_RelBytes.s.rs) := impl_RelBytes x.1 x.2
noncomputable abbrev impl_RelBytes.k {δ : Type} : Callee (GT tab) δ := kS impl_RelBytes.s impl_RelBytes.fn
theorem impl_RelBytes.con {δ : Type} : Con Tryz.prog (KT tab) 56 (impl_RelBytes.k (δ := δ)) := con_shape (c := impl_RelBytes.c) mixed tysOk (getG_con (impl_RelBytes.gok _)) impl_RelBytes.fok rfl rfl fun _ => rfl
theorem impl_RelBytes.eq (x0 : Int × Int × Int × (List Int) × (List (Int × (List Int))) × (List Int) × Int × (List Int) × Int × Int × Int × (List Int) × Int × Int × Int × (List Int)) (x1 : Int × Int × Int × (List Int) × Int × (List Int) × Int × (List Int) × (List (Int × (List Int))) × Int × (List Int) × (List (Int × (List Int))) × (List Int) × Int × (List Int) × Int × Int × Int × (List Int) × Int × Int × Int × (List Int)) : impl_RelBytes x0 x1 =
    (impl_RelOk x0 x1).bind fun y1 =>
    bif !y1 then
      some ([] : List Int)
    else
      (impl_FmText x0).bind fun y2 =>
      (impl_relBytes y2 x1).bind fun y3 =>
      some y3 := by kernel_rfl

end Go.Ev.W
