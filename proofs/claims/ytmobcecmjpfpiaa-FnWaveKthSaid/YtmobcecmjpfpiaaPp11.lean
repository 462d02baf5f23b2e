/- What functions of the program come to. -/
import Derived.Test.YtmobcecmjpfpiaaPpT
import Derived.Test.YtmobcecmjpfpiaaPp1
namespace Go.Ev.W
open Go.Ev Go.Proofs
set_option maxRecDepth 100000
set_option linter.unusedVariables false

noncomputable abbrev laws_szIntS.s : Sg := ⟨[.lend, .lend], [vl 3, vi], ⟨[vi], [none, none]⟩, Try.f70⟩
noncomputable def laws_szIntS.gs (δ : Type) : List (Nat × Callee (GT tab) δ) := []
theorem laws_szIntS.gok (δ : Type) : AllCon Try.prog tab (laws_szIntS.gs δ) := .nil
noncomputable def laws_szIntS.c := cx laws_szIntS.s [] [] false (laws_szIntS.gs _)
noncomputable def laws_szIntS (x0 : List Int) (x1 : Int) : Option (Int) := fnW laws_szIntS.s laws_szIntS.c (x0, x1)
theorem laws_szIntS.fok : FkS laws_szIntS.s 70 := ⟨Try.func70, by kernel_rfl, by kernel_rfl⟩
noncomputable def laws_szIntS.fn (x : Args tab laws_szIntS.s.ar) : Option (ResT tab laws_szIntS.s.rs) := laws_szIntS x.1 x.2
noncomputable abbrev laws_szIntS.k {δ : Type} : Callee (GT tab) δ := kS laws_szIntS.s laws_szIntS.fn
theorem laws_szIntS.con {δ : Type} : Con Try.prog (KT tab) 70 (laws_szIntS.k (δ := δ)) := con_shape (c := laws_szIntS.c) mixed tysOk (getG_con (laws_szIntS.gok _)) laws_szIntS.fok rfl rfl fun _ => rfl
theorem laws_szIntS.eq (x0 : List Int) (x1 : Int) : laws_szIntS x0 x1 =
    bif decide (IntKind.i64.wrap (x1 - (x0.length : Int)) < (0 : Int)) then
      some (-1 : Int)
    else
      some (IntKind.i64.wrap (x1 - (x0.length : Int))) := by kernel_rfl

noncomputable abbrev laws_szBitsS.s : Sg := ⟨[.lend, .lend], [vl 24, vi], ⟨[vi], [none, none]⟩, Try.f71⟩
noncomputable def laws_szBitsS.gs (δ : Type) : List (Nat × Callee (GT tab) δ) := [(42, laws_szBits.k)]
theorem laws_szBitsS.gok (δ : Type) : AllCon Try.prog tab (laws_szBitsS.gs δ) := .cons laws_szBits.con .nil
noncomputable def laws_szBitsS.c := cx laws_szBitsS.s [] [(5, [0, 1, 5])] false (laws_szBitsS.gs _)
noncomputable def laws_szBitsS (x0 : List (Int × (List Int))) (x1 : Int) : Option (Int) := fnW laws_szBitsS.s laws_szBitsS.c (x0, x1)
theorem laws_szBitsS.fok : FkS laws_szBitsS.s 71 := ⟨Try.func71, by kernel_rfl, by kernel_rfl⟩
noncomputable def laws_szBitsS.fn (x : Args tab laws_szBitsS.s.ar) : Option (ResT tab laws_szBitsS.s.rs) := laws_szBitsS x.1 x.2
noncomputable abbrev laws_szBitsS.k {δ : Type} : Callee (GT tab) δ := kS laws_szBitsS.s laws_szBitsS.fn
theorem laws_szBitsS.con {δ : Type} : Con Try.prog (KT tab) 71 (laws_szBitsS.k (δ := δ)) := con_shape (c := laws_szBitsS.c) mixed tysOk (getG_con (laws_szBitsS.gok _)) laws_szBitsS.fok rfl rfl fun _ => rfl
noncomputable def laws_szBitsS_l0 (v0 : List (Int × (List Int))) (v1 v2 : Int) : Option (Int) := lpW laws_szBitsS.s laws_szBitsS.c 0 (ud 21 [.vs false 24 v0, .int .i64 v1, .undef, .undef, .undef, .int .i64 v2]) [] 0
theorem laws_szBitsS.eq (x0 : List (Int × (List Int))) (x1 : Int) : laws_szBitsS x0 x1 =
    bif decide (IntKind.i64.wrap (x1 - (x0.length : Int)) < (0 : Int)) then
      some (-1 : Int)
    else
      laws_szBitsS_l0 x0 (IntKind.i64.wrap (x1 - (x0.length : Int))) (0 : Int) := by kernel_rfl
theorem laws_szBitsS_l0.eq (v0 : List (Int × (List Int))) (v1 v2 : Int) : laws_szBitsS_l0 v0 v1 v2 =
    bif decide (v2 < (v0.length : Int)) then
      (at? v0 v2).bind fun y1 =>
      (laws_szBits y1 v1).bind fun y2 =>
      bif decide (y2 < (0 : Int)) then
        some (-1 : Int)
      else
        laws_szBitsS_l0 v0 y2 (IntKind.i64.wrap (v2 + (1 : Int)))
    else
      some v1 := (Lw_eq tysOk (getG_con (laws_szBitsS.gok _)) _ _).trans (by kernel_rfl)

noncomputable abbrev laws_szWave.s : Sg := ⟨[.lend, .lend], [.agg [.int .i64, .sl false false 3, .sl false false 24], vi], ⟨[vi], [none, none]⟩, Try.f33⟩
noncomputable def laws_szWave.gs (δ : Type) : List (Nat × Callee (GT tab) δ) := [(70, laws_szIntS.k), (71, laws_szBitsS.k)]
theorem laws_szWave.gok (δ : Type) : AllCon Try.prog tab (laws_szWave.gs δ) := .cons laws_szIntS.con (.cons laws_szBitsS.con .nil)
noncomputable def laws_szWave.c := cx laws_szWave.s [] [] false (laws_szWave.gs _)
noncomputable def laws_szWave (x0 : Int × (List Int) × (List (Int × (List Int)))) (x1 : Int) : Option (Int) := fnW laws_szWave.s laws_szWave.c (x0, x1)
theorem laws_szWave.fok : FkS laws_szWave.s 33 := ⟨Try.func33, by kernel_rfl, by kernel_rfl⟩
noncomputable def laws_szWave.fn (x : Args tab laws_szWave.s.ar) : Option (ResT tab laws_szWave.s.rs) := laws_szWave x.1 x.2
noncomputable abbrev laws_szWave.k {δ : Type} : Callee (GT tab) δ := kS laws_szWave.s laws_szWave.fn
theorem laws_szWave.con {δ : Type} : Con Try.prog (KT tab) 33 (laws_szWave.k (δ := δ)) := con_shape (c := laws_szWave.c) mixed tysOk (getG_con (laws_szWave.gok _)) laws_szWave.fok rfl rfl fun _ => rfl
theorem laws_szWave.eq (x0 : Int × (List Int) × (List (Int × (List Int)))) (x1 : Int) : laws_szWave x0 x1 =
    (laws_szIntS x0.2.1 x1).bind fun y1 =>
    bif decide (y1 < (0 : Int)) then
      some (-1 : Int)
    else
      (laws_szBitsS x0.2.2 y1).bind fun y2 =>
      bif decide (y2 < (0 : Int)) then
        some (-1 : Int)
      else
        some y2 := by kernel_rfl

noncomputable abbrev laws_toIntS.s : Sg := ⟨[.lend], [vl 3], ⟨[vo 3], [none]⟩, Try.f73⟩
noncomputable def laws_toIntS.gs (δ : Type) : List (Nat × Callee (GT tab) δ) := []
theorem laws_toIntS.gok (δ : Type) : AllCon Try.prog tab (laws_toIntS.gs δ) := .nil
noncomputable def laws_toIntS.c := cx laws_toIntS.s [] [(3, [0, 3, 4])] false (laws_toIntS.gs _)
noncomputable def laws_toIntS (x0 : List Int) : Option (List Int) := fnW laws_toIntS.s laws_toIntS.c x0
theorem laws_toIntS.fok : FkS laws_toIntS.s 73 := ⟨Try.func73, by kernel_rfl, by kernel_rfl⟩
noncomputable def laws_toIntS.fn (x : Args tab laws_toIntS.s.ar) : Option (ResT tab laws_toIntS.s.rs) := laws_toIntS x
noncomputable abbrev laws_toIntS.k {δ : Type} : Callee (GT tab) δ := kS laws_toIntS.s laws_toIntS.fn
theorem laws_toIntS.con {δ : Type} : Con Try.prog (KT tab) 73 (laws_toIntS.k (δ := δ)) := con_shape (c := laws_toIntS.c) mixed tysOk (getG_con (laws_toIntS.gok _)) laws_toIntS.fok rfl rfl fun _ => rfl
noncomputable def laws_toIntS_l0 (v0 : List Int) (v1 : Int) (v2 : List Int) : Option (List Int) := lpW laws_toIntS.s laws_toIntS.c 0 (ud 17 [.vs false 3 v0, .undef, .undef, .sl 0 0, .int .i64 v1]) [.row 0 true 3 v2] 1
theorem laws_toIntS.eq (x0 : List Int) : laws_toIntS x0 =
    bif decide ((0 : Int) ≤ (x0.length : Int)) && decide (((x0.length : Int).toNat) * 8 ≤ 140737488355328) then
      laws_toIntS_l0 x0 (0 : Int) (List.replicate ((x0.length : Int).toNat) (0 : Int))
    else
      none := by kernel_rfl
theorem laws_toIntS_l0.eq (v0 : List Int) (v1 : Int) (v2 : List Int) : laws_toIntS_l0 v0 v1 v2 =
    bif decide (v1 < (v0.length : Int)) then
      (at? v0 v1).bind fun y1 =>
      (at? v2 v1).bind fun y2 =>
      v2[v1.toNat]?.bind fun y3 =>
      laws_toIntS_l0 v0 (IntKind.i64.wrap (v1 + (1 : Int))) (v2.set v1.toNat y1)
    else
      some v2 := (Lw_eq tysOk (getG_con (laws_toIntS.gok _)) _ _).trans (by kernel_rfl)

noncomputable abbrev laws_toBitsS.s : Sg := ⟨[.lend], [vl 24], ⟨[vo 32], [none]⟩, Try.f74⟩
noncomputable def laws_toBitsS.gs (δ : Type) : List (Nat × Callee (GT tab) δ) := [(46, laws_toBits.k)]
theorem laws_toBitsS.gok (δ : Type) : AllCon Try.prog tab (laws_toBitsS.gs δ) := .cons laws_toBits.con .nil
noncomputable def laws_toBitsS.c := cx laws_toBitsS.s [] [(3, [0, 3, 4])] false (laws_toBitsS.gs _)
noncomputable def laws_toBitsS (x0 : List (Int × (List Int))) : Option (List (Int × (List Int))) := fnW laws_toBitsS.s laws_toBitsS.c x0
theorem laws_toBitsS.fok : FkS laws_toBitsS.s 74 := ⟨Try.func74, by kernel_rfl, by kernel_rfl⟩
noncomputable def laws_toBitsS.fn (x : Args tab laws_toBitsS.s.ar) : Option (ResT tab laws_toBitsS.s.rs) := laws_toBitsS x
noncomputable abbrev laws_toBitsS.k {δ : Type} : Callee (GT tab) δ := kS laws_toBitsS.s laws_toBitsS.fn
theorem laws_toBitsS.con {δ : Type} : Con Try.prog (KT tab) 74 (laws_toBitsS.k (δ := δ)) := con_shape (c := laws_toBitsS.c) mixed tysOk (getG_con (laws_toBitsS.gok _)) laws_toBitsS.fok rfl rfl fun _ => rfl
noncomputable def laws_toBitsS_l0 (v0 : List (Int × (List Int))) (v1 : Int) (v2 : List (Int × (List Int))) : Option (List (Int × (List Int))) := lpW laws_toBitsS.s laws_toBitsS.c 0 (ud 18 [.vs false 24 v0, .undef, .undef, .sl 0 0, .int .i64 v1]) [.row 0 true 32 v2] 1
theorem laws_toBitsS.eq (x0 : List (Int × (List Int))) : laws_toBitsS x0 =
    bif decide ((0 : Int) ≤ (x0.length : Int)) && decide (((x0.length : Int).toNat) * 32 ≤ 140737488355328) then
      laws_toBitsS_l0 x0 (0 : Int) (List.replicate ((x0.length : Int).toNat) ((0, []) : Int × (List Int)))
    else
      none := by kernel_rfl
theorem laws_toBitsS_l0.eq (v0 : List (Int × (List Int))) (v1 : Int) (v2 : List (Int × (List Int))) : laws_toBitsS_l0 v0 v1 v2 =
    bif decide (v1 < (v0.length : Int)) then
      (at? v0 v1).bind fun y1 =>
      (laws_toBits y1).bind fun y2 =>
      (at? v2 v1).bind fun y3 =>
      v2[v1.toNat]?.bind fun y4 =>
      laws_toBitsS_l0 v0 (IntKind.i64.wrap (v1 + (1 : Int))) (v2.set v1.toNat (y2.1, y2.2))
    else
      some v2 := (Lw_eq tysOk (getG_con (laws_toBitsS.gok _)) _ _).trans (by kernel_rfl)

noncomputable abbrev laws_toWave.s : Sg := ⟨[.lend], [.agg [.int .i64, .sl false false 3, .sl false false 24]], ⟨[.agg [.int .i64, .sl true true 3, .sl true true 32]], [none]⟩, Try.f35⟩
noncomputable def laws_toWave.gs (δ : Type) : List (Nat × Callee (GT tab) δ) := [(73, laws_toIntS.k), (74, laws_toBitsS.k)]
theorem laws_toWave.gok (δ : Type) : AllCon Try.prog tab (laws_toWave.gs δ) := .cons laws_toIntS.con (.cons laws_toBitsS.con .nil)
noncomputable def laws_toWave.c := cx laws_toWave.s [] [] false (laws_toWave.gs _)
noncomputable def laws_toWave (x0 : Int × (List Int) × (List (Int × (List Int)))) : Option (Int × (List Int) × (List (Int × (List Int)))) := fnW laws_toWave.s laws_toWave.c x0
theorem laws_toWave.fok : FkS laws_toWave.s 35 := ⟨Try.func35, by kernel_rfl, by kernel_rfl⟩
noncomputable def laws_toWave.fn (x : Args tab laws_toWave.s.ar) : Option (ResT tab laws_toWave.s.rs) := laws_toWave x
noncomputable abbrev laws_toWave.k {δ : Type} : Callee (GT tab) δ := kS laws_toWave.s laws_toWave.fn
theorem laws_toWave.con {δ : Type} : Con Try.prog (KT tab) 35 (laws_toWave.k (δ := δ)) := con_shape (c := laws_toWave.c) mixed tysOk (getG_con (laws_toWave.gok _)) laws_toWave.fok rfl rfl fun _ => rfl
theorem laws_toWave.eq (x0 : Int × (List Int) × (List (Int × (List Int)))) : laws_toWave x0 =
    (laws_toIntS x0.2.1).bind fun y1 =>
    (laws_toBitsS x0.2.2).bind fun y2 =>
    some (x0.1, y1, y2) := by kernel_rfl

noncomputable abbrev laws_eqBitsS.s : Sg := ⟨[.lend, .lend], [vl 32, vl 32], ⟨[vb], [none, none]⟩, Try.f80⟩
noncomputable def laws_eqBitsS.gs (δ : Type) : List (Nat × Callee (GT tab) δ) := [(49, laws_eqBits.k)]
theorem laws_eqBitsS.gok (δ : Type) : AllCon Try.prog tab (laws_eqBitsS.gs δ) := .cons laws_eqBits.con .nil
noncomputable def laws_eqBitsS.c := cx laws_eqBitsS.s [] [(4, [0, 1, 5])] false (laws_eqBitsS.gs _)
noncomputable def laws_eqBitsS (x0 x1 : List (Int × (List Int))) : Option (Bool) := fnW laws_eqBitsS.s laws_eqBitsS.c (x0, x1)
theorem laws_eqBitsS.fok : FkS laws_eqBitsS.s 80 := ⟨Try.func80, by kernel_rfl, by kernel_rfl⟩
noncomputable def laws_eqBitsS.fn (x : Args tab laws_eqBitsS.s.ar) : Option (ResT tab laws_eqBitsS.s.rs) := laws_eqBitsS x.1 x.2
noncomputable abbrev laws_eqBitsS.k {δ : Type} : Callee (GT tab) δ := kS laws_eqBitsS.s laws_eqBitsS.fn
theorem laws_eqBitsS.con {δ : Type} : Con Try.prog (KT tab) 80 (laws_eqBitsS.k (δ := δ)) := con_shape (c := laws_eqBitsS.c) mixed tysOk (getG_con (laws_eqBitsS.gok _)) laws_eqBitsS.fok rfl rfl fun _ => rfl
noncomputable def laws_eqBitsS_l0 (v0 v1 : List (Int × (List Int))) (v2 : Int) : Option (Bool) := lpW laws_eqBitsS.s laws_eqBitsS.c 0 (ud 21 [.vs false 32 v0, .vs false 32 v1, .undef, .undef, .undef, .int .i64 v2]) [] 0
theorem laws_eqBitsS.eq (x0 x1 : List (Int × (List Int))) : laws_eqBitsS x0 x1 =
    bif (x0.length : Int) != (x1.length : Int) then
      some false
    else
      laws_eqBitsS_l0 x0 x1 (0 : Int) := by kernel_rfl
theorem laws_eqBitsS_l0.eq (v0 v1 : List (Int × (List Int))) (v2 : Int) : laws_eqBitsS_l0 v0 v1 v2 =
    bif decide (v2 < (v0.length : Int)) then
      (at? v0 v2).bind fun y1 =>
      (at? v1 v2).bind fun y2 =>
      (laws_eqBits y1 y2).bind fun y3 =>
      bif !y3 then
        some false
      else
        laws_eqBitsS_l0 v0 v1 (IntKind.i64.wrap (v2 + (1 : Int)))
    else
      some true := (Lw_eq tysOk (getG_con (laws_eqBitsS.gok _)) _ _).trans (by kernel_rfl)

noncomputable abbrev laws_eqWave.s : Sg := ⟨[.lend, .lend], [.agg [.int .i64, .sl false false 3, .sl false false 32], .agg [.int .i64, .sl false false 3, .sl false false 32]], ⟨[vb], [none, none]⟩, Try.f37⟩
noncomputable def laws_eqWave.gs (δ : Type) : List (Nat × Callee (GT tab) δ) := [(11, laws_eqIntS.k), (80, laws_eqBitsS.k)]
theorem laws_eqWave.gok (δ : Type) : AllCon Try.prog tab (laws_eqWave.gs δ) := .cons laws_eqIntS.con (.cons laws_eqBitsS.con .nil)
noncomputable def laws_eqWave.c := cx laws_eqWave.s [] [] false (laws_eqWave.gs _)
noncomputable def laws_eqWave (x0 x1 : Int × (List Int) × (List (Int × (List Int)))) : Option (Bool) := fnW laws_eqWave.s laws_eqWave.c (x0, x1)
theorem laws_eqWave.fok : FkS laws_eqWave.s 37 := ⟨Try.func37, by kernel_rfl, by kernel_rfl⟩
noncomputable def laws_eqWave.fn (x : Args tab laws_eqWave.s.ar) : Option (ResT tab laws_eqWave.s.rs) := laws_eqWave x.1 x.2
noncomputable abbrev laws_eqWave.k {δ : Type} : Callee (GT tab) δ := kS laws_eqWave.s laws_eqWave.fn
theorem laws_eqWave.con {δ : Type} : Con Try.prog (KT tab) 37 (laws_eqWave.k (δ := δ)) := con_shape (c := laws_eqWave.c) mixed tysOk (getG_con (laws_eqWave.gok _)) laws_eqWave.fok rfl rfl fun _ => rfl
theorem laws_eqWave.eq (x0 x1 : Int × (List Int) × (List (Int × (List Int)))) : laws_eqWave x0 x1 =
    bif x0.1 != x1.1 then
      some false
    else
      (laws_eqIntS x0.2.1 x1.2.1).bind fun y1 =>
      bif !y1 then
        some false
      else
        (laws_eqBitsS x0.2.2 x1.2.2).bind fun y2 =>
        bif !y2 then
          some false
        else
          some true := by kernel_rfl

end Go.Ev.W
