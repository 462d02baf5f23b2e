/- What functions of the program come to. -/
import Derived.Test.YtmobcecmjpfpiaaPpT
namespace Go.Ev.W
open Go.Ev Go.Proofs
set_option maxRecDepth 100000
set_option linter.unusedVariables false

noncomputable abbrev laws_szUint64S.s : Sg := ⟨[.lend, .lend], [vl 94, vi], ⟨[vi], [none, none]⟩, Try.f84⟩
noncomputable def laws_szUint64S.gs (δ : Type) : List (Nat × Callee (GT tab) δ) := []
theorem laws_szUint64S.gok (δ : Type) : AllCon Try.prog tab (laws_szUint64S.gs δ) := .nil
noncomputable def laws_szUint64S.c := cx laws_szUint64S.s [] [] false (laws_szUint64S.gs _)
noncomputable def laws_szUint64S (x0 : List Int) (x1 : Int) : Option (Int) := fnW laws_szUint64S.s laws_szUint64S.c (x0, x1)
theorem laws_szUint64S.fok : FkS laws_szUint64S.s 84 := ⟨Try.func84, by kernel_rfl, by kernel_rfl⟩
noncomputable def laws_szUint64S.fn (x : Args tab laws_szUint64S.s.ar) : Option (ResT tab laws_szUint64S.s.rs) := laws_szUint64S x.1 x.2
noncomputable abbrev laws_szUint64S.k {δ : Type} : Callee (GT tab) δ := kS laws_szUint64S.s laws_szUint64S.fn
theorem laws_szUint64S.con {δ : Type} : Con Try.prog (KT tab) 84 (laws_szUint64S.k (δ := δ)) := con_shape (c := laws_szUint64S.c) mixed tysOk (getG_con (laws_szUint64S.gok _)) laws_szUint64S.fok rfl rfl fun _ => rfl
theorem laws_szUint64S.eq (x0 : List Int) (x1 : Int) : laws_szUint64S x0 x1 =
    bif decide (IntKind.i64.wrap (x1 - (x0.length : Int)) < (0 : Int)) then
      some (-1 : Int)
    else
      some (IntKind.i64.wrap (x1 - (x0.length : Int))) := by kernel_rfl

noncomputable abbrev laws_szBits.s : Sg := ⟨[.lend, .lend], [.agg [.int .i64, .sl false false 94], vi], ⟨[vi], [none, none]⟩, Try.f42⟩
noncomputable def laws_szBits.gs (δ : Type) : List (Nat × Callee (GT tab) δ) := [(84, laws_szUint64S.k)]
theorem laws_szBits.gok (δ : Type) : AllCon Try.prog tab (laws_szBits.gs δ) := .cons laws_szUint64S.con .nil
noncomputable def laws_szBits.c := cx laws_szBits.s [] [] false (laws_szBits.gs _)
noncomputable def laws_szBits (x0 : Int × (List Int)) (x1 : Int) : Option (Int) := fnW laws_szBits.s laws_szBits.c (x0, x1)
theorem laws_szBits.fok : FkS laws_szBits.s 42 := ⟨Try.func42, by kernel_rfl, by kernel_rfl⟩
noncomputable def laws_szBits.fn (x : Args tab laws_szBits.s.ar) : Option (ResT tab laws_szBits.s.rs) := laws_szBits x.1 x.2
noncomputable abbrev laws_szBits.k {δ : Type} : Callee (GT tab) δ := kS laws_szBits.s laws_szBits.fn
theorem laws_szBits.con {δ : Type} : Con Try.prog (KT tab) 42 (laws_szBits.k (δ := δ)) := con_shape (c := laws_szBits.c) mixed tysOk (getG_con (laws_szBits.gok _)) laws_szBits.fok rfl rfl fun _ => rfl
theorem laws_szBits.eq (x0 : Int × (List Int)) (x1 : Int) : laws_szBits x0 x1 =
    (laws_szUint64S x0.2 x1).bind fun y1 =>
    bif decide (y1 < (0 : Int)) then
      some (-1 : Int)
    else
      some y1 := by kernel_rfl

noncomputable abbrev laws_toUint64S.s : Sg := ⟨[.lend], [vl 94], ⟨[vo 94], [none]⟩, Try.f89⟩
noncomputable def laws_toUint64S.gs (δ : Type) : List (Nat × Callee (GT tab) δ) := []
theorem laws_toUint64S.gok (δ : Type) : AllCon Try.prog tab (laws_toUint64S.gs δ) := .nil
noncomputable def laws_toUint64S.c := cx laws_toUint64S.s [] [(3, [0, 3, 4])] false (laws_toUint64S.gs _)
noncomputable def laws_toUint64S (x0 : List Int) : Option (List Int) := fnW laws_toUint64S.s laws_toUint64S.c x0
theorem laws_toUint64S.fok : FkS laws_toUint64S.s 89 := ⟨Try.func89, by kernel_rfl, by kernel_rfl⟩
noncomputable def laws_toUint64S.fn (x : Args tab laws_toUint64S.s.ar) : Option (ResT tab laws_toUint64S.s.rs) := laws_toUint64S x
noncomputable abbrev laws_toUint64S.k {δ : Type} : Callee (GT tab) δ := kS laws_toUint64S.s laws_toUint64S.fn
theorem laws_toUint64S.con {δ : Type} : Con Try.prog (KT tab) 89 (laws_toUint64S.k (δ := δ)) := con_shape (c := laws_toUint64S.c) mixed tysOk (getG_con (laws_toUint64S.gok _)) laws_toUint64S.fok rfl rfl fun _ => rfl
noncomputable def laws_toUint64S_l0 (v0 : List Int) (v1 : Int) (v2 : List Int) : Option (List Int) := lpW laws_toUint64S.s laws_toUint64S.c 0 (ud 17 [.vs false 94 v0, .undef, .undef, .sl 0 0, .int .i64 v1]) [.row 0 true 94 v2] 1
theorem laws_toUint64S.eq (x0 : List Int) : laws_toUint64S x0 =
    bif decide ((0 : Int) ≤ (x0.length : Int)) && decide (((x0.length : Int).toNat) * 8 ≤ 140737488355328) then
      laws_toUint64S_l0 x0 (0 : Int) (List.replicate ((x0.length : Int).toNat) (0 : Int))
    else
      none := by kernel_rfl
theorem laws_toUint64S_l0.eq (v0 : List Int) (v1 : Int) (v2 : List Int) : laws_toUint64S_l0 v0 v1 v2 =
    bif decide (v1 < (v0.length : Int)) then
      (at? v0 v1).bind fun y1 =>
      (at? v2 v1).bind fun y2 =>
      v2[v1.toNat]?.bind fun y3 =>
      laws_toUint64S_l0 v0 (IntKind.i64.wrap (v1 + (1 : Int))) (v2.set v1.toNat y1)
    else
      some v2 := (Lw_eq tysOk (getG_con (laws_toUint64S.gok _)) _ _).trans (by kernel_rfl)

noncomputable abbrev laws_toBits.s : Sg := ⟨[.lend], [.agg [.int .i64, .sl false false 94]], ⟨[.agg [.int .i64, .sl true true 94]], [none]⟩, Try.f46⟩
noncomputable def laws_toBits.gs (δ : Type) : List (Nat × Callee (GT tab) δ) := [(89, laws_toUint64S.k)]
theorem laws_toBits.gok (δ : Type) : AllCon Try.prog tab (laws_toBits.gs δ) := .cons laws_toUint64S.con .nil
noncomputable def laws_toBits.c := cx laws_toBits.s [] [] false (laws_toBits.gs _)
noncomputable def laws_toBits (x0 : Int × (List Int)) : Option (Int × (List Int)) := fnW laws_toBits.s laws_toBits.c x0
theorem laws_toBits.fok : FkS laws_toBits.s 46 := ⟨Try.func46, by kernel_rfl, by kernel_rfl⟩
noncomputable def laws_toBits.fn (x : Args tab laws_toBits.s.ar) : Option (ResT tab laws_toBits.s.rs) := laws_toBits x
noncomputable abbrev laws_toBits.k {δ : Type} : Callee (GT tab) δ := kS laws_toBits.s laws_toBits.fn
theorem laws_toBits.con {δ : Type} : Con Try.prog (KT tab) 46 (laws_toBits.k (δ := δ)) := con_shape (c := laws_toBits.c) mixed tysOk (getG_con (laws_toBits.gok _)) laws_toBits.fok rfl rfl fun _ => rfl
theorem laws_toBits.eq (x0 : Int × (List Int)) : laws_toBits x0 =
    (laws_toUint64S x0.2).bind fun y1 =>
    some (x0.1, y1) := by kernel_rfl

noncomputable abbrev laws_eqIntS.s : Sg := ⟨[.lend, .lend], [vl 3, vl 3], ⟨[vb], [none, none]⟩, Try.f11⟩
noncomputable def laws_eqIntS.gs (δ : Type) : List (Nat × Callee (GT tab) δ) := []
theorem laws_eqIntS.gok (δ : Type) : AllCon Try.prog tab (laws_eqIntS.gs δ) := .nil
noncomputable def laws_eqIntS.c := cx laws_eqIntS.s [] [(4, [0, 1, 5])] false (laws_eqIntS.gs _)
noncomputable def laws_eqIntS (x0 x1 : List Int) : Option (Bool) := fnW laws_eqIntS.s laws_eqIntS.c (x0, x1)
theorem laws_eqIntS.fok : FkS laws_eqIntS.s 11 := ⟨Try.func11, by kernel_rfl, by kernel_rfl⟩
noncomputable def laws_eqIntS.fn (x : Args tab laws_eqIntS.s.ar) : Option (ResT tab laws_eqIntS.s.rs) := laws_eqIntS x.1 x.2
noncomputable abbrev laws_eqIntS.k {δ : Type} : Callee (GT tab) δ := kS laws_eqIntS.s laws_eqIntS.fn
theorem laws_eqIntS.con {δ : Type} : Con Try.prog (KT tab) 11 (laws_eqIntS.k (δ := δ)) := con_shape (c := laws_eqIntS.c) mixed tysOk (getG_con (laws_eqIntS.gok _)) laws_eqIntS.fok rfl rfl fun _ => rfl
noncomputable def laws_eqIntS_l0 (v0 v1 : List Int) (v2 : Int) : Option (Bool) := lpW laws_eqIntS.s laws_eqIntS.c 0 (ud 20 [.vs false 3 v0, .vs false 3 v1, .undef, .undef, .undef, .int .i64 v2]) [] 0
theorem laws_eqIntS.eq (x0 x1 : List Int) : laws_eqIntS x0 x1 =
    bif (x0.length : Int) != (x1.length : Int) then
      some false
    else
      laws_eqIntS_l0 x0 x1 (0 : Int) := by kernel_rfl
theorem laws_eqIntS_l0.eq (v0 v1 : List Int) (v2 : Int) : laws_eqIntS_l0 v0 v1 v2 =
    bif decide (v2 < (v0.length : Int)) then
      (at? v0 v2).bind fun y1 =>
      (at? v1 v2).bind fun y2 =>
      bif y1 != y2 then
        some false
      else
        laws_eqIntS_l0 v0 v1 (IntKind.i64.wrap (v2 + (1 : Int)))
    else
      some true := (Lw_eq tysOk (getG_con (laws_eqIntS.gok _)) _ _).trans (by kernel_rfl)

noncomputable abbrev laws_eqUint64S.s : Sg := ⟨[.lend, .lend], [vl 94, vl 94], ⟨[vb], [none, none]⟩, Try.f95⟩
noncomputable def laws_eqUint64S.gs (δ : Type) : List (Nat × Callee (GT tab) δ) := []
theorem laws_eqUint64S.gok (δ : Type) : AllCon Try.prog tab (laws_eqUint64S.gs δ) := .nil
noncomputable def laws_eqUint64S.c := cx laws_eqUint64S.s [] [(4, [0, 1, 5])] false (laws_eqUint64S.gs _)
noncomputable def laws_eqUint64S (x0 x1 : List Int) : Option (Bool) := fnW laws_eqUint64S.s laws_eqUint64S.c (x0, x1)
theorem laws_eqUint64S.fok : FkS laws_eqUint64S.s 95 := ⟨Try.func95, by kernel_rfl, by kernel_rfl⟩
noncomputable def laws_eqUint64S.fn (x : Args tab laws_eqUint64S.s.ar) : Option (ResT tab laws_eqUint64S.s.rs) := laws_eqUint64S x.1 x.2
noncomputable abbrev laws_eqUint64S.k {δ : Type} : Callee (GT tab) δ := kS laws_eqUint64S.s laws_eqUint64S.fn
theorem laws_eqUint64S.con {δ : Type} : Con Try.prog (KT tab) 95 (laws_eqUint64S.k (δ := δ)) := con_shape (c := laws_eqUint64S.c) mixed tysOk (getG_con (laws_eqUint64S.gok _)) laws_eqUint64S.fok rfl rfl fun _ => rfl
noncomputable def laws_eqUint64S_l0 (v0 v1 : List Int) (v2 : Int) : Option (Bool) := lpW laws_eqUint64S.s laws_eqUint64S.c 0 (ud 20 [.vs false 94 v0, .vs false 94 v1, .undef, .undef, .undef, .int .i64 v2]) [] 0
theorem laws_eqUint64S.eq (x0 x1 : List Int) : laws_eqUint64S x0 x1 =
    bif (x0.length : Int) != (x1.length : Int) then
      some false
    else
      laws_eqUint64S_l0 x0 x1 (0 : Int) := by kernel_rfl
theorem laws_eqUint64S_l0.eq (v0 v1 : List Int) (v2 : Int) : laws_eqUint64S_l0 v0 v1 v2 =
    bif decide (v2 < (v0.length : Int)) then
      (at? v0 v2).bind fun y1 =>
      (at? v1 v2).bind fun y2 =>
      bif y1 != y2 then
        some false
      else
        laws_eqUint64S_l0 v0 v1 (IntKind.i64.wrap (v2 + (1 : Int)))
    else
      some true := (Lw_eq tysOk (getG_con (laws_eqUint64S.gok _)) _ _).trans (by kernel_rfl)

noncomputable abbrev laws_eqBits.s : Sg := ⟨[.lend, .lend], [.agg [.int .i64, .sl false false 94], .agg [.int .i64, .sl false false 94]], ⟨[vb], [none, none]⟩, Try.f49⟩
noncomputable def laws_eqBits.gs (δ : Type) : List (Nat × Callee (GT tab) δ) := [(95, laws_eqUint64S.k)]
theorem laws_eqBits.gok (δ : Type) : AllCon Try.prog tab (laws_eqBits.gs δ) := .cons laws_eqUint64S.con .nil
noncomputable def laws_eqBits.c := cx laws_eqBits.s [] [] false (laws_eqBits.gs _)
noncomputable def laws_eqBits (x0 x1 : Int × (List Int)) : Option (Bool) := fnW laws_eqBits.s laws_eqBits.c (x0, x1)
theorem laws_eqBits.fok : FkS laws_eqBits.s 49 := ⟨Try.func49, by kernel_rfl, by kernel_rfl⟩
noncomputable def laws_eqBits.fn (x : Args tab laws_eqBits.s.ar) : Option (ResT tab laws_eqBits.s.rs) := laws_eqBits x.1 x.2
noncomputable abbrev laws_eqBits.k {δ : Type} : Callee (GT tab) δ := kS laws_eqBits.s laws_eqBits.fn
theorem laws_eqBits.con {δ : Type} : Con Try.prog (KT tab) 49 (laws_eqBits.k (δ := δ)) := con_shape (c := laws_eqBits.c) mixed tysOk (getG_con (laws_eqBits.gok _)) laws_eqBits.fok rfl rfl fun _ => rfl
theorem laws_eqBits.eq (x0 x1 : Int × (List Int)) : laws_eqBits x0 x1 =
    bif x0.1 != x1.1 then
      some false
    else
      (laws_eqUint64S x0.2 x1.2).bind fun y1 =>
      bif !y1 then
        some false
      else
        some true := by kernel_rfl

end Go.Ev.W
