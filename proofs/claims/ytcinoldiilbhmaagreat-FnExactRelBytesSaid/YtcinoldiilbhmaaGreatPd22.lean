/- What functions of the program come to. -/
import Derived.Test.YtcinoldiilbhmaaGreatPdT
namespace Go.Ev.W
open Go.Ev Go.Proofs
set_option maxRecDepth 100000
set_option linter.unusedVariables false

noncomputable abbrev laws_markIntS.s : Sg := ⟨[.keep, .lend], [vo 3, vi], ⟨[vi], [some (vo 3), none]⟩, Tryz.f53⟩
noncomputable def laws_markIntS.gs (δ : Type) : List (Nat × Callee (GT tab) δ) := []
theorem laws_markIntS.gok (δ : Type) : AllCon Tryz.prog tab (laws_markIntS.gs δ) := .nil
noncomputable def laws_markIntS.c := cx laws_markIntS.s [] [(2, [0, 1, 5])] false (laws_markIntS.gs _)
noncomputable def laws_markIntS (x0 : List Int) (x1 : Int) : Option (Int × (List Int)) := fnW laws_markIntS.s laws_markIntS.c (x0, x1)
theorem laws_markIntS.fok : FkS laws_markIntS.s 53 := ⟨Tryz.func53, by kernel_rfl, by kernel_rfl⟩
noncomputable def laws_markIntS.fn (x : Args tab laws_markIntS.s.ar) : Option (ResT tab laws_markIntS.s.rs) := laws_markIntS x.1 x.2
noncomputable abbrev laws_markIntS.k {δ : Type} : Callee (GT tab) δ := kS laws_markIntS.s laws_markIntS.fn
theorem laws_markIntS.con {δ : Type} : Con Tryz.prog (KT tab) 53 (laws_markIntS.k (δ := δ)) := con_shape (c := laws_markIntS.c) mixed tysOk (getG_con (laws_markIntS.gok _)) laws_markIntS.fok rfl rfl fun _ => rfl
noncomputable def laws_markIntS_l0 (v0 v1 : Int) (v2 : List Int) : Option (Int × (List Int)) := lpW laws_markIntS.s laws_markIntS.c 0 (ud 13 [.sl 0 0, .int .i64 v0, .undef, .undef, .undef, .int .i64 v1]) [.row 0 true 3 v2] 1
theorem laws_markIntS.eq (x0 : List Int) (x1 : Int) : laws_markIntS x0 x1 =
    laws_markIntS_l0 x1 (0 : Int) x0 := by kernel_rfl
theorem laws_markIntS_l0.eq (v0 v1 : Int) (v2 : List Int) : laws_markIntS_l0 v0 v1 v2 =
    bif decide (v1 < (v2.length : Int)) then
      (at? v2 v1).bind fun y1 =>
      v2[v1.toNat]?.bind fun y2 =>
      laws_markIntS_l0 (IntKind.i64.wrap (v0 + (1 : Int))) (IntKind.i64.wrap (v1 + (1 : Int))) (v2.set v1.toNat v0)
    else
      some (v0, v2) := (Lw_eq tysOk (getG_con (laws_markIntS.gok _)) _ _).trans (by kernel_rfl)

noncomputable abbrev laws_markUint64S.s : Sg := ⟨[.keep, .lend], [vo 157, vi], ⟨[vi], [some (vo 157), none]⟩, Tryz.f150⟩
noncomputable def laws_markUint64S.gs (δ : Type) : List (Nat × Callee (GT tab) δ) := []
theorem laws_markUint64S.gok (δ : Type) : AllCon Tryz.prog tab (laws_markUint64S.gs δ) := .nil
noncomputable def laws_markUint64S.c := cx laws_markUint64S.s [] [(2, [0, 1, 5])] false (laws_markUint64S.gs _)
noncomputable def laws_markUint64S (x0 : List Int) (x1 : Int) : Option (Int × (List Int)) := fnW laws_markUint64S.s laws_markUint64S.c (x0, x1)
theorem laws_markUint64S.fok : FkS laws_markUint64S.s 150 := ⟨Tryz.func150, by kernel_rfl, by kernel_rfl⟩
noncomputable def laws_markUint64S.fn (x : Args tab laws_markUint64S.s.ar) : Option (ResT tab laws_markUint64S.s.rs) := laws_markUint64S x.1 x.2
noncomputable abbrev laws_markUint64S.k {δ : Type} : Callee (GT tab) δ := kS laws_markUint64S.s laws_markUint64S.fn
theorem laws_markUint64S.con {δ : Type} : Con Tryz.prog (KT tab) 150 (laws_markUint64S.k (δ := δ)) := con_shape (c := laws_markUint64S.c) mixed tysOk (getG_con (laws_markUint64S.gok _)) laws_markUint64S.fok rfl rfl fun _ => rfl
noncomputable def laws_markUint64S_l0 (v0 v1 : Int) (v2 : List Int) : Option (Int × (List Int)) := lpW laws_markUint64S.s laws_markUint64S.c 0 (ud 14 [.sl 0 0, .int .i64 v0, .undef, .undef, .undef, .int .i64 v1]) [.row 0 true 157 v2] 1
theorem laws_markUint64S.eq (x0 : List Int) (x1 : Int) : laws_markUint64S x0 x1 =
    laws_markUint64S_l0 x1 (0 : Int) x0 := by kernel_rfl
theorem laws_markUint64S_l0.eq (v0 v1 : Int) (v2 : List Int) : laws_markUint64S_l0 v0 v1 v2 =
    bif decide (v1 < (v2.length : Int)) then
      (at? v2 v1).bind fun y1 =>
      v2[v1.toNat]?.bind fun y2 =>
      laws_markUint64S_l0 (IntKind.i64.wrap (v0 + (1 : Int))) (IntKind.i64.wrap (v1 + (1 : Int))) (v2.set v1.toNat (IntKind.u64.wrap v0))
    else
      some (v0, v2) := (Lw_eq tysOk (getG_con (laws_markUint64S.gok _)) _ _).trans (by kernel_rfl)

noncomputable abbrev laws_markBitsS.s : Sg := ⟨[.keep, .lend], [vo 41, vi], ⟨[vi], [some (vo 41), none]⟩, Tryz.f149⟩
noncomputable def laws_markBitsS.gs (δ : Type) : List (Nat × Callee (GT tab) δ) := [(150, laws_markUint64S.k)]
theorem laws_markBitsS.gok (δ : Type) : AllCon Tryz.prog tab (laws_markBitsS.gs δ) := .cons laws_markUint64S.con .nil
noncomputable def laws_markBitsS.c := cx laws_markBitsS.s [] [(2, [0, 1, 5])] false (laws_markBitsS.gs _)
noncomputable def laws_markBitsS (x0 : List (Int × (List Int))) (x1 : Int) : Option (Int × (List (Int × (List Int)))) := fnW laws_markBitsS.s laws_markBitsS.c (x0, x1)
theorem laws_markBitsS.fok : FkS laws_markBitsS.s 149 := ⟨Tryz.func149, by kernel_rfl, by kernel_rfl⟩
noncomputable def laws_markBitsS.fn (x : Args tab laws_markBitsS.s.ar) : Option (ResT tab laws_markBitsS.s.rs) := laws_markBitsS x.1 x.2
noncomputable abbrev laws_markBitsS.k {δ : Type} : Callee (GT tab) δ := kS laws_markBitsS.s laws_markBitsS.fn
theorem laws_markBitsS.con {δ : Type} : Con Tryz.prog (KT tab) 149 (laws_markBitsS.k (δ := δ)) := con_shape (c := laws_markBitsS.c) mixed tysOk (getG_con (laws_markBitsS.gok _)) laws_markBitsS.fok rfl rfl fun _ => rfl
noncomputable def laws_markBitsS_l0 (v0 v1 : Int) (v2 : List (Int × (List Int))) : Option (Int × (List (Int × (List Int)))) := lpW laws_markBitsS.s laws_markBitsS.c 0 (ud 21 [.sl 0 0, .int .i64 v0, .undef, .undef, .undef, .int .i64 v1]) [.row 0 true 41 v2] 1
theorem laws_markBitsS.eq (x0 : List (Int × (List Int))) (x1 : Int) : laws_markBitsS x0 x1 =
    laws_markBitsS_l0 x1 (0 : Int) x0 := by kernel_rfl
theorem laws_markBitsS_l0.eq (v0 v1 : Int) (v2 : List (Int × (List Int))) : laws_markBitsS_l0 v0 v1 v2 =
    bif decide (v1 < (v2.length : Int)) then
      (at? v2 v1).bind fun y1 =>
      v2[v1.toNat]?.bind fun y2 =>
      (at? (v2.set v1.toNat (v0, y2.2)) v1).bind fun y3 =>
      (v2.set v1.toNat (v0, y2.2))[v1.toNat]?.bind fun y4 =>
      (laws_markUint64S y4.2 (IntKind.i64.wrap (v0 + (1 : Int)))).bind fun y5 =>
      laws_markBitsS_l0 y5.1 (IntKind.i64.wrap (v1 + (1 : Int))) ((v2.set v1.toNat (v0, y2.2)).set v1.toNat (y4.1, y5.2))
    else
      some (v0, v2) := (Lw_eq tysOk (getG_con (laws_markBitsS.gok _)) _ _).trans (by kernel_rfl)

noncomputable abbrev laws_markWave.s : Sg := ⟨[.keep, .lend], [.agg [.int .i64, .sl true true 3, .sl true true 41], vi], ⟨[vi], [some (.agg [.int .i64, .sl true true 3, .sl true true 41]), none]⟩, Tryz.f88⟩
noncomputable def laws_markWave.gs (δ : Type) : List (Nat × Callee (GT tab) δ) := [(53, laws_markIntS.k), (149, laws_markBitsS.k)]
theorem laws_markWave.gok (δ : Type) : AllCon Tryz.prog tab (laws_markWave.gs δ) := .cons laws_markIntS.con (.cons laws_markBitsS.con .nil)
noncomputable def laws_markWave.c := cx laws_markWave.s [] [] false (laws_markWave.gs _)
noncomputable def laws_markWave (x0 : Int × (List Int) × (List (Int × (List Int)))) (x1 : Int) : Option (Int × (Int × (List Int) × (List (Int × (List Int))))) := fnW laws_markWave.s laws_markWave.c (x0, x1)
theorem laws_markWave.fok : FkS laws_markWave.s 88 := ⟨Tryz.func88, by kernel_rfl, by kernel_rfl⟩
noncomputable def laws_markWave.fn (x : Args tab laws_markWave.s.ar) : Option (ResT tab laws_markWave.s.rs) := laws_markWave x.1 x.2
noncomputable abbrev laws_markWave.k {δ : Type} : Callee (GT tab) δ := kS laws_markWave.s laws_markWave.fn
theorem laws_markWave.con {δ : Type} : Con Tryz.prog (KT tab) 88 (laws_markWave.k (δ := δ)) := con_shape (c := laws_markWave.c) mixed tysOk (getG_con (laws_markWave.gok _)) laws_markWave.fok rfl rfl fun _ => rfl
theorem laws_markWave.eq (x0 : Int × (List Int) × (List (Int × (List Int)))) (x1 : Int) : laws_markWave x0 x1 =
    (laws_markIntS x0.2.1 x1).bind fun y1 =>
    (laws_markBitsS x0.2.2 y1.1).bind fun y2 =>
    some (y2.1, (x0.1, y1.2, y2.2)) := by kernel_rfl

noncomputable abbrev laws_markBits.s : Sg := ⟨[.keep, .lend], [.agg [.int .i64, .sl true true 157], vi], ⟨[vi], [some (.agg [.int .i64, .sl true true 157]), none]⟩, Tryz.f89⟩
noncomputable def laws_markBits.gs (δ : Type) : List (Nat × Callee (GT tab) δ) := [(150, laws_markUint64S.k)]
theorem laws_markBits.gok (δ : Type) : AllCon Tryz.prog tab (laws_markBits.gs δ) := .cons laws_markUint64S.con .nil
noncomputable def laws_markBits.c := cx laws_markBits.s [] [] false (laws_markBits.gs _)
noncomputable def laws_markBits (x0 : Int × (List Int)) (x1 : Int) : Option (Int × (Int × (List Int))) := fnW laws_markBits.s laws_markBits.c (x0, x1)
theorem laws_markBits.fok : FkS laws_markBits.s 89 := ⟨Tryz.func89, by kernel_rfl, by kernel_rfl⟩
noncomputable def laws_markBits.fn (x : Args tab laws_markBits.s.ar) : Option (ResT tab laws_markBits.s.rs) := laws_markBits x.1 x.2
noncomputable abbrev laws_markBits.k {δ : Type} : Callee (GT tab) δ := kS laws_markBits.s laws_markBits.fn
theorem laws_markBits.con {δ : Type} : Con Tryz.prog (KT tab) 89 (laws_markBits.k (δ := δ)) := con_shape (c := laws_markBits.c) mixed tysOk (getG_con (laws_markBits.gok _)) laws_markBits.fok rfl rfl fun _ => rfl
theorem laws_markBits.eq (x0 : Int × (List Int)) (x1 : Int) : laws_markBits x0 x1 =
    (laws_markUint64S x0.2 x1).bind fun y1 =>
    some (y1.1, (x0.1, y1.2)) := by kernel_rfl

noncomputable abbrev laws_markPacked.s : Sg := ⟨[.keep, .lend], [.agg [.int .i64, .int .i64, .int .i64, .sl true true 157], vi], ⟨[vi], [some (.agg [.int .i64, .int .i64, .int .i64, .sl true true 157]), none]⟩, Tryz.f90⟩
noncomputable def laws_markPacked.gs (δ : Type) : List (Nat × Callee (GT tab) δ) := [(89, laws_markBits.k)]
theorem laws_markPacked.gok (δ : Type) : AllCon Tryz.prog tab (laws_markPacked.gs δ) := .cons laws_markBits.con .nil
noncomputable def laws_markPacked.c := cx laws_markPacked.s [] [] false (laws_markPacked.gs _)
noncomputable def laws_markPacked (x0 : Int × Int × Int × (List Int)) (x1 : Int) : Option (Int × (Int × Int × Int × (List Int))) := fnW laws_markPacked.s laws_markPacked.c (x0, x1)
theorem laws_markPacked.fok : FkS laws_markPacked.s 90 := ⟨Tryz.func90, by kernel_rfl, by kernel_rfl⟩
noncomputable def laws_markPacked.fn (x : Args tab laws_markPacked.s.ar) : Option (ResT tab laws_markPacked.s.rs) := laws_markPacked x.1 x.2
noncomputable abbrev laws_markPacked.k {δ : Type} : Callee (GT tab) δ := kS laws_markPacked.s laws_markPacked.fn
theorem laws_markPacked.con {δ : Type} : Con Tryz.prog (KT tab) 90 (laws_markPacked.k (δ := δ)) := con_shape (c := laws_markPacked.c) mixed tysOk (getG_con (laws_markPacked.gok _)) laws_markPacked.fok rfl rfl fun _ => rfl
theorem laws_markPacked.eq (x0 : Int × Int × Int × (List Int)) (x1 : Int) : laws_markPacked x0 x1 =
    (laws_markBits x0.2.2 x1).bind fun y1 =>
    some (y1.1, (x0.1, x0.2.1, x0.2.2.1, y1.2.2)) := by kernel_rfl

noncomputable abbrev laws_markFm.s : Sg := ⟨[.keep, .lend], [.agg [.int .i64, .int .i64, .int .i64, .sl true true 3, .sl true true 41, .sl true true 3, .int .i64, .sl true true 157, .int .i64, .int .i64, .int .i64, .sl true true 157, .int .i64, .int .i64, .int .i64, .sl true true 157], vi], ⟨[vi], [some (.agg [.int .i64, .int .i64, .int .i64, .sl true true 3, .sl true true 41, .sl true true 3, .int .i64, .sl true true 157, .int .i64, .int .i64, .int .i64, .sl true true 157, .int .i64, .int .i64, .int .i64, .sl true true 157]), none]⟩, Tryz.f39⟩
noncomputable def laws_markFm.gs (δ : Type) : List (Nat × Callee (GT tab) δ) := [(53, laws_markIntS.k), (88, laws_markWave.k), (89, laws_markBits.k), (90, laws_markPacked.k)]
theorem laws_markFm.gok (δ : Type) : AllCon Tryz.prog tab (laws_markFm.gs δ) := .cons laws_markIntS.con (.cons laws_markWave.con (.cons laws_markBits.con (.cons laws_markPacked.con .nil)))
noncomputable def laws_markFm.c := cx laws_markFm.s [] [] false (laws_markFm.gs _)
noncomputable def laws_markFm (x0 : Int × Int × Int × (List Int) × (List (Int × (List Int))) × (List Int) × Int × (List Int) × Int × Int × Int × (List Int) × Int × Int × Int × (List Int)) (x1 : Int) : Option (Int × (Int × Int × Int × (List Int) × (List (Int × (List Int))) × (List Int) × Int × (List Int) × Int × Int × Int × (List Int) × Int × Int × Int × (List Int))) := fnW laws_markFm.s laws_markFm.c (x0, x1)
theorem laws_markFm.fok : FkS laws_markFm.s 39 := ⟨Tryz.func39, by kernel_rfl, by kernel_rfl⟩
noncomputable def laws_markFm.fn (x : Args tab laws_markFm.s.ar) : Option (ResT tab laws_markFm.s.rs) := laws_markFm x.1 x.2
noncomputable abbrev laws_markFm.k {δ : Type} : Callee (GT tab) δ := kS laws_markFm.s laws_markFm.fn
theorem laws_markFm.con {δ : Type} : Con Tryz.prog (KT tab) 39 (laws_markFm.k (δ := δ)) := con_shape (c := laws_markFm.c) mixed tysOk (getG_con (laws_markFm.gok _)) laws_markFm.fok rfl rfl fun _ => rfl
theorem laws_markFm.eq (x0 : Int × Int × Int × (List Int) × (List (Int × (List Int))) × (List Int) × Int × (List Int) × Int × Int × Int × (List Int) × Int × Int × Int × (List Int)) (x1 : Int) : laws_markFm x0 x1 =
    (laws_markWave (x0.2.2.1, x0.2.2.2.1, x0.2.2.2.2.1) x1).bind fun y1 =>
    (laws_markIntS x0.2.2.2.2.2.1 y1.1).bind fun y2 =>
    (laws_markBits (x0.2.2.2.2.2.2.1, x0.2.2.2.2.2.2.2.1) y2.1).bind fun y3 =>
    (laws_markPacked (x0.2.2.2.2.2.2.2.2.1, x0.2.2.2.2.2.2.2.2.2.1, x0.2.2.2.2.2.2.2.2.2.2.1, x0.2.2.2.2.2.2.2.2.2.2.2.1) y3.1).bind fun y4 =>
    (laws_markPacked x0.2.2.2.2.2.2.2.2.2.2.2.2 y4.1).bind fun y5 =>
    some (y5.1, (x0.1, x0.2.1, x0.2.2.1, y1.2.2.1, y1.2.2.2, y2.2, x0.2.2.2.2.2.2.1, y3.2.2, x0.2.2.2.2.2.2.2.2.1, x0.2.2.2.2.2.2.2.2.2.1, x0.2.2.2.2.2.2.2.2.2.2.1, y4.2.2.2.2, x0.2.2.2.2.2.2.2.2.2.2.2.2.1, x0.2.2.2.2.2.2.2.2.2.2.2.2.2.1, x0.2.2.2.2.2.2.2.2.2.2.2.2.2.2.1, y5.2.2.2.2)) := by kernel_rfl

noncomputable abbrev laws_markRel.s : Sg := ⟨[.keep, .lend], [.agg [.int .i64, .int .i64, .int .i64, .sl true true 157, .int .i64, .sl true true 157, .int .i64, .sl true true 3, .sl true true 41, .int .i64, .sl true true 3, .sl true true 41, .sl true true 3, .int .i64, .sl true true 157, .int .i64, .int .i64, .int .i64, .sl true true 157, .int .i64, .int .i64, .int .i64, .sl true true 157], vi], ⟨[vi], [some (.agg [.int .i64, .int .i64, .int .i64, .sl true true 157, .int .i64, .sl true true 157, .int .i64, .sl true true 3, .sl true true 41, .int .i64, .sl true true 3, .sl true true 41, .sl true true 3, .int .i64, .sl true true 157, .int .i64, .int .i64, .int .i64, .sl true true 157, .int .i64, .int .i64, .int .i64, .sl true true 157]), none]⟩, Tryz.f40⟩
noncomputable def laws_markRel.gs (δ : Type) : List (Nat × Callee (GT tab) δ) := [(53, laws_markIntS.k), (88, laws_markWave.k), (89, laws_markBits.k), (90, laws_markPacked.k)]
theorem laws_markRel.gok (δ : Type) : AllCon Tryz.prog tab (laws_markRel.gs δ) := .cons laws_markIntS.con (.cons laws_markWave.con (.cons laws_markBits.con (.cons laws_markPacked.con .nil)))
noncomputable def laws_markRel.c := cx laws_markRel.s [] [] false (laws_markRel.gs _)
noncomputable def laws_markRel (x0 : Int × Int × Int × (List Int) × Int × (List Int) × Int × (List Int) × (List (Int × (List Int))) × Int × (List Int) × (List (Int × (List Int))) × (List Int) × Int × (List Int) × Int × Int × Int × (List Int) × Int × Int × Int × (List Int)) (x1 : Int) : Option (Int × (Int × Int × Int × (List Int) × Int × (List Int) × Int × (List Int) × (List (Int × (List Int))) × Int × (List Int) × (List (Int × (List Int))) × (List Int) × Int × (List Int) × Int × Int × Int × (List Int) × Int × Int × Int × (List Int))) := fnW laws_markRel.s laws_markRel.c (x0, x1)
theorem laws_markRel.fok : FkS laws_markRel.s 40 := ⟨Tryz.func40, by kernel_rfl, by kernel_rfl⟩
noncomputable def laws_markRel.fn (x : Args tab laws_markRel.s.ar) : Option (ResT tab laws_markRel.s.rs) := laws_markRel x.1 x.2
noncomputable abbrev laws_markRel.k {δ : Type} : Callee (GT tab) δ := kS laws_markRel.s laws_markRel.fn
theorem laws_markRel.con {δ : Type} : Con Tryz.prog (KT tab) 40 (laws_markRel.k (δ := δ)) := con_shape (c := laws_markRel.c) mixed tysOk (getG_con (laws_markRel.gok _)) laws_markRel.fok rfl rfl fun _ => rfl
theorem laws_markRel.eq (x0 : Int × Int × Int × (List Int) × Int × (List Int) × Int × (List Int) × (List (Int × (List Int))) × Int × (List Int) × (List (Int × (List Int))) × (List Int) × Int × (List Int) × Int × Int × Int × (List Int) × Int × Int × Int × (List Int)) (x1 : Int) : laws_markRel x0 x1 =
    (laws_markBits (x0.2.2.1, x0.2.2.2.1) x1).bind fun y1 =>
    (laws_markBits (x0.2.2.2.2.1, x0.2.2.2.2.2.1) y1.1).bind fun y2 =>
    (laws_markWave (x0.2.2.2.2.2.2.1, x0.2.2.2.2.2.2.2.1, x0.2.2.2.2.2.2.2.2.1) y2.1).bind fun y3 =>
    (laws_markWave (x0.2.2.2.2.2.2.2.2.2.1, x0.2.2.2.2.2.2.2.2.2.2.1, x0.2.2.2.2.2.2.2.2.2.2.2.1) y3.1).bind fun y4 =>
    (laws_markIntS x0.2.2.2.2.2.2.2.2.2.2.2.2.1 y4.1).bind fun y5 =>
    (laws_markBits (x0.2.2.2.2.2.2.2.2.2.2.2.2.2.1, x0.2.2.2.2.2.2.2.2.2.2.2.2.2.2.1) y5.1).bind fun y6 =>
    (laws_markPacked (x0.2.2.2.2.2.2.2.2.2.2.2.2.2.2.2.1, x0.2.2.2.2.2.2.2.2.2.2.2.2.2.2.2.2.1, x0.2.2.2.2.2.2.2.2.2.2.2.2.2.2.2.2.2.1, x0.2.2.2.2.2.2.2.2.2.2.2.2.2.2.2.2.2.2.1) y6.1).bind fun y7 =>
    (laws_markPacked x0.2.2.2.2.2.2.2.2.2.2.2.2.2.2.2.2.2.2.2 y7.1).bind fun y8 =>
    some (y8.1, (x0.1, x0.2.1, x0.2.2.1, y1.2.2, x0.2.2.2.2.1, y2.2.2, x0.2.2.2.2.2.2.1, y3.2.2.1, y3.2.2.2, x0.2.2.2.2.2.2.2.2.2.1, y4.2.2.1, y4.2.2.2, y5.2, x0.2.2.2.2.2.2.2.2.2.2.2.2.2.1, y6.2.2, x0.2.2.2.2.2.2.2.2.2.2.2.2.2.2.2.1, x0.2.2.2.2.2.2.2.2.2.2.2.2.2.2.2.2.1, x0.2.2.2.2.2.2.2.2.2.2.2.2.2.2.2.2.2.1, y7.2.2.2.2, x0.2.2.2.2.2.2.2.2.2.2.2.2.2.2.2.2.2.2.2.1, x0.2.2.2.2.2.2.2.2.2.2.2.2.2.2.2.2.2.2.2.2.1, x0.2.2.2.2.2.2.2.2.2.2.2.2.2.2.2.2.2.2.2.2.2.1, y8.2.2.2.2)) := by kernel_rfl

noncomputable abbrev laws_markByteS.s : Sg := ⟨[.keep, .lend], [vo 5, vi], ⟨[vi], [some (vo 5), none]⟩, Tryz.f41⟩
noncomputable def laws_markByteS.gs (δ : Type) : List (Nat × Callee (GT tab) δ) := []
theorem laws_markByteS.gok (δ : Type) : AllCon Tryz.prog tab (laws_markByteS.gs δ) := .nil
noncomputable def laws_markByteS.c := cx laws_markByteS.s [] [(2, [0, 1, 5])] false (laws_markByteS.gs _)
noncomputable def laws_markByteS (x0 : List Int) (x1 : Int) : Option (Int × (List Int)) := fnW laws_markByteS.s laws_markByteS.c (x0, x1)
theorem laws_markByteS.fok : FkS laws_markByteS.s 41 := ⟨Tryz.func41, by kernel_rfl, by kernel_rfl⟩
noncomputable def laws_markByteS.fn (x : Args tab laws_markByteS.s.ar) : Option (ResT tab laws_markByteS.s.rs) := laws_markByteS x.1 x.2
noncomputable abbrev laws_markByteS.k {δ : Type} : Callee (GT tab) δ := kS laws_markByteS.s laws_markByteS.fn
theorem laws_markByteS.con {δ : Type} : Con Tryz.prog (KT tab) 41 (laws_markByteS.k (δ := δ)) := con_shape (c := laws_markByteS.c) mixed tysOk (getG_con (laws_markByteS.gok _)) laws_markByteS.fok rfl rfl fun _ => rfl
noncomputable def laws_markByteS_l0 (v0 v1 : Int) (v2 : List Int) : Option (Int × (List Int)) := lpW laws_markByteS.s laws_markByteS.c 0 (ud 14 [.sl 0 0, .int .i64 v0, .undef, .undef, .undef, .int .i64 v1]) [.row 0 true 5 v2] 1
theorem laws_markByteS.eq (x0 : List Int) (x1 : Int) : laws_markByteS x0 x1 =
    laws_markByteS_l0 x1 (0 : Int) x0 := by kernel_rfl
theorem laws_markByteS_l0.eq (v0 v1 : Int) (v2 : List Int) : laws_markByteS_l0 v0 v1 v2 =
    bif decide (v1 < (v2.length : Int)) then
      (at? v2 v1).bind fun y1 =>
      v2[v1.toNat]?.bind fun y2 =>
      laws_markByteS_l0 (IntKind.i64.wrap (v0 + (1 : Int))) (IntKind.i64.wrap (v1 + (1 : Int))) (v2.set v1.toNat (IntKind.u8.wrap v0))
    else
      some (v0, v2) := (Lw_eq tysOk (getG_con (laws_markByteS.gok _)) _ _).trans (by kernel_rfl)

end Go.Ev.W
