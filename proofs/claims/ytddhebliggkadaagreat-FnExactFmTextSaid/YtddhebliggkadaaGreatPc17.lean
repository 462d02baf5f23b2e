/- What functions of the program come to. -/
import Derived.Test.YtddhebliggkadaaGreatPcT
namespace Go.Ev.W
open Go.Ev Go.Proofs
set_option maxRecDepth 100000
set_option linter.unusedVariables false

/-! ### laws_markIntS: loop.example/g00688/laws.markIntS -/
def laws_markIntS.ms : List Mode := [.keep, .lend]
def laws_markIntS.as : List VSh := [.one (.b (.b (.b (.b (.sl true true 3))))), .one (.b (.b (.b (.b (.int .i64)))))]
def laws_markIntS.rs : RSh := ⟨[.one (.b (.b (.b (.b (.int .i64)))))], [some (.one (.b (.b (.b (.b (.sl true true 3)))))), none]⟩
noncomputable def laws_markIntS.gs (δ : Type) : List (Nat × Callee (GT tab) δ) := []
theorem laws_markIntS.gok (δ : Type) : AllCon Tryz.prog tab (laws_markIntS.gs δ) := .nil
noncomputable def laws_markIntS.c : Ctx (GT tab) (KT tab) (ResT tab laws_markIntS.rs) := { X := XT tab, ty := tyOf tys, inner := fun _ => true, keep := keepOf 0 laws_markIntS.ms, cuts := [], live := liveOf [(2, [0, 1, 5])], G := getG (laws_markIntS.gs _) }
noncomputable def laws_markIntS.b : Code := bodyOf Tryz.f46
noncomputable def laws_markIntS (x0 : List Int) (x1 : Int) : Option (Int × (List Int)) := callW laws_markIntS.c (fiOf (GT tab) Tryz.f46 laws_markIntS.ms) laws_markIntS.b (decRes tab laws_markIntS.rs) (encArgs tab laws_markIntS.as (x0, x1))
theorem laws_markIntS.fok : FnOk Tryz.prog 46 Tryz.f46 laws_markIntS.ms laws_markIntS.b := ⟨Tryz.func46, by kernel_rfl, by kernel_rfl⟩
noncomputable def laws_markIntS.fn : Args tab laws_markIntS.as → Option (ResT tab laws_markIntS.rs) := fun x => laws_markIntS x.1 x.2
theorem laws_markIntS.con {δ : Type} : Con Tryz.prog (KT tab) 46 (calleeS (β := δ) tab laws_markIntS.ms laws_markIntS.as laws_markIntS.rs laws_markIntS.fn) := con_shape (c := laws_markIntS.c) mixed tysOk (getG_con (laws_markIntS.gok _)) laws_markIntS.fok rfl rfl (fun _ => rfl)
noncomputable def laws_markIntS_l0 (v0 : Int) (v1 : Int) (v2 : List Int) : Option (Int × (List Int)) := Lw laws_markIntS.c (finish laws_markIntS.c (fiOf (GT tab) Tryz.f46 laws_markIntS.ms) (decRes tab laws_markIntS.rs)) ((loops laws_markIntS.c.cuts 1000 laws_markIntS.b []).getD 0 []) { slots := [.sl 0 0, .int .i64 v0, .undef, .undef, .undef, .int .i64 v1, .undef, .undef, .undef, .undef, .undef, .undef, .undef, .undef, .undef, .undef, .undef, .undef, .undef], loc := locOf [.row 0 true 3 v2], nx := 1 }
theorem laws_markIntS.eq (x0 : List Int) (x1 : Int) : laws_markIntS x0 x1 =
    laws_markIntS_l0 x1 (0 : Int) x0 := by kernel_rfl
theorem laws_markIntS_l0.eq (v0 : Int) (v1 : Int) (v2 : List Int) : laws_markIntS_l0 v0 v1 v2 =
    bif decide (v1 < (v2.length : Int)) then
      (at? v2 v1).bind fun y1 =>
      v2[v1.toNat]?.bind fun y2 =>
      laws_markIntS_l0 (IntKind.i64.wrap (v0 + (1 : Int))) (IntKind.i64.wrap (v1 + (1 : Int))) (v2.set v1.toNat v0)
    else
      some (v0, v2) := (Lw_eq tysOk (getG_con (laws_markIntS.gok _)) _ _).trans (by kernel_rfl)

/-! ### laws_markUint64S: loop.example/g00688/laws.markUint64S -/
def laws_markUint64S.ms : List Mode := [.keep, .lend]
def laws_markUint64S.as : List VSh := [.one (.b (.b (.b (.b (.sl true true 126))))), .one (.b (.b (.b (.b (.int .i64)))))]
def laws_markUint64S.rs : RSh := ⟨[.one (.b (.b (.b (.b (.int .i64)))))], [some (.one (.b (.b (.b (.b (.sl true true 126)))))), none]⟩
noncomputable def laws_markUint64S.gs (δ : Type) : List (Nat × Callee (GT tab) δ) := []
theorem laws_markUint64S.gok (δ : Type) : AllCon Tryz.prog tab (laws_markUint64S.gs δ) := .nil
noncomputable def laws_markUint64S.c : Ctx (GT tab) (KT tab) (ResT tab laws_markUint64S.rs) := { X := XT tab, ty := tyOf tys, inner := fun _ => true, keep := keepOf 0 laws_markUint64S.ms, cuts := [], live := liveOf [(2, [0, 1, 5])], G := getG (laws_markUint64S.gs _) }
noncomputable def laws_markUint64S.b : Code := bodyOf Tryz.f143
noncomputable def laws_markUint64S (x0 : List Int) (x1 : Int) : Option (Int × (List Int)) := callW laws_markUint64S.c (fiOf (GT tab) Tryz.f143 laws_markUint64S.ms) laws_markUint64S.b (decRes tab laws_markUint64S.rs) (encArgs tab laws_markUint64S.as (x0, x1))
theorem laws_markUint64S.fok : FnOk Tryz.prog 143 Tryz.f143 laws_markUint64S.ms laws_markUint64S.b := ⟨Tryz.func143, by kernel_rfl, by kernel_rfl⟩
noncomputable def laws_markUint64S.fn : Args tab laws_markUint64S.as → Option (ResT tab laws_markUint64S.rs) := fun x => laws_markUint64S x.1 x.2
theorem laws_markUint64S.con {δ : Type} : Con Tryz.prog (KT tab) 143 (calleeS (β := δ) tab laws_markUint64S.ms laws_markUint64S.as laws_markUint64S.rs laws_markUint64S.fn) := con_shape (c := laws_markUint64S.c) mixed tysOk (getG_con (laws_markUint64S.gok _)) laws_markUint64S.fok rfl rfl (fun _ => rfl)
noncomputable def laws_markUint64S_l0 (v0 : Int) (v1 : Int) (v2 : List Int) : Option (Int × (List Int)) := Lw laws_markUint64S.c (finish laws_markUint64S.c (fiOf (GT tab) Tryz.f143 laws_markUint64S.ms) (decRes tab laws_markUint64S.rs)) ((loops laws_markUint64S.c.cuts 1000 laws_markUint64S.b []).getD 0 []) { slots := [.sl 0 0, .int .i64 v0, .undef, .undef, .undef, .int .i64 v1, .undef, .undef, .undef, .undef, .undef, .undef, .undef, .undef, .undef, .undef, .undef, .undef, .undef, .undef], loc := locOf [.row 0 true 126 v2], nx := 1 }
theorem laws_markUint64S.eq (x0 : List Int) (x1 : Int) : laws_markUint64S x0 x1 =
    laws_markUint64S_l0 x1 (0 : Int) x0 := by kernel_rfl
theorem laws_markUint64S_l0.eq (v0 : Int) (v1 : Int) (v2 : List Int) : laws_markUint64S_l0 v0 v1 v2 =
    bif decide (v1 < (v2.length : Int)) then
      (at? v2 v1).bind fun y1 =>
      v2[v1.toNat]?.bind fun y2 =>
      laws_markUint64S_l0 (IntKind.i64.wrap (v0 + (1 : Int))) (IntKind.i64.wrap (v1 + (1 : Int))) (v2.set v1.toNat (IntKind.u64.wrap v0))
    else
      some (v0, v2) := (Lw_eq tysOk (getG_con (laws_markUint64S.gok _)) _ _).trans (by kernel_rfl)

/-! ### laws_markBitsS: loop.example/g00688/laws.markBitsS -/
def laws_markBitsS.ms : List Mode := [.keep, .lend]
def laws_markBitsS.as : List VSh := [.one (.b (.b (.b (.b (.sl true true 30))))), .one (.b (.b (.b (.b (.int .i64)))))]
def laws_markBitsS.rs : RSh := ⟨[.one (.b (.b (.b (.b (.int .i64)))))], [some (.one (.b (.b (.b (.b (.sl true true 30)))))), none]⟩
noncomputable def laws_markBitsS.gs (δ : Type) : List (Nat × Callee (GT tab) δ) := [(143, calleeS tab laws_markUint64S.ms laws_markUint64S.as laws_markUint64S.rs laws_markUint64S.fn)]
theorem laws_markBitsS.gok (δ : Type) : AllCon Tryz.prog tab (laws_markBitsS.gs δ) := .cons laws_markUint64S.con (.nil)
noncomputable def laws_markBitsS.c : Ctx (GT tab) (KT tab) (ResT tab laws_markBitsS.rs) := { X := XT tab, ty := tyOf tys, inner := fun _ => true, keep := keepOf 0 laws_markBitsS.ms, cuts := [], live := liveOf [(2, [0, 1, 5])], G := getG (laws_markBitsS.gs _) }
noncomputable def laws_markBitsS.b : Code := bodyOf Tryz.f142
noncomputable def laws_markBitsS (x0 : List (Int × (List Int))) (x1 : Int) : Option (Int × (List (Int × (List Int)))) := callW laws_markBitsS.c (fiOf (GT tab) Tryz.f142 laws_markBitsS.ms) laws_markBitsS.b (decRes tab laws_markBitsS.rs) (encArgs tab laws_markBitsS.as (x0, x1))
theorem laws_markBitsS.fok : FnOk Tryz.prog 142 Tryz.f142 laws_markBitsS.ms laws_markBitsS.b := ⟨Tryz.func142, by kernel_rfl, by kernel_rfl⟩
noncomputable def laws_markBitsS.fn : Args tab laws_markBitsS.as → Option (ResT tab laws_markBitsS.rs) := fun x => laws_markBitsS x.1 x.2
theorem laws_markBitsS.con {δ : Type} : Con Tryz.prog (KT tab) 142 (calleeS (β := δ) tab laws_markBitsS.ms laws_markBitsS.as laws_markBitsS.rs laws_markBitsS.fn) := con_shape (c := laws_markBitsS.c) mixed tysOk (getG_con (laws_markBitsS.gok _)) laws_markBitsS.fok rfl rfl (fun _ => rfl)
noncomputable def laws_markBitsS_l0 (v0 : Int) (v1 : Int) (v2 : List (Int × (List Int))) : Option (Int × (List (Int × (List Int)))) := Lw laws_markBitsS.c (finish laws_markBitsS.c (fiOf (GT tab) Tryz.f142 laws_markBitsS.ms) (decRes tab laws_markBitsS.rs)) ((loops laws_markBitsS.c.cuts 1000 laws_markBitsS.b []).getD 0 []) { slots := [.sl 0 0, .int .i64 v0, .undef, .undef, .undef, .int .i64 v1, .undef, .undef, .undef, .undef, .undef, .undef, .undef, .undef, .undef, .undef, .undef, .undef, .undef, .undef, .undef, .undef, .undef, .undef, .undef, .undef, .undef], loc := locOf [.row 0 true 30 v2], nx := 1 }
theorem laws_markBitsS.eq (x0 : List (Int × (List Int))) (x1 : Int) : laws_markBitsS x0 x1 =
    laws_markBitsS_l0 x1 (0 : Int) x0 := by kernel_rfl
theorem laws_markBitsS_l0.eq (v0 : Int) (v1 : Int) (v2 : List (Int × (List Int))) : laws_markBitsS_l0 v0 v1 v2 =
    bif decide (v1 < (v2.length : Int)) then
      (at? v2 v1).bind fun y1 =>
      v2[v1.toNat]?.bind fun y2 =>
      (at? (v2.set v1.toNat (v0, y2.2)) v1).bind fun y3 =>
      (v2.set v1.toNat (v0, y2.2))[v1.toNat]?.bind fun y4 =>
      (laws_markUint64S y4.2 (IntKind.i64.wrap (v0 + (1 : Int)))).bind fun y5 =>
      laws_markBitsS_l0 y5.1 (IntKind.i64.wrap (v1 + (1 : Int))) ((v2.set v1.toNat (v0, y2.2)).set v1.toNat (y4.1, y5.2))
    else
      some (v0, v2) := (Lw_eq tysOk (getG_con (laws_markBitsS.gok _)) _ _).trans (by kernel_rfl)

/-! ### laws_markWave: loop.example/g00688/laws.markWave -/
def laws_markWave.ms : List Mode := [.keep, .lend]
def laws_markWave.as : List VSh := [.agg [.int .i64, .sl true true 3, .sl true true 30], .one (.b (.b (.b (.b (.int .i64)))))]
def laws_markWave.rs : RSh := ⟨[.one (.b (.b (.b (.b (.int .i64)))))], [some (.agg [.int .i64, .sl true true 3, .sl true true 30]), none]⟩
noncomputable def laws_markWave.gs (δ : Type) : List (Nat × Callee (GT tab) δ) := [(46, calleeS tab laws_markIntS.ms laws_markIntS.as laws_markIntS.rs laws_markIntS.fn), (142, calleeS tab laws_markBitsS.ms laws_markBitsS.as laws_markBitsS.rs laws_markBitsS.fn)]
theorem laws_markWave.gok (δ : Type) : AllCon Tryz.prog tab (laws_markWave.gs δ) := .cons laws_markIntS.con (.cons laws_markBitsS.con (.nil))
noncomputable def laws_markWave.c : Ctx (GT tab) (KT tab) (ResT tab laws_markWave.rs) := { X := XT tab, ty := tyOf tys, inner := fun _ => true, keep := keepOf 0 laws_markWave.ms, cuts := [], live := liveOf [], G := getG (laws_markWave.gs _) }
noncomputable def laws_markWave.b : Code := bodyOf Tryz.f90
noncomputable def laws_markWave (x0 : Int × (List Int) × (List (Int × (List Int)))) (x1 : Int) : Option (Int × (Int × (List Int) × (List (Int × (List Int))))) := callW laws_markWave.c (fiOf (GT tab) Tryz.f90 laws_markWave.ms) laws_markWave.b (decRes tab laws_markWave.rs) (encArgs tab laws_markWave.as (x0, x1))
theorem laws_markWave.fok : FnOk Tryz.prog 90 Tryz.f90 laws_markWave.ms laws_markWave.b := ⟨Tryz.func90, by kernel_rfl, by kernel_rfl⟩
noncomputable def laws_markWave.fn : Args tab laws_markWave.as → Option (ResT tab laws_markWave.rs) := fun x => laws_markWave x.1 x.2
theorem laws_markWave.con {δ : Type} : Con Tryz.prog (KT tab) 90 (calleeS (β := δ) tab laws_markWave.ms laws_markWave.as laws_markWave.rs laws_markWave.fn) := con_shape (c := laws_markWave.c) mixed tysOk (getG_con (laws_markWave.gok _)) laws_markWave.fok rfl rfl (fun _ => rfl)
theorem laws_markWave.eq (x0 : Int × (List Int) × (List (Int × (List Int)))) (x1 : Int) : laws_markWave x0 x1 =
    (laws_markIntS x0.2.1 x1).bind fun y1 =>
    (laws_markBitsS x0.2.2 y1.1).bind fun y2 =>
    some (y2.1, (x0.1, y1.2, y2.2)) := by kernel_rfl

/-! ### laws_markBits: loop.example/g00688/laws.markBits -/
def laws_markBits.ms : List Mode := [.keep, .lend]
def laws_markBits.as : List VSh := [.agg [.int .i64, .sl true true 126], .one (.b (.b (.b (.b (.int .i64)))))]
def laws_markBits.rs : RSh := ⟨[.one (.b (.b (.b (.b (.int .i64)))))], [some (.agg [.int .i64, .sl true true 126]), none]⟩
noncomputable def laws_markBits.gs (δ : Type) : List (Nat × Callee (GT tab) δ) := [(143, calleeS tab laws_markUint64S.ms laws_markUint64S.as laws_markUint64S.rs laws_markUint64S.fn)]
theorem laws_markBits.gok (δ : Type) : AllCon Tryz.prog tab (laws_markBits.gs δ) := .cons laws_markUint64S.con (.nil)
noncomputable def laws_markBits.c : Ctx (GT tab) (KT tab) (ResT tab laws_markBits.rs) := { X := XT tab, ty := tyOf tys, inner := fun _ => true, keep := keepOf 0 laws_markBits.ms, cuts := [], live := liveOf [], G := getG (laws_markBits.gs _) }
noncomputable def laws_markBits.b : Code := bodyOf Tryz.f91
noncomputable def laws_markBits (x0 : Int × (List Int)) (x1 : Int) : Option (Int × (Int × (List Int))) := callW laws_markBits.c (fiOf (GT tab) Tryz.f91 laws_markBits.ms) laws_markBits.b (decRes tab laws_markBits.rs) (encArgs tab laws_markBits.as (x0, x1))
theorem laws_markBits.fok : FnOk Tryz.prog 91 Tryz.f91 laws_markBits.ms laws_markBits.b := ⟨Tryz.func91, by kernel_rfl, by kernel_rfl⟩
noncomputable def laws_markBits.fn : Args tab laws_markBits.as → Option (ResT tab laws_markBits.rs) := fun x => laws_markBits x.1 x.2
theorem laws_markBits.con {δ : Type} : Con Tryz.prog (KT tab) 91 (calleeS (β := δ) tab laws_markBits.ms laws_markBits.as laws_markBits.rs laws_markBits.fn) := con_shape (c := laws_markBits.c) mixed tysOk (getG_con (laws_markBits.gok _)) laws_markBits.fok rfl rfl (fun _ => rfl)
theorem laws_markBits.eq (x0 : Int × (List Int)) (x1 : Int) : laws_markBits x0 x1 =
    (laws_markUint64S x0.2 x1).bind fun y1 =>
    some (y1.1, (x0.1, y1.2)) := by kernel_rfl

/-! ### laws_markPacked: loop.example/g00688/laws.markPacked -/
def laws_markPacked.ms : List Mode := [.keep, .lend]
def laws_markPacked.as : List VSh := [.agg [.int .i64, .int .i64, .int .i64, .sl true true 126], .one (.b (.b (.b (.b (.int .i64)))))]
def laws_markPacked.rs : RSh := ⟨[.one (.b (.b (.b (.b (.int .i64)))))], [some (.agg [.int .i64, .int .i64, .int .i64, .sl true true 126]), none]⟩
noncomputable def laws_markPacked.gs (δ : Type) : List (Nat × Callee (GT tab) δ) := [(91, calleeS tab laws_markBits.ms laws_markBits.as laws_markBits.rs laws_markBits.fn)]
theorem laws_markPacked.gok (δ : Type) : AllCon Tryz.prog tab (laws_markPacked.gs δ) := .cons laws_markBits.con (.nil)
noncomputable def laws_markPacked.c : Ctx (GT tab) (KT tab) (ResT tab laws_markPacked.rs) := { X := XT tab, ty := tyOf tys, inner := fun _ => true, keep := keepOf 0 laws_markPacked.ms, cuts := [], live := liveOf [], G := getG (laws_markPacked.gs _) }
noncomputable def laws_markPacked.b : Code := bodyOf Tryz.f92
noncomputable def laws_markPacked (x0 : Int × Int × Int × (List Int)) (x1 : Int) : Option (Int × (Int × Int × Int × (List Int))) := callW laws_markPacked.c (fiOf (GT tab) Tryz.f92 laws_markPacked.ms) laws_markPacked.b (decRes tab laws_markPacked.rs) (encArgs tab laws_markPacked.as (x0, x1))
theorem laws_markPacked.fok : FnOk Tryz.prog 92 Tryz.f92 laws_markPacked.ms laws_markPacked.b := ⟨Tryz.func92, by kernel_rfl, by kernel_rfl⟩
noncomputable def laws_markPacked.fn : Args tab laws_markPacked.as → Option (ResT tab laws_markPacked.rs) := fun x => laws_markPacked x.1 x.2
theorem laws_markPacked.con {δ : Type} : Con Tryz.prog (KT tab) 92 (calleeS (β := δ) tab laws_markPacked.ms laws_markPacked.as laws_markPacked.rs laws_markPacked.fn) := con_shape (c := laws_markPacked.c) mixed tysOk (getG_con (laws_markPacked.gok _)) laws_markPacked.fok rfl rfl (fun _ => rfl)
theorem laws_markPacked.eq (x0 : Int × Int × Int × (List Int)) (x1 : Int) : laws_markPacked x0 x1 =
    (laws_markBits (x0.2.2.1, x0.2.2.2) x1).bind fun y1 =>
    some (y1.1, (x0.1, x0.2.1, x0.2.2.1, y1.2.2)) := by kernel_rfl

/-! ### laws_markFm: loop.example/g00688/laws.markFm -/
def laws_markFm.ms : List Mode := [.keep, .lend]
def laws_markFm.as : List VSh := [.agg [.int .i64, .int .i64, .int .i64, .sl true true 3, .sl true true 30, .sl true true 3, .int .i64, .sl true true 126, .int .i64, .int .i64, .int .i64, .sl true true 126, .int .i64, .int .i64, .int .i64, .sl true true 126], .one (.b (.b (.b (.b (.int .i64)))))]
def laws_markFm.rs : RSh := ⟨[.one (.b (.b (.b (.b (.int .i64)))))], [some (.agg [.int .i64, .int .i64, .int .i64, .sl true true 3, .sl true true 30, .sl true true 3, .int .i64, .sl true true 126, .int .i64, .int .i64, .int .i64, .sl true true 126, .int .i64, .int .i64, .int .i64, .sl true true 126]), none]⟩
noncomputable def laws_markFm.gs (δ : Type) : List (Nat × Callee (GT tab) δ) := [(46, calleeS tab laws_markIntS.ms laws_markIntS.as laws_markIntS.rs laws_markIntS.fn), (90, calleeS tab laws_markWave.ms laws_markWave.as laws_markWave.rs laws_markWave.fn), (91, calleeS tab laws_markBits.ms laws_markBits.as laws_markBits.rs laws_markBits.fn), (92, calleeS tab laws_markPacked.ms laws_markPacked.as laws_markPacked.rs laws_markPacked.fn)]
theorem laws_markFm.gok (δ : Type) : AllCon Tryz.prog tab (laws_markFm.gs δ) := .cons laws_markIntS.con (.cons laws_markWave.con (.cons laws_markBits.con (.cons laws_markPacked.con (.nil))))
noncomputable def laws_markFm.c : Ctx (GT tab) (KT tab) (ResT tab laws_markFm.rs) := { X := XT tab, ty := tyOf tys, inner := fun _ => true, keep := keepOf 0 laws_markFm.ms, cuts := [], live := liveOf [], G := getG (laws_markFm.gs _) }
noncomputable def laws_markFm.b : Code := bodyOf Tryz.f38
noncomputable def laws_markFm (x0 : Int × Int × Int × (List Int) × (List (Int × (List Int))) × (List Int) × Int × (List Int) × Int × Int × Int × (List Int) × Int × Int × Int × (List Int)) (x1 : Int) : Option (Int × (Int × Int × Int × (List Int) × (List (Int × (List Int))) × (List Int) × Int × (List Int) × Int × Int × Int × (List Int) × Int × Int × Int × (List Int))) := callW laws_markFm.c (fiOf (GT tab) Tryz.f38 laws_markFm.ms) laws_markFm.b (decRes tab laws_markFm.rs) (encArgs tab laws_markFm.as (x0, x1))
theorem laws_markFm.fok : FnOk Tryz.prog 38 Tryz.f38 laws_markFm.ms laws_markFm.b := ⟨Tryz.func38, by kernel_rfl, by kernel_rfl⟩
noncomputable def laws_markFm.fn : Args tab laws_markFm.as → Option (ResT tab laws_markFm.rs) := fun x => laws_markFm x.1 x.2
theorem laws_markFm.con {δ : Type} : Con Tryz.prog (KT tab) 38 (calleeS (β := δ) tab laws_markFm.ms laws_markFm.as laws_markFm.rs laws_markFm.fn) := con_shape (c := laws_markFm.c) mixed tysOk (getG_con (laws_markFm.gok _)) laws_markFm.fok rfl rfl (fun _ => rfl)
theorem laws_markFm.eq (x0 : Int × Int × Int × (List Int) × (List (Int × (List Int))) × (List Int) × Int × (List Int) × Int × Int × Int × (List Int) × Int × Int × Int × (List Int)) (x1 : Int) : laws_markFm x0 x1 =
    (laws_markWave (x0.2.2.1, x0.2.2.2.1, x0.2.2.2.2.1) x1).bind fun y1 =>
    (laws_markIntS x0.2.2.2.2.2.1 y1.1).bind fun y2 =>
    (laws_markBits (x0.2.2.2.2.2.2.1, x0.2.2.2.2.2.2.2.1) y2.1).bind fun y3 =>
    (laws_markPacked (x0.2.2.2.2.2.2.2.2.1, x0.2.2.2.2.2.2.2.2.2.1, x0.2.2.2.2.2.2.2.2.2.2.1, x0.2.2.2.2.2.2.2.2.2.2.2.1) y3.1).bind fun y4 =>
    (laws_markPacked (x0.2.2.2.2.2.2.2.2.2.2.2.2.1, x0.2.2.2.2.2.2.2.2.2.2.2.2.2.1, x0.2.2.2.2.2.2.2.2.2.2.2.2.2.2.1, x0.2.2.2.2.2.2.2.2.2.2.2.2.2.2.2) y4.1).bind fun y5 =>
    some (y5.1, (x0.1, x0.2.1, x0.2.2.1, y1.2.2.1, y1.2.2.2, y2.2, x0.2.2.2.2.2.2.1, y3.2.2, x0.2.2.2.2.2.2.2.2.1, x0.2.2.2.2.2.2.2.2.2.1, x0.2.2.2.2.2.2.2.2.2.2.1, y4.2.2.2.2, x0.2.2.2.2.2.2.2.2.2.2.2.2.1, x0.2.2.2.2.2.2.2.2.2.2.2.2.2.1, x0.2.2.2.2.2.2.2.2.2.2.2.2.2.2.1, y5.2.2.2.2)) := by kernel_rfl

/-! ### laws_markByteS: loop.example/g00688/laws.markByteS -/
def laws_markByteS.ms : List Mode := [.keep, .lend]
def laws_markByteS.as : List VSh := [.one (.b (.b (.b (.b (.sl true true 5))))), .one (.b (.b (.b (.b (.int .i64)))))]
def laws_markByteS.rs : RSh := ⟨[.one (.b (.b (.b (.b (.int .i64)))))], [some (.one (.b (.b (.b (.b (.sl true true 5)))))), none]⟩
noncomputable def laws_markByteS.gs (δ : Type) : List (Nat × Callee (GT tab) δ) := []
theorem laws_markByteS.gok (δ : Type) : AllCon Tryz.prog tab (laws_markByteS.gs δ) := .nil
noncomputable def laws_markByteS.c : Ctx (GT tab) (KT tab) (ResT tab laws_markByteS.rs) := { X := XT tab, ty := tyOf tys, inner := fun _ => true, keep := keepOf 0 laws_markByteS.ms, cuts := [], live := liveOf [(2, [0, 1, 5])], G := getG (laws_markByteS.gs _) }
noncomputable def laws_markByteS.b : Code := bodyOf Tryz.f39
noncomputable def laws_markByteS (x0 : List Int) (x1 : Int) : Option (Int × (List Int)) := callW laws_markByteS.c (fiOf (GT tab) Tryz.f39 laws_markByteS.ms) laws_markByteS.b (decRes tab laws_markByteS.rs) (encArgs tab laws_markByteS.as (x0, x1))
theorem laws_markByteS.fok : FnOk Tryz.prog 39 Tryz.f39 laws_markByteS.ms laws_markByteS.b := ⟨Tryz.func39, by kernel_rfl, by kernel_rfl⟩
noncomputable def laws_markByteS.fn : Args tab laws_markByteS.as → Option (ResT tab laws_markByteS.rs) := fun x => laws_markByteS x.1 x.2
theorem laws_markByteS.con {δ : Type} : Con Tryz.prog (KT tab) 39 (calleeS (β := δ) tab laws_markByteS.ms laws_markByteS.as laws_markByteS.rs laws_markByteS.fn) := con_shape (c := laws_markByteS.c) mixed tysOk (getG_con (laws_markByteS.gok _)) laws_markByteS.fok rfl rfl (fun _ => rfl)
noncomputable def laws_markByteS_l0 (v0 : Int) (v1 : Int) (v2 : List Int) : Option (Int × (List Int)) := Lw laws_markByteS.c (finish laws_markByteS.c (fiOf (GT tab) Tryz.f39 laws_markByteS.ms) (decRes tab laws_markByteS.rs)) ((loops laws_markByteS.c.cuts 1000 laws_markByteS.b []).getD 0 []) { slots := [.sl 0 0, .int .i64 v0, .undef, .undef, .undef, .int .i64 v1, .undef, .undef, .undef, .undef, .undef, .undef, .undef, .undef, .undef, .undef, .undef, .undef, .undef, .undef], loc := locOf [.row 0 true 5 v2], nx := 1 }
theorem laws_markByteS.eq (x0 : List Int) (x1 : Int) : laws_markByteS x0 x1 =
    laws_markByteS_l0 x1 (0 : Int) x0 := by kernel_rfl
theorem laws_markByteS_l0.eq (v0 : Int) (v1 : Int) (v2 : List Int) : laws_markByteS_l0 v0 v1 v2 =
    bif decide (v1 < (v2.length : Int)) then
      (at? v2 v1).bind fun y1 =>
      v2[v1.toNat]?.bind fun y2 =>
      laws_markByteS_l0 (IntKind.i64.wrap (v0 + (1 : Int))) (IntKind.i64.wrap (v1 + (1 : Int))) (v2.set v1.toNat (IntKind.u8.wrap v0))
    else
      some (v0, v2) := (Lw_eq tysOk (getG_con (laws_markByteS.gok _)) _ _).trans (by kernel_rfl)

end Go.Ev.W
