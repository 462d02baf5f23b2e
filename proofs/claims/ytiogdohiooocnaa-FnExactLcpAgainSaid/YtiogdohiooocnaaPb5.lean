/- What functions of the program come to. -/
import Derived.Test.YtiogdohiooocnaaPbT
import Derived.Test.YtiogdohiooocnaaPb10
import Derived.Test.YtiogdohiooocnaaPb3
import Derived.Test.YtiogdohiooocnaaPb9
namespace Go.Ev.W
open Go.Ev Go.Proofs
set_option maxRecDepth 100000
set_option linter.unusedVariables false

/-! ### spec_VarOf: loop.example/g00688/spec.VarOf -/
def spec_VarOf.ms : List Mode := [.lend]
def spec_VarOf.as : List VSh := [.one (.b (.b (.b (.b (.int .i64)))))]
def spec_VarOf.rs : RSh := ⟨[.one (.b (.b (.b (.b (.sl true true 5)))))], [none]⟩
noncomputable def spec_VarOf.gs (δ : Type) : List (Nat × Callee (GT tab) δ) := []
theorem spec_VarOf.gok (δ : Type) : AllCon Try.prog tab (spec_VarOf.gs δ) := .nil
noncomputable def spec_VarOf.c : Ctx (GT tab) (KT tab) (ResT tab spec_VarOf.rs) := { X := XT tab, ty := tyOf tys, inner := fun _ => true, keep := keepOf 0 spec_VarOf.ms, cuts := [3], live := liveOf [(3, [0]), (4, [0, 3])], G := getG (spec_VarOf.gs _) }
noncomputable def spec_VarOf.b : Code := bodyOf Try.f123
noncomputable def spec_VarOf (x0 : Int) : Option (List Int) := callW spec_VarOf.c (fiOf (GT tab) Try.f123 spec_VarOf.ms) spec_VarOf.b (decRes tab spec_VarOf.rs) (encArgs tab spec_VarOf.as x0)
theorem spec_VarOf.fok : FnOk Try.prog 123 Try.f123 spec_VarOf.ms spec_VarOf.b := ⟨Try.func123, by kernel_rfl, by kernel_rfl⟩
noncomputable def spec_VarOf.fn : Args tab spec_VarOf.as → Option (ResT tab spec_VarOf.rs) := fun x => spec_VarOf x
theorem spec_VarOf.con {δ : Type} : Con Try.prog (KT tab) 123 (calleeS (β := δ) tab spec_VarOf.ms spec_VarOf.as spec_VarOf.rs spec_VarOf.fn) := con_shape (c := spec_VarOf.c) mixed tysOk (getG_con (spec_VarOf.gok _)) spec_VarOf.fok rfl rfl (fun _ => rfl)
noncomputable def spec_VarOf_l0 (v0 : Int) : Option (List Int) := Lw spec_VarOf.c (finish spec_VarOf.c (fiOf (GT tab) Try.f123 spec_VarOf.ms) (decRes tab spec_VarOf.rs)) ((loops spec_VarOf.c.cuts 1000 spec_VarOf.b []).getD 0 []) { slots := [.int .i64 v0, .undef, .undef, .undef, .undef, .undef, .undef, .undef, .undef, .undef, .undef, .undef, .undef, .undef, .undef, .undef, .undef, .undef, .undef, .undef, .undef, .undef, .undef, .undef, .undef, .undef, .undef], loc := locOf [], nx := 0 }
noncomputable def spec_VarOf_l1 (v0 : Int) (v1 : List Int) : Option (List Int) := Lw spec_VarOf.c (finish spec_VarOf.c (fiOf (GT tab) Try.f123 spec_VarOf.ms) (decRes tab spec_VarOf.rs)) ((loops spec_VarOf.c.cuts 1000 spec_VarOf.b []).getD 1 []) { slots := [.int .i64 v0, .undef, .undef, .sl 0 0, .undef, .undef, .undef, .undef, .undef, .undef, .undef, .undef, .undef, .undef, .undef, .undef, .undef, .undef, .undef, .undef, .undef, .undef, .undef, .undef, .undef, .undef, .undef], loc := locOf [.row 0 true 5 v1], nx := 1 }
theorem spec_VarOf.eq (x0 : Int) : spec_VarOf x0 =
    bif decide (x0 < (0 : Int)) then
      some ([] : List Int)
    else
      bif decide (x0 > (4294967295 : Int)) then
        some ([] : List Int)
      else
        spec_VarOf_l0 x0 := by kernel_rfl
theorem spec_VarOf_l0.eq (v0 : Int) : spec_VarOf_l0 v0 =
    spec_VarOf_l1 v0 ([] : List Int) := (Lw_eq tysOk (getG_con (spec_VarOf.gok _)) _ _).trans (by kernel_rfl)
theorem spec_VarOf_l1.eq (v0 : Int) (v1 : List Int) : spec_VarOf_l1 v0 v1 =
    bif decide (v0 ≥ (128 : Int)) then
      bif decide ((v1.length + ([IntKind.u8.wrap (IntKind.i64.wrap ((128 : Int) + (v0.tmod (128 : Int))))] : List Int).length) * 1 ≤ 140737488355328) then
        spec_VarOf_l1 (IntKind.i64.wrap (v0.tdiv (128 : Int))) (v1 ++ ([IntKind.u8.wrap (IntKind.i64.wrap ((128 : Int) + (v0.tmod (128 : Int))))] : List Int))
      else
        none
    else
      bif decide ((v1.length + ([IntKind.u8.wrap v0] : List Int).length) * 1 ≤ 140737488355328) then
        some (v1 ++ ([IntKind.u8.wrap v0] : List Int))
      else
        none := (Lw_eq tysOk (getG_con (spec_VarOf.gok _)) _ _).trans (by kernel_rfl)

/-! ### spec_BitsBytes: loop.example/g00688/spec.BitsBytes -/
def spec_BitsBytes.ms : List Mode := [.lend]
def spec_BitsBytes.as : List VSh := [.agg [.int .i64, .sl false false 117]]
def spec_BitsBytes.rs : RSh := ⟨[.one (.b (.b (.b (.b (.sl true true 5)))))], [none]⟩
noncomputable def spec_BitsBytes.gs (δ : Type) : List (Nat × Callee (GT tab) δ) := [(37, calleeS tab spec_BitsOk.ms spec_BitsOk.as spec_BitsOk.rs spec_BitsOk.fn), (92, calleeS tab spec_l01List.ms spec_l01List.as spec_l01List.rs spec_l01List.fn), (123, calleeS tab spec_VarOf.ms spec_VarOf.as spec_VarOf.rs spec_VarOf.fn)]
theorem spec_BitsBytes.gok (δ : Type) : AllCon Try.prog tab (spec_BitsBytes.gs δ) := .cons spec_BitsOk.con (.cons spec_l01List.con (.cons spec_VarOf.con (.nil)))
noncomputable def spec_BitsBytes.c : Ctx (GT tab) (KT tab) (ResT tab spec_BitsBytes.rs) := { X := XT tab, ty := tyOf tys, inner := fun _ => true, keep := keepOf 0 spec_BitsBytes.ms, cuts := [], live := liveOf [(6, [3, 4, 5]), (10, [3, 4, 5, 6, 7])], G := getG (spec_BitsBytes.gs _) }
noncomputable def spec_BitsBytes.b : Code := bodyOf Try.f64
noncomputable def spec_BitsBytes (x0 : Int × (List Int)) : Option (List Int) := callW spec_BitsBytes.c (fiOf (GT tab) Try.f64 spec_BitsBytes.ms) spec_BitsBytes.b (decRes tab spec_BitsBytes.rs) (encArgs tab spec_BitsBytes.as x0)
theorem spec_BitsBytes.fok : FnOk Try.prog 64 Try.f64 spec_BitsBytes.ms spec_BitsBytes.b := ⟨Try.func64, by kernel_rfl, by kernel_rfl⟩
noncomputable def spec_BitsBytes.fn : Args tab spec_BitsBytes.as → Option (ResT tab spec_BitsBytes.rs) := fun x => spec_BitsBytes x
theorem spec_BitsBytes.con {δ : Type} : Con Try.prog (KT tab) 64 (calleeS (β := δ) tab spec_BitsBytes.ms spec_BitsBytes.as spec_BitsBytes.rs spec_BitsBytes.fn) := con_shape (c := spec_BitsBytes.c) mixed tysOk (getG_con (spec_BitsBytes.gok _)) spec_BitsBytes.fok rfl rfl (fun _ => rfl)
noncomputable def spec_BitsBytes_l0 (v0 : Int) (v1 : List Int) (v2 : List Int) : Option (List Int) := Lw spec_BitsBytes.c (finish spec_BitsBytes.c (fiOf (GT tab) Try.f64 spec_BitsBytes.ms) (decRes tab spec_BitsBytes.rs)) ((loops spec_BitsBytes.c.cuts 1000 spec_BitsBytes.b []).getD 0 []) { slots := [.undef, .undef, .undef, .sl 0 0, .sl 1 0, .int .i64 v0, .undef, .undef, .undef, .undef, .undef, .undef, .undef, .undef, .undef, .undef, .undef, .undef, .undef, .undef, .undef, .undef, .undef, .undef, .undef, .undef, .undef, .undef, .undef, .undef, .undef, .undef, .undef, .undef, .undef, .undef, .undef, .undef, .undef, .undef, .undef, .undef, .undef, .undef, .undef, .undef, .undef, .undef], loc := locOf [.row 0 true 5 v1, .row 0 true 3 v2], nx := 2 }
noncomputable def spec_BitsBytes_l1 (v0 : Int) (v1 : Int) (v2 : Int) (v3 : List Int) (v4 : List Int) : Option (List Int) := Lw spec_BitsBytes.c (finish spec_BitsBytes.c (fiOf (GT tab) Try.f64 spec_BitsBytes.ms) (decRes tab spec_BitsBytes.rs)) ((loops spec_BitsBytes.c.cuts 1000 spec_BitsBytes.b []).getD 1 []) { slots := [.undef, .undef, .undef, .sl 0 0, .sl 1 0, .int .i64 v0, .int .i64 v1, .int .i64 v2, .undef, .undef, .undef, .undef, .undef, .undef, .undef, .undef, .undef, .undef, .undef, .undef, .undef, .undef, .undef, .undef, .undef, .undef, .undef, .undef, .undef, .undef, .undef, .undef, .undef, .undef, .undef, .undef, .undef, .undef, .undef, .undef, .undef, .undef, .undef, .undef, .undef, .undef, .undef, .undef], loc := locOf [.row 0 true 5 v3, .row 0 true 3 v4], nx := 2 }
theorem spec_BitsBytes.eq (x0 : Int × (List Int)) : spec_BitsBytes x0 =
    (spec_BitsOk (x0.1, x0.2)).bind fun y1 =>
    bif !y1 then
      some ([] : List Int)
    else
      (spec_VarOf x0.1).bind fun y2 =>
      (spec_l01List (x0.1, x0.2)).bind fun y3 =>
      spec_BitsBytes_l0 (0 : Int) y2 y3 := by kernel_rfl
theorem spec_BitsBytes_l0.eq (v0 : Int) (v1 : List Int) (v2 : List Int) : spec_BitsBytes_l0 v0 v1 v2 =
    bif decide (v0 < (v2.length : Int)) then
      spec_BitsBytes_l1 v0 (0 : Int) (7 : Int) v1 v2
    else
      some v1 := (Lw_eq tysOk (getG_con (spec_BitsBytes.gok _)) _ _).trans (by kernel_rfl)
theorem spec_BitsBytes_l1.eq (v0 : Int) (v1 : Int) (v2 : Int) (v3 : List Int) (v4 : List Int) : spec_BitsBytes_l1 v0 v1 v2 v3 v4 =
    bif decide (v2 ≥ (0 : Int)) then
      bif decide (IntKind.i64.wrap (v0 + v2) < (v4.length : Int)) then
        (at? v4 (IntKind.i64.wrap (v0 + v2))).bind fun y1 =>
        v4[(IntKind.i64.wrap (v0 + v2)).toNat]?.bind fun y2 =>
        spec_BitsBytes_l1 v0 (IntKind.i64.wrap ((IntKind.i64.wrap ((2 : Int) * v1)) + y2)) (IntKind.i64.wrap (v2 - (1 : Int))) v3 v4
      else
        spec_BitsBytes_l1 v0 (IntKind.i64.wrap ((2 : Int) * v1)) (IntKind.i64.wrap (v2 - (1 : Int))) v3 v4
    else
      bif decide ((v3.length + ([IntKind.u8.wrap v1] : List Int).length) * 1 ≤ 140737488355328) then
        spec_BitsBytes_l0 (IntKind.i64.wrap (v0 + (8 : Int))) (v3 ++ ([IntKind.u8.wrap v1] : List Int)) v4
      else
        none := (Lw_eq tysOk (getG_con (spec_BitsBytes.gok _)) _ _).trans (by kernel_rfl)

/-! ### laws_eqBitsS: loop.example/g00688/laws.eqBitsS -/
def laws_eqBitsS.ms : List Mode := [.lend, .lend]
def laws_eqBitsS.as : List VSh := [.one (.b (.b (.b (.b (.sl false false 51))))), .one (.b (.b (.b (.b (.sl false false 51)))))]
def laws_eqBitsS.rs : RSh := ⟨[.one (.b (.b (.b (.b (.bool)))))], [none, none]⟩
noncomputable def laws_eqBitsS.gs (δ : Type) : List (Nat × Callee (GT tab) δ) := [(84, calleeS tab laws_eqBits.ms laws_eqBits.as laws_eqBits.rs laws_eqBits.fn)]
theorem laws_eqBitsS.gok (δ : Type) : AllCon Try.prog tab (laws_eqBitsS.gs δ) := .cons laws_eqBits.con (.nil)
noncomputable def laws_eqBitsS.c : Ctx (GT tab) (KT tab) (ResT tab laws_eqBitsS.rs) := { X := XT tab, ty := tyOf tys, inner := fun _ => true, keep := keepOf 0 laws_eqBitsS.ms, cuts := [], live := liveOf [(4, [0, 1, 5])], G := getG (laws_eqBitsS.gs _) }
noncomputable def laws_eqBitsS.b : Code := bodyOf Try.f69
noncomputable def laws_eqBitsS (x0 : List (Int × (List Int))) (x1 : List (Int × (List Int))) : Option (Bool) := callW laws_eqBitsS.c (fiOf (GT tab) Try.f69 laws_eqBitsS.ms) laws_eqBitsS.b (decRes tab laws_eqBitsS.rs) (encArgs tab laws_eqBitsS.as (x0, x1))
theorem laws_eqBitsS.fok : FnOk Try.prog 69 Try.f69 laws_eqBitsS.ms laws_eqBitsS.b := ⟨Try.func69, by kernel_rfl, by kernel_rfl⟩
noncomputable def laws_eqBitsS.fn : Args tab laws_eqBitsS.as → Option (ResT tab laws_eqBitsS.rs) := fun x => laws_eqBitsS x.1 x.2
theorem laws_eqBitsS.con {δ : Type} : Con Try.prog (KT tab) 69 (calleeS (β := δ) tab laws_eqBitsS.ms laws_eqBitsS.as laws_eqBitsS.rs laws_eqBitsS.fn) := con_shape (c := laws_eqBitsS.c) mixed tysOk (getG_con (laws_eqBitsS.gok _)) laws_eqBitsS.fok rfl rfl (fun _ => rfl)
noncomputable def laws_eqBitsS_l0 (v0 : List (Int × (List Int))) (v1 : List (Int × (List Int))) (v2 : Int) : Option (Bool) := Lw laws_eqBitsS.c (finish laws_eqBitsS.c (fiOf (GT tab) Try.f69 laws_eqBitsS.ms) (decRes tab laws_eqBitsS.rs)) ((loops laws_eqBitsS.c.cuts 1000 laws_eqBitsS.b []).getD 0 []) { slots := [.vs false 51 v0, .vs false 51 v1, .undef, .undef, .undef, .int .i64 v2, .undef, .undef, .undef, .undef, .undef, .undef, .undef, .undef, .undef, .undef, .undef, .undef, .undef, .undef, .undef, .undef, .undef, .undef, .undef, .undef, .undef], loc := locOf [], nx := 0 }
theorem laws_eqBitsS.eq (x0 : List (Int × (List Int))) (x1 : List (Int × (List Int))) : laws_eqBitsS x0 x1 =
    bif (x0.length : Int) != (x1.length : Int) then
      some false
    else
      laws_eqBitsS_l0 x0 x1 (0 : Int) := by kernel_rfl
theorem laws_eqBitsS_l0.eq (v0 : List (Int × (List Int))) (v1 : List (Int × (List Int))) (v2 : Int) : laws_eqBitsS_l0 v0 v1 v2 =
    bif decide (v2 < (v0.length : Int)) then
      (at? v0 v2).bind fun y1 =>
      (at? v1 v2).bind fun y2 =>
      (laws_eqBits (y1.1, y1.2) (y2.1, y2.2)).bind fun y3 =>
      bif !y3 then
        some false
      else
        laws_eqBitsS_l0 v0 v1 (IntKind.i64.wrap (v2 + (1 : Int)))
    else
      some true := (Lw_eq tysOk (getG_con (laws_eqBitsS.gok _)) _ _).trans (by kernel_rfl)

/-! ### laws_eqWave: loop.example/g00688/laws.eqWave -/
def laws_eqWave.ms : List Mode := [.lend, .lend]
def laws_eqWave.as : List VSh := [.agg [.int .i64, .sl false false 3, .sl false false 51], .agg [.int .i64, .sl false false 3, .sl false false 51]]
def laws_eqWave.rs : RSh := ⟨[.one (.b (.b (.b (.b (.bool)))))], [none, none]⟩
noncomputable def laws_eqWave.gs (δ : Type) : List (Nat × Callee (GT tab) δ) := [(28, calleeS tab laws_eqIntS.ms laws_eqIntS.as laws_eqIntS.rs laws_eqIntS.fn), (69, calleeS tab laws_eqBitsS.ms laws_eqBitsS.as laws_eqBitsS.rs laws_eqBitsS.fn)]
theorem laws_eqWave.gok (δ : Type) : AllCon Try.prog tab (laws_eqWave.gs δ) := .cons laws_eqIntS.con (.cons laws_eqBitsS.con (.nil))
noncomputable def laws_eqWave.c : Ctx (GT tab) (KT tab) (ResT tab laws_eqWave.rs) := { X := XT tab, ty := tyOf tys, inner := fun _ => true, keep := keepOf 0 laws_eqWave.ms, cuts := [], live := liveOf [], G := getG (laws_eqWave.gs _) }
noncomputable def laws_eqWave.b : Code := bodyOf Try.f16
noncomputable def laws_eqWave (x0 : Int × (List Int) × (List (Int × (List Int)))) (x1 : Int × (List Int) × (List (Int × (List Int)))) : Option (Bool) := callW laws_eqWave.c (fiOf (GT tab) Try.f16 laws_eqWave.ms) laws_eqWave.b (decRes tab laws_eqWave.rs) (encArgs tab laws_eqWave.as (x0, x1))
theorem laws_eqWave.fok : FnOk Try.prog 16 Try.f16 laws_eqWave.ms laws_eqWave.b := ⟨Try.func16, by kernel_rfl, by kernel_rfl⟩
noncomputable def laws_eqWave.fn : Args tab laws_eqWave.as → Option (ResT tab laws_eqWave.rs) := fun x => laws_eqWave x.1 x.2
theorem laws_eqWave.con {δ : Type} : Con Try.prog (KT tab) 16 (calleeS (β := δ) tab laws_eqWave.ms laws_eqWave.as laws_eqWave.rs laws_eqWave.fn) := con_shape (c := laws_eqWave.c) mixed tysOk (getG_con (laws_eqWave.gok _)) laws_eqWave.fok rfl rfl (fun _ => rfl)
theorem laws_eqWave.eq (x0 : Int × (List Int) × (List (Int × (List Int)))) (x1 : Int × (List Int) × (List (Int × (List Int)))) : laws_eqWave x0 x1 =
    bif x0.1 != x1.1 then
      some false
    else
      (laws_eqIntS x0.2.1 x1.2.1).bind fun y1 =>
      bif !y1 then
        some false
      else
        (laws_eqBitsS x0.2.2 x1.2.2).bind fun y2 =>
        bif !y2 then
          some false
        else
          some true := by kernel_rfl

/-! ### laws_markBitsS: loop.example/g00688/laws.markBitsS -/
def laws_markBitsS.ms : List Mode := [.keep, .lend]
def laws_markBitsS.as : List VSh := [.one (.b (.b (.b (.b (.sl true true 51))))), .one (.b (.b (.b (.b (.int .i64)))))]
def laws_markBitsS.rs : RSh := ⟨[.one (.b (.b (.b (.b (.int .i64)))))], [some (.one (.b (.b (.b (.b (.sl true true 51)))))), none]⟩
noncomputable def laws_markBitsS.gs (δ : Type) : List (Nat × Callee (GT tab) δ) := [(124, calleeS tab laws_markUint64S.ms laws_markUint64S.as laws_markUint64S.rs laws_markUint64S.fn)]
theorem laws_markBitsS.gok (δ : Type) : AllCon Try.prog tab (laws_markBitsS.gs δ) := .cons laws_markUint64S.con (.nil)
noncomputable def laws_markBitsS.c : Ctx (GT tab) (KT tab) (ResT tab laws_markBitsS.rs) := { X := XT tab, ty := tyOf tys, inner := fun _ => true, keep := keepOf 0 laws_markBitsS.ms, cuts := [], live := liveOf [(2, [0, 1, 5])], G := getG (laws_markBitsS.gs _) }
noncomputable def laws_markBitsS.b : Code := bodyOf Try.f70
noncomputable def laws_markBitsS (x0 : List (Int × (List Int))) (x1 : Int) : Option (Int × (List (Int × (List Int)))) := callW laws_markBitsS.c (fiOf (GT tab) Try.f70 laws_markBitsS.ms) laws_markBitsS.b (decRes tab laws_markBitsS.rs) (encArgs tab laws_markBitsS.as (x0, x1))
theorem laws_markBitsS.fok : FnOk Try.prog 70 Try.f70 laws_markBitsS.ms laws_markBitsS.b := ⟨Try.func70, by kernel_rfl, by kernel_rfl⟩
noncomputable def laws_markBitsS.fn : Args tab laws_markBitsS.as → Option (ResT tab laws_markBitsS.rs) := fun x => laws_markBitsS x.1 x.2
theorem laws_markBitsS.con {δ : Type} : Con Try.prog (KT tab) 70 (calleeS (β := δ) tab laws_markBitsS.ms laws_markBitsS.as laws_markBitsS.rs laws_markBitsS.fn) := con_shape (c := laws_markBitsS.c) mixed tysOk (getG_con (laws_markBitsS.gok _)) laws_markBitsS.fok rfl rfl (fun _ => rfl)
noncomputable def laws_markBitsS_l0 (v0 : Int) (v1 : Int) (v2 : List (Int × (List Int))) : Option (Int × (List (Int × (List Int)))) := Lw laws_markBitsS.c (finish laws_markBitsS.c (fiOf (GT tab) Try.f70 laws_markBitsS.ms) (decRes tab laws_markBitsS.rs)) ((loops laws_markBitsS.c.cuts 1000 laws_markBitsS.b []).getD 0 []) { slots := [.sl 0 0, .int .i64 v0, .undef, .undef, .undef, .int .i64 v1, .undef, .undef, .undef, .undef, .undef, .undef, .undef, .undef, .undef, .undef, .undef, .undef, .undef, .undef, .undef, .undef, .undef, .undef, .undef, .undef, .undef], loc := locOf [.row 0 true 51 v2], nx := 1 }
theorem laws_markBitsS.eq (x0 : List (Int × (List Int))) (x1 : Int) : laws_markBitsS x0 x1 =
    laws_markBitsS_l0 x1 (0 : Int) x0 := by kernel_rfl
theorem laws_markBitsS_l0.eq (v0 : Int) (v1 : Int) (v2 : List (Int × (List Int))) : laws_markBitsS_l0 v0 v1 v2 =
    bif decide (v1 < (v2.length : Int)) then
      (at? v2 v1).bind fun y1 =>
      v2[v1.toNat]?.bind fun y2 =>
      (at? (v2.set v1.toNat (v0, y2.2)) v1).bind fun y3 =>
      (v2.set v1.toNat (v0, y2.2))[v1.toNat]?.bind fun y4 =>
      (laws_markUint64S y4.2 (IntKind.i64.wrap (v0 + (1 : Int)))).bind fun y5 =>
      laws_markBitsS_l0 y5.1 (IntKind.i64.wrap (v1 + (1 : Int))) ((v2.set v1.toNat (v0, y2.2)).set v1.toNat (y4.1, y5.2))
    else
      some (v0, v2) := (Lw_eq tysOk (getG_con (laws_markBitsS.gok _)) _ _).trans (by kernel_rfl)

/-! ### laws_markWave: loop.example/g00688/laws.markWave -/
def laws_markWave.ms : List Mode := [.keep, .lend]
def laws_markWave.as : List VSh := [.agg [.int .i64, .sl true true 3, .sl true true 51], .one (.b (.b (.b (.b (.int .i64)))))]
def laws_markWave.rs : RSh := ⟨[.one (.b (.b (.b (.b (.int .i64)))))], [some (.agg [.int .i64, .sl true true 3, .sl true true 51]), none]⟩
noncomputable def laws_markWave.gs (δ : Type) : List (Nat × Callee (GT tab) δ) := [(31, calleeS tab laws_markIntS.ms laws_markIntS.as laws_markIntS.rs laws_markIntS.fn), (70, calleeS tab laws_markBitsS.ms laws_markBitsS.as laws_markBitsS.rs laws_markBitsS.fn)]
theorem laws_markWave.gok (δ : Type) : AllCon Try.prog tab (laws_markWave.gs δ) := .cons laws_markIntS.con (.cons laws_markBitsS.con (.nil))
noncomputable def laws_markWave.c : Ctx (GT tab) (KT tab) (ResT tab laws_markWave.rs) := { X := XT tab, ty := tyOf tys, inner := fun _ => true, keep := keepOf 0 laws_markWave.ms, cuts := [], live := liveOf [], G := getG (laws_markWave.gs _) }
noncomputable def laws_markWave.b : Code := bodyOf Try.f17
noncomputable def laws_markWave (x0 : Int × (List Int) × (List (Int × (List Int)))) (x1 : Int) : Option (Int × (Int × (List Int) × (List (Int × (List Int))))) := callW laws_markWave.c (fiOf (GT tab) Try.f17 laws_markWave.ms) laws_markWave.b (decRes tab laws_markWave.rs) (encArgs tab laws_markWave.as (x0, x1))
theorem laws_markWave.fok : FnOk Try.prog 17 Try.f17 laws_markWave.ms laws_markWave.b := ⟨Try.func17, by kernel_rfl, by kernel_rfl⟩
noncomputable def laws_markWave.fn : Args tab laws_markWave.as → Option (ResT tab laws_markWave.rs) := fun x => laws_markWave x.1 x.2
theorem laws_markWave.con {δ : Type} : Con Try.prog (KT tab) 17 (calleeS (β := δ) tab laws_markWave.ms laws_markWave.as laws_markWave.rs laws_markWave.fn) := con_shape (c := laws_markWave.c) mixed tysOk (getG_con (laws_markWave.gok _)) laws_markWave.fok rfl rfl (fun _ => rfl)
theorem laws_markWave.eq (x0 : Int × (List Int) × (List (Int × (List Int)))) (x1 : Int) : laws_markWave x0 x1 =
    (laws_markIntS x0.2.1 x1).bind fun y1 =>
    (laws_markBitsS x0.2.2 y1.1).bind fun y2 =>
    some (y2.1, (x0.1, y1.2, y2.2)) := by kernel_rfl

end Go.Ev.W
