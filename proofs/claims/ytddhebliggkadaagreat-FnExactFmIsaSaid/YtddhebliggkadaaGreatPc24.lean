/- What functions of the program come to. -/
import Derived.Test.YtddhebliggkadaaGreatPcT
import Derived.Test.YtddhebliggkadaaGreatEvGrow
import Derived.Test.YtddhebliggkadaaGreatPc1
import Derived.Test.YtddhebliggkadaaGreatPc2
import Derived.Test.YtddhebliggkadaaGreatPcL
namespace Go.Ev.W
open Go.Ev Go.Proofs
set_option maxRecDepth 100000
set_option linter.unusedVariables false

/-! ### spec_FmOk: loop.example/g00688/spec.FmOk -/
def spec_FmOk.ms : List Mode := [.lend]
def spec_FmOk.as : List VSh := [.agg [.int .i64, .int .i64, .int .i64, .sl false false 3, .sl false false 30, .sl false false 3, .int .i64, .sl false false 126, .int .i64, .int .i64, .int .i64, .sl false false 126, .int .i64, .int .i64, .int .i64, .sl false false 126]]
def spec_FmOk.rs : RSh := ⟨[.one (.b (.b (.b (.b (.bool)))))], [none]⟩
noncomputable def spec_FmOk.gs (δ : Type) : List (Nat × Callee (GT tab) δ) := [(60, calleeS tab spec_l09Text.ms spec_l09Text.as spec_l09Text.rs spec_l09Text.fn)]
theorem spec_FmOk.gok (δ : Type) : AllCon Tryz.prog tab (spec_FmOk.gs δ) := .cons spec_l09Text.con (.nil)
noncomputable def spec_FmOk.c : Ctx (GT tab) (KT tab) (ResT tab spec_FmOk.rs) := { X := XT tab, ty := tyOf tys, inner := fun _ => true, keep := keepOf 0 spec_FmOk.ms, cuts := [], live := liveOf [], G := getG (spec_FmOk.gs _) }
noncomputable def spec_FmOk.b : Code := bodyOf Tryz.f50
noncomputable def spec_FmOk (x0 : Int × Int × Int × (List Int) × (List (Int × (List Int))) × (List Int) × Int × (List Int) × Int × Int × Int × (List Int) × Int × Int × Int × (List Int)) : Option (Bool) := callW spec_FmOk.c (fiOf (GT tab) Tryz.f50 spec_FmOk.ms) spec_FmOk.b (decRes tab spec_FmOk.rs) (encArgs tab spec_FmOk.as x0)
theorem spec_FmOk.fok : FnOk Tryz.prog 50 Tryz.f50 spec_FmOk.ms spec_FmOk.b := ⟨Tryz.func50, by kernel_rfl, by kernel_rfl⟩
noncomputable def spec_FmOk.fn : Args tab spec_FmOk.as → Option (ResT tab spec_FmOk.rs) := fun x => spec_FmOk x
theorem spec_FmOk.con {δ : Type} : Con Tryz.prog (KT tab) 50 (calleeS (β := δ) tab spec_FmOk.ms spec_FmOk.as spec_FmOk.rs spec_FmOk.fn) := con_shape (c := spec_FmOk.c) mixed tysOk (getG_con (spec_FmOk.gok _)) spec_FmOk.fok rfl rfl (fun _ => rfl)
theorem spec_FmOk.eq (x0 : Int × Int × Int × (List Int) × (List (Int × (List Int))) × (List Int) × Int × (List Int) × Int × Int × Int × (List Int) × Int × Int × Int × (List Int)) : spec_FmOk x0 =
    (spec_l09Text (x0.1, x0.2.1, x0.2.2.1, x0.2.2.2.1, x0.2.2.2.2.1, x0.2.2.2.2.2.1, x0.2.2.2.2.2.2.1, x0.2.2.2.2.2.2.2.1, x0.2.2.2.2.2.2.2.2.1, x0.2.2.2.2.2.2.2.2.2.1, x0.2.2.2.2.2.2.2.2.2.2.1, x0.2.2.2.2.2.2.2.2.2.2.2.1, x0.2.2.2.2.2.2.2.2.2.2.2.2.1, x0.2.2.2.2.2.2.2.2.2.2.2.2.2.1, x0.2.2.2.2.2.2.2.2.2.2.2.2.2.2.1, x0.2.2.2.2.2.2.2.2.2.2.2.2.2.2.2)).bind fun y1 =>
    some y1.2 := by kernel_rfl

/-! ### spec_VarOf: loop.example/g00688/spec.VarOf -/
def spec_VarOf.ms : List Mode := [.lend]
def spec_VarOf.as : List VSh := [.one (.b (.b (.b (.b (.int .i64)))))]
def spec_VarOf.rs : RSh := ⟨[.one (.b (.b (.b (.b (.sl true true 5)))))], [none]⟩
noncomputable def spec_VarOf.gs (δ : Type) : List (Nat × Callee (GT tab) δ) := []
theorem spec_VarOf.gok (δ : Type) : AllCon Tryz.prog tab (spec_VarOf.gs δ) := .nil
noncomputable def spec_VarOf.c : Ctx (GT tab) (KT tab) (ResT tab spec_VarOf.rs) := { X := XT tab, ty := tyOf tys, inner := fun _ => true, keep := keepOf 0 spec_VarOf.ms, cuts := [3], live := liveOf [(3, [0]), (4, [0, 3])], G := getG (spec_VarOf.gs _) }
noncomputable def spec_VarOf.b : Code := bodyOf Tryz.f107
noncomputable def spec_VarOf (x0 : Int) : Option (List Int) := callW spec_VarOf.c (fiOf (GT tab) Tryz.f107 spec_VarOf.ms) spec_VarOf.b (decRes tab spec_VarOf.rs) (encArgs tab spec_VarOf.as x0)
theorem spec_VarOf.fok : FnOk Tryz.prog 107 Tryz.f107 spec_VarOf.ms spec_VarOf.b := ⟨Tryz.func107, by kernel_rfl, by kernel_rfl⟩
noncomputable def spec_VarOf.fn : Args tab spec_VarOf.as → Option (ResT tab spec_VarOf.rs) := fun x => spec_VarOf x
theorem spec_VarOf.con {δ : Type} : Con Tryz.prog (KT tab) 107 (calleeS (β := δ) tab spec_VarOf.ms spec_VarOf.as spec_VarOf.rs spec_VarOf.fn) := con_shape (c := spec_VarOf.c) mixed tysOk (getG_con (spec_VarOf.gok _)) spec_VarOf.fok rfl rfl (fun _ => rfl)
noncomputable def spec_VarOf_l0 (v0 : Int) : Option (List Int) := Lw spec_VarOf.c (finish spec_VarOf.c (fiOf (GT tab) Tryz.f107 spec_VarOf.ms) (decRes tab spec_VarOf.rs)) ((loops spec_VarOf.c.cuts 1000 spec_VarOf.b []).getD 0 []) { slots := [.int .i64 v0, .undef, .undef, .undef, .undef, .undef, .undef, .undef, .undef, .undef, .undef, .undef, .undef, .undef, .undef, .undef, .undef, .undef, .undef, .undef, .undef, .undef, .undef, .undef, .undef, .undef, .undef], loc := locOf [], nx := 0 }
noncomputable def spec_VarOf_l1 (v0 : Int) (v1 : List Int) : Option (List Int) := Lw spec_VarOf.c (finish spec_VarOf.c (fiOf (GT tab) Tryz.f107 spec_VarOf.ms) (decRes tab spec_VarOf.rs)) ((loops spec_VarOf.c.cuts 1000 spec_VarOf.b []).getD 1 []) { slots := [.int .i64 v0, .undef, .undef, .sl 0 0, .undef, .undef, .undef, .undef, .undef, .undef, .undef, .undef, .undef, .undef, .undef, .undef, .undef, .undef, .undef, .undef, .undef, .undef, .undef, .undef, .undef, .undef, .undef], loc := locOf [.row 0 true 5 v1], nx := 1 }
theorem spec_VarOf.eq (x0 : Int) : spec_VarOf x0 =
    bif decide (x0 < (0 : Int)) then
      some ([] : List Int)
    else
      bif decide (x0 > (4294967295 : Int)) then
        some ([] : List Int)
      else
        spec_VarOf_l0 x0 := by kernel_rfl
theorem spec_VarOf_l0.eq (v0 : Int) : spec_VarOf_l0 v0 =
    spec_VarOf_l1 v0 ([] : List Int) := (Lw_eq tysOk (getG_con (spec_VarOf.gok _)) _ _).trans (by kernel_rfl)
theorem spec_VarOf_l1.eq (v0 : Int) (v1 : List Int) : spec_VarOf_l1 v0 v1 =
    bif decide (v0 ≥ (128 : Int)) then
      bif decide ((v1.length + ([IntKind.u8.wrap (IntKind.i64.wrap ((128 : Int) + (v0.tmod (128 : Int))))] : List Int).length) * 1 ≤ 140737488355328) then
        spec_VarOf_l1 (IntKind.i64.wrap (v0.tdiv (128 : Int))) (v1 ++ ([IntKind.u8.wrap (IntKind.i64.wrap ((128 : Int) + (v0.tmod (128 : Int))))] : List Int))
      else
        none
    else
      bif decide ((v1.length + ([IntKind.u8.wrap v0] : List Int).length) * 1 ≤ 140737488355328) then
        some (v1 ++ ([IntKind.u8.wrap v0] : List Int))
      else
        none := (Lw_eq tysOk (getG_con (spec_VarOf.gok _)) _ _).trans (by kernel_rfl)

/-! ### spec_BitsBytes: loop.example/g00688/spec.BitsBytes -/
def spec_BitsBytes.ms : List Mode := [.lend]
def spec_BitsBytes.as : List VSh := [.agg [.int .i64, .sl false false 126]]
def spec_BitsBytes.rs : RSh := ⟨[.one (.b (.b (.b (.b (.sl true true 5)))))], [none]⟩
noncomputable def spec_BitsBytes.gs (δ : Type) : List (Nat × Callee (GT tab) δ) := [(107, calleeS tab spec_VarOf.ms spec_VarOf.as spec_VarOf.rs spec_VarOf.fn), (194, calleeS tab spec_BitsOk.ms spec_BitsOk.as spec_BitsOk.rs spec_BitsOk.fn), (196, calleeS tab spec_l01List.ms spec_l01List.as spec_l01List.rs spec_l01List.fn)]
theorem spec_BitsBytes.gok (δ : Type) : AllCon Tryz.prog tab (spec_BitsBytes.gs δ) := .cons spec_VarOf.con (.cons spec_BitsOk.con (.cons spec_l01List.con (.nil)))
noncomputable def spec_BitsBytes.c : Ctx (GT tab) (KT tab) (ResT tab spec_BitsBytes.rs) := { X := XT tab, ty := tyOf tys, inner := fun _ => true, keep := keepOf 0 spec_BitsBytes.ms, cuts := [], live := liveOf [(6, [3, 4, 5]), (10, [3, 4, 5, 6, 7])], G := getG (spec_BitsBytes.gs _) }
noncomputable def spec_BitsBytes.b : Code := bodyOf Tryz.f162
noncomputable def spec_BitsBytes (x0 : Int × (List Int)) : Option (List Int) := callW spec_BitsBytes.c (fiOf (GT tab) Tryz.f162 spec_BitsBytes.ms) spec_BitsBytes.b (decRes tab spec_BitsBytes.rs) (encArgs tab spec_BitsBytes.as x0)
theorem spec_BitsBytes.fok : FnOk Tryz.prog 162 Tryz.f162 spec_BitsBytes.ms spec_BitsBytes.b := ⟨Tryz.func162, by kernel_rfl, by kernel_rfl⟩
noncomputable def spec_BitsBytes.fn : Args tab spec_BitsBytes.as → Option (ResT tab spec_BitsBytes.rs) := fun x => spec_BitsBytes x
theorem spec_BitsBytes.con {δ : Type} : Con Tryz.prog (KT tab) 162 (calleeS (β := δ) tab spec_BitsBytes.ms spec_BitsBytes.as spec_BitsBytes.rs spec_BitsBytes.fn) := con_shape (c := spec_BitsBytes.c) mixed tysOk (getG_con (spec_BitsBytes.gok _)) spec_BitsBytes.fok rfl rfl (fun _ => rfl)
noncomputable def spec_BitsBytes_l0 (v0 : Int) (v1 : List Int) (v2 : List Int) : Option (List Int) := Lw spec_BitsBytes.c (finish spec_BitsBytes.c (fiOf (GT tab) Tryz.f162 spec_BitsBytes.ms) (decRes tab spec_BitsBytes.rs)) ((loops spec_BitsBytes.c.cuts 1000 spec_BitsBytes.b []).getD 0 []) { slots := [.undef, .undef, .undef, .sl 0 0, .sl 1 0, .int .i64 v0, .undef, .undef, .undef, .undef, .undef, .undef, .undef, .undef, .undef, .undef, .undef, .undef, .undef, .undef, .undef, .undef, .undef, .undef, .undef, .undef, .undef, .undef, .undef, .undef, .undef, .undef, .undef, .undef, .undef, .undef, .undef, .undef, .undef, .undef, .undef, .undef, .undef, .undef, .undef, .undef, .undef, .undef], loc := locOf [.row 0 true 5 v1, .row 0 true 3 v2], nx := 2 }
noncomputable def spec_BitsBytes_l1 (v0 : Int) (v1 : Int) (v2 : Int) (v3 : List Int) (v4 : List Int) : Option (List Int) := Lw spec_BitsBytes.c (finish spec_BitsBytes.c (fiOf (GT tab) Tryz.f162 spec_BitsBytes.ms) (decRes tab spec_BitsBytes.rs)) ((loops spec_BitsBytes.c.cuts 1000 spec_BitsBytes.b []).getD 1 []) { slots := [.undef, .undef, .undef, .sl 0 0, .sl 1 0, .int .i64 v0, .int .i64 v1, .int .i64 v2, .undef, .undef, .undef, .undef, .undef, .undef, .undef, .undef, .undef, .undef, .undef, .undef, .undef, .undef, .undef, .undef, .undef, .undef, .undef, .undef, .undef, .undef, .undef, .undef, .undef, .undef, .undef, .undef, .undef, .undef, .undef, .undef, .undef, .undef, .undef, .undef, .undef, .undef, .undef, .undef], loc := locOf [.row 0 true 5 v3, .row 0 true 3 v4], nx := 2 }
theorem spec_BitsBytes.eq (x0 : Int × (List Int)) : spec_BitsBytes x0 =
    (spec_BitsOk (x0.1, x0.2)).bind fun y1 =>
    bif !y1 then
      some ([] : List Int)
    else
      (spec_VarOf x0.1).bind fun y2 =>
      (spec_l01List (x0.1, x0.2)).bind fun y3 =>
      spec_BitsBytes_l0 (0 : Int) y2 y3 := by kernel_rfl
theorem spec_BitsBytes_l0.eq (v0 : Int) (v1 : List Int) (v2 : List Int) : spec_BitsBytes_l0 v0 v1 v2 =
    bif decide (v0 < (v2.length : Int)) then
      spec_BitsBytes_l1 v0 (0 : Int) (7 : Int) v1 v2
    else
      some v1 := (Lw_eq tysOk (getG_con (spec_BitsBytes.gok _)) _ _).trans (by kernel_rfl)
theorem spec_BitsBytes_l1.eq (v0 : Int) (v1 : Int) (v2 : Int) (v3 : List Int) (v4 : List Int) : spec_BitsBytes_l1 v0 v1 v2 v3 v4 =
    bif decide (v2 ≥ (0 : Int)) then
      bif decide (IntKind.i64.wrap (v0 + v2) < (v4.length : Int)) then
        (at? v4 (IntKind.i64.wrap (v0 + v2))).bind fun y1 =>
        v4[(IntKind.i64.wrap (v0 + v2)).toNat]?.bind fun y2 =>
        spec_BitsBytes_l1 v0 (IntKind.i64.wrap ((IntKind.i64.wrap ((2 : Int) * v1)) + y2)) (IntKind.i64.wrap (v2 - (1 : Int))) v3 v4
      else
        spec_BitsBytes_l1 v0 (IntKind.i64.wrap ((2 : Int) * v1)) (IntKind.i64.wrap (v2 - (1 : Int))) v3 v4
    else
      bif decide ((v3.length + ([IntKind.u8.wrap v1] : List Int).length) * 1 ≤ 140737488355328) then
        spec_BitsBytes_l0 (IntKind.i64.wrap (v0 + (8 : Int))) (v3 ++ ([IntKind.u8.wrap v1] : List Int)) v4
      else
        none := (Lw_eq tysOk (getG_con (spec_BitsBytes.gok _)) _ _).trans (by kernel_rfl)

/-! ### spec_WaveBytes: loop.example/g00688/spec.WaveBytes -/
def spec_WaveBytes.ms : List Mode := [.lend]
def spec_WaveBytes.as : List VSh := [.agg [.int .i64, .sl false false 3, .sl false false 30]]
def spec_WaveBytes.rs : RSh := ⟨[.one (.b (.b (.b (.b (.sl true true 5)))))], [none]⟩
noncomputable def spec_WaveBytes.gs (δ : Type) : List (Nat × Callee (GT tab) δ) := [(161, calleeS tab spec_WaveOk.ms spec_WaveOk.as spec_WaveOk.rs spec_WaveOk.fn), (162, calleeS tab spec_BitsBytes.ms spec_BitsBytes.as spec_BitsBytes.rs spec_BitsBytes.fn)]
theorem spec_WaveBytes.gok (δ : Type) : AllCon Tryz.prog tab (spec_WaveBytes.gs δ) := .cons spec_WaveOk.con (.cons spec_BitsBytes.con (.nil))
noncomputable def spec_WaveBytes.c : Ctx (GT tab) (KT tab) (ResT tab spec_WaveBytes.rs) := { X := XT tab, ty := tyOf tys, inner := fun _ => true, keep := keepOf 0 spec_WaveBytes.ms, cuts := [], live := liveOf [(5, [1, 3, 4])], G := getG (spec_WaveBytes.gs _) }
noncomputable def spec_WaveBytes.b : Code := bodyOf Tryz.f108
noncomputable def spec_WaveBytes (x0 : Int × (List Int) × (List (Int × (List Int)))) : Option (List Int) := callW spec_WaveBytes.c (fiOf (GT tab) Tryz.f108 spec_WaveBytes.ms) spec_WaveBytes.b (decRes tab spec_WaveBytes.rs) (encArgs tab spec_WaveBytes.as x0)
theorem spec_WaveBytes.fok : FnOk Tryz.prog 108 Tryz.f108 spec_WaveBytes.ms spec_WaveBytes.b := ⟨Tryz.func108, by kernel_rfl, by kernel_rfl⟩
noncomputable def spec_WaveBytes.fn : Args tab spec_WaveBytes.as → Option (ResT tab spec_WaveBytes.rs) := fun x => spec_WaveBytes x
theorem spec_WaveBytes.con {δ : Type} : Con Tryz.prog (KT tab) 108 (calleeS (β := δ) tab spec_WaveBytes.ms spec_WaveBytes.as spec_WaveBytes.rs spec_WaveBytes.fn) := con_shape (c := spec_WaveBytes.c) mixed tysOk (getG_con (spec_WaveBytes.gok _)) spec_WaveBytes.fok rfl rfl (fun _ => rfl)
noncomputable def spec_WaveBytes_l0 (v0 : Int) (v1 : Int) (v2 : List Int) (v3 : List (Int × (List Int))) (v4 : List Int) : Option (List Int) := Lw spec_WaveBytes.c (finish spec_WaveBytes.c (fiOf (GT tab) Tryz.f108 spec_WaveBytes.ms) (decRes tab spec_WaveBytes.rs)) ((loops spec_WaveBytes.c.cuts 1000 spec_WaveBytes.b []).getD 0 []) { slots := [.undef, .ptr 0 0, .undef, .sl 1 0, .int .i64 v0, .undef, .undef, .undef, .undef, .undef, .undef, .undef, .undef, .undef, .undef, .undef, .undef, .undef, .undef, .undef, .undef, .undef], loc := locOf [.box 27 [.int .i64 v1, .vs false 3 v2, .vs false 30 v3], .row 0 true 5 v4], nx := 2 }
theorem spec_WaveBytes.eq (x0 : Int × (List Int) × (List (Int × (List Int)))) : spec_WaveBytes x0 =
    (spec_WaveOk (x0.1, x0.2.1, x0.2.2)).bind fun y1 =>
    bif !y1 then
      some ([] : List Int)
    else
      spec_WaveBytes_l0 (0 : Int) x0.1 x0.2.1 x0.2.2 ([] : List Int) := by kernel_rfl
theorem spec_WaveBytes_l0.eq (v0 : Int) (v1 : Int) (v2 : List Int) (v3 : List (Int × (List Int))) (v4 : List Int) : spec_WaveBytes_l0 v0 v1 v2 v3 v4 =
    bif decide (v0 < (9 : Int)) then
      (at? v3 v0).bind fun y1 =>
      (spec_BitsBytes (y1.1, y1.2)).bind fun y2 =>
      bif decide ((v4.length + y2.length) * 1 ≤ 140737488355328) then
        spec_WaveBytes_l0 (IntKind.i64.wrap (v0 + (1 : Int))) v1 v2 v3 (v4 ++ y2)
      else
        none
    else
      some v4 := (Lw_eq tysOk (getG_con (spec_WaveBytes.gok _)) _ _).trans (by kernel_rfl)

/-! ### spec_PackOk: loop.example/g00688/spec.PackOk -/
def spec_PackOk.ms : List Mode := [.lend]
def spec_PackOk.as : List VSh := [.agg [.int .i64, .int .i64, .int .i64, .sl false false 126]]
def spec_PackOk.rs : RSh := ⟨[.one (.b (.b (.b (.b (.bool)))))], [none]⟩
noncomputable def spec_PackOk.gs (δ : Type) : List (Nat × Callee (GT tab) δ) := [(194, calleeS tab spec_BitsOk.ms spec_BitsOk.as spec_BitsOk.rs spec_BitsOk.fn)]
theorem spec_PackOk.gok (δ : Type) : AllCon Tryz.prog tab (spec_PackOk.gs δ) := .cons spec_BitsOk.con (.nil)
noncomputable def spec_PackOk.c : Ctx (GT tab) (KT tab) (ResT tab spec_PackOk.rs) := { X := XT tab, ty := tyOf tys, inner := fun _ => true, keep := keepOf 0 spec_PackOk.ms, cuts := [], live := liveOf [], G := getG (spec_PackOk.gs _) }
noncomputable def spec_PackOk.b : Code := bodyOf Tryz.f197
noncomputable def spec_PackOk (x0 : Int × Int × Int × (List Int)) : Option (Bool) := callW spec_PackOk.c (fiOf (GT tab) Tryz.f197 spec_PackOk.ms) spec_PackOk.b (decRes tab spec_PackOk.rs) (encArgs tab spec_PackOk.as x0)
theorem spec_PackOk.fok : FnOk Tryz.prog 197 Tryz.f197 spec_PackOk.ms spec_PackOk.b := ⟨Tryz.func197, by kernel_rfl, by kernel_rfl⟩
noncomputable def spec_PackOk.fn : Args tab spec_PackOk.as → Option (ResT tab spec_PackOk.rs) := fun x => spec_PackOk x
theorem spec_PackOk.con {δ : Type} : Con Tryz.prog (KT tab) 197 (calleeS (β := δ) tab spec_PackOk.ms spec_PackOk.as spec_PackOk.rs spec_PackOk.fn) := con_shape (c := spec_PackOk.c) mixed tysOk (getG_con (spec_PackOk.gok _)) spec_PackOk.fok rfl rfl (fun _ => rfl)
theorem spec_PackOk.eq (x0 : Int × Int × Int × (List Int)) : spec_PackOk x0 =
    bif decide (x0.1 ≥ (0 : Int)) then
      bif decide (x0.1 ≤ (32 : Int)) then
        bif decide (x0.2.1 ≥ (0 : Int)) then
          bif decide (x0.2.1 ≤ (5000 : Int)) then
            (spec_BitsOk (x0.2.2.1, x0.2.2.2)).bind fun y1 =>
            bif y1 then
              some (x0.2.2.1 == IntKind.i64.wrap (x0.1 * x0.2.1))
            else
              some false
          else
            some false
        else
          some false
      else
        some false
    else
      some false := by kernel_rfl

/-! ### spec_PackBytes: loop.example/g00688/spec.PackBytes -/
def spec_PackBytes.ms : List Mode := [.lend]
def spec_PackBytes.as : List VSh := [.agg [.int .i64, .int .i64, .int .i64, .sl false false 126]]
def spec_PackBytes.rs : RSh := ⟨[.one (.b (.b (.b (.b (.sl true true 5)))))], [none]⟩
noncomputable def spec_PackBytes.gs (δ : Type) : List (Nat × Callee (GT tab) δ) := [(107, calleeS tab spec_VarOf.ms spec_VarOf.as spec_VarOf.rs spec_VarOf.fn), (162, calleeS tab spec_BitsBytes.ms spec_BitsBytes.as spec_BitsBytes.rs spec_BitsBytes.fn), (197, calleeS tab spec_PackOk.ms spec_PackOk.as spec_PackOk.rs spec_PackOk.fn)]
theorem spec_PackBytes.gok (δ : Type) : AllCon Tryz.prog tab (spec_PackBytes.gs δ) := .cons spec_VarOf.con (.cons spec_BitsBytes.con (.cons spec_PackOk.con (.nil)))
noncomputable def spec_PackBytes.c : Ctx (GT tab) (KT tab) (ResT tab spec_PackBytes.rs) := { X := XT tab, ty := tyOf tys, inner := fun _ => true, keep := keepOf 0 spec_PackBytes.ms, cuts := [], live := liveOf [], G := getG (spec_PackBytes.gs _) }
noncomputable def spec_PackBytes.b : Code := bodyOf Tryz.f166
noncomputable def spec_PackBytes (x0 : Int × Int × Int × (List Int)) : Option (List Int) := callW spec_PackBytes.c (fiOf (GT tab) Tryz.f166 spec_PackBytes.ms) spec_PackBytes.b (decRes tab spec_PackBytes.rs) (encArgs tab spec_PackBytes.as x0)
theorem spec_PackBytes.fok : FnOk Tryz.prog 166 Tryz.f166 spec_PackBytes.ms spec_PackBytes.b := ⟨Tryz.func166, by kernel_rfl, by kernel_rfl⟩
noncomputable def spec_PackBytes.fn : Args tab spec_PackBytes.as → Option (ResT tab spec_PackBytes.rs) := fun x => spec_PackBytes x
theorem spec_PackBytes.con {δ : Type} : Con Tryz.prog (KT tab) 166 (calleeS (β := δ) tab spec_PackBytes.ms spec_PackBytes.as spec_PackBytes.rs spec_PackBytes.fn) := con_shape (c := spec_PackBytes.c) mixed tysOk (getG_con (spec_PackBytes.gok _)) spec_PackBytes.fok rfl rfl (fun _ => rfl)
theorem spec_PackBytes.eq (x0 : Int × Int × Int × (List Int)) : spec_PackBytes x0 =
    (spec_PackOk (x0.1, x0.2.1, x0.2.2.1, x0.2.2.2)).bind fun y1 =>
    bif !y1 then
      some ([] : List Int)
    else
      (spec_VarOf x0.1).bind fun y2 =>
      (spec_VarOf x0.2.1).bind fun y3 =>
      bif decide ((y2.length + y3.length) * 1 ≤ 140737488355328) then
        (spec_BitsBytes (x0.2.2.1, x0.2.2.2)).bind fun y4 =>
        bif decide (((y2 ++ y3).length + y4.length) * 1 ≤ 140737488355328) then
          some ((y2 ++ y3) ++ y4)
        else
          none
      else
        none := by kernel_rfl

/-! ### spec_l16Ends: loop.example/g00688/spec.l16Ends -/
def spec_l16Ends.ms : List Mode := [.lend, .lend, .lend]
def spec_l16Ends.as : List VSh := [.agg [.int .i64, .sl false false 126], .agg [.int .i64, .int .i64, .int .i64, .sl false false 126], .agg [.int .i64, .int .i64, .int .i64, .sl false false 126]]
def spec_l16Ends.rs : RSh := ⟨[.one (.b (.b (.b (.b (.sl true true 5)))))], [none, none, none]⟩
noncomputable def spec_l16Ends.gs (δ : Type) : List (Nat × Callee (GT tab) δ) := [(162, calleeS tab spec_BitsBytes.ms spec_BitsBytes.as spec_BitsBytes.rs spec_BitsBytes.fn), (166, calleeS tab spec_PackBytes.ms spec_PackBytes.as spec_PackBytes.rs spec_PackBytes.fn)]
theorem spec_l16Ends.gok (δ : Type) : AllCon Tryz.prog tab (spec_l16Ends.gs δ) := .cons spec_BitsBytes.con (.cons spec_PackBytes.con (.nil))
noncomputable def spec_l16Ends.c : Ctx (GT tab) (KT tab) (ResT tab spec_l16Ends.rs) := { X := XT tab, ty := tyOf tys, inner := fun _ => true, keep := keepOf 0 spec_l16Ends.ms, cuts := [], live := liveOf [], G := getG (spec_l16Ends.gs _) }
noncomputable def spec_l16Ends.b : Code := bodyOf Tryz.f110
noncomputable def spec_l16Ends (x0 : Int × (List Int)) (x1 : Int × Int × Int × (List Int)) (x2 : Int × Int × Int × (List Int)) : Option (List Int) := callW spec_l16Ends.c (fiOf (GT tab) Tryz.f110 spec_l16Ends.ms) spec_l16Ends.b (decRes tab spec_l16Ends.rs) (encArgs tab spec_l16Ends.as (x0, x1, x2))
theorem spec_l16Ends.fok : FnOk Tryz.prog 110 Tryz.f110 spec_l16Ends.ms spec_l16Ends.b := ⟨Tryz.func110, by kernel_rfl, by kernel_rfl⟩
noncomputable def spec_l16Ends.fn : Args tab spec_l16Ends.as → Option (ResT tab spec_l16Ends.rs) := fun x => spec_l16Ends x.1 x.2.1 x.2.2
theorem spec_l16Ends.con {δ : Type} : Con Tryz.prog (KT tab) 110 (calleeS (β := δ) tab spec_l16Ends.ms spec_l16Ends.as spec_l16Ends.rs spec_l16Ends.fn) := con_shape (c := spec_l16Ends.c) mixed tysOk (getG_con (spec_l16Ends.gok _)) spec_l16Ends.fok rfl rfl (fun _ => rfl)
theorem spec_l16Ends.eq (x0 : Int × (List Int)) (x1 : Int × Int × Int × (List Int)) (x2 : Int × Int × Int × (List Int)) : spec_l16Ends x0 x1 x2 =
    (spec_BitsBytes (x0.1, x0.2)).bind fun y1 =>
    (spec_PackBytes (x1.1, x1.2.1, x1.2.2.1, x1.2.2.2)).bind fun y2 =>
    bif decide ((y1.length + y2.length) * 1 ≤ 140737488355328) then
      (spec_PackBytes (x2.1, x2.2.1, x2.2.2.1, x2.2.2.2)).bind fun y3 =>
      bif decide (((y1 ++ y2).length + y3.length) * 1 ≤ 140737488355328) then
        some ((y1 ++ y2) ++ y3)
      else
        none
    else
      none := by kernel_rfl

/-! ### spec_FrameOk: loop.example/g00688/spec.FrameOk -/
def spec_FrameOk.ms : List Mode := [.lend]
def spec_FrameOk.as : List VSh := [.agg [.int .i64, .sl false false 5]]
def spec_FrameOk.rs : RSh := ⟨[.one (.b (.b (.b (.b (.bool)))))], [none]⟩
noncomputable def spec_FrameOk.gs (δ : Type) : List (Nat × Callee (GT tab) δ) := []
theorem spec_FrameOk.gok (δ : Type) : AllCon Tryz.prog tab (spec_FrameOk.gs δ) := .nil
noncomputable def spec_FrameOk.c : Ctx (GT tab) (KT tab) (ResT tab spec_FrameOk.rs) := { X := XT tab, ty := tyOf tys, inner := fun _ => true, keep := keepOf 0 spec_FrameOk.ms, cuts := [], live := liveOf [], G := getG (spec_FrameOk.gs _) }
noncomputable def spec_FrameOk.b : Code := bodyOf Tryz.f163
noncomputable def spec_FrameOk (x0 : Int × (List Int)) : Option (Bool) := callW spec_FrameOk.c (fiOf (GT tab) Tryz.f163 spec_FrameOk.ms) spec_FrameOk.b (decRes tab spec_FrameOk.rs) (encArgs tab spec_FrameOk.as x0)
theorem spec_FrameOk.fok : FnOk Tryz.prog 163 Tryz.f163 spec_FrameOk.ms spec_FrameOk.b := ⟨Tryz.func163, by kernel_rfl, by kernel_rfl⟩
noncomputable def spec_FrameOk.fn : Args tab spec_FrameOk.as → Option (ResT tab spec_FrameOk.rs) := fun x => spec_FrameOk x
theorem spec_FrameOk.con {δ : Type} : Con Tryz.prog (KT tab) 163 (calleeS (β := δ) tab spec_FrameOk.ms spec_FrameOk.as spec_FrameOk.rs spec_FrameOk.fn) := con_shape (c := spec_FrameOk.c) mixed tysOk (getG_con (spec_FrameOk.gok _)) spec_FrameOk.fok rfl rfl (fun _ => rfl)
theorem spec_FrameOk.eq (x0 : Int × (List Int)) : spec_FrameOk x0 =
    bif decide (x0.1 ≥ (0 : Int)) then
      bif decide (x0.1 ≤ (255 : Int)) then
        some (decide ((x0.2.length : Int) ≤ (8000 : Int)))
      else
        some false
    else
      some false := by kernel_rfl

/-! ### spec_Crc: loop.example/g00688/spec.Crc -/
def spec_Crc.ms : List Mode := [.lend]
def spec_Crc.as : List VSh := [.one (.b (.b (.b (.b (.sl false false 5)))))]
def spec_Crc.rs : RSh := ⟨[.one (.b (.b (.b (.b (.int .i64)))))], [none]⟩
noncomputable def spec_Crc.gs (δ : Type) : List (Nat × Callee (GT tab) δ) := []
theorem spec_Crc.gok (δ : Type) : AllCon Tryz.prog tab (spec_Crc.gs δ) := .nil
noncomputable def spec_Crc.c : Ctx (GT tab) (KT tab) (ResT tab spec_Crc.rs) := { X := XT tab, ty := tyOf tys, inner := fun _ => true, keep := keepOf 0 spec_Crc.ms, cuts := [], live := liveOf [(5, [0, 3, 4]), (9, [0, 3, 4, 5])], G := getG (spec_Crc.gs _) }
noncomputable def spec_Crc.b : Code := bodyOf Tryz.f165
noncomputable def spec_Crc (x0 : List Int) : Option (Int) := callW spec_Crc.c (fiOf (GT tab) Tryz.f165 spec_Crc.ms) spec_Crc.b (decRes tab spec_Crc.rs) (encArgs tab spec_Crc.as x0)
theorem spec_Crc.fok : FnOk Tryz.prog 165 Tryz.f165 spec_Crc.ms spec_Crc.b := ⟨Tryz.func165, by kernel_rfl, by kernel_rfl⟩
noncomputable def spec_Crc.fn : Args tab spec_Crc.as → Option (ResT tab spec_Crc.rs) := fun x => spec_Crc x
theorem spec_Crc.con {δ : Type} : Con Tryz.prog (KT tab) 165 (calleeS (β := δ) tab spec_Crc.ms spec_Crc.as spec_Crc.rs spec_Crc.fn) := con_shape (c := spec_Crc.c) mixed tysOk (getG_con (spec_Crc.gok _)) spec_Crc.fok rfl rfl (fun _ => rfl)
noncomputable def spec_Crc_l0 (v0 : List Int) (v1 : Int) (v2 : Int) : Option (Int) := Lw spec_Crc.c (finish spec_Crc.c (fiOf (GT tab) Tryz.f165 spec_Crc.ms) (decRes tab spec_Crc.rs)) ((loops spec_Crc.c.cuts 1000 spec_Crc.b []).getD 0 []) { slots := [.vs false 5 v0, .undef, .undef, .int .i64 v1, .int .i64 v2, .undef, .undef, .undef, .undef, .undef, .undef, .undef, .undef, .undef, .undef, .undef, .undef, .undef, .undef, .undef, .undef, .undef, .undef, .undef, .undef, .undef, .undef, .undef, .undef, .undef, .undef, .undef, .undef, .undef, .undef, .undef, .undef], loc := locOf [], nx := 0 }
noncomputable def spec_Crc_l1 (v0 : List Int) (v1 : Int) (v2 : Int) (v3 : Int) : Option (Int) := Lw spec_Crc.c (finish spec_Crc.c (fiOf (GT tab) Tryz.f165 spec_Crc.ms) (decRes tab spec_Crc.rs)) ((loops spec_Crc.c.cuts 1000 spec_Crc.b []).getD 1 []) { slots := [.vs false 5 v0, .undef, .undef, .int .i64 v1, .int .i64 v2, .int .i64 v3, .undef, .undef, .undef, .undef, .undef, .undef, .undef, .undef, .undef, .undef, .undef, .undef, .undef, .undef, .undef, .undef, .undef, .undef, .undef, .undef, .undef, .undef, .undef, .undef, .undef, .undef, .undef, .undef, .undef, .undef, .undef], loc := locOf [], nx := 0 }
theorem spec_Crc.eq (x0 : List Int) : spec_Crc x0 =
    bif decide ((x0.length : Int) > (16000 : Int)) then
      some (-1 : Int)
    else
      spec_Crc_l0 x0 (4294967295 : Int) (0 : Int) := by kernel_rfl
theorem spec_Crc_l0.eq (v0 : List Int) (v1 : Int) (v2 : Int) : spec_Crc_l0 v0 v1 v2 =
    bif decide (v2 < (v0.length : Int)) then
      (at? v0 v2).bind fun y1 =>
      spec_Crc_l1 v0 (IntKind.i64.wrap (((BitVec.ofInt 64 v1) ^^^ (BitVec.ofInt 64 (IntKind.i64.wrap y1))).toNat : Int)) v2 (0 : Int)
    else
      some (IntKind.i64.wrap (((BitVec.ofInt 64 v1) ^^^ (BitVec.ofInt 64 (4294967295 : Int))).toNat : Int)) := (Lw_eq tysOk (getG_con (spec_Crc.gok _)) _ _).trans (by kernel_rfl)
theorem spec_Crc_l1.eq (v0 : List Int) (v1 : Int) (v2 : Int) (v3 : Int) : spec_Crc_l1 v0 v1 v2 v3 =
    bif decide (v3 < (8 : Int)) then
      bif v1.tmod (2 : Int) == (1 : Int) then
        spec_Crc_l1 v0 (IntKind.i64.wrap (((BitVec.ofInt 64 (IntKind.i64.wrap (v1.tdiv (2 : Int)))) ^^^ (BitVec.ofInt 64 (3988292384 : Int))).toNat : Int)) v2 (IntKind.i64.wrap (v3 + (1 : Int)))
      else
        spec_Crc_l1 v0 (IntKind.i64.wrap (v1.tdiv (2 : Int))) v2 (IntKind.i64.wrap (v3 + (1 : Int)))
    else
      spec_Crc_l0 v0 v1 (IntKind.i64.wrap (v2 + (1 : Int))) := (Lw_eq tysOk (getG_con (spec_Crc.gok _)) _ _).trans (by kernel_rfl)

/-! ### spec_l04Four: loop.example/g00688/spec.l04Four -/
def spec_l04Four.ms : List Mode := [.lend]
def spec_l04Four.as : List VSh := [.one (.b (.b (.b (.b (.int .i64)))))]
def spec_l04Four.rs : RSh := ⟨[.one (.b (.b (.b (.b (.sl true true 5)))))], [none]⟩
noncomputable def spec_l04Four.gs (δ : Type) : List (Nat × Callee (GT tab) δ) := []
theorem spec_l04Four.gok (δ : Type) : AllCon Tryz.prog tab (spec_l04Four.gs δ) := .nil
noncomputable def spec_l04Four.c : Ctx (GT tab) (KT tab) (ResT tab spec_l04Four.rs) := { X := XT tab, ty := tyOf tys, inner := fun _ => true, keep := keepOf 0 spec_l04Four.ms, cuts := [], live := liveOf [], G := getG (spec_l04Four.gs _) }
noncomputable def spec_l04Four.b : Code := bodyOf Tryz.f164
noncomputable def spec_l04Four (x0 : Int) : Option (List Int) := callW spec_l04Four.c (fiOf (GT tab) Tryz.f164 spec_l04Four.ms) spec_l04Four.b (decRes tab spec_l04Four.rs) (encArgs tab spec_l04Four.as x0)
theorem spec_l04Four.fok : FnOk Tryz.prog 164 Tryz.f164 spec_l04Four.ms spec_l04Four.b := ⟨Tryz.func164, by kernel_rfl, by kernel_rfl⟩
noncomputable def spec_l04Four.fn : Args tab spec_l04Four.as → Option (ResT tab spec_l04Four.rs) := fun x => spec_l04Four x
theorem spec_l04Four.con {δ : Type} : Con Tryz.prog (KT tab) 164 (calleeS (β := δ) tab spec_l04Four.ms spec_l04Four.as spec_l04Four.rs spec_l04Four.fn) := con_shape (c := spec_l04Four.c) mixed tysOk (getG_con (spec_l04Four.gok _)) spec_l04Four.fok rfl rfl (fun _ => rfl)
theorem spec_l04Four.eq (x0 : Int) : spec_l04Four x0 =
    some ([IntKind.u8.wrap (x0.tmod (256 : Int)), IntKind.u8.wrap ((IntKind.i64.wrap (x0.tdiv (256 : Int))).tmod (256 : Int)), IntKind.u8.wrap ((IntKind.i64.wrap (x0.tdiv (65536 : Int))).tmod (256 : Int)), IntKind.u8.wrap ((IntKind.i64.wrap (x0.tdiv (16777216 : Int))).tmod (256 : Int))] : List Int) := by kernel_rfl

/-! ### spec_FrameOf: loop.example/g00688/spec.FrameOf -/
def spec_FrameOf.ms : List Mode := [.lend]
def spec_FrameOf.as : List VSh := [.agg [.int .i64, .sl false false 5]]
def spec_FrameOf.rs : RSh := ⟨[.one (.b (.b (.b (.b (.sl true true 5)))))], [none]⟩
noncomputable def spec_FrameOf.gs (δ : Type) : List (Nat × Callee (GT tab) δ) := [(107, calleeS tab spec_VarOf.ms spec_VarOf.as spec_VarOf.rs spec_VarOf.fn), (163, calleeS tab spec_FrameOk.ms spec_FrameOk.as spec_FrameOk.rs spec_FrameOk.fn), (164, calleeS tab spec_l04Four.ms spec_l04Four.as spec_l04Four.rs spec_l04Four.fn), (165, calleeS tab spec_Crc.ms spec_Crc.as spec_Crc.rs spec_Crc.fn)]
theorem spec_FrameOf.gok (δ : Type) : AllCon Tryz.prog tab (spec_FrameOf.gs δ) := .cons spec_VarOf.con (.cons spec_FrameOk.con (.cons spec_l04Four.con (.cons spec_Crc.con (.nil))))
noncomputable def spec_FrameOf.c : Ctx (GT tab) (KT tab) (ResT tab spec_FrameOf.rs) := { X := XT tab, ty := tyOf tys, inner := fun _ => true, keep := keepOf 0 spec_FrameOf.ms, cuts := [], live := liveOf [], G := getG (spec_FrameOf.gs _) }
noncomputable def spec_FrameOf.b : Code := bodyOf Tryz.f109
noncomputable def spec_FrameOf (x0 : Int × (List Int)) : Option (List Int) := callW spec_FrameOf.c (fiOf (GT tab) Tryz.f109 spec_FrameOf.ms) spec_FrameOf.b (decRes tab spec_FrameOf.rs) (encArgs tab spec_FrameOf.as x0)
theorem spec_FrameOf.fok : FnOk Tryz.prog 109 Tryz.f109 spec_FrameOf.ms spec_FrameOf.b := ⟨Tryz.func109, by kernel_rfl, by kernel_rfl⟩
noncomputable def spec_FrameOf.fn : Args tab spec_FrameOf.as → Option (ResT tab spec_FrameOf.rs) := fun x => spec_FrameOf x
theorem spec_FrameOf.con {δ : Type} : Con Tryz.prog (KT tab) 109 (calleeS (β := δ) tab spec_FrameOf.ms spec_FrameOf.as spec_FrameOf.rs spec_FrameOf.fn) := con_shape (c := spec_FrameOf.c) mixed tysOk (getG_con (spec_FrameOf.gok _)) spec_FrameOf.fok rfl rfl (fun _ => rfl)
theorem spec_FrameOf.eq (x0 : Int × (List Int)) : spec_FrameOf x0 =
    (spec_FrameOk (x0.1, x0.2)).bind fun y1 =>
    bif !y1 then
      some ([] : List Int)
    else
      (spec_VarOf (x0.2.length : Int)).bind fun y2 =>
      bif decide ((([(90 : Int), IntKind.u8.wrap x0.1] : List Int).length + y2.length) * 1 ≤ 140737488355328) then
        bif decide (((([(90 : Int), IntKind.u8.wrap x0.1] : List Int) ++ y2).length + x0.2.length) * 1 ≤ 140737488355328) then
          (spec_Crc ((([(90 : Int), IntKind.u8.wrap x0.1] : List Int) ++ y2) ++ x0.2)).bind fun y3 =>
          (spec_l04Four y3).bind fun y4 =>
          bif decide ((((([(90 : Int), IntKind.u8.wrap x0.1] : List Int) ++ y2) ++ x0.2).length + y4.length) * 1 ≤ 140737488355328) then
            some (((([(90 : Int), IntKind.u8.wrap x0.1] : List Int) ++ y2) ++ x0.2) ++ y4)
          else
            none
        else
          none
      else
        none := by kernel_rfl

/-! ### spec_FmBytes: loop.example/g00688/spec.FmBytes -/
def spec_FmBytes.ms : List Mode := [.lend]
def spec_FmBytes.as : List VSh := [.agg [.int .i64, .int .i64, .int .i64, .sl false false 3, .sl false false 30, .sl false false 3, .int .i64, .sl false false 126, .int .i64, .int .i64, .int .i64, .sl false false 126, .int .i64, .int .i64, .int .i64, .sl false false 126]]
def spec_FmBytes.rs : RSh := ⟨[.one (.b (.b (.b (.b (.sl true true 5)))))], [none]⟩
noncomputable def spec_FmBytes.gs (δ : Type) : List (Nat × Callee (GT tab) δ) := [(50, calleeS tab spec_FmOk.ms spec_FmOk.as spec_FmOk.rs spec_FmOk.fn), (107, calleeS tab spec_VarOf.ms spec_VarOf.as spec_VarOf.rs spec_VarOf.fn), (108, calleeS tab spec_WaveBytes.ms spec_WaveBytes.as spec_WaveBytes.rs spec_WaveBytes.fn), (109, calleeS tab spec_FrameOf.ms spec_FrameOf.as spec_FrameOf.rs spec_FrameOf.fn), (110, calleeS tab spec_l16Ends.ms spec_l16Ends.as spec_l16Ends.rs spec_l16Ends.fn)]
theorem spec_FmBytes.gok (δ : Type) : AllCon Tryz.prog tab (spec_FmBytes.gs δ) := .cons spec_FmOk.con (.cons spec_VarOf.con (.cons spec_WaveBytes.con (.cons spec_FrameOf.con (.cons spec_l16Ends.con (.nil)))))
noncomputable def spec_FmBytes.c : Ctx (GT tab) (KT tab) (ResT tab spec_FmBytes.rs) := { X := XT tab, ty := tyOf tys, inner := fun _ => true, keep := keepOf 0 spec_FmBytes.ms, cuts := [], live := liveOf [], G := getG (spec_FmBytes.gs _) }
noncomputable def spec_FmBytes.b : Code := bodyOf Tryz.f54
noncomputable def spec_FmBytes (x0 : Int × Int × Int × (List Int) × (List (Int × (List Int))) × (List Int) × Int × (List Int) × Int × Int × Int × (List Int) × Int × Int × Int × (List Int)) : Option (List Int) := callW spec_FmBytes.c (fiOf (GT tab) Tryz.f54 spec_FmBytes.ms) spec_FmBytes.b (decRes tab spec_FmBytes.rs) (encArgs tab spec_FmBytes.as x0)
theorem spec_FmBytes.fok : FnOk Tryz.prog 54 Tryz.f54 spec_FmBytes.ms spec_FmBytes.b := ⟨Tryz.func54, by kernel_rfl, by kernel_rfl⟩
noncomputable def spec_FmBytes.fn : Args tab spec_FmBytes.as → Option (ResT tab spec_FmBytes.rs) := fun x => spec_FmBytes x
theorem spec_FmBytes.con {δ : Type} : Con Tryz.prog (KT tab) 54 (calleeS (β := δ) tab spec_FmBytes.ms spec_FmBytes.as spec_FmBytes.rs spec_FmBytes.fn) := con_shape (c := spec_FmBytes.c) mixed tysOk (getG_con (spec_FmBytes.gok _)) spec_FmBytes.fok rfl rfl (fun _ => rfl)
theorem spec_FmBytes.eq (x0 : Int × Int × Int × (List Int) × (List (Int × (List Int))) × (List Int) × Int × (List Int) × Int × Int × Int × (List Int) × Int × Int × Int × (List Int)) : spec_FmBytes x0 =
    (spec_FmOk (x0.1, x0.2.1, x0.2.2.1, x0.2.2.2.1, x0.2.2.2.2.1, x0.2.2.2.2.2.1, x0.2.2.2.2.2.2.1, x0.2.2.2.2.2.2.2.1, x0.2.2.2.2.2.2.2.2.1, x0.2.2.2.2.2.2.2.2.2.1, x0.2.2.2.2.2.2.2.2.2.2.1, x0.2.2.2.2.2.2.2.2.2.2.2.1, x0.2.2.2.2.2.2.2.2.2.2.2.2.1, x0.2.2.2.2.2.2.2.2.2.2.2.2.2.1, x0.2.2.2.2.2.2.2.2.2.2.2.2.2.2.1, x0.2.2.2.2.2.2.2.2.2.2.2.2.2.2.2)).bind fun y1 =>
    bif !y1 then
      some ([] : List Int)
    else
      (spec_VarOf x0.2.1).bind fun y2 =>
      (spec_WaveBytes (x0.2.2.1, x0.2.2.2.1, x0.2.2.2.2.1)).bind fun y3 =>
      bif decide ((y2.length + y3.length) * 1 ≤ 140737488355328) then
        (spec_l16Ends (x0.2.2.2.2.2.2.1, x0.2.2.2.2.2.2.2.1) (x0.2.2.2.2.2.2.2.2.1, x0.2.2.2.2.2.2.2.2.2.1, x0.2.2.2.2.2.2.2.2.2.2.1, x0.2.2.2.2.2.2.2.2.2.2.2.1) (x0.2.2.2.2.2.2.2.2.2.2.2.2.1, x0.2.2.2.2.2.2.2.2.2.2.2.2.2.1, x0.2.2.2.2.2.2.2.2.2.2.2.2.2.2.1, x0.2.2.2.2.2.2.2.2.2.2.2.2.2.2.2)).bind fun y4 =>
        bif decide (((y2 ++ y3).length + y4.length) * 1 ≤ 140737488355328) then
          (spec_FrameOf ((1 : Int), (y2 ++ y3) ++ y4)).bind fun y5 =>
          some y5
        else
          none
      else
        none := by kernel_rfl

/-! ### impl_FmOk: loop.example/g00688/impl.FmOk -/
def impl_FmOk.ms : List Mode := [.lend]
def impl_FmOk.as : List VSh := [.agg [.int .i64, .int .i64, .int .i64, .sl false false 3, .sl false false 30, .sl false false 3, .int .i64, .sl false false 126, .int .i64, .int .i64, .int .i64, .sl false false 126, .int .i64, .int .i64, .int .i64, .sl false false 126]]
def impl_FmOk.rs : RSh := ⟨[.one (.b (.b (.b (.b (.bool)))))], [none]⟩
noncomputable def impl_FmOk.gs (δ : Type) : List (Nat × Callee (GT tab) δ) := [(58, calleeS tab impl_Fm_read.ms impl_Fm_read.as impl_Fm_read.rs impl_Fm_read.fn)]
theorem impl_FmOk.gok (δ : Type) : AllCon Tryz.prog tab (impl_FmOk.gs δ) := .cons impl_Fm_read.con (.nil)
noncomputable def impl_FmOk.c : Ctx (GT tab) (KT tab) (ResT tab impl_FmOk.rs) := { X := XT tab, ty := tyOf tys, inner := fun _ => true, keep := keepOf 0 impl_FmOk.ms, cuts := [], live := liveOf [], G := getG (impl_FmOk.gs _) }
noncomputable def impl_FmOk.b : Code := bodyOf Tryz.f97
noncomputable def impl_FmOk (x0 : Int × Int × Int × (List Int) × (List (Int × (List Int))) × (List Int) × Int × (List Int) × Int × Int × Int × (List Int) × Int × Int × Int × (List Int)) : Option (Bool) := callW impl_FmOk.c (fiOf (GT tab) Tryz.f97 impl_FmOk.ms) impl_FmOk.b (decRes tab impl_FmOk.rs) (encArgs tab impl_FmOk.as x0)
theorem impl_FmOk.fok : FnOk Tryz.prog 97 Tryz.f97 impl_FmOk.ms impl_FmOk.b := ⟨Tryz.func97, by kernel_rfl, by kernel_rfl⟩
noncomputable def impl_FmOk.fn : Args tab impl_FmOk.as → Option (ResT tab impl_FmOk.rs) := fun x => impl_FmOk x
theorem impl_FmOk.con {δ : Type} : Con Tryz.prog (KT tab) 97 (calleeS (β := δ) tab impl_FmOk.ms impl_FmOk.as impl_FmOk.rs impl_FmOk.fn) := con_shape (c := impl_FmOk.c) mixed tysOk (getG_con (impl_FmOk.gok _)) impl_FmOk.fok rfl rfl (fun _ => rfl)
theorem impl_FmOk.eq (x0 : Int × Int × Int × (List Int) × (List (Int × (List Int))) × (List Int) × Int × (List Int) × Int × Int × Int × (List Int) × Int × Int × Int × (List Int)) : impl_FmOk x0 =
    (impl_Fm_read (x0.1, x0.2.1, x0.2.2.1, x0.2.2.2.1, x0.2.2.2.2.1, x0.2.2.2.2.2.1, x0.2.2.2.2.2.2.1, x0.2.2.2.2.2.2.2.1, x0.2.2.2.2.2.2.2.2.1, x0.2.2.2.2.2.2.2.2.2.1, x0.2.2.2.2.2.2.2.2.2.2.1, x0.2.2.2.2.2.2.2.2.2.2.2.1, x0.2.2.2.2.2.2.2.2.2.2.2.2.1, x0.2.2.2.2.2.2.2.2.2.2.2.2.2.1, x0.2.2.2.2.2.2.2.2.2.2.2.2.2.2.1, x0.2.2.2.2.2.2.2.2.2.2.2.2.2.2.2)).bind fun y1 =>
    some y1.2 := by kernel_rfl

/-! ### impl_VarOf: loop.example/g00688/impl.VarOf -/
def impl_VarOf.ms : List Mode := [.lend]
def impl_VarOf.as : List VSh := [.one (.b (.b (.b (.b (.int .i64)))))]
def impl_VarOf.rs : RSh := ⟨[.one (.b (.b (.b (.b (.sl true true 5)))))], [none]⟩
noncomputable def impl_VarOf.gs (δ : Type) : List (Nat × Callee (GT tab) δ) := [(63, calleeS tab impl_within.ms impl_within.as impl_within.rs impl_within.fn)]
theorem impl_VarOf.gok (δ : Type) : AllCon Tryz.prog tab (impl_VarOf.gs δ) := .cons impl_within.con (.nil)
noncomputable def impl_VarOf.c : Ctx (GT tab) (KT tab) (ResT tab impl_VarOf.rs) := { X := XT tab, ty := tyOf tys, inner := fun _ => true, keep := keepOf 0 impl_VarOf.ms, cuts := [], live := liveOf [(4, [0, 3])], G := getG (impl_VarOf.gs _) }
noncomputable def impl_VarOf.b : Code := bodyOf Tryz.f147
noncomputable def impl_VarOf (x0 : Int) : Option (List Int) := callW impl_VarOf.c (fiOf (GT tab) Tryz.f147 impl_VarOf.ms) impl_VarOf.b (decRes tab impl_VarOf.rs) (encArgs tab impl_VarOf.as x0)
theorem impl_VarOf.fok : FnOk Tryz.prog 147 Tryz.f147 impl_VarOf.ms impl_VarOf.b := ⟨Tryz.func147, by kernel_rfl, by kernel_rfl⟩
noncomputable def impl_VarOf.fn : Args tab impl_VarOf.as → Option (ResT tab impl_VarOf.rs) := fun x => impl_VarOf x
theorem impl_VarOf.con {δ : Type} : Con Tryz.prog (KT tab) 147 (calleeS (β := δ) tab impl_VarOf.ms impl_VarOf.as impl_VarOf.rs impl_VarOf.fn) := con_shape (c := impl_VarOf.c) mixed tysOk (getG_con (impl_VarOf.gok _)) impl_VarOf.fok rfl rfl (fun _ => rfl)
noncomputable def impl_VarOf_l0 (v0 : Int) (v1 : List Int) : Option (List Int) := Lw impl_VarOf.c (finish impl_VarOf.c (fiOf (GT tab) Tryz.f147 impl_VarOf.ms) (decRes tab impl_VarOf.rs)) ((loops impl_VarOf.c.cuts 1000 impl_VarOf.b []).getD 0 []) { slots := [.int .i64 v0, .undef, .undef, .sl 0 0, .undef, .undef, .undef, .undef, .undef, .undef, .undef, .undef, .undef, .undef, .undef, .undef, .undef, .undef, .undef, .undef, .undef, .undef, .undef], loc := locOf [.row 0 true 5 v1], nx := 1 }
theorem impl_VarOf.eq (x0 : Int) : impl_VarOf x0 =
    (impl_within x0 (0 : Int) (4294967295 : Int)).bind fun y1 =>
    bif !y1 then
      some ([] : List Int)
    else
      impl_VarOf_l0 x0 ([] : List Int) := by kernel_rfl
theorem impl_VarOf_l0.eq (v0 : Int) (v1 : List Int) : impl_VarOf_l0 v0 v1 =
    bif decide (v0 ≥ (128 : Int)) then
      bif decide ((v1.length + ([IntKind.u8.wrap (IntKind.i64.wrap (((BitVec.ofInt 64 (IntKind.i64.wrap (((BitVec.ofInt 64 v0) &&& (BitVec.ofInt 64 (127 : Int))).toNat : Int))) ||| (BitVec.ofInt 64 (128 : Int))).toNat : Int))] : List Int).length) * 1 ≤ 140737488355328) then
        impl_VarOf_l0 (v0.fdiv (2 ^ 7)) (v1 ++ ([IntKind.u8.wrap (IntKind.i64.wrap (((BitVec.ofInt 64 (IntKind.i64.wrap (((BitVec.ofInt 64 v0) &&& (BitVec.ofInt 64 (127 : Int))).toNat : Int))) ||| (BitVec.ofInt 64 (128 : Int))).toNat : Int))] : List Int))
      else
        none
    else
      bif decide ((v1.length + ([IntKind.u8.wrap v0] : List Int).length) * 1 ≤ 140737488355328) then
        some (v1 ++ ([IntKind.u8.wrap v0] : List Int))
      else
        none := (Lw_eq tysOk (getG_con (impl_VarOf.gok _)) _ _).trans (by kernel_rfl)

/-! ### impl_bitsBytes: loop.example/g00688/impl.bitsBytes -/
def impl_bitsBytes.ms : List Mode := [.lend]
def impl_bitsBytes.as : List VSh := [.agg [.int .i64, .sl false false 126]]
def impl_bitsBytes.rs : RSh := ⟨[.one (.b (.b (.b (.b (.sl true true 5)))))], [none]⟩
noncomputable def impl_bitsBytes.gs (δ : Type) : List (Nat × Callee (GT tab) δ) := [(147, calleeS tab impl_VarOf.ms impl_VarOf.as impl_VarOf.rs impl_VarOf.fn)]
theorem impl_bitsBytes.gok (δ : Type) : AllCon Tryz.prog tab (impl_bitsBytes.gs δ) := .cons impl_VarOf.con (.nil)
noncomputable def impl_bitsBytes.c : Ctx (GT tab) (KT tab) (ResT tab impl_bitsBytes.rs) := { X := XT tab, ty := tyOf tys, inner := fun _ => true, keep := keepOf 0 impl_bitsBytes.ms, cuts := [], live := liveOf [(3, [1, 3, 4])], G := getG (impl_bitsBytes.gs _) }
noncomputable def impl_bitsBytes.b : Code := bodyOf Tryz.f149
noncomputable def impl_bitsBytes (x0 : Int × (List Int)) : Option (List Int) := callW impl_bitsBytes.c (fiOf (GT tab) Tryz.f149 impl_bitsBytes.ms) impl_bitsBytes.b (decRes tab impl_bitsBytes.rs) (encArgs tab impl_bitsBytes.as x0)
theorem impl_bitsBytes.fok : FnOk Tryz.prog 149 Tryz.f149 impl_bitsBytes.ms impl_bitsBytes.b := ⟨Tryz.func149, by kernel_rfl, by kernel_rfl⟩
noncomputable def impl_bitsBytes.fn : Args tab impl_bitsBytes.as → Option (ResT tab impl_bitsBytes.rs) := fun x => impl_bitsBytes x
theorem impl_bitsBytes.con {δ : Type} : Con Tryz.prog (KT tab) 149 (calleeS (β := δ) tab impl_bitsBytes.ms impl_bitsBytes.as impl_bitsBytes.rs impl_bitsBytes.fn) := con_shape (c := impl_bitsBytes.c) mixed tysOk (getG_con (impl_bitsBytes.gok _)) impl_bitsBytes.fok rfl rfl (fun _ => rfl)
noncomputable def impl_bitsBytes_l0 (v0 : Int) (v1 : Int) (v2 : List Int) (v3 : List Int) : Option (List Int) := Lw impl_bitsBytes.c (finish impl_bitsBytes.c (fiOf (GT tab) Tryz.f149 impl_bitsBytes.ms) (decRes tab impl_bitsBytes.rs)) ((loops impl_bitsBytes.c.cuts 1000 impl_bitsBytes.b []).getD 0 []) { slots := [.undef, .ptr 0 0, .undef, .sl 1 0, .int .i64 v0, .undef, .undef, .undef, .undef, .undef, .undef, .undef, .undef, .undef, .undef, .undef, .undef, .undef, .undef, .undef, .undef, .undef, .undef, .undef, .undef, .undef, .undef, .undef], loc := locOf [.box 30 [.int .i64 v1, .vs false 126 v2], .row 0 true 5 v3], nx := 2 }
theorem impl_bitsBytes.eq (x0 : Int × (List Int)) : impl_bitsBytes x0 =
    (impl_VarOf x0.1).bind fun y1 =>
    impl_bitsBytes_l0 (0 : Int) x0.1 x0.2 y1 := by kernel_rfl
theorem impl_bitsBytes_l0.eq (v0 : Int) (v1 : Int) (v2 : List Int) (v3 : List Int) : impl_bitsBytes_l0 v0 v1 v2 v3 =
    bif decide (v0 < v1) then
      (at? v2 (IntKind.i64.wrap (v0.tdiv (64 : Int)))).bind fun y1 =>
      bif decide (v0.tmod (64 : Int) < (0 : Int)) then
        none
      else
        bif decide ((v3.length + ([IntKind.u8.wrap (y1.fdiv (2 ^ (min (v0.tmod (64 : Int)).toNat 64)))] : List Int).length) * 1 ≤ 140737488355328) then
          impl_bitsBytes_l0 (IntKind.i64.wrap (v0 + (8 : Int))) v1 v2 (v3 ++ ([IntKind.u8.wrap (y1.fdiv (2 ^ (min (v0.tmod (64 : Int)).toNat 64)))] : List Int))
        else
          none
    else
      some v3 := (Lw_eq tysOk (getG_con (impl_bitsBytes.gok _)) _ _).trans (by kernel_rfl)

/-! ### impl_waveBytes: loop.example/g00688/impl.waveBytes -/
def impl_waveBytes.ms : List Mode := [.lend]
def impl_waveBytes.as : List VSh := [.agg [.int .i64, .sl false false 3, .sl false false 30]]
def impl_waveBytes.rs : RSh := ⟨[.one (.b (.b (.b (.b (.sl true true 5)))))], [none]⟩
noncomputable def impl_waveBytes.gs (δ : Type) : List (Nat × Callee (GT tab) δ) := [(149, calleeS tab impl_bitsBytes.ms impl_bitsBytes.as impl_bitsBytes.rs impl_bitsBytes.fn)]
theorem impl_waveBytes.gok (δ : Type) : AllCon Tryz.prog tab (impl_waveBytes.gs δ) := .cons impl_bitsBytes.con (.nil)
noncomputable def impl_waveBytes.c : Ctx (GT tab) (KT tab) (ResT tab impl_waveBytes.rs) := { X := XT tab, ty := tyOf tys, inner := fun _ => true, keep := keepOf 0 impl_waveBytes.ms, cuts := [], live := liveOf [(3, [3, 7, 8, 9])], G := getG (impl_waveBytes.gs _) }
noncomputable def impl_waveBytes.b : Code := bodyOf Tryz.f148
noncomputable def impl_waveBytes (x0 : Int × (List Int) × (List (Int × (List Int)))) : Option (List Int) := callW impl_waveBytes.c (fiOf (GT tab) Tryz.f148 impl_waveBytes.ms) impl_waveBytes.b (decRes tab impl_waveBytes.rs) (encArgs tab impl_waveBytes.as x0)
theorem impl_waveBytes.fok : FnOk Tryz.prog 148 Tryz.f148 impl_waveBytes.ms impl_waveBytes.b := ⟨Tryz.func148, by kernel_rfl, by kernel_rfl⟩
noncomputable def impl_waveBytes.fn : Args tab impl_waveBytes.as → Option (ResT tab impl_waveBytes.rs) := fun x => impl_waveBytes x
theorem impl_waveBytes.con {δ : Type} : Con Tryz.prog (KT tab) 148 (calleeS (β := δ) tab impl_waveBytes.ms impl_waveBytes.as impl_waveBytes.rs impl_waveBytes.fn) := con_shape (c := impl_waveBytes.c) mixed tysOk (getG_con (impl_waveBytes.gok _)) impl_waveBytes.fok rfl rfl (fun _ => rfl)
noncomputable def impl_waveBytes_l0 (v0 : List (Int × (List Int))) (v1 : Int) (v2 : Int) (v3 : List Int) : Option (List Int) := Lw impl_waveBytes.c (finish impl_waveBytes.c (fiOf (GT tab) Tryz.f148 impl_waveBytes.ms) (decRes tab impl_waveBytes.rs)) ((loops impl_waveBytes.c.cuts 1000 impl_waveBytes.b []).getD 0 []) { slots := [.undef, .undef, .undef, .sl 0 0, .undef, .undef, .undef, .vs false 30 v0, .int .i64 v1, .int .i64 v2, .undef, .undef, .undef, .undef, .undef, .undef, .undef, .undef, .undef], loc := locOf [.row 0 true 5 v3], nx := 1 }
theorem impl_waveBytes.eq (x0 : Int × (List Int) × (List (Int × (List Int)))) : impl_waveBytes x0 =
    impl_waveBytes_l0 x0.2.2 (x0.2.2.length : Int) (0 : Int) ([] : List Int) := by kernel_rfl
theorem impl_waveBytes_l0.eq (v0 : List (Int × (List Int))) (v1 : Int) (v2 : Int) (v3 : List Int) : impl_waveBytes_l0 v0 v1 v2 v3 =
    bif decide (v2 < v1) then
      (at? v0 v2).bind fun y1 =>
      (impl_bitsBytes (y1.1, y1.2)).bind fun y2 =>
      bif decide ((v3.length + y2.length) * 1 ≤ 140737488355328) then
        impl_waveBytes_l0 v0 v1 (IntKind.i64.wrap (v2 + (1 : Int))) (v3 ++ y2)
      else
        none
    else
      some v3 := (Lw_eq tysOk (getG_con (impl_waveBytes.gok _)) _ _).trans (by kernel_rfl)

/-! ### impl_PackOk: loop.example/g00688/impl.PackOk -/
def impl_PackOk.ms : List Mode := [.lend]
def impl_PackOk.as : List VSh := [.agg [.int .i64, .int .i64, .int .i64, .sl false false 126]]
def impl_PackOk.rs : RSh := ⟨[.one (.b (.b (.b (.b (.bool)))))], [none]⟩
noncomputable def impl_PackOk.gs (δ : Type) : List (Nat × Callee (GT tab) δ) := [(63, calleeS tab impl_within.ms impl_within.as impl_within.rs impl_within.fn), (66, calleeS tab impl_BitsOk.ms impl_BitsOk.as impl_BitsOk.rs impl_BitsOk.fn)]
theorem impl_PackOk.gok (δ : Type) : AllCon Tryz.prog tab (impl_PackOk.gs δ) := .cons impl_within.con (.cons impl_BitsOk.con (.nil))
noncomputable def impl_PackOk.c : Ctx (GT tab) (KT tab) (ResT tab impl_PackOk.rs) := { X := XT tab, ty := tyOf tys, inner := fun _ => true, keep := keepOf 0 impl_PackOk.ms, cuts := [], live := liveOf [], G := getG (impl_PackOk.gs _) }
noncomputable def impl_PackOk.b : Code := bodyOf Tryz.f70
noncomputable def impl_PackOk (x0 : Int × Int × Int × (List Int)) : Option (Bool) := callW impl_PackOk.c (fiOf (GT tab) Tryz.f70 impl_PackOk.ms) impl_PackOk.b (decRes tab impl_PackOk.rs) (encArgs tab impl_PackOk.as x0)
theorem impl_PackOk.fok : FnOk Tryz.prog 70 Tryz.f70 impl_PackOk.ms impl_PackOk.b := ⟨Tryz.func70, by kernel_rfl, by kernel_rfl⟩
noncomputable def impl_PackOk.fn : Args tab impl_PackOk.as → Option (ResT tab impl_PackOk.rs) := fun x => impl_PackOk x
theorem impl_PackOk.con {δ : Type} : Con Tryz.prog (KT tab) 70 (calleeS (β := δ) tab impl_PackOk.ms impl_PackOk.as impl_PackOk.rs impl_PackOk.fn) := con_shape (c := impl_PackOk.c) mixed tysOk (getG_con (impl_PackOk.gok _)) impl_PackOk.fok rfl rfl (fun _ => rfl)
theorem impl_PackOk.eq (x0 : Int × Int × Int × (List Int)) : impl_PackOk x0 =
    (impl_within x0.1 (0 : Int) (32 : Int)).bind fun y1 =>
    bif y1 then
      (impl_within x0.2.1 (0 : Int) (5000 : Int)).bind fun y2 =>
      bif y2 then
        (impl_BitsOk (x0.2.2.1, x0.2.2.2)).bind fun y3 =>
        bif y3 then
          some (x0.2.2.1 == IntKind.i64.wrap (x0.2.1 * x0.1))
        else
          some false
      else
        some false
    else
      some false := by kernel_rfl

/-! ### slices_Grow_byte_byte: slices.Grow[[]byte,byte] (by hand) -/
def slices_Grow_byte_byte.ms : List Mode := [.give, .lend]
def slices_Grow_byte_byte.as : List VSh := [.one (.b (.b (.b (.b (.sl true true 5))))), .one (.b (.b (.b (.b (.int .i64)))))]
def slices_Grow_byte_byte.rs : RSh := ⟨[.one (.b (.b (.b (.b (.sl true true 5)))))], [none, none]⟩
noncomputable def slices_Grow_byte_byte (x0 : List Int) (x1 : Int) : Option (List Int) := growF 1 (x0, x1)
noncomputable def slices_Grow_byte_byte.fn : Args tab slices_Grow_byte_byte.as → Option (ResT tab slices_Grow_byte_byte.rs) := fun x => slices_Grow_byte_byte x.1 x.2
theorem slices_Grow_byte_byte.con {δ : Type} : Con Tryz.prog (KT tab) 185 (calleeS (β := δ) tab slices_Grow_byte_byte.ms slices_Grow_byte_byte.as slices_Grow_byte_byte.rs slices_Grow_byte_byte.fn) := con_grow2 Tryz.laysGrow185 rfl rfl (ty := tyOf tys) tysOk (e := 5) rfl (by decide) rfl rfl

/-! ### slices_Concat_byte_byte: slices.Concat[[]byte,byte] -/
def slices_Concat_byte_byte.ms : List Mode := [.lend]
def slices_Concat_byte_byte.as : List VSh := [.one (.b (.b (.b (.b (.sl false false 22)))))]
def slices_Concat_byte_byte.rs : RSh := ⟨[.one (.b (.b (.b (.b (.sl true true 5)))))], [none]⟩
noncomputable def slices_Concat_byte_byte.gs (δ : Type) : List (Nat × Callee (GT tab) δ) := [(185, calleeS tab slices_Grow_byte_byte.ms slices_Grow_byte_byte.as slices_Grow_byte_byte.rs slices_Grow_byte_byte.fn)]
theorem slices_Concat_byte_byte.gok (δ : Type) : AllCon Tryz.prog tab (slices_Concat_byte_byte.gs δ) := .cons slices_Grow_byte_byte.con (.nil)
noncomputable def slices_Concat_byte_byte.c : Ctx (GT tab) (KT tab) (ResT tab slices_Concat_byte_byte.rs) := { X := XT tab, ty := tyOf tys, inner := fun _ => true, keep := keepOf 0 slices_Concat_byte_byte.ms, cuts := [], live := liveOf [(3, [0, 3, 9, 10, 11]), (11, [6, 25, 26, 27])], G := getG (slices_Concat_byte_byte.gs _) }
noncomputable def slices_Concat_byte_byte.b : Code := bodyOf Tryz.f146
noncomputable def slices_Concat_byte_byte (x0 : List (List Int)) : Option (List Int) := callW slices_Concat_byte_byte.c (fiOf (GT tab) Tryz.f146 slices_Concat_byte_byte.ms) slices_Concat_byte_byte.b (decRes tab slices_Concat_byte_byte.rs) (encArgs tab slices_Concat_byte_byte.as x0)
theorem slices_Concat_byte_byte.fok : FnOk Tryz.prog 146 Tryz.f146 slices_Concat_byte_byte.ms slices_Concat_byte_byte.b := ⟨Tryz.func146, by kernel_rfl, by kernel_rfl⟩
noncomputable def slices_Concat_byte_byte.fn : Args tab slices_Concat_byte_byte.as → Option (ResT tab slices_Concat_byte_byte.rs) := fun x => slices_Concat_byte_byte x
theorem slices_Concat_byte_byte.con {δ : Type} : Con Tryz.prog (KT tab) 146 (calleeS (β := δ) tab slices_Concat_byte_byte.ms slices_Concat_byte_byte.as slices_Concat_byte_byte.rs slices_Concat_byte_byte.fn) := con_shape (c := slices_Concat_byte_byte.c) mixed tysOk (getG_con (slices_Concat_byte_byte.gok _)) slices_Concat_byte_byte.fok rfl rfl (fun _ => rfl)
noncomputable def slices_Concat_byte_byte_l0 (v0 : List (List Int)) (v1 : Int) (v2 : List (List Int)) (v3 : Int) (v4 : Int) : Option (List Int) := Lw slices_Concat_byte_byte.c (finish slices_Concat_byte_byte.c (fiOf (GT tab) Tryz.f146 slices_Concat_byte_byte.ms) (decRes tab slices_Concat_byte_byte.rs)) ((loops slices_Concat_byte_byte.c.cuts 1000 slices_Concat_byte_byte.b []).getD 0 []) { slots := [.vs false 22 v0, .undef, .undef, .int .i64 v1, .undef, .undef, .undef, .undef, .undef, .vs false 22 v2, .int .i64 v3, .int .i64 v4, .undef, .undef, .undef, .undef, .undef, .undef, .undef, .undef, .undef, .undef, .undef, .undef, .undef, .undef, .undef, .undef, .undef, .undef, .undef, .undef, .undef, .undef, .undef, .undef], loc := locOf [], nx := 0 }
noncomputable def slices_Concat_byte_byte_l1 (v0 : List (List Int)) (v1 : Int) (v2 : Int) (v3 : List Int) : Option (List Int) := Lw slices_Concat_byte_byte.c (finish slices_Concat_byte_byte.c (fiOf (GT tab) Tryz.f146 slices_Concat_byte_byte.ms) (decRes tab slices_Concat_byte_byte.rs)) ((loops slices_Concat_byte_byte.c.cuts 1000 slices_Concat_byte_byte.b []).getD 1 []) { slots := [.undef, .undef, .undef, .undef, .undef, .undef, .sl 0 0, .undef, .undef, .undef, .undef, .undef, .undef, .undef, .undef, .undef, .undef, .undef, .undef, .undef, .undef, .undef, .undef, .undef, .undef, .vs false 22 v0, .int .i64 v1, .int .i64 v2, .undef, .undef, .undef, .undef, .undef, .undef, .undef, .undef], loc := locOf [.row 0 true 5 v3], nx := 1 }
theorem slices_Concat_byte_byte.eq (x0 : List (List Int)) : slices_Concat_byte_byte x0 =
    slices_Concat_byte_byte_l0 x0 (0 : Int) x0 (x0.length : Int) (0 : Int) := by kernel_rfl
theorem slices_Concat_byte_byte_l0.eq (v0 : List (List Int)) (v1 : Int) (v2 : List (List Int)) (v3 : Int) (v4 : Int) : slices_Concat_byte_byte_l0 v0 v1 v2 v3 v4 =
    bif decide (v4 < v3) then
      (at? v2 v4).bind fun y1 =>
      bif decide (IntKind.i64.wrap (v1 + (y1.length : Int)) < (0 : Int)) then
        none
      else
        slices_Concat_byte_byte_l0 v0 (IntKind.i64.wrap (v1 + (y1.length : Int))) v2 v3 (IntKind.i64.wrap (v4 + (1 : Int)))
    else
      (slices_Grow_byte_byte ([] : List Int) v1).bind fun y2 =>
      slices_Concat_byte_byte_l1 v0 (v0.length : Int) (0 : Int) y2 := (Lw_eq tysOk (getG_con (slices_Concat_byte_byte.gok _)) _ _).trans (by kernel_rfl)
theorem slices_Concat_byte_byte_l1.eq (v0 : List (List Int)) (v1 : Int) (v2 : Int) (v3 : List Int) : slices_Concat_byte_byte_l1 v0 v1 v2 v3 =
    bif decide (v2 < v1) then
      (at? v0 v2).bind fun y1 =>
      bif decide ((v3.length + y1.length) * 1 ≤ 140737488355328) then
        slices_Concat_byte_byte_l1 v0 v1 (IntKind.i64.wrap (v2 + (1 : Int))) (v3 ++ y1)
      else
        none
    else
      some v3 := (Lw_eq tysOk (getG_con (slices_Concat_byte_byte.gok _)) _ _).trans (by kernel_rfl)

/-! ### impl_PackBytes: loop.example/g00688/impl.PackBytes -/
def impl_PackBytes.ms : List Mode := [.lend]
def impl_PackBytes.as : List VSh := [.agg [.int .i64, .int .i64, .int .i64, .sl false false 126]]
def impl_PackBytes.rs : RSh := ⟨[.one (.b (.b (.b (.b (.sl true true 5)))))], [none]⟩
noncomputable def impl_PackBytes.gs (δ : Type) : List (Nat × Callee (GT tab) δ) := [(70, calleeS tab impl_PackOk.ms impl_PackOk.as impl_PackOk.rs impl_PackOk.fn), (146, calleeS tab slices_Concat_byte_byte.ms slices_Concat_byte_byte.as slices_Concat_byte_byte.rs slices_Concat_byte_byte.fn), (147, calleeS tab impl_VarOf.ms impl_VarOf.as impl_VarOf.rs impl_VarOf.fn), (149, calleeS tab impl_bitsBytes.ms impl_bitsBytes.as impl_bitsBytes.rs impl_bitsBytes.fn)]
theorem impl_PackBytes.gok (δ : Type) : AllCon Tryz.prog tab (impl_PackBytes.gs δ) := .cons impl_PackOk.con (.cons slices_Concat_byte_byte.con (.cons impl_VarOf.con (.cons impl_bitsBytes.con (.nil))))
noncomputable def impl_PackBytes.c : Ctx (GT tab) (KT tab) (ResT tab impl_PackBytes.rs) := { X := XT tab, ty := tyOf tys, inner := fun _ => true, keep := keepOf 0 impl_PackBytes.ms, cuts := [], live := liveOf [], G := getG (impl_PackBytes.gs _) }
noncomputable def impl_PackBytes.b : Code := bodyOf Tryz.f150
noncomputable def impl_PackBytes (x0 : Int × Int × Int × (List Int)) : Option (List Int) := callW impl_PackBytes.c (fiOf (GT tab) Tryz.f150 impl_PackBytes.ms) impl_PackBytes.b (decRes tab impl_PackBytes.rs) (encArgs tab impl_PackBytes.as x0)
theorem impl_PackBytes.fok : FnOk Tryz.prog 150 Tryz.f150 impl_PackBytes.ms impl_PackBytes.b := ⟨Tryz.func150, by kernel_rfl, by kernel_rfl⟩
noncomputable def impl_PackBytes.fn : Args tab impl_PackBytes.as → Option (ResT tab impl_PackBytes.rs) := fun x => impl_PackBytes x
theorem impl_PackBytes.con {δ : Type} : Con Tryz.prog (KT tab) 150 (calleeS (β := δ) tab impl_PackBytes.ms impl_PackBytes.as impl_PackBytes.rs impl_PackBytes.fn) := con_shape (c := impl_PackBytes.c) mixed tysOk (getG_con (impl_PackBytes.gok _)) impl_PackBytes.fok rfl rfl (fun _ => rfl)
theorem impl_PackBytes.eq (x0 : Int × Int × Int × (List Int)) : impl_PackBytes x0 =
    (impl_PackOk (x0.1, x0.2.1, x0.2.2.1, x0.2.2.2)).bind fun y1 =>
    bif !y1 then
      some ([] : List Int)
    else
      (impl_VarOf x0.1).bind fun y2 =>
      (impl_VarOf x0.2.1).bind fun y3 =>
      (impl_bitsBytes (x0.2.2.1, x0.2.2.2)).bind fun y4 =>
      (slices_Concat_byte_byte ([y2, y3, y4] : List (List Int))).bind fun y5 =>
      some y5 := by kernel_rfl

/-! ### impl_FrameOk: loop.example/g00688/impl.FrameOk -/
def impl_FrameOk.ms : List Mode := [.lend]
def impl_FrameOk.as : List VSh := [.agg [.int .i64, .sl false false 5]]
def impl_FrameOk.rs : RSh := ⟨[.one (.b (.b (.b (.b (.bool)))))], [none]⟩
noncomputable def impl_FrameOk.gs (δ : Type) : List (Nat × Callee (GT tab) δ) := [(63, calleeS tab impl_within.ms impl_within.as impl_within.rs impl_within.fn)]
theorem impl_FrameOk.gok (δ : Type) : AllCon Tryz.prog tab (impl_FrameOk.gs δ) := .cons impl_within.con (.nil)
noncomputable def impl_FrameOk.c : Ctx (GT tab) (KT tab) (ResT tab impl_FrameOk.rs) := { X := XT tab, ty := tyOf tys, inner := fun _ => true, keep := keepOf 0 impl_FrameOk.ms, cuts := [], live := liveOf [], G := getG (impl_FrameOk.gs _) }
noncomputable def impl_FrameOk.b : Code := bodyOf Tryz.f186
noncomputable def impl_FrameOk (x0 : Int × (List Int)) : Option (Bool) := callW impl_FrameOk.c (fiOf (GT tab) Tryz.f186 impl_FrameOk.ms) impl_FrameOk.b (decRes tab impl_FrameOk.rs) (encArgs tab impl_FrameOk.as x0)
theorem impl_FrameOk.fok : FnOk Tryz.prog 186 Tryz.f186 impl_FrameOk.ms impl_FrameOk.b := ⟨Tryz.func186, by kernel_rfl, by kernel_rfl⟩
noncomputable def impl_FrameOk.fn : Args tab impl_FrameOk.as → Option (ResT tab impl_FrameOk.rs) := fun x => impl_FrameOk x
theorem impl_FrameOk.con {δ : Type} : Con Tryz.prog (KT tab) 186 (calleeS (β := δ) tab impl_FrameOk.ms impl_FrameOk.as impl_FrameOk.rs impl_FrameOk.fn) := con_shape (c := impl_FrameOk.c) mixed tysOk (getG_con (impl_FrameOk.gok _)) impl_FrameOk.fok rfl rfl (fun _ => rfl)
theorem impl_FrameOk.eq (x0 : Int × (List Int)) : impl_FrameOk x0 =
    (impl_within x0.1 (0 : Int) (255 : Int)).bind fun y1 =>
    bif y1 then
      some (decide ((x0.2.length : Int) ≤ (8000 : Int)))
    else
      some false := by kernel_rfl

/-! ### impl_crc: loop.example/g00688/impl.crc -/
def impl_crc.ms : List Mode := [.lend]
def impl_crc.as : List VSh := [.one (.b (.b (.b (.b (.sl false false 5)))))]
def impl_crc.rs : RSh := ⟨[.one (.b (.b (.b (.b (.int .i64)))))], [none]⟩
noncomputable def impl_crc.gs (δ : Type) : List (Nat × Callee (GT tab) δ) := []
theorem impl_crc.gok (δ : Type) : AllCon Tryz.prog tab (impl_crc.gs δ) := .nil
noncomputable def impl_crc.c : Ctx (GT tab) (KT tab) (ResT tab impl_crc.rs) := { X := XT tab, ty := tyOf tys, inner := fun _ => true, keep := keepOf 0 impl_crc.ms, cuts := [], live := liveOf [(3, [3, 6, 7, 8]), (7, [3, 6, 7, 8, 16])], G := getG (impl_crc.gs _) }
noncomputable def impl_crc.b : Code := bodyOf Tryz.f187
noncomputable def impl_crc (x0 : List Int) : Option (Int) := callW impl_crc.c (fiOf (GT tab) Tryz.f187 impl_crc.ms) impl_crc.b (decRes tab impl_crc.rs) (encArgs tab impl_crc.as x0)
theorem impl_crc.fok : FnOk Tryz.prog 187 Tryz.f187 impl_crc.ms impl_crc.b := ⟨Tryz.func187, by kernel_rfl, by kernel_rfl⟩
noncomputable def impl_crc.fn : Args tab impl_crc.as → Option (ResT tab impl_crc.rs) := fun x => impl_crc x
theorem impl_crc.con {δ : Type} : Con Tryz.prog (KT tab) 187 (calleeS (β := δ) tab impl_crc.ms impl_crc.as impl_crc.rs impl_crc.fn) := con_shape (c := impl_crc.c) mixed tysOk (getG_con (impl_crc.gok _)) impl_crc.fok rfl rfl (fun _ => rfl)
noncomputable def impl_crc_l0 (v0 : Int) (v1 : List Int) (v2 : Int) (v3 : Int) : Option (Int) := Lw impl_crc.c (finish impl_crc.c (fiOf (GT tab) Tryz.f187 impl_crc.ms) (decRes tab impl_crc.rs)) ((loops impl_crc.c.cuts 1000 impl_crc.b []).getD 0 []) { slots := [.undef, .undef, .undef, .int .u32 v0, .undef, .undef, .vs false 5 v1, .int .i64 v2, .int .i64 v3, .undef, .undef, .undef, .undef, .undef, .undef, .undef, .undef, .undef, .undef, .undef, .undef, .undef, .undef, .undef, .undef, .undef, .undef, .undef, .undef], loc := locOf [], nx := 0 }
noncomputable def impl_crc_l1 (v0 : Int) (v1 : List Int) (v2 : Int) (v3 : Int) (v4 : Int) : Option (Int) := Lw impl_crc.c (finish impl_crc.c (fiOf (GT tab) Tryz.f187 impl_crc.ms) (decRes tab impl_crc.rs)) ((loops impl_crc.c.cuts 1000 impl_crc.b []).getD 1 []) { slots := [.undef, .undef, .undef, .int .u32 v0, .undef, .undef, .vs false 5 v1, .int .i64 v2, .int .i64 v3, .undef, .undef, .undef, .undef, .undef, .undef, .undef, .int .i64 v4, .undef, .undef, .undef, .undef, .undef, .undef, .undef, .undef, .undef, .undef, .undef, .undef], loc := locOf [], nx := 0 }
theorem impl_crc.eq (x0 : List Int) : impl_crc x0 =
    impl_crc_l0 (4294967295 : Int) x0 (x0.length : Int) (0 : Int) := by kernel_rfl
theorem impl_crc_l0.eq (v0 : Int) (v1 : List Int) (v2 : Int) (v3 : Int) : impl_crc_l0 v0 v1 v2 v3 =
    bif decide (v3 < v2) then
      (at? v1 v3).bind fun y1 =>
      impl_crc_l1 (IntKind.u32.wrap (((BitVec.ofInt 32 v0) ^^^ (BitVec.ofInt 32 (IntKind.u32.wrap y1))).toNat : Int)) v1 v2 v3 (0 : Int)
    else
      some (IntKind.i64.wrap (IntKind.u32.wrap (((BitVec.ofInt 32 v0) ^^^ (BitVec.ofInt 32 (4294967295 : Int))).toNat : Int))) := (Lw_eq tysOk (getG_con (impl_crc.gok _)) _ _).trans (by kernel_rfl)
theorem impl_crc_l1.eq (v0 : Int) (v1 : List Int) (v2 : Int) (v3 : Int) (v4 : Int) : impl_crc_l1 v0 v1 v2 v3 v4 =
    bif decide (v4 < (8 : Int)) then
      impl_crc_l1 (IntKind.u32.wrap (((BitVec.ofInt 32 (v0.fdiv (2 ^ 1))) ^^^ (BitVec.ofInt 32 (IntKind.u32.wrap ((IntKind.u32.wrap (((BitVec.ofInt 32 v0) &&& (BitVec.ofInt 32 (1 : Int))).toNat : Int)) * (3988292384 : Int))))).toNat : Int)) v1 v2 v3 (IntKind.i64.wrap (v4 + (1 : Int)))
    else
      impl_crc_l0 v0 v1 v2 (IntKind.i64.wrap (v3 + (1 : Int))) := (Lw_eq tysOk (getG_con (impl_crc.gok _)) _ _).trans (by kernel_rfl)

/-! ### impl_FrameOf: loop.example/g00688/impl.FrameOf -/
def impl_FrameOf.ms : List Mode := [.lend]
def impl_FrameOf.as : List VSh := [.agg [.int .i64, .sl false false 5]]
def impl_FrameOf.rs : RSh := ⟨[.one (.b (.b (.b (.b (.sl true true 5)))))], [none]⟩
noncomputable def impl_FrameOf.gs (δ : Type) : List (Nat × Callee (GT tab) δ) := [(147, calleeS tab impl_VarOf.ms impl_VarOf.as impl_VarOf.rs impl_VarOf.fn), (186, calleeS tab impl_FrameOk.ms impl_FrameOk.as impl_FrameOk.rs impl_FrameOk.fn), (187, calleeS tab impl_crc.ms impl_crc.as impl_crc.rs impl_crc.fn)]
theorem impl_FrameOf.gok (δ : Type) : AllCon Tryz.prog tab (impl_FrameOf.gs δ) := .cons impl_VarOf.con (.cons impl_FrameOk.con (.cons impl_crc.con (.nil)))
noncomputable def impl_FrameOf.c : Ctx (GT tab) (KT tab) (ResT tab impl_FrameOf.rs) := { X := XT tab, ty := tyOf tys, inner := fun _ => true, keep := keepOf 0 impl_FrameOf.ms, cuts := [], live := liveOf [(7, [3, 4, 24])], G := getG (impl_FrameOf.gs _) }
noncomputable def impl_FrameOf.b : Code := bodyOf Tryz.f151
noncomputable def impl_FrameOf (x0 : Int × (List Int)) : Option (List Int) := callW impl_FrameOf.c (fiOf (GT tab) Tryz.f151 impl_FrameOf.ms) impl_FrameOf.b (decRes tab impl_FrameOf.rs) (encArgs tab impl_FrameOf.as x0)
theorem impl_FrameOf.fok : FnOk Tryz.prog 151 Tryz.f151 impl_FrameOf.ms impl_FrameOf.b := ⟨Tryz.func151, by kernel_rfl, by kernel_rfl⟩
noncomputable def impl_FrameOf.fn : Args tab impl_FrameOf.as → Option (ResT tab impl_FrameOf.rs) := fun x => impl_FrameOf x
theorem impl_FrameOf.con {δ : Type} : Con Tryz.prog (KT tab) 151 (calleeS (β := δ) tab impl_FrameOf.ms impl_FrameOf.as impl_FrameOf.rs impl_FrameOf.fn) := con_shape (c := impl_FrameOf.c) mixed tysOk (getG_con (impl_FrameOf.gok _)) impl_FrameOf.fok rfl rfl (fun _ => rfl)
noncomputable def impl_FrameOf_l0 (v0 : Int) (v1 : Int) (v2 : List Int) : Option (List Int) := Lw impl_FrameOf.c (finish impl_FrameOf.c (fiOf (GT tab) Tryz.f151 impl_FrameOf.ms) (decRes tab impl_FrameOf.rs)) ((loops impl_FrameOf.c.cuts 1000 impl_FrameOf.b []).getD 0 []) { slots := [.undef, .undef, .undef, .sl 0 0, .int .i64 v0, .undef, .undef, .undef, .undef, .undef, .undef, .undef, .undef, .undef, .undef, .undef, .undef, .undef, .undef, .undef, .undef, .undef, .undef, .undef, .int .i64 v1, .undef, .undef, .undef, .undef, .undef, .undef, .undef, .undef, .undef, .undef, .undef, .undef], loc := locOf [.row 0 true 5 v2], nx := 1 }
theorem impl_FrameOf.eq (x0 : Int × (List Int)) : impl_FrameOf x0 =
    (impl_FrameOk (x0.1, x0.2)).bind fun y1 =>
    bif !y1 then
      some ([] : List Int)
    else
      (impl_VarOf (x0.2.length : Int)).bind fun y2 =>
      bif decide ((([(90 : Int), IntKind.u8.wrap x0.1] : List Int).length + y2.length) * 1 ≤ 140737488355328) then
        bif decide (((([(90 : Int), IntKind.u8.wrap x0.1] : List Int) ++ y2).length + x0.2.length) * 1 ≤ 140737488355328) then
          (impl_crc ((([(90 : Int), IntKind.u8.wrap x0.1] : List Int) ++ y2) ++ x0.2)).bind fun y3 =>
          impl_FrameOf_l0 y3 (0 : Int) ((([(90 : Int), IntKind.u8.wrap x0.1] : List Int) ++ y2) ++ x0.2)
        else
          none
      else
        none := by kernel_rfl
theorem impl_FrameOf_l0.eq (v0 : Int) (v1 : Int) (v2 : List Int) : impl_FrameOf_l0 v0 v1 v2 =
    bif decide (v1 < (4 : Int)) then
      bif decide (IntKind.i64.wrap ((8 : Int) * v1) < (0 : Int)) then
        none
      else
        bif decide ((v2.length + ([IntKind.u8.wrap (v0.fdiv (2 ^ (min (IntKind.i64.wrap ((8 : Int) * v1)).toNat 64)))] : List Int).length) * 1 ≤ 140737488355328) then
          impl_FrameOf_l0 v0 (IntKind.i64.wrap (v1 + (1 : Int))) (v2 ++ ([IntKind.u8.wrap (v0.fdiv (2 ^ (min (IntKind.i64.wrap ((8 : Int) * v1)).toNat 64)))] : List Int))
        else
          none
    else
      some v2 := (Lw_eq tysOk (getG_con (impl_FrameOf.gok _)) _ _).trans (by kernel_rfl)

/-! ### impl_fmBytes: loop.example/g00688/impl.fmBytes -/
def impl_fmBytes.ms : List Mode := [.lend]
def impl_fmBytes.as : List VSh := [.agg [.int .i64, .int .i64, .int .i64, .sl false false 3, .sl false false 30, .sl false false 3, .int .i64, .sl false false 126, .int .i64, .int .i64, .int .i64, .sl false false 126, .int .i64, .int .i64, .int .i64, .sl false false 126]]
def impl_fmBytes.rs : RSh := ⟨[.one (.b (.b (.b (.b (.sl true true 5)))))], [none]⟩
noncomputable def impl_fmBytes.gs (δ : Type) : List (Nat × Callee (GT tab) δ) := [(146, calleeS tab slices_Concat_byte_byte.ms slices_Concat_byte_byte.as slices_Concat_byte_byte.rs slices_Concat_byte_byte.fn), (147, calleeS tab impl_VarOf.ms impl_VarOf.as impl_VarOf.rs impl_VarOf.fn), (148, calleeS tab impl_waveBytes.ms impl_waveBytes.as impl_waveBytes.rs impl_waveBytes.fn), (149, calleeS tab impl_bitsBytes.ms impl_bitsBytes.as impl_bitsBytes.rs impl_bitsBytes.fn), (150, calleeS tab impl_PackBytes.ms impl_PackBytes.as impl_PackBytes.rs impl_PackBytes.fn), (151, calleeS tab impl_FrameOf.ms impl_FrameOf.as impl_FrameOf.rs impl_FrameOf.fn)]
theorem impl_fmBytes.gok (δ : Type) : AllCon Tryz.prog tab (impl_fmBytes.gs δ) := .cons slices_Concat_byte_byte.con (.cons impl_VarOf.con (.cons impl_waveBytes.con (.cons impl_bitsBytes.con (.cons impl_PackBytes.con (.cons impl_FrameOf.con (.nil))))))
noncomputable def impl_fmBytes.c : Ctx (GT tab) (KT tab) (ResT tab impl_fmBytes.rs) := { X := XT tab, ty := tyOf tys, inner := fun _ => true, keep := keepOf 0 impl_fmBytes.ms, cuts := [], live := liveOf [], G := getG (impl_fmBytes.gs _) }
noncomputable def impl_fmBytes.b : Code := bodyOf Tryz.f98
noncomputable def impl_fmBytes (x0 : Int × Int × Int × (List Int) × (List (Int × (List Int))) × (List Int) × Int × (List Int) × Int × Int × Int × (List Int) × Int × Int × Int × (List Int)) : Option (List Int) := callW impl_fmBytes.c (fiOf (GT tab) Tryz.f98 impl_fmBytes.ms) impl_fmBytes.b (decRes tab impl_fmBytes.rs) (encArgs tab impl_fmBytes.as x0)
theorem impl_fmBytes.fok : FnOk Tryz.prog 98 Tryz.f98 impl_fmBytes.ms impl_fmBytes.b := ⟨Tryz.func98, by kernel_rfl, by kernel_rfl⟩
noncomputable def impl_fmBytes.fn : Args tab impl_fmBytes.as → Option (ResT tab impl_fmBytes.rs) := fun x => impl_fmBytes x
theorem impl_fmBytes.con {δ : Type} : Con Tryz.prog (KT tab) 98 (calleeS (β := δ) tab impl_fmBytes.ms impl_fmBytes.as impl_fmBytes.rs impl_fmBytes.fn) := con_shape (c := impl_fmBytes.c) mixed tysOk (getG_con (impl_fmBytes.gok _)) impl_fmBytes.fok rfl rfl (fun _ => rfl)
theorem impl_fmBytes.eq (x0 : Int × Int × Int × (List Int) × (List (Int × (List Int))) × (List Int) × Int × (List Int) × Int × Int × Int × (List Int) × Int × Int × Int × (List Int)) : impl_fmBytes x0 =
    (impl_VarOf x0.2.1).bind fun y1 =>
    (impl_waveBytes (x0.2.2.1, x0.2.2.2.1, x0.2.2.2.2.1)).bind fun y2 =>
    (impl_bitsBytes (x0.2.2.2.2.2.2.1, x0.2.2.2.2.2.2.2.1)).bind fun y3 =>
    (impl_PackBytes (x0.2.2.2.2.2.2.2.2.1, x0.2.2.2.2.2.2.2.2.2.1, x0.2.2.2.2.2.2.2.2.2.2.1, x0.2.2.2.2.2.2.2.2.2.2.2.1)).bind fun y4 =>
    (impl_PackBytes (x0.2.2.2.2.2.2.2.2.2.2.2.2.1, x0.2.2.2.2.2.2.2.2.2.2.2.2.2.1, x0.2.2.2.2.2.2.2.2.2.2.2.2.2.2.1, x0.2.2.2.2.2.2.2.2.2.2.2.2.2.2.2)).bind fun y5 =>
    (slices_Concat_byte_byte ([y1, y2, y3, y4, y5] : List (List Int))).bind fun y6 =>
    (impl_FrameOf ((1 : Int), y6)).bind fun y7 =>
    some y7 := by kernel_rfl

/-! ### impl_FmBytes: loop.example/g00688/impl.FmBytes -/
def impl_FmBytes.ms : List Mode := [.lend]
def impl_FmBytes.as : List VSh := [.agg [.int .i64, .int .i64, .int .i64, .sl false false 3, .sl false false 30, .sl false false 3, .int .i64, .sl false false 126, .int .i64, .int .i64, .int .i64, .sl false false 126, .int .i64, .int .i64, .int .i64, .sl false false 126]]
def impl_FmBytes.rs : RSh := ⟨[.one (.b (.b (.b (.b (.sl true true 5)))))], [none]⟩
noncomputable def impl_FmBytes.gs (δ : Type) : List (Nat × Callee (GT tab) δ) := [(97, calleeS tab impl_FmOk.ms impl_FmOk.as impl_FmOk.rs impl_FmOk.fn), (98, calleeS tab impl_fmBytes.ms impl_fmBytes.as impl_fmBytes.rs impl_fmBytes.fn)]
theorem impl_FmBytes.gok (δ : Type) : AllCon Tryz.prog tab (impl_FmBytes.gs δ) := .cons impl_FmOk.con (.cons impl_fmBytes.con (.nil))
noncomputable def impl_FmBytes.c : Ctx (GT tab) (KT tab) (ResT tab impl_FmBytes.rs) := { X := XT tab, ty := tyOf tys, inner := fun _ => true, keep := keepOf 0 impl_FmBytes.ms, cuts := [], live := liveOf [], G := getG (impl_FmBytes.gs _) }
noncomputable def impl_FmBytes.b : Code := bodyOf Tryz.f49
noncomputable def impl_FmBytes (x0 : Int × Int × Int × (List Int) × (List (Int × (List Int))) × (List Int) × Int × (List Int) × Int × Int × Int × (List Int) × Int × Int × Int × (List Int)) : Option (List Int) := callW impl_FmBytes.c (fiOf (GT tab) Tryz.f49 impl_FmBytes.ms) impl_FmBytes.b (decRes tab impl_FmBytes.rs) (encArgs tab impl_FmBytes.as x0)
theorem impl_FmBytes.fok : FnOk Tryz.prog 49 Tryz.f49 impl_FmBytes.ms impl_FmBytes.b := ⟨Tryz.func49, by kernel_rfl, by kernel_rfl⟩
noncomputable def impl_FmBytes.fn : Args tab impl_FmBytes.as → Option (ResT tab impl_FmBytes.rs) := fun x => impl_FmBytes x
theorem impl_FmBytes.con {δ : Type} : Con Tryz.prog (KT tab) 49 (calleeS (β := δ) tab impl_FmBytes.ms impl_FmBytes.as impl_FmBytes.rs impl_FmBytes.fn) := con_shape (c := impl_FmBytes.c) mixed tysOk (getG_con (impl_FmBytes.gok _)) impl_FmBytes.fok rfl rfl (fun _ => rfl)
theorem impl_FmBytes.eq (x0 : Int × Int × Int × (List Int) × (List (Int × (List Int))) × (List Int) × Int × (List Int) × Int × Int × Int × (List Int) × Int × Int × Int × (List Int)) : impl_FmBytes x0 =
    (impl_FmOk (x0.1, x0.2.1, x0.2.2.1, x0.2.2.2.1, x0.2.2.2.2.1, x0.2.2.2.2.2.1, x0.2.2.2.2.2.2.1, x0.2.2.2.2.2.2.2.1, x0.2.2.2.2.2.2.2.2.1, x0.2.2.2.2.2.2.2.2.2.1, x0.2.2.2.2.2.2.2.2.2.2.1, x0.2.2.2.2.2.2.2.2.2.2.2.1, x0.2.2.2.2.2.2.2.2.2.2.2.2.1, x0.2.2.2.2.2.2.2.2.2.2.2.2.2.1, x0.2.2.2.2.2.2.2.2.2.2.2.2.2.2.1, x0.2.2.2.2.2.2.2.2.2.2.2.2.2.2.2)).bind fun y1 =>
    bif !y1 then
      some ([] : List Int)
    else
      (impl_fmBytes (x0.1, x0.2.1, x0.2.2.1, x0.2.2.2.1, x0.2.2.2.2.1, x0.2.2.2.2.2.1, x0.2.2.2.2.2.2.1, x0.2.2.2.2.2.2.2.1, x0.2.2.2.2.2.2.2.2.1, x0.2.2.2.2.2.2.2.2.2.1, x0.2.2.2.2.2.2.2.2.2.2.1, x0.2.2.2.2.2.2.2.2.2.2.2.1, x0.2.2.2.2.2.2.2.2.2.2.2.2.1, x0.2.2.2.2.2.2.2.2.2.2.2.2.2.1, x0.2.2.2.2.2.2.2.2.2.2.2.2.2.2.1, x0.2.2.2.2.2.2.2.2.2.2.2.2.2.2.2)).bind fun y2 =>
      some y2 := by kernel_rfl

end Go.Ev.W
