/- What functions of the program come to. -/
import Derived.Test.YthbijcdnjgfndaaPaT
import Derived.Test.YthbijcdnjgfndaaPa25
import Derived.Test.YthbijcdnjgfndaaPa4
namespace Go.Ev.W
open Go.Ev Go.Proofs
set_option maxRecDepth 100000
set_option linter.unusedVariables false

/-! ### laws_toByteS: loop.example/g00688/laws.toByteS -/
def laws_toByteS.ms : List Mode := [.lend]
def laws_toByteS.as : List VSh := [.one (.b (.b (.b (.b (.sl false false 5)))))]
def laws_toByteS.rs : RSh := ⟨[.one (.b (.b (.b (.b (.sl true true 5)))))], [none]⟩
noncomputable def laws_toByteS.gs (δ : Type) : List (Nat × Callee (GT tab) δ) := []
theorem laws_toByteS.gok (δ : Type) : AllCon Try.prog tab (laws_toByteS.gs δ) := .nil
noncomputable def laws_toByteS.c : Ctx (GT tab) (KT tab) (ResT tab laws_toByteS.rs) := { X := XT tab, ty := tyOf tys, inner := fun _ => true, keep := keepOf 0 laws_toByteS.ms, cuts := [], live := liveOf [(3, [0, 3, 4])], G := getG (laws_toByteS.gs _) }
noncomputable def laws_toByteS.b : Code := bodyOf Try.f50
noncomputable def laws_toByteS (x0 : List Int) : Option (List Int) := callW laws_toByteS.c (fiOf (GT tab) Try.f50 laws_toByteS.ms) laws_toByteS.b (decRes tab laws_toByteS.rs) (encArgs tab laws_toByteS.as x0)
theorem laws_toByteS.fok : FnOk Try.prog 50 Try.f50 laws_toByteS.ms laws_toByteS.b := ⟨Try.func50, by kernel_rfl, by kernel_rfl⟩
noncomputable def laws_toByteS.fn : Args tab laws_toByteS.as → Option (ResT tab laws_toByteS.rs) := fun x => laws_toByteS x
theorem laws_toByteS.con {δ : Type} : Con Try.prog (KT tab) 50 (calleeS (β := δ) tab laws_toByteS.ms laws_toByteS.as laws_toByteS.rs laws_toByteS.fn) := con_shape (c := laws_toByteS.c) mixed tysOk (getG_con (laws_toByteS.gok _)) laws_toByteS.fok rfl rfl (fun _ => rfl)
noncomputable def laws_toByteS_l0 (v0 : List Int) (v1 : Int) (v2 : List Int) : Option (List Int) := Lw laws_toByteS.c (finish laws_toByteS.c (fiOf (GT tab) Try.f50 laws_toByteS.ms) (decRes tab laws_toByteS.rs)) ((loops laws_toByteS.c.cuts 1000 laws_toByteS.b []).getD 0 []) { slots := [.vs false 5 v0, .undef, .undef, .sl 0 0, .int .i64 v1, .undef, .undef, .undef, .undef, .undef, .undef, .undef, .undef, .undef, .undef, .undef, .undef, .undef, .undef, .undef, .undef, .undef], loc := locOf [.row 0 true 5 v2], nx := 1 }
theorem laws_toByteS.eq (x0 : List Int) : laws_toByteS x0 =
    bif decide ((0 : Int) ≤ (x0.length : Int)) && decide (((x0.length : Int).toNat) * 1 ≤ 140737488355328) then
      laws_toByteS_l0 x0 (0 : Int) (List.replicate ((x0.length : Int).toNat) (0 : Int))
    else
      none := by kernel_rfl
theorem laws_toByteS_l0.eq (v0 : List Int) (v1 : Int) (v2 : List Int) : laws_toByteS_l0 v0 v1 v2 =
    bif decide (v1 < (v0.length : Int)) then
      (at? v0 v1).bind fun y1 =>
      (at? v2 v1).bind fun y2 =>
      v2[v1.toNat]?.bind fun y3 =>
      laws_toByteS_l0 v0 (IntKind.i64.wrap (v1 + (1 : Int))) (v2.set v1.toNat y1)
    else
      some v2 := (Lw_eq tysOk (getG_con (laws_toByteS.gok _)) _ _).trans (by kernel_rfl)

/-! ### spec_VarRead: loop.example/g00688/spec.VarRead -/
def spec_VarRead.ms : List Mode := [.lend, .lend]
def spec_VarRead.as : List VSh := [.one (.b (.b (.b (.b (.sl false false 5))))), .one (.b (.b (.b (.b (.int .i64)))))]
def spec_VarRead.rs : RSh := ⟨[.one (.b (.b (.b (.b (.int .i64))))), .one (.b (.b (.b (.b (.int .i64))))), .one (.b (.b (.b (.b (.bool)))))], [none, none]⟩
noncomputable def spec_VarRead.gs (δ : Type) : List (Nat × Callee (GT tab) δ) := [(74, calleeS tab spec_VarOf.ms spec_VarOf.as spec_VarOf.rs spec_VarOf.fn)]
theorem spec_VarRead.gok (δ : Type) : AllCon Try.prog tab (spec_VarRead.gs δ) := .cons spec_VarOf.con (.nil)
noncomputable def spec_VarRead.c : Ctx (GT tab) (KT tab) (ResT tab spec_VarRead.rs) := { X := XT tab, ty := tyOf tys, inner := fun _ => true, keep := keepOf 0 spec_VarRead.ms, cuts := [3, 8], live := liveOf [(3, [0, 1]), (6, [0, 1, 7, 8, 9]), (8, [0, 1, 7, 8, 9])], G := getG (spec_VarRead.gs _) }
noncomputable def spec_VarRead.b : Code := bodyOf Try.f84
noncomputable def spec_VarRead (x0 : List Int) (x1 : Int) : Option (Int × Int × Bool) := callW spec_VarRead.c (fiOf (GT tab) Try.f84 spec_VarRead.ms) spec_VarRead.b (decRes tab spec_VarRead.rs) (encArgs tab spec_VarRead.as (x0, x1))
theorem spec_VarRead.fok : FnOk Try.prog 84 Try.f84 spec_VarRead.ms spec_VarRead.b := ⟨Try.func84, by kernel_rfl, by kernel_rfl⟩
noncomputable def spec_VarRead.fn : Args tab spec_VarRead.as → Option (ResT tab spec_VarRead.rs) := fun x => spec_VarRead x.1 x.2
theorem spec_VarRead.con {δ : Type} : Con Try.prog (KT tab) 84 (calleeS (β := δ) tab spec_VarRead.ms spec_VarRead.as spec_VarRead.rs spec_VarRead.fn) := con_shape (c := spec_VarRead.c) mixed tysOk (getG_con (spec_VarRead.gok _)) spec_VarRead.fok rfl rfl (fun _ => rfl)
noncomputable def spec_VarRead_l0 (v0 : List Int) (v1 : Int) : Option (Int × Int × Bool) := Lw spec_VarRead.c (finish spec_VarRead.c (fiOf (GT tab) Try.f84 spec_VarRead.ms) (decRes tab spec_VarRead.rs)) ((loops spec_VarRead.c.cuts 1000 spec_VarRead.b []).getD 0 []) { slots := [.vs false 5 v0, .int .i64 v1, .undef, .undef, .undef, .undef, .undef, .undef, .undef, .undef, .undef, .undef, .undef, .undef, .undef, .undef, .undef, .undef, .undef, .undef, .undef, .undef, .undef, .undef, .undef, .undef, .undef, .undef, .undef, .undef, .undef, .undef, .undef, .undef, .undef, .undef, .undef, .undef, .undef, .undef, .undef, .undef, .undef, .undef, .undef, .undef, .undef, .undef, .undef, .undef, .undef, .undef, .undef, .undef, .undef, .undef, .undef, .undef, .undef, .undef, .undef], loc := locOf [], nx := 0 }
noncomputable def spec_VarRead_l1 (v0 : List Int) (v1 : Int) (v2 : Int) (v3 : Int) (v4 : Int) : Option (Int × Int × Bool) := Lw spec_VarRead.c (finish spec_VarRead.c (fiOf (GT tab) Try.f84 spec_VarRead.ms) (decRes tab spec_VarRead.rs)) ((loops spec_VarRead.c.cuts 1000 spec_VarRead.b []).getD 1 []) { slots := [.vs false 5 v0, .int .i64 v1, .undef, .undef, .undef, .undef, .undef, .int .i64 v2, .int .i64 v3, .int .i64 v4, .undef, .undef, .undef, .undef, .undef, .undef, .undef, .undef, .undef, .undef, .undef, .undef, .undef, .undef, .undef, .undef, .undef, .undef, .undef, .undef, .undef, .undef, .undef, .undef, .undef, .undef, .undef, .undef, .undef, .undef, .undef, .undef, .undef, .undef, .undef, .undef, .undef, .undef, .undef, .undef, .undef, .undef, .undef, .undef, .undef, .undef, .undef, .undef, .undef, .undef, .undef], loc := locOf [], nx := 0 }
noncomputable def spec_VarRead_l2 (v0 : List Int) (v1 : Int) (v2 : Int) (v3 : Int) (v4 : Int) : Option (Int × Int × Bool) := Lw spec_VarRead.c (finish spec_VarRead.c (fiOf (GT tab) Try.f84 spec_VarRead.ms) (decRes tab spec_VarRead.rs)) ((loops spec_VarRead.c.cuts 1000 spec_VarRead.b []).getD 2 []) { slots := [.vs false 5 v0, .int .i64 v1, .undef, .undef, .undef, .undef, .undef, .int .i64 v2, .int .i64 v3, .int .i64 v4, .undef, .undef, .undef, .undef, .undef, .undef, .undef, .undef, .undef, .undef, .undef, .undef, .undef, .undef, .undef, .undef, .undef, .undef, .undef, .undef, .undef, .undef, .undef, .undef, .undef, .undef, .undef, .undef, .undef, .undef, .undef, .undef, .undef, .undef, .undef, .undef, .undef, .undef, .undef, .undef, .undef, .undef, .undef, .undef, .undef, .undef, .undef, .undef, .undef, .undef, .undef], loc := locOf [], nx := 0 }
theorem spec_VarRead.eq (x0 : List Int) (x1 : Int) : spec_VarRead x0 x1 =
    bif decide (x1 < (0 : Int)) then
      some ((0 : Int), (0 : Int), false)
    else
      bif decide (x1 ≥ (x0.length : Int)) then
        some ((0 : Int), (0 : Int), false)
      else
        spec_VarRead_l0 x0 x1 := by kernel_rfl
theorem spec_VarRead_l0.eq (v0 : List Int) (v1 : Int) : spec_VarRead_l0 v0 v1 =
    spec_VarRead_l1 v0 v1 (0 : Int) (1 : Int) v1 := (Lw_eq tysOk (getG_con (spec_VarRead.gok _)) _ _).trans (by kernel_rfl)
theorem spec_VarRead_l1.eq (v0 : List Int) (v1 : Int) (v2 : Int) (v3 : Int) (v4 : Int) : spec_VarRead_l1 v0 v1 v2 v3 v4 =
    bif decide (v4 < (v0.length : Int)) then
      bif decide (v4 < IntKind.i64.wrap (v1 + (5 : Int))) then
        spec_VarRead_l2 v0 v1 v2 v3 v4
      else
        some ((0 : Int), (0 : Int), false)
    else
      some ((0 : Int), (0 : Int), false) := (Lw_eq tysOk (getG_con (spec_VarRead.gok _)) _ _).trans (by kernel_rfl)
theorem spec_VarRead_l2.eq (v0 : List Int) (v1 : Int) (v2 : Int) (v3 : Int) (v4 : Int) : spec_VarRead_l2 v0 v1 v2 v3 v4 =
    (at? v0 v4).bind fun y1 =>
    (at? v0 v4).bind fun y2 =>
    bif decide (y2 < (128 : Int)) then
      (spec_VarOf (IntKind.i64.wrap (v2 + (IntKind.i64.wrap (v3 * (IntKind.i64.wrap (y1.tmod (128 : Int)))))))).bind fun y3 =>
      bif decide (0 ≤ IntKind.i64.wrap (v4 + (1 : Int)) ∧ IntKind.i64.wrap (v4 + (1 : Int)) ≤ ((v0.length : Nat) : Int)) then
        bif decide (0 ≤ v1 ∧ v1 ≤ (((IntKind.i64.wrap (v4 + (1 : Int))).toNat : Nat) : Int)) then
          bif !((strOf (y3.map fun x => x)).toList == (strOf (((v0.take ((IntKind.i64.wrap (v4 + (1 : Int))).toNat)).drop v1.toNat).map fun x => x)).toList) then
            some ((0 : Int), (0 : Int), false)
          else
            some (IntKind.i64.wrap (v2 + (IntKind.i64.wrap (v3 * (IntKind.i64.wrap (y1.tmod (128 : Int)))))), IntKind.i64.wrap (v4 + (1 : Int)), true)
        else
          none
      else
        none
    else
      spec_VarRead_l1 v0 v1 (IntKind.i64.wrap (v2 + (IntKind.i64.wrap (v3 * (IntKind.i64.wrap (y1.tmod (128 : Int))))))) (IntKind.i64.wrap ((128 : Int) * v3)) (IntKind.i64.wrap (v4 + (1 : Int))) := (Lw_eq tysOk (getG_con (spec_VarRead.gok _)) _ _).trans (by kernel_rfl)

/-! ### spec_l02Pow: loop.example/g00688/spec.l02Pow -/
def spec_l02Pow.ms : List Mode := [.lend]
def spec_l02Pow.as : List VSh := [.one (.b (.b (.b (.b (.int .i64)))))]
def spec_l02Pow.rs : RSh := ⟨[.one (.b (.b (.b (.b (.int .i64)))))], [none]⟩
noncomputable def spec_l02Pow.gs (δ : Type) : List (Nat × Callee (GT tab) δ) := []
theorem spec_l02Pow.gok (δ : Type) : AllCon Try.prog tab (spec_l02Pow.gs δ) := .nil
noncomputable def spec_l02Pow.c : Ctx (GT tab) (KT tab) (ResT tab spec_l02Pow.rs) := { X := XT tab, ty := tyOf tys, inner := fun _ => true, keep := keepOf 0 spec_l02Pow.ms, cuts := [], live := liveOf [(2, [0, 3])], G := getG (spec_l02Pow.gs _) }
noncomputable def spec_l02Pow.b : Code := bodyOf Try.f85
noncomputable def spec_l02Pow (x0 : Int) : Option (Int) := callW spec_l02Pow.c (fiOf (GT tab) Try.f85 spec_l02Pow.ms) spec_l02Pow.b (decRes tab spec_l02Pow.rs) (encArgs tab spec_l02Pow.as x0)
theorem spec_l02Pow.fok : FnOk Try.prog 85 Try.f85 spec_l02Pow.ms spec_l02Pow.b := ⟨Try.func85, by kernel_rfl, by kernel_rfl⟩
noncomputable def spec_l02Pow.fn : Args tab spec_l02Pow.as → Option (ResT tab spec_l02Pow.rs) := fun x => spec_l02Pow x
theorem spec_l02Pow.con {δ : Type} : Con Try.prog (KT tab) 85 (calleeS (β := δ) tab spec_l02Pow.ms spec_l02Pow.as spec_l02Pow.rs spec_l02Pow.fn) := con_shape (c := spec_l02Pow.c) mixed tysOk (getG_con (spec_l02Pow.gok _)) spec_l02Pow.fok rfl rfl (fun _ => rfl)
noncomputable def spec_l02Pow_l0 (v0 : Int) (v1 : Int) : Option (Int) := Lw spec_l02Pow.c (finish spec_l02Pow.c (fiOf (GT tab) Try.f85 spec_l02Pow.ms) (decRes tab spec_l02Pow.rs)) ((loops spec_l02Pow.c.cuts 1000 spec_l02Pow.b []).getD 0 []) { slots := [.int .i64 v0, .undef, .undef, .int .i64 v1, .undef, .undef, .undef, .undef, .undef, .undef, .undef], loc := locOf [], nx := 0 }
theorem spec_l02Pow.eq (x0 : Int) : spec_l02Pow x0 =
    spec_l02Pow_l0 x0 (1 : Int) := by kernel_rfl
theorem spec_l02Pow_l0.eq (v0 : Int) (v1 : Int) : spec_l02Pow_l0 v0 v1 =
    bif decide (v0 > (0 : Int)) then
      spec_l02Pow_l0 (IntKind.i64.wrap (v0 - (1 : Int))) (IntKind.i64.wrap ((2 : Int) * v1))
    else
      some v1 := (Lw_eq tysOk (getG_con (spec_l02Pow.gok _)) _ _).trans (by kernel_rfl)

/-! ### spec_l16Here: loop.example/g00688/spec.l16Here -/
def spec_l16Here.ms : List Mode := [.lend, .lend, .lend]
def spec_l16Here.as : List VSh := [.one (.b (.b (.b (.b (.sl false false 5))))), .one (.b (.b (.b (.b (.int .i64))))), .one (.b (.b (.b (.b (.sl false false 5)))))]
def spec_l16Here.rs : RSh := ⟨[.one (.b (.b (.b (.b (.bool)))))], [none, none, none]⟩
noncomputable def spec_l16Here.gs (δ : Type) : List (Nat × Callee (GT tab) δ) := []
theorem spec_l16Here.gok (δ : Type) : AllCon Try.prog tab (spec_l16Here.gs δ) := .nil
noncomputable def spec_l16Here.c : Ctx (GT tab) (KT tab) (ResT tab spec_l16Here.rs) := { X := XT tab, ty := tyOf tys, inner := fun _ => true, keep := keepOf 0 spec_l16Here.ms, cuts := [], live := liveOf [], G := getG (spec_l16Here.gs _) }
noncomputable def spec_l16Here.b : Code := bodyOf Try.f87
noncomputable def spec_l16Here (x0 : List Int) (x1 : Int) (x2 : List Int) : Option (Bool) := callW spec_l16Here.c (fiOf (GT tab) Try.f87 spec_l16Here.ms) spec_l16Here.b (decRes tab spec_l16Here.rs) (encArgs tab spec_l16Here.as (x0, x1, x2))
theorem spec_l16Here.fok : FnOk Try.prog 87 Try.f87 spec_l16Here.ms spec_l16Here.b := ⟨Try.func87, by kernel_rfl, by kernel_rfl⟩
noncomputable def spec_l16Here.fn : Args tab spec_l16Here.as → Option (ResT tab spec_l16Here.rs) := fun x => spec_l16Here x.1 x.2.1 x.2.2
theorem spec_l16Here.con {δ : Type} : Con Try.prog (KT tab) 87 (calleeS (β := δ) tab spec_l16Here.ms spec_l16Here.as spec_l16Here.rs spec_l16Here.fn) := con_shape (c := spec_l16Here.c) mixed tysOk (getG_con (spec_l16Here.gok _)) spec_l16Here.fok rfl rfl (fun _ => rfl)
theorem spec_l16Here.eq (x0 : List Int) (x1 : Int) (x2 : List Int) : spec_l16Here x0 x1 x2 =
    bif decide ((x2.length : Int) > (0 : Int)) then
      bif decide (x1 ≥ (0 : Int)) then
        bif decide (x1 ≤ IntKind.i64.wrap ((x0.length : Int) - (x2.length : Int))) then
          bif decide (0 ≤ IntKind.i64.wrap (x1 + (x2.length : Int)) ∧ IntKind.i64.wrap (x1 + (x2.length : Int)) ≤ ((x0.length : Nat) : Int)) then
            bif decide (0 ≤ x1 ∧ x1 ≤ (((IntKind.i64.wrap (x1 + (x2.length : Int))).toNat : Nat) : Int)) then
              some ((strOf (((x0.take ((IntKind.i64.wrap (x1 + (x2.length : Int))).toNat)).drop x1.toNat).map fun x => x)).toList == (strOf (x2.map fun x => x)).toList)
            else
              none
          else
            none
        else
          some false
      else
        some false
    else
      some false := by kernel_rfl

/-! ### spec_BitsRead: loop.example/g00688/spec.BitsRead -/
def spec_BitsRead.ms : List Mode := [.lend, .lend]
def spec_BitsRead.as : List VSh := [.one (.b (.b (.b (.b (.sl false false 5))))), .one (.b (.b (.b (.b (.int .i64)))))]
def spec_BitsRead.rs : RSh := ⟨[.agg [.int .i64, .sl true true 103], .one (.b (.b (.b (.b (.int .i64))))), .one (.b (.b (.b (.b (.bool)))))], [none, none]⟩
noncomputable def spec_BitsRead.gs (δ : Type) : List (Nat × Callee (GT tab) δ) := [(38, calleeS tab spec_BitsBytes.ms spec_BitsBytes.as spec_BitsBytes.rs spec_BitsBytes.fn), (84, calleeS tab spec_VarRead.ms spec_VarRead.as spec_VarRead.rs spec_VarRead.fn), (85, calleeS tab spec_l02Pow.ms spec_l02Pow.as spec_l02Pow.rs spec_l02Pow.fn), (86, calleeS tab spec_BitsOf.ms spec_BitsOf.as spec_BitsOf.rs spec_BitsOf.fn), (87, calleeS tab spec_l16Here.ms spec_l16Here.as spec_l16Here.rs spec_l16Here.fn)]
theorem spec_BitsRead.gok (δ : Type) : AllCon Try.prog tab (spec_BitsRead.gs δ) := .cons spec_BitsBytes.con (.cons spec_VarRead.con (.cons spec_l02Pow.con (.cons spec_BitsOf.con (.cons spec_l16Here.con (.nil)))))
noncomputable def spec_BitsRead.c : Ctx (GT tab) (KT tab) (ResT tab spec_BitsRead.rs) := { X := XT tab, ty := tyOf tys, inner := fun _ => true, keep := keepOf 0 spec_BitsRead.ms, cuts := [4], live := liveOf [(4, [0, 1, 4, 7, 8]), (6, [0, 1, 4, 7, 8, 10, 11])], G := getG (spec_BitsRead.gs _) }
noncomputable def spec_BitsRead.b : Code := bodyOf Try.f49
noncomputable def spec_BitsRead (x0 : List Int) (x1 : Int) : Option ((Int × (List Int)) × Int × Bool) := callW spec_BitsRead.c (fiOf (GT tab) Try.f49 spec_BitsRead.ms) spec_BitsRead.b (decRes tab spec_BitsRead.rs) (encArgs tab spec_BitsRead.as (x0, x1))
theorem spec_BitsRead.fok : FnOk Try.prog 49 Try.f49 spec_BitsRead.ms spec_BitsRead.b := ⟨Try.func49, by kernel_rfl, by kernel_rfl⟩
noncomputable def spec_BitsRead.fn : Args tab spec_BitsRead.as → Option (ResT tab spec_BitsRead.rs) := fun x => spec_BitsRead x.1 x.2
theorem spec_BitsRead.con {δ : Type} : Con Try.prog (KT tab) 49 (calleeS (β := δ) tab spec_BitsRead.ms spec_BitsRead.as spec_BitsRead.rs spec_BitsRead.fn) := con_shape (c := spec_BitsRead.c) mixed tysOk (getG_con (spec_BitsRead.gok _)) spec_BitsRead.fok rfl rfl (fun _ => rfl)
noncomputable def spec_BitsRead_l0 (v0 : List Int) (v1 : Int) (v2 : Int) (v3 : Int) (v4 : Int) (v5 : List Int) : Option ((Int × (List Int)) × Int × Bool) := Lw spec_BitsRead.c (finish spec_BitsRead.c (fiOf (GT tab) Try.f49 spec_BitsRead.ms) (decRes tab spec_BitsRead.rs)) ((loops spec_BitsRead.c.cuts 1000 spec_BitsRead.b []).getD 0 []) { slots := [.vs false 5 v0, .int .i64 v1, .undef, .undef, .ptr 0 0, .undef, .undef, .int .i64 v2, .int .i64 v3, .undef, .undef, .undef, .undef, .undef, .undef, .undef, .undef, .undef, .undef, .undef, .undef, .undef, .undef, .undef, .undef, .undef, .undef, .undef, .undef, .undef, .undef, .undef, .undef, .undef, .undef, .undef, .undef, .undef, .undef, .undef, .undef, .undef, .undef, .undef, .undef, .undef, .undef, .undef, .undef, .undef, .undef, .undef, .undef, .undef, .undef, .undef, .undef, .undef, .undef, .undef, .undef, .undef, .undef, .undef, .undef, .undef, .undef, .undef, .undef, .undef, .undef, .undef, .undef, .undef, .undef, .undef, .undef, .undef, .undef], loc := locOf [.box 50 [.int .i64 v4, .sl 1 0], .row 0 true 103 v5], nx := 2 }
noncomputable def spec_BitsRead_l1 (v0 : List Int) (v1 : Int) (v2 : Int) (v3 : Int) (v4 : Int) (v5 : Int) (v6 : List Int) (v7 : List Int) : Option ((Int × (List Int)) × Int × Bool) := Lw spec_BitsRead.c (finish spec_BitsRead.c (fiOf (GT tab) Try.f49 spec_BitsRead.ms) (decRes tab spec_BitsRead.rs)) ((loops spec_BitsRead.c.cuts 1000 spec_BitsRead.b []).getD 1 []) { slots := [.vs false 5 v0, .int .i64 v1, .undef, .undef, .ptr 0 0, .undef, .undef, .int .i64 v2, .int .i64 v3, .undef, .sl 2 0, .int .i64 v4, .undef, .undef, .undef, .undef, .undef, .undef, .undef, .undef, .undef, .undef, .undef, .undef, .undef, .undef, .undef, .undef, .undef, .undef, .undef, .undef, .undef, .undef, .undef, .undef, .undef, .undef, .undef, .undef, .undef, .undef, .undef, .undef, .undef, .undef, .undef, .undef, .undef, .undef, .undef, .undef, .undef, .undef, .undef, .undef, .undef, .undef, .undef, .undef, .undef, .undef, .undef, .undef, .undef, .undef, .undef, .undef, .undef, .undef, .undef, .undef, .undef, .undef, .undef, .undef, .undef, .undef, .undef], loc := locOf [.box 50 [.int .i64 v5, .sl 1 0], .row 0 true 103 v6, .row 0 true 3 v7], nx := 3 }
theorem spec_BitsRead.eq (x0 : List Int) (x1 : Int) : spec_BitsRead x0 x1 =
    (spec_VarRead x0 x1).bind fun y1 =>
    bif !y1.2.2 then
      some (((0 : Int), ([] : List Int)), (0 : Int), false)
    else
      bif decide (y1.1 > (5000 : Int)) then
        some (((0 : Int), ([] : List Int)), (0 : Int), false)
      else
        bif decide (IntKind.i64.wrap ((IntKind.i64.wrap (y1.1 + (7 : Int))).tdiv (8 : Int)) > IntKind.i64.wrap ((x0.length : Int) - y1.2.1)) then
          some (((0 : Int), ([] : List Int)), (0 : Int), false)
        else
          spec_BitsRead_l0 x0 x1 y1.1 y1.2.1 (0 : Int) ([] : List Int) := by kernel_rfl
theorem spec_BitsRead_l0.eq (v0 : List Int) (v1 : Int) (v2 : Int) (v3 : Int) (v4 : Int) (v5 : List Int) : spec_BitsRead_l0 v0 v1 v2 v3 v4 v5 =
    spec_BitsRead_l1 v0 v1 v2 v3 (0 : Int) v4 v5 ([] : List Int) := (Lw_eq tysOk (getG_con (spec_BitsRead.gok _)) _ _).trans (by kernel_rfl)
theorem spec_BitsRead_l1.eq (v0 : List Int) (v1 : Int) (v2 : Int) (v3 : Int) (v4 : Int) (v5 : Int) (v6 : List Int) (v7 : List Int) : spec_BitsRead_l1 v0 v1 v2 v3 v4 v5 v6 v7 =
    bif decide (v4 < v2) then
      (at? v0 (IntKind.i64.wrap (v3 + (IntKind.i64.wrap (v4.tdiv (8 : Int)))))).bind fun y1 =>
      (spec_l02Pow (v4.tmod (8 : Int))).bind fun y2 =>
      bif decide (y2 = (0 : Int)) then
        none
      else
        bif decide ((v7.length + ([(IntKind.i64.wrap ((IntKind.i64.wrap y1).tdiv y2)).tmod (2 : Int)] : List Int).length) * 8 ≤ 140737488355328) then
          spec_BitsRead_l1 v0 v1 v2 v3 (IntKind.i64.wrap (v4 + (1 : Int))) v5 v6 (v7 ++ ([(IntKind.i64.wrap ((IntKind.i64.wrap y1).tdiv y2)).tmod (2 : Int)] : List Int))
        else
          none
    else
      (spec_BitsOf v7).bind fun y3 =>
      (spec_BitsBytes (y3.1.1, y3.1.2)).bind fun y4 =>
      (spec_l16Here v0 v1 y4).bind fun y5 =>
      bif !y5 then
        some (((0 : Int), ([] : List Int)), (0 : Int), false)
      else
        some ((y3.1.1, y3.1.2), IntKind.i64.wrap (v1 + (y4.length : Int)), true) := (Lw_eq tysOk (getG_con (spec_BitsRead.gok _)) _ _).trans (by kernel_rfl)

/-! ### bytes_Equal: bytes.Equal -/
def bytes_Equal.ms : List Mode := [.lend, .lend]
def bytes_Equal.as : List VSh := [.one (.b (.b (.b (.b (.sl false false 5))))), .one (.b (.b (.b (.b (.sl false false 5)))))]
def bytes_Equal.rs : RSh := ⟨[.one (.b (.b (.b (.b (.bool)))))], [none, none]⟩
noncomputable def bytes_Equal.gs (δ : Type) : List (Nat × Callee (GT tab) δ) := []
theorem bytes_Equal.gok (δ : Type) : AllCon Try.prog tab (bytes_Equal.gs δ) := .nil
noncomputable def bytes_Equal.c : Ctx (GT tab) (KT tab) (ResT tab bytes_Equal.rs) := { X := XT tab, ty := tyOf tys, inner := fun _ => true, keep := keepOf 0 bytes_Equal.ms, cuts := [], live := liveOf [], G := getG (bytes_Equal.gs _) }
noncomputable def bytes_Equal.b : Code := bodyOf Try.f100
noncomputable def bytes_Equal (x0 : List Int) (x1 : List Int) : Option (Bool) := callW bytes_Equal.c (fiOf (GT tab) Try.f100 bytes_Equal.ms) bytes_Equal.b (decRes tab bytes_Equal.rs) (encArgs tab bytes_Equal.as (x0, x1))
theorem bytes_Equal.fok : FnOk Try.prog 100 Try.f100 bytes_Equal.ms bytes_Equal.b := ⟨Try.func100, by kernel_rfl, by kernel_rfl⟩
noncomputable def bytes_Equal.fn : Args tab bytes_Equal.as → Option (ResT tab bytes_Equal.rs) := fun x => bytes_Equal x.1 x.2
theorem bytes_Equal.con {δ : Type} : Con Try.prog (KT tab) 100 (calleeS (β := δ) tab bytes_Equal.ms bytes_Equal.as bytes_Equal.rs bytes_Equal.fn) := con_shape (c := bytes_Equal.c) mixed tysOk (getG_con (bytes_Equal.gok _)) bytes_Equal.fok rfl rfl (fun _ => rfl)
theorem bytes_Equal.eq (x0 : List Int) (x1 : List Int) : bytes_Equal x0 x1 =
    some ((strOf (x0.map fun x => x)).toList == (strOf (x1.map fun x => x)).toList) := by kernel_rfl

/-! ### impl_VarRead: loop.example/g00688/impl.VarRead -/
def impl_VarRead.ms : List Mode := [.lend, .lend]
def impl_VarRead.as : List VSh := [.one (.b (.b (.b (.b (.sl false false 5))))), .one (.b (.b (.b (.b (.int .i64)))))]
def impl_VarRead.rs : RSh := ⟨[.one (.b (.b (.b (.b (.int .i64))))), .one (.b (.b (.b (.b (.int .i64))))), .one (.b (.b (.b (.b (.bool)))))], [none, none]⟩
noncomputable def impl_VarRead.gs (δ : Type) : List (Nat × Callee (GT tab) δ) := [(67, calleeS tab impl_within.ms impl_within.as impl_within.rs impl_within.fn), (93, calleeS tab impl_VarOf.ms impl_VarOf.as impl_VarOf.rs impl_VarOf.fn), (100, calleeS tab bytes_Equal.ms bytes_Equal.as bytes_Equal.rs bytes_Equal.fn)]
theorem impl_VarRead.gok (δ : Type) : AllCon Try.prog tab (impl_VarRead.gs δ) := .cons impl_within.con (.cons impl_VarOf.con (.cons bytes_Equal.con (.nil)))
noncomputable def impl_VarRead.c : Ctx (GT tab) (KT tab) (ResT tab impl_VarRead.rs) := { X := XT tab, ty := tyOf tys, inner := fun _ => true, keep := keepOf 0 impl_VarRead.ms, cuts := [], live := liveOf [(5, [0, 1, 7, 18, 19, 20])], G := getG (impl_VarRead.gs _) }
noncomputable def impl_VarRead.b : Code := bodyOf Try.f88
noncomputable def impl_VarRead (x0 : List Int) (x1 : Int) : Option (Int × Int × Bool) := callW impl_VarRead.c (fiOf (GT tab) Try.f88 impl_VarRead.ms) impl_VarRead.b (decRes tab impl_VarRead.rs) (encArgs tab impl_VarRead.as (x0, x1))
theorem impl_VarRead.fok : FnOk Try.prog 88 Try.f88 impl_VarRead.ms impl_VarRead.b := ⟨Try.func88, by kernel_rfl, by kernel_rfl⟩
noncomputable def impl_VarRead.fn : Args tab impl_VarRead.as → Option (ResT tab impl_VarRead.rs) := fun x => impl_VarRead x.1 x.2
theorem impl_VarRead.con {δ : Type} : Con Try.prog (KT tab) 88 (calleeS (β := δ) tab impl_VarRead.ms impl_VarRead.as impl_VarRead.rs impl_VarRead.fn) := con_shape (c := impl_VarRead.c) mixed tysOk (getG_con (impl_VarRead.gok _)) impl_VarRead.fok rfl rfl (fun _ => rfl)
noncomputable def impl_VarRead_l0 (v0 : List Int) (v1 : Int) (v2 : Int) (v3 : List Int) (v4 : Int) (v5 : Int) : Option (Int × Int × Bool) := Lw impl_VarRead.c (finish impl_VarRead.c (fiOf (GT tab) Try.f88 impl_VarRead.ms) (decRes tab impl_VarRead.rs)) ((loops impl_VarRead.c.cuts 1000 impl_VarRead.b []).getD 0 []) { slots := [.vs false 5 v0, .int .i64 v1, .undef, .undef, .undef, .undef, .undef, .int .i64 v2, .undef, .undef, .undef, .undef, .undef, .undef, .undef, .undef, .undef, .undef, .vs false 5 v3, .int .i64 v4, .int .i64 v5, .undef, .undef, .undef, .undef, .undef, .undef, .undef, .undef, .undef, .undef, .undef, .undef, .undef, .undef, .undef, .undef, .undef, .undef, .undef, .undef, .undef, .undef, .undef, .undef, .undef, .undef, .undef, .undef, .undef, .undef, .undef], loc := locOf [], nx := 0 }
theorem impl_VarRead.eq (x0 : List Int) (x1 : Int) : impl_VarRead x0 x1 =
    (impl_within x1 (0 : Int) (x0.length : Int)).bind fun y1 =>
    bif !y1 then
      some ((0 : Int), (0 : Int), false)
    else
      bif decide (0 ≤ x1 ∧ x1 ≤ ((x0.length : Nat) : Int)) then
        impl_VarRead_l0 x0 x1 (0 : Int) ((x0.take x0.length).drop x1.toNat) (((x0.take x0.length).drop x1.toNat).length : Int) (0 : Int)
      else
        none := by kernel_rfl
theorem impl_VarRead_l0.eq (v0 : List Int) (v1 : Int) (v2 : Int) (v3 : List Int) (v4 : Int) (v5 : Int) : impl_VarRead_l0 v0 v1 v2 v3 v4 v5 =
    bif decide (v5 < v4) then
      (at? v3 v5).bind fun y1 =>
      bif v5 == (5 : Int) then
        some ((0 : Int), (0 : Int), false)
      else
        bif decide (IntKind.i64.wrap ((7 : Int) * v5) < (0 : Int)) then
          none
        else
          bif decide (y1 ≥ (128 : Int)) then
            impl_VarRead_l0 v0 v1 (IntKind.i64.wrap (((BitVec.ofInt 64 v2) ||| (BitVec.ofInt 64 (IntKind.i64.wrap ((IntKind.i64.wrap (IntKind.u8.wrap (((BitVec.ofInt 8 y1) &&& (BitVec.ofInt 8 (127 : Int))).toNat : Int))) * 2 ^ (min (IntKind.i64.wrap ((7 : Int) * v5)).toNat 64))))).toNat : Int)) v3 v4 (IntKind.i64.wrap (v5 + (1 : Int)))
          else
            (impl_VarOf (IntKind.i64.wrap (((BitVec.ofInt 64 v2) ||| (BitVec.ofInt 64 (IntKind.i64.wrap ((IntKind.i64.wrap (IntKind.u8.wrap (((BitVec.ofInt 8 y1) &&& (BitVec.ofInt 8 (127 : Int))).toNat : Int))) * 2 ^ (min (IntKind.i64.wrap ((7 : Int) * v5)).toNat 64))))).toNat : Int))).bind fun y2 =>
            bif decide (0 ≤ IntKind.i64.wrap ((IntKind.i64.wrap (v1 + v5)) + (1 : Int)) ∧ IntKind.i64.wrap ((IntKind.i64.wrap (v1 + v5)) + (1 : Int)) ≤ ((v0.length : Nat) : Int)) then
              bif decide (0 ≤ v1 ∧ v1 ≤ (((IntKind.i64.wrap ((IntKind.i64.wrap (v1 + v5)) + (1 : Int))).toNat : Nat) : Int)) then
                (bytes_Equal y2 ((v0.take ((IntKind.i64.wrap ((IntKind.i64.wrap (v1 + v5)) + (1 : Int))).toNat)).drop v1.toNat)).bind fun y3 =>
                bif !y3 then
                  some ((0 : Int), (0 : Int), false)
                else
                  some (IntKind.i64.wrap (((BitVec.ofInt 64 v2) ||| (BitVec.ofInt 64 (IntKind.i64.wrap ((IntKind.i64.wrap (IntKind.u8.wrap (((BitVec.ofInt 8 y1) &&& (BitVec.ofInt 8 (127 : Int))).toNat : Int))) * 2 ^ (min (IntKind.i64.wrap ((7 : Int) * v5)).toNat 64))))).toNat : Int), IntKind.i64.wrap ((IntKind.i64.wrap (v1 + v5)) + (1 : Int)), true)
              else
                none
            else
              none
    else
      some ((0 : Int), (0 : Int), false) := (Lw_eq tysOk (getG_con (impl_VarRead.gok _)) _ _).trans (by kernel_rfl)

/-! ### impl_BitsRead: loop.example/g00688/impl.BitsRead -/
def impl_BitsRead.ms : List Mode := [.lend, .lend]
def impl_BitsRead.as : List VSh := [.one (.b (.b (.b (.b (.sl false false 5))))), .one (.b (.b (.b (.b (.int .i64)))))]
def impl_BitsRead.rs : RSh := ⟨[.agg [.int .i64, .sl true true 103], .one (.b (.b (.b (.b (.int .i64))))), .one (.b (.b (.b (.b (.bool)))))], [none, none]⟩
noncomputable def impl_BitsRead.gs (δ : Type) : List (Nat × Callee (GT tab) δ) := [(77, calleeS tab impl_BitsOk.ms impl_BitsOk.as impl_BitsOk.rs impl_BitsOk.fn), (88, calleeS tab impl_VarRead.ms impl_VarRead.as impl_VarRead.rs impl_VarRead.fn)]
theorem impl_BitsRead.gok (δ : Type) : AllCon Try.prog tab (impl_BitsRead.gs δ) := .cons impl_BitsOk.con (.cons impl_VarRead.con (.nil))
noncomputable def impl_BitsRead.c : Ctx (GT tab) (KT tab) (ResT tab impl_BitsRead.rs) := { X := XT tab, ty := tyOf tys, inner := fun _ => true, keep := keepOf 0 impl_BitsRead.ms, cuts := [5], live := liveOf [(5, [0, 1, 4, 7, 9]), (7, [1, 4, 9, 10, 51, 52, 53])], G := getG (impl_BitsRead.gs _) }
noncomputable def impl_BitsRead.b : Code := bodyOf Try.f51
noncomputable def impl_BitsRead (x0 : List Int) (x1 : Int) : Option ((Int × (List Int)) × Int × Bool) := callW impl_BitsRead.c (fiOf (GT tab) Try.f51 impl_BitsRead.ms) impl_BitsRead.b (decRes tab impl_BitsRead.rs) (encArgs tab impl_BitsRead.as (x0, x1))
theorem impl_BitsRead.fok : FnOk Try.prog 51 Try.f51 impl_BitsRead.ms impl_BitsRead.b := ⟨Try.func51, by kernel_rfl, by kernel_rfl⟩
noncomputable def impl_BitsRead.fn : Args tab impl_BitsRead.as → Option (ResT tab impl_BitsRead.rs) := fun x => impl_BitsRead x.1 x.2
theorem impl_BitsRead.con {δ : Type} : Con Try.prog (KT tab) 51 (calleeS (β := δ) tab impl_BitsRead.ms impl_BitsRead.as impl_BitsRead.rs impl_BitsRead.fn) := con_shape (c := impl_BitsRead.c) mixed tysOk (getG_con (impl_BitsRead.gok _)) impl_BitsRead.fok rfl rfl (fun _ => rfl)
noncomputable def impl_BitsRead_l0 (v0 : List Int) (v1 : Int) (v2 : Int) (v3 : Int) (v4 : Int) (v5 : List Int) : Option ((Int × (List Int)) × Int × Bool) := Lw impl_BitsRead.c (finish impl_BitsRead.c (fiOf (GT tab) Try.f51 impl_BitsRead.ms) (decRes tab impl_BitsRead.rs)) ((loops impl_BitsRead.c.cuts 1000 impl_BitsRead.b []).getD 0 []) { slots := [.vs false 5 v0, .int .i64 v1, .undef, .undef, .ptr 0 0, .undef, .undef, .int .i64 v2, .undef, .int .i64 v3, .undef, .undef, .undef, .undef, .undef, .undef, .undef, .undef, .undef, .undef, .undef, .undef, .undef, .undef, .undef, .undef, .undef, .undef, .undef, .undef, .undef, .undef, .undef, .undef, .undef, .undef, .undef, .undef, .undef, .undef, .undef, .undef, .undef, .undef, .undef, .undef, .undef, .undef, .undef, .undef, .undef, .undef, .undef, .undef, .undef, .undef, .undef, .undef, .undef, .undef, .undef, .undef, .undef, .undef, .undef, .undef, .undef, .undef, .undef, .undef, .undef, .undef, .undef, .undef, .undef, .undef, .undef, .undef, .undef, .undef, .undef, .undef], loc := locOf [.box 50 [.int .i64 v4, .sl 1 0], .row 0 true 103 v5], nx := 2 }
noncomputable def impl_BitsRead_l1 (v0 : Int) (v1 : Int) (v2 : List Int) (v3 : Int) (v4 : Int) (v5 : Int) (v6 : List Int) (v7 : Int) (v8 : List Int) : Option ((Int × (List Int)) × Int × Bool) := Lw impl_BitsRead.c (finish impl_BitsRead.c (fiOf (GT tab) Try.f51 impl_BitsRead.ms) (decRes tab impl_BitsRead.rs)) ((loops impl_BitsRead.c.cuts 1000 impl_BitsRead.b []).getD 1 []) { slots := [.undef, .int .i64 v0, .undef, .undef, .ptr 0 0, .undef, .undef, .undef, .undef, .int .i64 v1, .ptr 2 0, .undef, .undef, .undef, .undef, .undef, .undef, .undef, .undef, .undef, .undef, .undef, .undef, .undef, .undef, .undef, .undef, .undef, .undef, .undef, .undef, .undef, .undef, .undef, .undef, .undef, .undef, .undef, .undef, .undef, .undef, .undef, .undef, .undef, .undef, .undef, .undef, .undef, .undef, .undef, .undef, .vs false 5 v2, .int .i64 v3, .int .i64 v4, .undef, .undef, .undef, .undef, .undef, .undef, .undef, .undef, .undef, .undef, .undef, .undef, .undef, .undef, .undef, .undef, .undef, .undef, .undef, .undef, .undef, .undef, .undef, .undef, .undef, .undef, .undef, .undef], loc := locOf [.box 50 [.int .i64 v5, .sl 1 0], .row 0 true 103 v6, .box 50 [.int .i64 v7, .sl 3 0], .row 0 true 103 v8], nx := 4 }
theorem impl_BitsRead.eq (x0 : List Int) (x1 : Int) : impl_BitsRead x0 x1 =
    (impl_VarRead x0 x1).bind fun y1 =>
    bif !y1.2.2 then
      some (((0 : Int), ([] : List Int)), (0 : Int), false)
    else
      bif decide (y1.1 > (5000 : Int)) then
        some (((0 : Int), ([] : List Int)), (0 : Int), false)
      else
        bif decide (IntKind.i64.wrap ((IntKind.i64.wrap ((IntKind.i64.wrap (y1.1 + (8 : Int))) - (1 : Int))).tdiv (8 : Int)) > IntKind.i64.wrap ((x0.length : Int) - y1.2.1)) then
          some (((0 : Int), ([] : List Int)), (0 : Int), false)
        else
          impl_BitsRead_l0 x0 y1.2.1 y1.1 (IntKind.i64.wrap ((IntKind.i64.wrap ((IntKind.i64.wrap (y1.1 + (8 : Int))) - (1 : Int))).tdiv (8 : Int))) (0 : Int) ([] : List Int) := by kernel_rfl
theorem impl_BitsRead_l0.eq (v0 : List Int) (v1 : Int) (v2 : Int) (v3 : Int) (v4 : Int) (v5 : List Int) : impl_BitsRead_l0 v0 v1 v2 v3 v4 v5 =
    bif decide ((0 : Int) ≤ IntKind.i64.wrap ((IntKind.i64.wrap ((IntKind.i64.wrap (v2 + (64 : Int))) - (1 : Int))).tdiv (64 : Int))) && decide (((IntKind.i64.wrap ((IntKind.i64.wrap ((IntKind.i64.wrap (v2 + (64 : Int))) - (1 : Int))).tdiv (64 : Int))).toNat) * 8 ≤ 140737488355328) then
      bif decide (0 ≤ IntKind.i64.wrap (v1 + v3) ∧ IntKind.i64.wrap (v1 + v3) ≤ ((v0.length : Nat) : Int)) then
        bif decide (0 ≤ v1 ∧ v1 ≤ (((IntKind.i64.wrap (v1 + v3)).toNat : Nat) : Int)) then
          impl_BitsRead_l1 v1 v3 ((v0.take ((IntKind.i64.wrap (v1 + v3)).toNat)).drop v1.toNat) (((v0.take ((IntKind.i64.wrap (v1 + v3)).toNat)).drop v1.toNat).length : Int) (0 : Int) v4 v5 v2 (List.replicate ((IntKind.i64.wrap ((IntKind.i64.wrap ((IntKind.i64.wrap (v2 + (64 : Int))) - (1 : Int))).tdiv (64 : Int))).toNat) (0 : Int))
        else
          none
      else
        none
    else
      none := (Lw_eq tysOk (getG_con (impl_BitsRead.gok _)) _ _).trans (by kernel_rfl)
theorem impl_BitsRead_l1.eq (v0 : Int) (v1 : Int) (v2 : List Int) (v3 : Int) (v4 : Int) (v5 : Int) (v6 : List Int) (v7 : Int) (v8 : List Int) : impl_BitsRead_l1 v0 v1 v2 v3 v4 v5 v6 v7 v8 =
    bif decide (v4 < v3) then
      (at? v2 v4).bind fun y1 =>
      (at? v8 (IntKind.i64.wrap ((IntKind.i64.wrap (v4 * (8 : Int))).tdiv (64 : Int)))).bind fun y2 =>
      v8[(IntKind.i64.wrap ((IntKind.i64.wrap (v4 * (8 : Int))).tdiv (64 : Int))).toNat]?.bind fun y3 =>
      bif decide ((IntKind.i64.wrap (v4 * (8 : Int))).tmod (64 : Int) < (0 : Int)) then
        none
      else
        (at? v8 (IntKind.i64.wrap ((IntKind.i64.wrap (v4 * (8 : Int))).tdiv (64 : Int)))).bind fun y4 =>
        v8[(IntKind.i64.wrap ((IntKind.i64.wrap (v4 * (8 : Int))).tdiv (64 : Int))).toNat]?.bind fun y5 =>
        impl_BitsRead_l1 v0 v1 v2 v3 (IntKind.i64.wrap (v4 + (1 : Int))) v5 v6 v7 (v8.set ((IntKind.i64.wrap ((IntKind.i64.wrap (v4 * (8 : Int))).tdiv (64 : Int))).toNat) (IntKind.u64.wrap (((BitVec.ofInt 64 y3) ||| (BitVec.ofInt 64 (IntKind.u64.wrap ((IntKind.u64.wrap y1) * 2 ^ (min ((IntKind.i64.wrap (v4 * (8 : Int))).tmod (64 : Int)).toNat 64))))).toNat : Int)))
    else
      (impl_BitsOk (v7, v8)).bind fun y6 =>
      bif !y6 then
        some (((0 : Int), ([] : List Int)), (0 : Int), false)
      else
        some ((v7, v8), IntKind.i64.wrap (v0 + v1), true) := (Lw_eq tysOk (getG_con (impl_BitsRead.gok _)) _ _).trans (by kernel_rfl)

/-! ### laws_heldUint64S: loop.example/g00688/laws.heldUint64S -/
def laws_heldUint64S.ms : List Mode := [.lend, .lend]
def laws_heldUint64S.as : List VSh := [.one (.b (.b (.b (.b (.sl false false 103))))), .one (.b (.b (.b (.b (.int .i64)))))]
def laws_heldUint64S.rs : RSh := ⟨[.one (.b (.b (.b (.b (.int .i64)))))], [none, none]⟩
noncomputable def laws_heldUint64S.gs (δ : Type) : List (Nat × Callee (GT tab) δ) := []
theorem laws_heldUint64S.gok (δ : Type) : AllCon Try.prog tab (laws_heldUint64S.gs δ) := .nil
noncomputable def laws_heldUint64S.c : Ctx (GT tab) (KT tab) (ResT tab laws_heldUint64S.rs) := { X := XT tab, ty := tyOf tys, inner := fun _ => true, keep := keepOf 0 laws_heldUint64S.ms, cuts := [], live := liveOf [(2, [0, 1, 5])], G := getG (laws_heldUint64S.gs _) }
noncomputable def laws_heldUint64S.b : Code := bodyOf Try.f89
noncomputable def laws_heldUint64S (x0 : List Int) (x1 : Int) : Option (Int) := callW laws_heldUint64S.c (fiOf (GT tab) Try.f89 laws_heldUint64S.ms) laws_heldUint64S.b (decRes tab laws_heldUint64S.rs) (encArgs tab laws_heldUint64S.as (x0, x1))
theorem laws_heldUint64S.fok : FnOk Try.prog 89 Try.f89 laws_heldUint64S.ms laws_heldUint64S.b := ⟨Try.func89, by kernel_rfl, by kernel_rfl⟩
noncomputable def laws_heldUint64S.fn : Args tab laws_heldUint64S.as → Option (ResT tab laws_heldUint64S.rs) := fun x => laws_heldUint64S x.1 x.2
theorem laws_heldUint64S.con {δ : Type} : Con Try.prog (KT tab) 89 (calleeS (β := δ) tab laws_heldUint64S.ms laws_heldUint64S.as laws_heldUint64S.rs laws_heldUint64S.fn) := con_shape (c := laws_heldUint64S.c) mixed tysOk (getG_con (laws_heldUint64S.gok _)) laws_heldUint64S.fok rfl rfl (fun _ => rfl)
noncomputable def laws_heldUint64S_l0 (v0 : List Int) (v1 : Int) (v2 : Int) : Option (Int) := Lw laws_heldUint64S.c (finish laws_heldUint64S.c (fiOf (GT tab) Try.f89 laws_heldUint64S.ms) (decRes tab laws_heldUint64S.rs)) ((loops laws_heldUint64S.c.cuts 1000 laws_heldUint64S.b []).getD 0 []) { slots := [.vs false 103 v0, .int .i64 v1, .undef, .undef, .undef, .int .i64 v2, .undef, .undef, .undef, .undef, .undef, .undef, .undef, .undef, .undef, .undef, .undef, .undef, .undef, .undef, .undef, .undef], loc := locOf [], nx := 0 }
theorem laws_heldUint64S.eq (x0 : List Int) (x1 : Int) : laws_heldUint64S x0 x1 =
    laws_heldUint64S_l0 x0 x1 (0 : Int) := by kernel_rfl
theorem laws_heldUint64S_l0.eq (v0 : List Int) (v1 : Int) (v2 : Int) : laws_heldUint64S_l0 v0 v1 v2 =
    bif decide (v2 < (v0.length : Int)) then
      (at? v0 v2).bind fun y1 =>
      bif y1 != IntKind.u64.wrap v1 then
        some (-1 : Int)
      else
        laws_heldUint64S_l0 v0 (IntKind.i64.wrap (v1 + (1 : Int))) (IntKind.i64.wrap (v2 + (1 : Int)))
    else
      some v1 := (Lw_eq tysOk (getG_con (laws_heldUint64S.gok _)) _ _).trans (by kernel_rfl)

/-! ### laws_heldBits: loop.example/g00688/laws.heldBits -/
def laws_heldBits.ms : List Mode := [.lend, .lend]
def laws_heldBits.as : List VSh := [.agg [.int .i64, .sl false false 103], .one (.b (.b (.b (.b (.int .i64)))))]
def laws_heldBits.rs : RSh := ⟨[.one (.b (.b (.b (.b (.int .i64)))))], [none, none]⟩
noncomputable def laws_heldBits.gs (δ : Type) : List (Nat × Callee (GT tab) δ) := [(89, calleeS tab laws_heldUint64S.ms laws_heldUint64S.as laws_heldUint64S.rs laws_heldUint64S.fn)]
theorem laws_heldBits.gok (δ : Type) : AllCon Try.prog tab (laws_heldBits.gs δ) := .cons laws_heldUint64S.con (.nil)
noncomputable def laws_heldBits.c : Ctx (GT tab) (KT tab) (ResT tab laws_heldBits.rs) := { X := XT tab, ty := tyOf tys, inner := fun _ => true, keep := keepOf 0 laws_heldBits.ms, cuts := [], live := liveOf [], G := getG (laws_heldBits.gs _) }
noncomputable def laws_heldBits.b : Code := bodyOf Try.f52
noncomputable def laws_heldBits (x0 : Int × (List Int)) (x1 : Int) : Option (Int) := callW laws_heldBits.c (fiOf (GT tab) Try.f52 laws_heldBits.ms) laws_heldBits.b (decRes tab laws_heldBits.rs) (encArgs tab laws_heldBits.as (x0, x1))
theorem laws_heldBits.fok : FnOk Try.prog 52 Try.f52 laws_heldBits.ms laws_heldBits.b := ⟨Try.func52, by kernel_rfl, by kernel_rfl⟩
noncomputable def laws_heldBits.fn : Args tab laws_heldBits.as → Option (ResT tab laws_heldBits.rs) := fun x => laws_heldBits x.1 x.2
theorem laws_heldBits.con {δ : Type} : Con Try.prog (KT tab) 52 (calleeS (β := δ) tab laws_heldBits.ms laws_heldBits.as laws_heldBits.rs laws_heldBits.fn) := con_shape (c := laws_heldBits.c) mixed tysOk (getG_con (laws_heldBits.gok _)) laws_heldBits.fok rfl rfl (fun _ => rfl)
theorem laws_heldBits.eq (x0 : Int × (List Int)) (x1 : Int) : laws_heldBits x0 x1 =
    (laws_heldUint64S x0.2 x1).bind fun y1 =>
    bif decide (y1 < (0 : Int)) then
      some (-1 : Int)
    else
      some y1 := by kernel_rfl

end Go.Ev.W
