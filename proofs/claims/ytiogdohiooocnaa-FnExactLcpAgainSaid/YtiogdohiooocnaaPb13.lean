/- What functions of the program come to. -/
import Derived.Test.YtiogdohiooocnaaPbT
import Derived.Test.YtiogdohiooocnaaPb14
import Derived.Test.YtiogdohiooocnaaPb16
import Derived.Test.YtiogdohiooocnaaPb3
import Derived.Test.YtiogdohiooocnaaPb4
import Derived.Test.YtiogdohiooocnaaPb5
namespace Go.Ev.W
open Go.Ev Go.Proofs
set_option maxRecDepth 100000
set_option linter.unusedVariables false

/-! ### spec_VarRead: loop.example/g00688/spec.VarRead -/
def spec_VarRead.ms : List Mode := [.lend, .lend]
def spec_VarRead.as : List VSh := [.one (.b (.b (.b (.b (.sl false false 5))))), .one (.b (.b (.b (.b (.int .i64)))))]
def spec_VarRead.rs : RSh := ⟨[.one (.b (.b (.b (.b (.int .i64))))), .one (.b (.b (.b (.b (.int .i64))))), .one (.b (.b (.b (.b (.bool)))))], [none, none]⟩
noncomputable def spec_VarRead.gs (δ : Type) : List (Nat × Callee (GT tab) δ) := [(123, calleeS tab spec_VarOf.ms spec_VarOf.as spec_VarOf.rs spec_VarOf.fn)]
theorem spec_VarRead.gok (δ : Type) : AllCon Try.prog tab (spec_VarRead.gs δ) := .cons spec_VarOf.con (.nil)
noncomputable def spec_VarRead.c : Ctx (GT tab) (KT tab) (ResT tab spec_VarRead.rs) := { X := XT tab, ty := tyOf tys, inner := fun _ => true, keep := keepOf 0 spec_VarRead.ms, cuts := [3, 8], live := liveOf [(3, [0, 1]), (6, [0, 1, 7, 8, 9]), (8, [0, 1, 7, 8, 9])], G := getG (spec_VarRead.gs _) }
noncomputable def spec_VarRead.b : Code := bodyOf Try.f125
noncomputable def spec_VarRead (x0 : List Int) (x1 : Int) : Option (Int × Int × Bool) := callW spec_VarRead.c (fiOf (GT tab) Try.f125 spec_VarRead.ms) spec_VarRead.b (decRes tab spec_VarRead.rs) (encArgs tab spec_VarRead.as (x0, x1))
theorem spec_VarRead.fok : FnOk Try.prog 125 Try.f125 spec_VarRead.ms spec_VarRead.b := ⟨Try.func125, by kernel_rfl, by kernel_rfl⟩
noncomputable def spec_VarRead.fn : Args tab spec_VarRead.as → Option (ResT tab spec_VarRead.rs) := fun x => spec_VarRead x.1 x.2
theorem spec_VarRead.con {δ : Type} : Con Try.prog (KT tab) 125 (calleeS (β := δ) tab spec_VarRead.ms spec_VarRead.as spec_VarRead.rs spec_VarRead.fn) := con_shape (c := spec_VarRead.c) mixed tysOk (getG_con (spec_VarRead.gok _)) spec_VarRead.fok rfl rfl (fun _ => rfl)
noncomputable def spec_VarRead_l0 (v0 : List Int) (v1 : Int) : Option (Int × Int × Bool) := Lw spec_VarRead.c (finish spec_VarRead.c (fiOf (GT tab) Try.f125 spec_VarRead.ms) (decRes tab spec_VarRead.rs)) ((loops spec_VarRead.c.cuts 1000 spec_VarRead.b []).getD 0 []) { slots := [.vs false 5 v0, .int .i64 v1, .undef, .undef, .undef, .undef, .undef, .undef, .undef, .undef, .undef, .undef, .undef, .undef, .undef, .undef, .undef, .undef, .undef, .undef, .undef, .undef, .undef, .undef, .undef, .undef, .undef, .undef, .undef, .undef, .undef, .undef, .undef, .undef, .undef, .undef, .undef, .undef, .undef, .undef, .undef, .undef, .undef, .undef, .undef, .undef, .undef, .undef, .undef, .undef, .undef, .undef, .undef, .undef, .undef, .undef, .undef, .undef, .undef, .undef, .undef], loc := locOf [], nx := 0 }
noncomputable def spec_VarRead_l1 (v0 : List Int) (v1 : Int) (v2 : Int) (v3 : Int) (v4 : Int) : Option (Int × Int × Bool) := Lw spec_VarRead.c (finish spec_VarRead.c (fiOf (GT tab) Try.f125 spec_VarRead.ms) (decRes tab spec_VarRead.rs)) ((loops spec_VarRead.c.cuts 1000 spec_VarRead.b []).getD 1 []) { slots := [.vs false 5 v0, .int .i64 v1, .undef, .undef, .undef, .undef, .undef, .int .i64 v2, .int .i64 v3, .int .i64 v4, .undef, .undef, .undef, .undef, .undef, .undef, .undef, .undef, .undef, .undef, .undef, .undef, .undef, .undef, .undef, .undef, .undef, .undef, .undef, .undef, .undef, .undef, .undef, .undef, .undef, .undef, .undef, .undef, .undef, .undef, .undef, .undef, .undef, .undef, .undef, .undef, .undef, .undef, .undef, .undef, .undef, .undef, .undef, .undef, .undef, .undef, .undef, .undef, .undef, .undef, .undef], loc := locOf [], nx := 0 }
noncomputable def spec_VarRead_l2 (v0 : List Int) (v1 : Int) (v2 : Int) (v3 : Int) (v4 : Int) : Option (Int × Int × Bool) := Lw spec_VarRead.c (finish spec_VarRead.c (fiOf (GT tab) Try.f125 spec_VarRead.ms) (decRes tab spec_VarRead.rs)) ((loops spec_VarRead.c.cuts 1000 spec_VarRead.b []).getD 2 []) { slots := [.vs false 5 v0, .int .i64 v1, .undef, .undef, .undef, .undef, .undef, .int .i64 v2, .int .i64 v3, .int .i64 v4, .undef, .undef, .undef, .undef, .undef, .undef, .undef, .undef, .undef, .undef, .undef, .undef, .undef, .undef, .undef, .undef, .undef, .undef, .undef, .undef, .undef, .undef, .undef, .undef, .undef, .undef, .undef, .undef, .undef, .undef, .undef, .undef, .undef, .undef, .undef, .undef, .undef, .undef, .undef, .undef, .undef, .undef, .undef, .undef, .undef, .undef, .undef, .undef, .undef, .undef, .undef], loc := locOf [], nx := 0 }
theorem spec_VarRead.eq (x0 : List Int) (x1 : Int) : spec_VarRead x0 x1 =
    bif decide (x1 < (0 : Int)) then
      some ((0 : Int), (0 : Int), false)
    else
      bif decide (x1 ≥ (x0.length : Int)) then
        some ((0 : Int), (0 : Int), false)
      else
        spec_VarRead_l0 x0 x1 := by kernel_rfl
theorem spec_VarRead_l0.eq (v0 : List Int) (v1 : Int) : spec_VarRead_l0 v0 v1 =
    spec_VarRead_l1 v0 v1 (0 : Int) (1 : Int) v1 := (Lw_eq tysOk (getG_con (spec_VarRead.gok _)) _ _).trans (by kernel_rfl)
theorem spec_VarRead_l1.eq (v0 : List Int) (v1 : Int) (v2 : Int) (v3 : Int) (v4 : Int) : spec_VarRead_l1 v0 v1 v2 v3 v4 =
    bif decide (v4 < (v0.length : Int)) then
      bif decide (v4 < IntKind.i64.wrap (v1 + (5 : Int))) then
        spec_VarRead_l2 v0 v1 v2 v3 v4
      else
        some ((0 : Int), (0 : Int), false)
    else
      some ((0 : Int), (0 : Int), false) := (Lw_eq tysOk (getG_con (spec_VarRead.gok _)) _ _).trans (by kernel_rfl)
theorem spec_VarRead_l2.eq (v0 : List Int) (v1 : Int) (v2 : Int) (v3 : Int) (v4 : Int) : spec_VarRead_l2 v0 v1 v2 v3 v4 =
    (at? v0 v4).bind fun y1 =>
    (at? v0 v4).bind fun y2 =>
    bif decide (y2 < (128 : Int)) then
      (spec_VarOf (IntKind.i64.wrap (v2 + (IntKind.i64.wrap (v3 * (IntKind.i64.wrap (y1.tmod (128 : Int)))))))).bind fun y3 =>
      bif decide (0 ≤ IntKind.i64.wrap (v4 + (1 : Int)) ∧ IntKind.i64.wrap (v4 + (1 : Int)) ≤ ((v0.length : Nat) : Int)) then
        bif decide (0 ≤ v1 ∧ v1 ≤ (((IntKind.i64.wrap (v4 + (1 : Int))).toNat : Nat) : Int)) then
          bif !((strOf (y3.map fun x => x)).toList == (strOf (((v0.take ((IntKind.i64.wrap (v4 + (1 : Int))).toNat)).drop v1.toNat).map fun x => x)).toList) then
            some ((0 : Int), (0 : Int), false)
          else
            some (IntKind.i64.wrap (v2 + (IntKind.i64.wrap (v3 * (IntKind.i64.wrap (y1.tmod (128 : Int)))))), IntKind.i64.wrap (v4 + (1 : Int)), true)
        else
          none
      else
        none
    else
      spec_VarRead_l1 v0 v1 (IntKind.i64.wrap (v2 + (IntKind.i64.wrap (v3 * (IntKind.i64.wrap (y1.tmod (128 : Int))))))) (IntKind.i64.wrap ((128 : Int) * v3)) (IntKind.i64.wrap (v4 + (1 : Int))) := (Lw_eq tysOk (getG_con (spec_VarRead.gok _)) _ _).trans (by kernel_rfl)

/-! ### spec_l16Here: loop.example/g00688/spec.l16Here -/
def spec_l16Here.ms : List Mode := [.lend, .lend, .lend]
def spec_l16Here.as : List VSh := [.one (.b (.b (.b (.b (.sl false false 5))))), .one (.b (.b (.b (.b (.int .i64))))), .one (.b (.b (.b (.b (.sl false false 5)))))]
def spec_l16Here.rs : RSh := ⟨[.one (.b (.b (.b (.b (.bool)))))], [none, none, none]⟩
noncomputable def spec_l16Here.gs (δ : Type) : List (Nat × Callee (GT tab) δ) := []
theorem spec_l16Here.gok (δ : Type) : AllCon Try.prog tab (spec_l16Here.gs δ) := .nil
noncomputable def spec_l16Here.c : Ctx (GT tab) (KT tab) (ResT tab spec_l16Here.rs) := { X := XT tab, ty := tyOf tys, inner := fun _ => true, keep := keepOf 0 spec_l16Here.ms, cuts := [], live := liveOf [], G := getG (spec_l16Here.gs _) }
noncomputable def spec_l16Here.b : Code := bodyOf Try.f127
noncomputable def spec_l16Here (x0 : List Int) (x1 : Int) (x2 : List Int) : Option (Bool) := callW spec_l16Here.c (fiOf (GT tab) Try.f127 spec_l16Here.ms) spec_l16Here.b (decRes tab spec_l16Here.rs) (encArgs tab spec_l16Here.as (x0, x1, x2))
theorem spec_l16Here.fok : FnOk Try.prog 127 Try.f127 spec_l16Here.ms spec_l16Here.b := ⟨Try.func127, by kernel_rfl, by kernel_rfl⟩
noncomputable def spec_l16Here.fn : Args tab spec_l16Here.as → Option (ResT tab spec_l16Here.rs) := fun x => spec_l16Here x.1 x.2.1 x.2.2
theorem spec_l16Here.con {δ : Type} : Con Try.prog (KT tab) 127 (calleeS (β := δ) tab spec_l16Here.ms spec_l16Here.as spec_l16Here.rs spec_l16Here.fn) := con_shape (c := spec_l16Here.c) mixed tysOk (getG_con (spec_l16Here.gok _)) spec_l16Here.fok rfl rfl (fun _ => rfl)
theorem spec_l16Here.eq (x0 : List Int) (x1 : Int) (x2 : List Int) : spec_l16Here x0 x1 x2 =
    bif decide ((x2.length : Int) > (0 : Int)) then
      bif decide (x1 ≥ (0 : Int)) then
        bif decide (x1 ≤ IntKind.i64.wrap ((x0.length : Int) - (x2.length : Int))) then
          bif decide (0 ≤ IntKind.i64.wrap (x1 + (x2.length : Int)) ∧ IntKind.i64.wrap (x1 + (x2.length : Int)) ≤ ((x0.length : Nat) : Int)) then
            bif decide (0 ≤ x1 ∧ x1 ≤ (((IntKind.i64.wrap (x1 + (x2.length : Int))).toNat : Nat) : Int)) then
              some ((strOf (((x0.take ((IntKind.i64.wrap (x1 + (x2.length : Int))).toNat)).drop x1.toNat).map fun x => x)).toList == (strOf (x2.map fun x => x)).toList)
            else
              none
          else
            none
        else
          some false
      else
        some false
    else
      some false := by kernel_rfl

/-! ### spec_BitsRead: loop.example/g00688/spec.BitsRead -/
def spec_BitsRead.ms : List Mode := [.lend, .lend]
def spec_BitsRead.as : List VSh := [.one (.b (.b (.b (.b (.sl false false 5))))), .one (.b (.b (.b (.b (.int .i64)))))]
def spec_BitsRead.rs : RSh := ⟨[.agg [.int .i64, .sl true true 117], .one (.b (.b (.b (.b (.int .i64))))), .one (.b (.b (.b (.b (.bool)))))], [none, none]⟩
noncomputable def spec_BitsRead.gs (δ : Type) : List (Nat × Callee (GT tab) δ) := [(64, calleeS tab spec_BitsBytes.ms spec_BitsBytes.as spec_BitsBytes.rs spec_BitsBytes.fn), (91, calleeS tab spec_BitsOf.ms spec_BitsOf.as spec_BitsOf.rs spec_BitsOf.fn), (125, calleeS tab spec_VarRead.ms spec_VarRead.as spec_VarRead.rs spec_VarRead.fn), (126, calleeS tab spec_l02Pow.ms spec_l02Pow.as spec_l02Pow.rs spec_l02Pow.fn), (127, calleeS tab spec_l16Here.ms spec_l16Here.as spec_l16Here.rs spec_l16Here.fn)]
theorem spec_BitsRead.gok (δ : Type) : AllCon Try.prog tab (spec_BitsRead.gs δ) := .cons spec_BitsBytes.con (.cons spec_BitsOf.con (.cons spec_VarRead.con (.cons spec_l02Pow.con (.cons spec_l16Here.con (.nil)))))
noncomputable def spec_BitsRead.c : Ctx (GT tab) (KT tab) (ResT tab spec_BitsRead.rs) := { X := XT tab, ty := tyOf tys, inner := fun _ => true, keep := keepOf 0 spec_BitsRead.ms, cuts := [4], live := liveOf [(4, [0, 1, 4, 7, 8]), (6, [0, 1, 4, 7, 8, 10, 11])], G := getG (spec_BitsRead.gs _) }
noncomputable def spec_BitsRead.b : Code := bodyOf Try.f71
noncomputable def spec_BitsRead (x0 : List Int) (x1 : Int) : Option ((Int × (List Int)) × Int × Bool) := callW spec_BitsRead.c (fiOf (GT tab) Try.f71 spec_BitsRead.ms) spec_BitsRead.b (decRes tab spec_BitsRead.rs) (encArgs tab spec_BitsRead.as (x0, x1))
theorem spec_BitsRead.fok : FnOk Try.prog 71 Try.f71 spec_BitsRead.ms spec_BitsRead.b := ⟨Try.func71, by kernel_rfl, by kernel_rfl⟩
noncomputable def spec_BitsRead.fn : Args tab spec_BitsRead.as → Option (ResT tab spec_BitsRead.rs) := fun x => spec_BitsRead x.1 x.2
theorem spec_BitsRead.con {δ : Type} : Con Try.prog (KT tab) 71 (calleeS (β := δ) tab spec_BitsRead.ms spec_BitsRead.as spec_BitsRead.rs spec_BitsRead.fn) := con_shape (c := spec_BitsRead.c) mixed tysOk (getG_con (spec_BitsRead.gok _)) spec_BitsRead.fok rfl rfl (fun _ => rfl)
noncomputable def spec_BitsRead_l0 (v0 : List Int) (v1 : Int) (v2 : Int) (v3 : Int) (v4 : Int) (v5 : List Int) : Option ((Int × (List Int)) × Int × Bool) := Lw spec_BitsRead.c (finish spec_BitsRead.c (fiOf (GT tab) Try.f71 spec_BitsRead.ms) (decRes tab spec_BitsRead.rs)) ((loops spec_BitsRead.c.cuts 1000 spec_BitsRead.b []).getD 0 []) { slots := [.vs false 5 v0, .int .i64 v1, .undef, .undef, .ptr 0 0, .undef, .undef, .int .i64 v2, .int .i64 v3, .undef, .undef, .undef, .undef, .undef, .undef, .undef, .undef, .undef, .undef, .undef, .undef, .undef, .undef, .undef, .undef, .undef, .undef, .undef, .undef, .undef, .undef, .undef, .undef, .undef, .undef, .undef, .undef, .undef, .undef, .undef, .undef, .undef, .undef, .undef, .undef, .undef, .undef, .undef, .undef, .undef, .undef, .undef, .undef, .undef, .undef, .undef, .undef, .undef, .undef, .undef, .undef, .undef, .undef, .undef, .undef, .undef, .undef, .undef, .undef, .undef, .undef, .undef, .undef, .undef, .undef, .undef, .undef, .undef, .undef], loc := locOf [.box 51 [.int .i64 v4, .sl 1 0], .row 0 true 117 v5], nx := 2 }
noncomputable def spec_BitsRead_l1 (v0 : List Int) (v1 : Int) (v2 : Int) (v3 : Int) (v4 : Int) (v5 : Int) (v6 : List Int) (v7 : List Int) : Option ((Int × (List Int)) × Int × Bool) := Lw spec_BitsRead.c (finish spec_BitsRead.c (fiOf (GT tab) Try.f71 spec_BitsRead.ms) (decRes tab spec_BitsRead.rs)) ((loops spec_BitsRead.c.cuts 1000 spec_BitsRead.b []).getD 1 []) { slots := [.vs false 5 v0, .int .i64 v1, .undef, .undef, .ptr 0 0, .undef, .undef, .int .i64 v2, .int .i64 v3, .undef, .sl 2 0, .int .i64 v4, .undef, .undef, .undef, .undef, .undef, .undef, .undef, .undef, .undef, .undef, .undef, .undef, .undef, .undef, .undef, .undef, .undef, .undef, .undef, .undef, .undef, .undef, .undef, .undef, .undef, .undef, .undef, .undef, .undef, .undef, .undef, .undef, .undef, .undef, .undef, .undef, .undef, .undef, .undef, .undef, .undef, .undef, .undef, .undef, .undef, .undef, .undef, .undef, .undef, .undef, .undef, .undef, .undef, .undef, .undef, .undef, .undef, .undef, .undef, .undef, .undef, .undef, .undef, .undef, .undef, .undef, .undef], loc := locOf [.box 51 [.int .i64 v5, .sl 1 0], .row 0 true 117 v6, .row 0 true 3 v7], nx := 3 }
theorem spec_BitsRead.eq (x0 : List Int) (x1 : Int) : spec_BitsRead x0 x1 =
    (spec_VarRead x0 x1).bind fun y1 =>
    bif !y1.2.2 then
      some (((0 : Int), ([] : List Int)), (0 : Int), false)
    else
      bif decide (y1.1 > (5000 : Int)) then
        some (((0 : Int), ([] : List Int)), (0 : Int), false)
      else
        bif decide (IntKind.i64.wrap ((IntKind.i64.wrap (y1.1 + (7 : Int))).tdiv (8 : Int)) > IntKind.i64.wrap ((x0.length : Int) - y1.2.1)) then
          some (((0 : Int), ([] : List Int)), (0 : Int), false)
        else
          spec_BitsRead_l0 x0 x1 y1.1 y1.2.1 (0 : Int) ([] : List Int) := by kernel_rfl
theorem spec_BitsRead_l0.eq (v0 : List Int) (v1 : Int) (v2 : Int) (v3 : Int) (v4 : Int) (v5 : List Int) : spec_BitsRead_l0 v0 v1 v2 v3 v4 v5 =
    spec_BitsRead_l1 v0 v1 v2 v3 (0 : Int) v4 v5 ([] : List Int) := (Lw_eq tysOk (getG_con (spec_BitsRead.gok _)) _ _).trans (by kernel_rfl)
theorem spec_BitsRead_l1.eq (v0 : List Int) (v1 : Int) (v2 : Int) (v3 : Int) (v4 : Int) (v5 : Int) (v6 : List Int) (v7 : List Int) : spec_BitsRead_l1 v0 v1 v2 v3 v4 v5 v6 v7 =
    bif decide (v4 < v2) then
      (at? v0 (IntKind.i64.wrap (v3 + (IntKind.i64.wrap (v4.tdiv (8 : Int)))))).bind fun y1 =>
      (spec_l02Pow (v4.tmod (8 : Int))).bind fun y2 =>
      bif decide (y2 = (0 : Int)) then
        none
      else
        bif decide ((v7.length + ([(IntKind.i64.wrap ((IntKind.i64.wrap y1).tdiv y2)).tmod (2 : Int)] : List Int).length) * 8 ≤ 140737488355328) then
          spec_BitsRead_l1 v0 v1 v2 v3 (IntKind.i64.wrap (v4 + (1 : Int))) v5 v6 (v7 ++ ([(IntKind.i64.wrap ((IntKind.i64.wrap y1).tdiv y2)).tmod (2 : Int)] : List Int))
        else
          none
    else
      (spec_BitsOf v7).bind fun y3 =>
      (spec_BitsBytes (y3.1.1, y3.1.2)).bind fun y4 =>
      (spec_l16Here v0 v1 y4).bind fun y5 =>
      bif !y5 then
        some (((0 : Int), ([] : List Int)), (0 : Int), false)
      else
        some ((y3.1.1, y3.1.2), IntKind.i64.wrap (v1 + (y4.length : Int)), true) := (Lw_eq tysOk (getG_con (spec_BitsRead.gok _)) _ _).trans (by kernel_rfl)

/-! ### spec_WaveRead: loop.example/g00688/spec.WaveRead -/
def spec_WaveRead.ms : List Mode := [.lend, .lend]
def spec_WaveRead.as : List VSh := [.one (.b (.b (.b (.b (.sl false false 5))))), .one (.b (.b (.b (.b (.int .i64)))))]
def spec_WaveRead.rs : RSh := ⟨[.agg [.int .i64, .sl true true 3, .sl true true 51], .one (.b (.b (.b (.b (.int .i64))))), .one (.b (.b (.b (.b (.bool)))))], [none, none]⟩
noncomputable def spec_WaveRead.gs (δ : Type) : List (Nat × Callee (GT tab) δ) := [(39, calleeS tab spec_WaveOk.ms spec_WaveOk.as spec_WaveOk.rs spec_WaveOk.fn), (71, calleeS tab spec_BitsRead.ms spec_BitsRead.as spec_BitsRead.rs spec_BitsRead.fn), (72, calleeS tab spec_Rank.ms spec_Rank.as spec_Rank.rs spec_Rank.fn)]
theorem spec_WaveRead.gok (δ : Type) : AllCon Try.prog tab (spec_WaveRead.gs δ) := .cons spec_WaveOk.con (.cons spec_BitsRead.con (.cons spec_Rank.con (.nil)))
noncomputable def spec_WaveRead.c : Ctx (GT tab) (KT tab) (ResT tab spec_WaveRead.rs) := { X := XT tab, ty := tyOf tys, inner := fun _ => true, keep := keepOf 0 spec_WaveRead.ms, cuts := [], live := liveOf [(3, [0, 1, 4, 7, 8])], G := getG (spec_WaveRead.gs _) }
noncomputable def spec_WaveRead.b : Code := bodyOf Try.f20
noncomputable def spec_WaveRead (x0 : List Int) (x1 : Int) : Option ((Int × (List Int) × (List (Int × (List Int)))) × Int × Bool) := callW spec_WaveRead.c (fiOf (GT tab) Try.f20 spec_WaveRead.ms) spec_WaveRead.b (decRes tab spec_WaveRead.rs) (encArgs tab spec_WaveRead.as (x0, x1))
theorem spec_WaveRead.fok : FnOk Try.prog 20 Try.f20 spec_WaveRead.ms spec_WaveRead.b := ⟨Try.func20, by kernel_rfl, by kernel_rfl⟩
noncomputable def spec_WaveRead.fn : Args tab spec_WaveRead.as → Option (ResT tab spec_WaveRead.rs) := fun x => spec_WaveRead x.1 x.2
theorem spec_WaveRead.con {δ : Type} : Con Try.prog (KT tab) 20 (calleeS (β := δ) tab spec_WaveRead.ms spec_WaveRead.as spec_WaveRead.rs spec_WaveRead.fn) := con_shape (c := spec_WaveRead.c) mixed tysOk (getG_con (spec_WaveRead.gok _)) spec_WaveRead.fok rfl rfl (fun _ => rfl)
noncomputable def spec_WaveRead_l0 (v0 : List Int) (v1 : Int) (v2 : Int) (v3 : Int) (v4 : List Int) (v5 : List (Int × (List Int))) (v6 : Int) (v7 : List Int) (v8 : List (Int × (List Int))) : Option ((Int × (List Int) × (List (Int × (List Int)))) × Int × Bool) := Lw spec_WaveRead.c (finish spec_WaveRead.c (fiOf (GT tab) Try.f20 spec_WaveRead.ms) (decRes tab spec_WaveRead.rs)) ((loops spec_WaveRead.c.cuts 1000 spec_WaveRead.b []).getD 0 []) { slots := [.vs false 5 v0, .int .i64 v1, .undef, .undef, .ptr 0 0, .undef, .undef, .ptr 3 0, .int .i64 v2, .undef, .undef, .undef, .undef, .undef, .undef, .undef, .undef, .undef, .undef, .undef, .undef, .undef, .undef, .undef, .undef, .undef, .undef, .undef, .undef, .undef, .undef, .undef, .undef, .undef, .undef, .undef, .undef, .undef, .undef, .undef, .undef, .undef, .undef, .undef, .undef, .undef, .undef, .undef, .undef, .undef, .undef, .undef], loc := locOf [.box 31 [.int .i64 v3, .sl 1 0, .sl 2 0], .row 0 true 3 v4, .row 0 true 51 v5, .box 31 [.int .i64 v6, .sl 4 0, .sl 5 0], .row 0 true 3 v7, .row 0 true 51 v8], nx := 6 }
theorem spec_WaveRead.eq (x0 : List Int) (x1 : Int) : spec_WaveRead x0 x1 =
    spec_WaveRead_l0 x0 x1 (0 : Int) (0 : Int) ([] : List Int) ([] : List (Int × (List Int))) (0 : Int) ([] : List Int) ([] : List (Int × (List Int))) := by kernel_rfl
theorem spec_WaveRead_l0.eq (v0 : List Int) (v1 : Int) (v2 : Int) (v3 : Int) (v4 : List Int) (v5 : List (Int × (List Int))) (v6 : Int) (v7 : List Int) (v8 : List (Int × (List Int))) : spec_WaveRead_l0 v0 v1 v2 v3 v4 v5 v6 v7 v8 =
    bif decide (v2 < (9 : Int)) then
      (spec_BitsRead v0 v1).bind fun y1 =>
      bif !y1.2.2 then
        some (((0 : Int), ([] : List Int), ([] : List (Int × (List Int)))), (0 : Int), false)
      else
        (spec_Rank (y1.1.1, y1.1.2) (0 : Int) y1.1.1).bind fun y2 =>
        bif decide ((v7.length + ([y2] : List Int).length) * 8 ≤ 140737488355328) then
          bif decide ((v8.length + ([(y1.1.1, y1.1.2)] : List (Int × (List Int))).length) * 32 ≤ 140737488355328) then
            spec_WaveRead_l0 v0 y1.2.1 (IntKind.i64.wrap (v2 + (1 : Int))) v3 v4 v5 y1.1.1 (v7 ++ ([y2] : List Int)) (v8 ++ ([(y1.1.1, y1.1.2)] : List (Int × (List Int))))
          else
            none
        else
          none
    else
      (spec_WaveOk (v6, v7, v8)).bind fun y3 =>
      bif !y3 then
        some (((0 : Int), ([] : List Int), ([] : List (Int × (List Int)))), (0 : Int), false)
      else
        some ((v6, v7, v8), v1, true) := (Lw_eq tysOk (getG_con (spec_WaveRead.gok _)) _ _).trans (by kernel_rfl)

/-! ### laws_heldUint64S: loop.example/g00688/laws.heldUint64S -/
def laws_heldUint64S.ms : List Mode := [.lend, .lend]
def laws_heldUint64S.as : List VSh := [.one (.b (.b (.b (.b (.sl false false 117))))), .one (.b (.b (.b (.b (.int .i64)))))]
def laws_heldUint64S.rs : RSh := ⟨[.one (.b (.b (.b (.b (.int .i64)))))], [none, none]⟩
noncomputable def laws_heldUint64S.gs (δ : Type) : List (Nat × Callee (GT tab) δ) := []
theorem laws_heldUint64S.gok (δ : Type) : AllCon Try.prog tab (laws_heldUint64S.gs δ) := .nil
noncomputable def laws_heldUint64S.c : Ctx (GT tab) (KT tab) (ResT tab laws_heldUint64S.rs) := { X := XT tab, ty := tyOf tys, inner := fun _ => true, keep := keepOf 0 laws_heldUint64S.ms, cuts := [], live := liveOf [(2, [0, 1, 5])], G := getG (laws_heldUint64S.gs _) }
noncomputable def laws_heldUint64S.b : Code := bodyOf Try.f130
noncomputable def laws_heldUint64S (x0 : List Int) (x1 : Int) : Option (Int) := callW laws_heldUint64S.c (fiOf (GT tab) Try.f130 laws_heldUint64S.ms) laws_heldUint64S.b (decRes tab laws_heldUint64S.rs) (encArgs tab laws_heldUint64S.as (x0, x1))
theorem laws_heldUint64S.fok : FnOk Try.prog 130 Try.f130 laws_heldUint64S.ms laws_heldUint64S.b := ⟨Try.func130, by kernel_rfl, by kernel_rfl⟩
noncomputable def laws_heldUint64S.fn : Args tab laws_heldUint64S.as → Option (ResT tab laws_heldUint64S.rs) := fun x => laws_heldUint64S x.1 x.2
theorem laws_heldUint64S.con {δ : Type} : Con Try.prog (KT tab) 130 (calleeS (β := δ) tab laws_heldUint64S.ms laws_heldUint64S.as laws_heldUint64S.rs laws_heldUint64S.fn) := con_shape (c := laws_heldUint64S.c) mixed tysOk (getG_con (laws_heldUint64S.gok _)) laws_heldUint64S.fok rfl rfl (fun _ => rfl)
noncomputable def laws_heldUint64S_l0 (v0 : List Int) (v1 : Int) (v2 : Int) : Option (Int) := Lw laws_heldUint64S.c (finish laws_heldUint64S.c (fiOf (GT tab) Try.f130 laws_heldUint64S.ms) (decRes tab laws_heldUint64S.rs)) ((loops laws_heldUint64S.c.cuts 1000 laws_heldUint64S.b []).getD 0 []) { slots := [.vs false 117 v0, .int .i64 v1, .undef, .undef, .undef, .int .i64 v2, .undef, .undef, .undef, .undef, .undef, .undef, .undef, .undef, .undef, .undef, .undef, .undef, .undef, .undef, .undef, .undef], loc := locOf [], nx := 0 }
theorem laws_heldUint64S.eq (x0 : List Int) (x1 : Int) : laws_heldUint64S x0 x1 =
    laws_heldUint64S_l0 x0 x1 (0 : Int) := by kernel_rfl
theorem laws_heldUint64S_l0.eq (v0 : List Int) (v1 : Int) (v2 : Int) : laws_heldUint64S_l0 v0 v1 v2 =
    bif decide (v2 < (v0.length : Int)) then
      (at? v0 v2).bind fun y1 =>
      bif y1 != IntKind.u64.wrap v1 then
        some (-1 : Int)
      else
        laws_heldUint64S_l0 v0 (IntKind.i64.wrap (v1 + (1 : Int))) (IntKind.i64.wrap (v2 + (1 : Int)))
    else
      some v1 := (Lw_eq tysOk (getG_con (laws_heldUint64S.gok _)) _ _).trans (by kernel_rfl)

/-! ### laws_heldBitsS: loop.example/g00688/laws.heldBitsS -/
def laws_heldBitsS.ms : List Mode := [.lend, .lend]
def laws_heldBitsS.as : List VSh := [.one (.b (.b (.b (.b (.sl false false 51))))), .one (.b (.b (.b (.b (.int .i64)))))]
def laws_heldBitsS.rs : RSh := ⟨[.one (.b (.b (.b (.b (.int .i64)))))], [none, none]⟩
noncomputable def laws_heldBitsS.gs (δ : Type) : List (Nat × Callee (GT tab) δ) := [(130, calleeS tab laws_heldUint64S.ms laws_heldUint64S.as laws_heldUint64S.rs laws_heldUint64S.fn)]
theorem laws_heldBitsS.gok (δ : Type) : AllCon Try.prog tab (laws_heldBitsS.gs δ) := .cons laws_heldUint64S.con (.nil)
noncomputable def laws_heldBitsS.c : Ctx (GT tab) (KT tab) (ResT tab laws_heldBitsS.rs) := { X := XT tab, ty := tyOf tys, inner := fun _ => true, keep := keepOf 0 laws_heldBitsS.ms, cuts := [], live := liveOf [(2, [0, 1, 5])], G := getG (laws_heldBitsS.gs _) }
noncomputable def laws_heldBitsS.b : Code := bodyOf Try.f75
noncomputable def laws_heldBitsS (x0 : List (Int × (List Int))) (x1 : Int) : Option (Int) := callW laws_heldBitsS.c (fiOf (GT tab) Try.f75 laws_heldBitsS.ms) laws_heldBitsS.b (decRes tab laws_heldBitsS.rs) (encArgs tab laws_heldBitsS.as (x0, x1))
theorem laws_heldBitsS.fok : FnOk Try.prog 75 Try.f75 laws_heldBitsS.ms laws_heldBitsS.b := ⟨Try.func75, by kernel_rfl, by kernel_rfl⟩
noncomputable def laws_heldBitsS.fn : Args tab laws_heldBitsS.as → Option (ResT tab laws_heldBitsS.rs) := fun x => laws_heldBitsS x.1 x.2
theorem laws_heldBitsS.con {δ : Type} : Con Try.prog (KT tab) 75 (calleeS (β := δ) tab laws_heldBitsS.ms laws_heldBitsS.as laws_heldBitsS.rs laws_heldBitsS.fn) := con_shape (c := laws_heldBitsS.c) mixed tysOk (getG_con (laws_heldBitsS.gok _)) laws_heldBitsS.fok rfl rfl (fun _ => rfl)
noncomputable def laws_heldBitsS_l0 (v0 : List (Int × (List Int))) (v1 : Int) (v2 : Int) : Option (Int) := Lw laws_heldBitsS.c (finish laws_heldBitsS.c (fiOf (GT tab) Try.f75 laws_heldBitsS.ms) (decRes tab laws_heldBitsS.rs)) ((loops laws_heldBitsS.c.cuts 1000 laws_heldBitsS.b []).getD 0 []) { slots := [.vs false 51 v0, .int .i64 v1, .undef, .undef, .undef, .int .i64 v2, .undef, .undef, .undef, .undef, .undef, .undef, .undef, .undef, .undef, .undef, .undef, .undef, .undef, .undef, .undef, .undef, .undef, .undef, .undef, .undef, .undef, .undef, .undef, .undef, .undef], loc := locOf [], nx := 0 }
theorem laws_heldBitsS.eq (x0 : List (Int × (List Int))) (x1 : Int) : laws_heldBitsS x0 x1 =
    laws_heldBitsS_l0 x0 x1 (0 : Int) := by kernel_rfl
theorem laws_heldBitsS_l0.eq (v0 : List (Int × (List Int))) (v1 : Int) (v2 : Int) : laws_heldBitsS_l0 v0 v1 v2 =
    bif decide (v2 < (v0.length : Int)) then
      (at? v0 v2).bind fun y1 =>
      bif y1.1 != v1 then
        some (-1 : Int)
      else
        (at? v0 v2).bind fun y2 =>
        (laws_heldUint64S y2.2 (IntKind.i64.wrap (v1 + (1 : Int)))).bind fun y3 =>
        bif decide (y3 < (0 : Int)) then
          some (-1 : Int)
        else
          laws_heldBitsS_l0 v0 y3 (IntKind.i64.wrap (v2 + (1 : Int)))
    else
      some v1 := (Lw_eq tysOk (getG_con (laws_heldBitsS.gok _)) _ _).trans (by kernel_rfl)

/-! ### laws_heldWave: loop.example/g00688/laws.heldWave -/
def laws_heldWave.ms : List Mode := [.lend, .lend]
def laws_heldWave.as : List VSh := [.agg [.int .i64, .sl false false 3, .sl false false 51], .one (.b (.b (.b (.b (.int .i64)))))]
def laws_heldWave.rs : RSh := ⟨[.one (.b (.b (.b (.b (.int .i64)))))], [none, none]⟩
noncomputable def laws_heldWave.gs (δ : Type) : List (Nat × Callee (GT tab) δ) := [(32, calleeS tab laws_heldIntS.ms laws_heldIntS.as laws_heldIntS.rs laws_heldIntS.fn), (75, calleeS tab laws_heldBitsS.ms laws_heldBitsS.as laws_heldBitsS.rs laws_heldBitsS.fn)]
theorem laws_heldWave.gok (δ : Type) : AllCon Try.prog tab (laws_heldWave.gs δ) := .cons laws_heldIntS.con (.cons laws_heldBitsS.con (.nil))
noncomputable def laws_heldWave.c : Ctx (GT tab) (KT tab) (ResT tab laws_heldWave.rs) := { X := XT tab, ty := tyOf tys, inner := fun _ => true, keep := keepOf 0 laws_heldWave.ms, cuts := [], live := liveOf [], G := getG (laws_heldWave.gs _) }
noncomputable def laws_heldWave.b : Code := bodyOf Try.f23
noncomputable def laws_heldWave (x0 : Int × (List Int) × (List (Int × (List Int)))) (x1 : Int) : Option (Int) := callW laws_heldWave.c (fiOf (GT tab) Try.f23 laws_heldWave.ms) laws_heldWave.b (decRes tab laws_heldWave.rs) (encArgs tab laws_heldWave.as (x0, x1))
theorem laws_heldWave.fok : FnOk Try.prog 23 Try.f23 laws_heldWave.ms laws_heldWave.b := ⟨Try.func23, by kernel_rfl, by kernel_rfl⟩
noncomputable def laws_heldWave.fn : Args tab laws_heldWave.as → Option (ResT tab laws_heldWave.rs) := fun x => laws_heldWave x.1 x.2
theorem laws_heldWave.con {δ : Type} : Con Try.prog (KT tab) 23 (calleeS (β := δ) tab laws_heldWave.ms laws_heldWave.as laws_heldWave.rs laws_heldWave.fn) := con_shape (c := laws_heldWave.c) mixed tysOk (getG_con (laws_heldWave.gok _)) laws_heldWave.fok rfl rfl (fun _ => rfl)
theorem laws_heldWave.eq (x0 : Int × (List Int) × (List (Int × (List Int)))) (x1 : Int) : laws_heldWave x0 x1 =
    (laws_heldIntS x0.2.1 x1).bind fun y1 =>
    bif decide (y1 < (0 : Int)) then
      some (-1 : Int)
    else
      (laws_heldBitsS x0.2.2 y1).bind fun y2 =>
      bif decide (y2 < (0 : Int)) then
        some (-1 : Int)
      else
        some y2 := by kernel_rfl

end Go.Ev.W
