/- What functions of the program come to. -/
import Derived.Test.YthbijcdnjgfndaaPaT
import Derived.Test.YthbijcdnjgfndaaPa4
namespace Go.Ev.W
open Go.Ev Go.Proofs
set_option maxRecDepth 100000
set_option linter.unusedVariables false

/-! ### spec_l01List: loop.example/g00688/spec.l01List -/
def spec_l01List.ms : List Mode := [.lend]
def spec_l01List.as : List VSh := [.agg [.int .i64, .sl false false 103]]
def spec_l01List.rs : RSh := ⟨[.one (.b (.b (.b (.b (.sl true true 3)))))], [none]⟩
noncomputable def spec_l01List.gs (δ : Type) : List (Nat × Callee (GT tab) δ) := []
theorem spec_l01List.gok (δ : Type) : AllCon Try.prog tab (spec_l01List.gs δ) := .nil
noncomputable def spec_l01List.c : Ctx (GT tab) (KT tab) (ResT tab spec_l01List.rs) := { X := XT tab, ty := tyOf tys, inner := fun _ => true, keep := keepOf 0 spec_l01List.ms, cuts := [], live := liveOf [(3, [1, 3, 4]), (7, [1, 3, 4, 5, 6])], G := getG (spec_l01List.gs _) }
noncomputable def spec_l01List.b : Code := bodyOf Try.f75
noncomputable def spec_l01List (x0 : Int × (List Int)) : Option (List Int) := callW spec_l01List.c (fiOf (GT tab) Try.f75 spec_l01List.ms) spec_l01List.b (decRes tab spec_l01List.rs) (encArgs tab spec_l01List.as x0)
theorem spec_l01List.fok : FnOk Try.prog 75 Try.f75 spec_l01List.ms spec_l01List.b := ⟨Try.func75, by kernel_rfl, by kernel_rfl⟩
noncomputable def spec_l01List.fn : Args tab spec_l01List.as → Option (ResT tab spec_l01List.rs) := fun x => spec_l01List x
theorem spec_l01List.con {δ : Type} : Con Try.prog (KT tab) 75 (calleeS (β := δ) tab spec_l01List.ms spec_l01List.as spec_l01List.rs spec_l01List.fn) := con_shape (c := spec_l01List.c) mixed tysOk (getG_con (spec_l01List.gok _)) spec_l01List.fok rfl rfl (fun _ => rfl)
noncomputable def spec_l01List_l0 (v0 : Int) (v1 : Int) (v2 : List Int) (v3 : List Int) : Option (List Int) := Lw spec_l01List.c (finish spec_l01List.c (fiOf (GT tab) Try.f75 spec_l01List.ms) (decRes tab spec_l01List.rs)) ((loops spec_l01List.c.cuts 1000 spec_l01List.b []).getD 0 []) { slots := [.undef, .ptr 0 0, .undef, .sl 1 0, .int .i64 v0, .undef, .undef, .undef, .undef, .undef, .undef, .undef, .undef, .undef, .undef, .undef, .undef, .undef, .undef, .undef, .undef, .undef, .undef, .undef, .undef, .undef, .undef, .undef, .undef, .undef, .undef, .undef, .undef, .undef, .undef], loc := locOf [.box 50 [.int .i64 v1, .vs false 103 v2], .row 0 true 3 v3], nx := 2 }
noncomputable def spec_l01List_l1 (v0 : Int) (v1 : Int) (v2 : Int) (v3 : Int) (v4 : List Int) (v5 : List Int) : Option (List Int) := Lw spec_l01List.c (finish spec_l01List.c (fiOf (GT tab) Try.f75 spec_l01List.ms) (decRes tab spec_l01List.rs)) ((loops spec_l01List.c.cuts 1000 spec_l01List.b []).getD 1 []) { slots := [.undef, .ptr 0 0, .undef, .sl 1 0, .int .i64 v0, .int .u64 v1, .int .i64 v2, .undef, .undef, .undef, .undef, .undef, .undef, .undef, .undef, .undef, .undef, .undef, .undef, .undef, .undef, .undef, .undef, .undef, .undef, .undef, .undef, .undef, .undef, .undef, .undef, .undef, .undef, .undef, .undef], loc := locOf [.box 50 [.int .i64 v3, .vs false 103 v4], .row 0 true 3 v5], nx := 2 }
theorem spec_l01List.eq (x0 : Int × (List Int)) : spec_l01List x0 =
    spec_l01List_l0 (0 : Int) x0.1 x0.2 ([] : List Int) := by kernel_rfl
theorem spec_l01List_l0.eq (v0 : Int) (v1 : Int) (v2 : List Int) (v3 : List Int) : spec_l01List_l0 v0 v1 v2 v3 =
    bif decide (v0 < v1) then
      (at? v2 (IntKind.i64.wrap (v0.tdiv (64 : Int)))).bind fun y1 =>
      spec_l01List_l1 v0 y1 (v0.tmod (64 : Int)) v1 v2 v3
    else
      some v3 := (Lw_eq tysOk (getG_con (spec_l01List.gok _)) _ _).trans (by kernel_rfl)
theorem spec_l01List_l1.eq (v0 : Int) (v1 : Int) (v2 : Int) (v3 : Int) (v4 : List Int) (v5 : List Int) : spec_l01List_l1 v0 v1 v2 v3 v4 v5 =
    bif decide (v2 > (0 : Int)) then
      spec_l01List_l1 v0 (IntKind.u64.wrap (v1.tdiv (2 : Int))) (IntKind.i64.wrap (v2 - (1 : Int))) v3 v4 v5
    else
      bif decide ((v5.length + ([IntKind.i64.wrap (v1.tmod (2 : Int))] : List Int).length) * 8 ≤ 140737488355328) then
        spec_l01List_l0 (IntKind.i64.wrap (v0 + (1 : Int))) v3 v4 (v5 ++ ([IntKind.i64.wrap (v1.tmod (2 : Int))] : List Int))
      else
        none := (Lw_eq tysOk (getG_con (spec_l01List.gok _)) _ _).trans (by kernel_rfl)

/-! ### spec_l01Power: loop.example/g00688/spec.l01Power -/
def spec_l01Power.ms : List Mode := [.lend]
def spec_l01Power.as : List VSh := [.one (.b (.b (.b (.b (.int .i64)))))]
def spec_l01Power.rs : RSh := ⟨[.one (.b (.b (.b (.b (.int .u64)))))], [none]⟩
noncomputable def spec_l01Power.gs (δ : Type) : List (Nat × Callee (GT tab) δ) := []
theorem spec_l01Power.gok (δ : Type) : AllCon Try.prog tab (spec_l01Power.gs δ) := .nil
noncomputable def spec_l01Power.c : Ctx (GT tab) (KT tab) (ResT tab spec_l01Power.rs) := { X := XT tab, ty := tyOf tys, inner := fun _ => true, keep := keepOf 0 spec_l01Power.ms, cuts := [], live := liveOf [(2, [0, 3])], G := getG (spec_l01Power.gs _) }
noncomputable def spec_l01Power.b : Code := bodyOf Try.f99
noncomputable def spec_l01Power (x0 : Int) : Option (Int) := callW spec_l01Power.c (fiOf (GT tab) Try.f99 spec_l01Power.ms) spec_l01Power.b (decRes tab spec_l01Power.rs) (encArgs tab spec_l01Power.as x0)
theorem spec_l01Power.fok : FnOk Try.prog 99 Try.f99 spec_l01Power.ms spec_l01Power.b := ⟨Try.func99, by kernel_rfl, by kernel_rfl⟩
noncomputable def spec_l01Power.fn : Args tab spec_l01Power.as → Option (ResT tab spec_l01Power.rs) := fun x => spec_l01Power x
theorem spec_l01Power.con {δ : Type} : Con Try.prog (KT tab) 99 (calleeS (β := δ) tab spec_l01Power.ms spec_l01Power.as spec_l01Power.rs spec_l01Power.fn) := con_shape (c := spec_l01Power.c) mixed tysOk (getG_con (spec_l01Power.gok _)) spec_l01Power.fok rfl rfl (fun _ => rfl)
noncomputable def spec_l01Power_l0 (v0 : Int) (v1 : Int) : Option (Int) := Lw spec_l01Power.c (finish spec_l01Power.c (fiOf (GT tab) Try.f99 spec_l01Power.ms) (decRes tab spec_l01Power.rs)) ((loops spec_l01Power.c.cuts 1000 spec_l01Power.b []).getD 0 []) { slots := [.int .i64 v0, .undef, .undef, .int .u64 v1, .undef, .undef, .undef, .undef, .undef, .undef, .undef], loc := locOf [], nx := 0 }
theorem spec_l01Power.eq (x0 : Int) : spec_l01Power x0 =
    spec_l01Power_l0 x0 (1 : Int) := by kernel_rfl
theorem spec_l01Power_l0.eq (v0 : Int) (v1 : Int) : spec_l01Power_l0 v0 v1 =
    bif decide (v0 > (0 : Int)) then
      spec_l01Power_l0 (IntKind.i64.wrap (v0 - (1 : Int))) (IntKind.u64.wrap ((2 : Int) * v1))
    else
      some v1 := (Lw_eq tysOk (getG_con (spec_l01Power.gok _)) _ _).trans (by kernel_rfl)

/-! ### spec_BitsOf: loop.example/g00688/spec.BitsOf -/
def spec_BitsOf.ms : List Mode := [.lend]
def spec_BitsOf.as : List VSh := [.one (.b (.b (.b (.b (.sl false false 3)))))]
def spec_BitsOf.rs : RSh := ⟨[.agg [.int .i64, .sl true true 103], .one (.b (.b (.b (.b (.bool)))))], [none]⟩
noncomputable def spec_BitsOf.gs (δ : Type) : List (Nat × Callee (GT tab) δ) := [(99, calleeS tab spec_l01Power.ms spec_l01Power.as spec_l01Power.rs spec_l01Power.fn)]
theorem spec_BitsOf.gok (δ : Type) : AllCon Try.prog tab (spec_BitsOf.gs δ) := .cons spec_l01Power.con (.nil)
noncomputable def spec_BitsOf.c : Ctx (GT tab) (KT tab) (ResT tab spec_BitsOf.rs) := { X := XT tab, ty := tyOf tys, inner := fun _ => true, keep := keepOf 0 spec_BitsOf.ms, cuts := [9], live := liveOf [(5, [0, 2, 4, 5]), (9, [0, 2, 4, 5])], G := getG (spec_BitsOf.gs _) }
noncomputable def spec_BitsOf.b : Code := bodyOf Try.f86
noncomputable def spec_BitsOf (x0 : List Int) : Option ((Int × (List Int)) × Bool) := callW spec_BitsOf.c (fiOf (GT tab) Try.f86 spec_BitsOf.ms) spec_BitsOf.b (decRes tab spec_BitsOf.rs) (encArgs tab spec_BitsOf.as x0)
theorem spec_BitsOf.fok : FnOk Try.prog 86 Try.f86 spec_BitsOf.ms spec_BitsOf.b := ⟨Try.func86, by kernel_rfl, by kernel_rfl⟩
noncomputable def spec_BitsOf.fn : Args tab spec_BitsOf.as → Option (ResT tab spec_BitsOf.rs) := fun x => spec_BitsOf x
theorem spec_BitsOf.con {δ : Type} : Con Try.prog (KT tab) 86 (calleeS (β := δ) tab spec_BitsOf.ms spec_BitsOf.as spec_BitsOf.rs spec_BitsOf.fn) := con_shape (c := spec_BitsOf.c) mixed tysOk (getG_con (spec_BitsOf.gok _)) spec_BitsOf.fok rfl rfl (fun _ => rfl)
noncomputable def spec_BitsOf_l0 (v0 : List Int) (v1 : Int) (v2 : Int) (v3 : List Int) (v4 : Int) (v5 : List Int) : Option ((Int × (List Int)) × Bool) := Lw spec_BitsOf.c (finish spec_BitsOf.c (fiOf (GT tab) Try.f86 spec_BitsOf.ms) (decRes tab spec_BitsOf.rs)) ((loops spec_BitsOf.c.cuts 1000 spec_BitsOf.b []).getD 0 []) { slots := [.vs false 3 v0, .undef, .ptr 0 0, .undef, .ptr 2 0, .int .i64 v1, .undef, .undef, .undef, .undef, .undef, .undef, .undef, .undef, .undef, .undef, .undef, .undef, .undef, .undef, .undef, .undef, .undef, .undef, .undef, .undef, .undef, .undef, .undef, .undef, .undef, .undef, .undef, .undef, .undef, .undef, .undef, .undef, .undef, .undef, .undef, .undef, .undef, .undef, .undef, .undef, .undef, .undef, .undef, .undef, .undef, .undef, .undef, .undef, .undef, .undef, .undef, .undef, .undef, .undef, .undef], loc := locOf [.box 50 [.int .i64 v2, .sl 1 0], .row 0 true 103 v3, .box 50 [.int .i64 v4, .sl 3 0], .row 0 true 103 v5], nx := 4 }
noncomputable def spec_BitsOf_l1 (v0 : List Int) (v1 : Int) (v2 : Int) (v3 : List Int) (v4 : Int) (v5 : List Int) : Option ((Int × (List Int)) × Bool) := Lw spec_BitsOf.c (finish spec_BitsOf.c (fiOf (GT tab) Try.f86 spec_BitsOf.ms) (decRes tab spec_BitsOf.rs)) ((loops spec_BitsOf.c.cuts 1000 spec_BitsOf.b []).getD 1 []) { slots := [.vs false 3 v0, .undef, .ptr 0 0, .undef, .ptr 2 0, .int .i64 v1, .undef, .undef, .undef, .undef, .undef, .undef, .undef, .undef, .undef, .undef, .undef, .undef, .undef, .undef, .undef, .undef, .undef, .undef, .undef, .undef, .undef, .undef, .undef, .undef, .undef, .undef, .undef, .undef, .undef, .undef, .undef, .undef, .undef, .undef, .undef, .undef, .undef, .undef, .undef, .undef, .undef, .undef, .undef, .undef, .undef, .undef, .undef, .undef, .undef, .undef, .undef, .undef, .undef, .undef, .undef], loc := locOf [.box 50 [.int .i64 v2, .sl 1 0], .row 0 true 103 v3, .box 50 [.int .i64 v4, .sl 3 0], .row 0 true 103 v5], nx := 4 }
theorem spec_BitsOf.eq (x0 : List Int) : spec_BitsOf x0 =
    bif decide ((x0.length : Int) > (5000 : Int)) then
      some (((0 : Int), ([] : List Int)), false)
    else
      spec_BitsOf_l0 x0 (0 : Int) (0 : Int) ([] : List Int) (x0.length : Int) ([] : List Int) := by kernel_rfl
theorem spec_BitsOf_l0.eq (v0 : List Int) (v1 : Int) (v2 : Int) (v3 : List Int) (v4 : Int) (v5 : List Int) : spec_BitsOf_l0 v0 v1 v2 v3 v4 v5 =
    bif decide (v1 < (v0.length : Int)) then
      (at? v0 v1).bind fun y1 =>
      bif y1 != (0 : Int) then
        (at? v0 v1).bind fun y2 =>
        bif y2 != (1 : Int) then
          some (((0 : Int), ([] : List Int)), false)
        else
          spec_BitsOf_l1 v0 v1 v2 v3 v4 v5
      else
        spec_BitsOf_l1 v0 v1 v2 v3 v4 v5
    else
      some ((v4, v5), true) := (Lw_eq tysOk (getG_con (spec_BitsOf.gok _)) _ _).trans (by kernel_rfl)
theorem spec_BitsOf_l1.eq (v0 : List Int) (v1 : Int) (v2 : Int) (v3 : List Int) (v4 : Int) (v5 : List Int) : spec_BitsOf_l1 v0 v1 v2 v3 v4 v5 =
    bif v1.tmod (64 : Int) == (0 : Int) then
      bif decide ((v5.length + ([(0 : Int)] : List Int).length) * 8 ≤ 140737488355328) then
        (at? v0 v1).bind fun y1 =>
        bif y1 == (1 : Int) then
          (at? (v5 ++ ([(0 : Int)] : List Int)) (IntKind.i64.wrap (v1.tdiv (64 : Int)))).bind fun y2 =>
          (v5 ++ ([(0 : Int)] : List Int))[(IntKind.i64.wrap (v1.tdiv (64 : Int))).toNat]?.bind fun y3 =>
          (spec_l01Power (v1.tmod (64 : Int))).bind fun y4 =>
          (at? (v5 ++ ([(0 : Int)] : List Int)) (IntKind.i64.wrap (v1.tdiv (64 : Int)))).bind fun y5 =>
          (v5 ++ ([(0 : Int)] : List Int))[(IntKind.i64.wrap (v1.tdiv (64 : Int))).toNat]?.bind fun y6 =>
          spec_BitsOf_l0 v0 (IntKind.i64.wrap (v1 + (1 : Int))) v2 v3 v4 ((v5 ++ ([(0 : Int)] : List Int)).set ((IntKind.i64.wrap (v1.tdiv (64 : Int))).toNat) (IntKind.u64.wrap (y3 + y4)))
        else
          spec_BitsOf_l0 v0 (IntKind.i64.wrap (v1 + (1 : Int))) v2 v3 v4 (v5 ++ ([(0 : Int)] : List Int))
      else
        none
    else
      (at? v0 v1).bind fun y7 =>
      bif y7 == (1 : Int) then
        (at? v5 (IntKind.i64.wrap (v1.tdiv (64 : Int)))).bind fun y8 =>
        v5[(IntKind.i64.wrap (v1.tdiv (64 : Int))).toNat]?.bind fun y9 =>
        (spec_l01Power (v1.tmod (64 : Int))).bind fun y10 =>
        (at? v5 (IntKind.i64.wrap (v1.tdiv (64 : Int)))).bind fun y11 =>
        v5[(IntKind.i64.wrap (v1.tdiv (64 : Int))).toNat]?.bind fun y12 =>
        spec_BitsOf_l0 v0 (IntKind.i64.wrap (v1 + (1 : Int))) v2 v3 v4 (v5.set ((IntKind.i64.wrap (v1.tdiv (64 : Int))).toNat) (IntKind.u64.wrap (y9 + y10)))
      else
        spec_BitsOf_l0 v0 (IntKind.i64.wrap (v1 + (1 : Int))) v2 v3 v4 v5 := (Lw_eq tysOk (getG_con (spec_BitsOf.gok _)) _ _).trans (by kernel_rfl)

/-! ### spec_BitsOk: loop.example/g00688/spec.BitsOk -/
def spec_BitsOk.ms : List Mode := [.lend]
def spec_BitsOk.as : List VSh := [.agg [.int .i64, .sl false false 103]]
def spec_BitsOk.rs : RSh := ⟨[.one (.b (.b (.b (.b (.bool)))))], [none]⟩
noncomputable def spec_BitsOk.gs (δ : Type) : List (Nat × Callee (GT tab) δ) := [(75, calleeS tab spec_l01List.ms spec_l01List.as spec_l01List.rs spec_l01List.fn), (86, calleeS tab spec_BitsOf.ms spec_BitsOf.as spec_BitsOf.rs spec_BitsOf.fn)]
theorem spec_BitsOk.gok (δ : Type) : AllCon Try.prog tab (spec_BitsOk.gs δ) := .cons spec_l01List.con (.cons spec_BitsOf.con (.nil))
noncomputable def spec_BitsOk.c : Ctx (GT tab) (KT tab) (ResT tab spec_BitsOk.rs) := { X := XT tab, ty := tyOf tys, inner := fun _ => true, keep := keepOf 0 spec_BitsOk.ms, cuts := [3], live := liveOf [(3, [1]), (5, [1, 3, 5])], G := getG (spec_BitsOk.gs _) }
noncomputable def spec_BitsOk.b : Code := bodyOf Try.f73
noncomputable def spec_BitsOk (x0 : Int × (List Int)) : Option (Bool) := callW spec_BitsOk.c (fiOf (GT tab) Try.f73 spec_BitsOk.ms) spec_BitsOk.b (decRes tab spec_BitsOk.rs) (encArgs tab spec_BitsOk.as x0)
theorem spec_BitsOk.fok : FnOk Try.prog 73 Try.f73 spec_BitsOk.ms spec_BitsOk.b := ⟨Try.func73, by kernel_rfl, by kernel_rfl⟩
noncomputable def spec_BitsOk.fn : Args tab spec_BitsOk.as → Option (ResT tab spec_BitsOk.rs) := fun x => spec_BitsOk x
theorem spec_BitsOk.con {δ : Type} : Con Try.prog (KT tab) 73 (calleeS (β := δ) tab spec_BitsOk.ms spec_BitsOk.as spec_BitsOk.rs spec_BitsOk.fn) := con_shape (c := spec_BitsOk.c) mixed tysOk (getG_con (spec_BitsOk.gok _)) spec_BitsOk.fok rfl rfl (fun _ => rfl)
noncomputable def spec_BitsOk_l0 (v0 : Int) (v1 : List Int) : Option (Bool) := Lw spec_BitsOk.c (finish spec_BitsOk.c (fiOf (GT tab) Try.f73 spec_BitsOk.ms) (decRes tab spec_BitsOk.rs)) ((loops spec_BitsOk.c.cuts 1000 spec_BitsOk.b []).getD 0 []) { slots := [.undef, .ptr 0 0, .undef, .undef, .undef, .undef, .undef, .undef, .undef, .undef, .undef, .undef, .undef, .undef, .undef, .undef, .undef, .undef, .undef, .undef, .undef, .undef, .undef, .undef, .undef, .undef, .undef, .undef, .undef, .undef, .undef, .undef, .undef, .undef, .undef, .undef, .undef, .undef, .undef, .undef, .undef, .undef, .undef, .undef, .undef, .undef, .undef, .undef], loc := locOf [.box 50 [.int .i64 v0, .vs false 103 v1]], nx := 1 }
noncomputable def spec_BitsOk_l1 (v0 : Int) (v1 : Int) (v2 : List Int) (v3 : Int) (v4 : List Int) : Option (Bool) := Lw spec_BitsOk.c (finish spec_BitsOk.c (fiOf (GT tab) Try.f73 spec_BitsOk.ms) (decRes tab spec_BitsOk.rs)) ((loops spec_BitsOk.c.cuts 1000 spec_BitsOk.b []).getD 1 []) { slots := [.undef, .ptr 0 0, .undef, .ptr 1 0, .undef, .int .i64 v0, .undef, .undef, .undef, .undef, .undef, .undef, .undef, .undef, .undef, .undef, .undef, .undef, .undef, .undef, .undef, .undef, .undef, .undef, .undef, .undef, .undef, .undef, .undef, .undef, .undef, .undef, .undef, .undef, .undef, .undef, .undef, .undef, .undef, .undef, .undef, .undef, .undef, .undef, .undef, .undef, .undef, .undef], loc := locOf [.box 50 [.int .i64 v1, .vs false 103 v2], .box 50 [.int .i64 v3, .sl 2 0], .row 0 true 103 v4], nx := 3 }
theorem spec_BitsOk.eq (x0 : Int × (List Int)) : spec_BitsOk x0 =
    bif decide (x0.1 < (0 : Int)) then
      some false
    else
      bif decide (x0.1 > (5000 : Int)) then
        some false
      else
        bif (x0.2.length : Int) != IntKind.i64.wrap ((IntKind.i64.wrap (x0.1 + (63 : Int))).tdiv (64 : Int)) then
          some false
        else
          spec_BitsOk_l0 x0.1 x0.2 := by kernel_rfl
theorem spec_BitsOk_l0.eq (v0 : Int) (v1 : List Int) : spec_BitsOk_l0 v0 v1 =
    (spec_l01List (v0, v1)).bind fun y1 =>
    (spec_BitsOf y1).bind fun y2 =>
    spec_BitsOk_l1 (0 : Int) v0 v1 y2.1.1 y2.1.2 := (Lw_eq tysOk (getG_con (spec_BitsOk.gok _)) _ _).trans (by kernel_rfl)
theorem spec_BitsOk_l1.eq (v0 : Int) (v1 : Int) (v2 : List Int) (v3 : Int) (v4 : List Int) : spec_BitsOk_l1 v0 v1 v2 v3 v4 =
    bif decide (v0 < (v2.length : Int)) then
      (at? v2 v0).bind fun y1 =>
      (at? v4 v0).bind fun y2 =>
      v4[v0.toNat]?.bind fun y3 =>
      bif y1 != y3 then
        some false
      else
        spec_BitsOk_l1 (IntKind.i64.wrap (v0 + (1 : Int))) v1 v2 v3 v4
    else
      some true := (Lw_eq tysOk (getG_con (spec_BitsOk.gok _)) _ _).trans (by kernel_rfl)

/-! ### spec_VarOf: loop.example/g00688/spec.VarOf -/
def spec_VarOf.ms : List Mode := [.lend]
def spec_VarOf.as : List VSh := [.one (.b (.b (.b (.b (.int .i64)))))]
def spec_VarOf.rs : RSh := ⟨[.one (.b (.b (.b (.b (.sl true true 5)))))], [none]⟩
noncomputable def spec_VarOf.gs (δ : Type) : List (Nat × Callee (GT tab) δ) := []
theorem spec_VarOf.gok (δ : Type) : AllCon Try.prog tab (spec_VarOf.gs δ) := .nil
noncomputable def spec_VarOf.c : Ctx (GT tab) (KT tab) (ResT tab spec_VarOf.rs) := { X := XT tab, ty := tyOf tys, inner := fun _ => true, keep := keepOf 0 spec_VarOf.ms, cuts := [3], live := liveOf [(3, [0]), (4, [0, 3])], G := getG (spec_VarOf.gs _) }
noncomputable def spec_VarOf.b : Code := bodyOf Try.f74
noncomputable def spec_VarOf (x0 : Int) : Option (List Int) := callW spec_VarOf.c (fiOf (GT tab) Try.f74 spec_VarOf.ms) spec_VarOf.b (decRes tab spec_VarOf.rs) (encArgs tab spec_VarOf.as x0)
theorem spec_VarOf.fok : FnOk Try.prog 74 Try.f74 spec_VarOf.ms spec_VarOf.b := ⟨Try.func74, by kernel_rfl, by kernel_rfl⟩
noncomputable def spec_VarOf.fn : Args tab spec_VarOf.as → Option (ResT tab spec_VarOf.rs) := fun x => spec_VarOf x
theorem spec_VarOf.con {δ : Type} : Con Try.prog (KT tab) 74 (calleeS (β := δ) tab spec_VarOf.ms spec_VarOf.as spec_VarOf.rs spec_VarOf.fn) := con_shape (c := spec_VarOf.c) mixed tysOk (getG_con (spec_VarOf.gok _)) spec_VarOf.fok rfl rfl (fun _ => rfl)
noncomputable def spec_VarOf_l0 (v0 : Int) : Option (List Int) := Lw spec_VarOf.c (finish spec_VarOf.c (fiOf (GT tab) Try.f74 spec_VarOf.ms) (decRes tab spec_VarOf.rs)) ((loops spec_VarOf.c.cuts 1000 spec_VarOf.b []).getD 0 []) { slots := [.int .i64 v0, .undef, .undef, .undef, .undef, .undef, .undef, .undef, .undef, .undef, .undef, .undef, .undef, .undef, .undef, .undef, .undef, .undef, .undef, .undef, .undef, .undef, .undef, .undef, .undef, .undef, .undef], loc := locOf [], nx := 0 }
noncomputable def spec_VarOf_l1 (v0 : Int) (v1 : List Int) : Option (List Int) := Lw spec_VarOf.c (finish spec_VarOf.c (fiOf (GT tab) Try.f74 spec_VarOf.ms) (decRes tab spec_VarOf.rs)) ((loops spec_VarOf.c.cuts 1000 spec_VarOf.b []).getD 1 []) { slots := [.int .i64 v0, .undef, .undef, .sl 0 0, .undef, .undef, .undef, .undef, .undef, .undef, .undef, .undef, .undef, .undef, .undef, .undef, .undef, .undef, .undef, .undef, .undef, .undef, .undef, .undef, .undef, .undef, .undef], loc := locOf [.row 0 true 5 v1], nx := 1 }
theorem spec_VarOf.eq (x0 : Int) : spec_VarOf x0 =
    bif decide (x0 < (0 : Int)) then
      some ([] : List Int)
    else
      bif decide (x0 > (4294967295 : Int)) then
        some ([] : List Int)
      else
        spec_VarOf_l0 x0 := by kernel_rfl
theorem spec_VarOf_l0.eq (v0 : Int) : spec_VarOf_l0 v0 =
    spec_VarOf_l1 v0 ([] : List Int) := (Lw_eq tysOk (getG_con (spec_VarOf.gok _)) _ _).trans (by kernel_rfl)
theorem spec_VarOf_l1.eq (v0 : Int) (v1 : List Int) : spec_VarOf_l1 v0 v1 =
    bif decide (v0 ≥ (128 : Int)) then
      bif decide ((v1.length + ([IntKind.u8.wrap (IntKind.i64.wrap ((128 : Int) + (v0.tmod (128 : Int))))] : List Int).length) * 1 ≤ 140737488355328) then
        spec_VarOf_l1 (IntKind.i64.wrap (v0.tdiv (128 : Int))) (v1 ++ ([IntKind.u8.wrap (IntKind.i64.wrap ((128 : Int) + (v0.tmod (128 : Int))))] : List Int))
      else
        none
    else
      bif decide ((v1.length + ([IntKind.u8.wrap v0] : List Int).length) * 1 ≤ 140737488355328) then
        some (v1 ++ ([IntKind.u8.wrap v0] : List Int))
      else
        none := (Lw_eq tysOk (getG_con (spec_VarOf.gok _)) _ _).trans (by kernel_rfl)

/-! ### spec_BitsBytes: loop.example/g00688/spec.BitsBytes -/
def spec_BitsBytes.ms : List Mode := [.lend]
def spec_BitsBytes.as : List VSh := [.agg [.int .i64, .sl false false 103]]
def spec_BitsBytes.rs : RSh := ⟨[.one (.b (.b (.b (.b (.sl true true 5)))))], [none]⟩
noncomputable def spec_BitsBytes.gs (δ : Type) : List (Nat × Callee (GT tab) δ) := [(73, calleeS tab spec_BitsOk.ms spec_BitsOk.as spec_BitsOk.rs spec_BitsOk.fn), (74, calleeS tab spec_VarOf.ms spec_VarOf.as spec_VarOf.rs spec_VarOf.fn), (75, calleeS tab spec_l01List.ms spec_l01List.as spec_l01List.rs spec_l01List.fn)]
theorem spec_BitsBytes.gok (δ : Type) : AllCon Try.prog tab (spec_BitsBytes.gs δ) := .cons spec_BitsOk.con (.cons spec_VarOf.con (.cons spec_l01List.con (.nil)))
noncomputable def spec_BitsBytes.c : Ctx (GT tab) (KT tab) (ResT tab spec_BitsBytes.rs) := { X := XT tab, ty := tyOf tys, inner := fun _ => true, keep := keepOf 0 spec_BitsBytes.ms, cuts := [], live := liveOf [(6, [3, 4, 5]), (10, [3, 4, 5, 6, 7])], G := getG (spec_BitsBytes.gs _) }
noncomputable def spec_BitsBytes.b : Code := bodyOf Try.f38
noncomputable def spec_BitsBytes (x0 : Int × (List Int)) : Option (List Int) := callW spec_BitsBytes.c (fiOf (GT tab) Try.f38 spec_BitsBytes.ms) spec_BitsBytes.b (decRes tab spec_BitsBytes.rs) (encArgs tab spec_BitsBytes.as x0)
theorem spec_BitsBytes.fok : FnOk Try.prog 38 Try.f38 spec_BitsBytes.ms spec_BitsBytes.b := ⟨Try.func38, by kernel_rfl, by kernel_rfl⟩
noncomputable def spec_BitsBytes.fn : Args tab spec_BitsBytes.as → Option (ResT tab spec_BitsBytes.rs) := fun x => spec_BitsBytes x
theorem spec_BitsBytes.con {δ : Type} : Con Try.prog (KT tab) 38 (calleeS (β := δ) tab spec_BitsBytes.ms spec_BitsBytes.as spec_BitsBytes.rs spec_BitsBytes.fn) := con_shape (c := spec_BitsBytes.c) mixed tysOk (getG_con (spec_BitsBytes.gok _)) spec_BitsBytes.fok rfl rfl (fun _ => rfl)
noncomputable def spec_BitsBytes_l0 (v0 : Int) (v1 : List Int) (v2 : List Int) : Option (List Int) := Lw spec_BitsBytes.c (finish spec_BitsBytes.c (fiOf (GT tab) Try.f38 spec_BitsBytes.ms) (decRes tab spec_BitsBytes.rs)) ((loops spec_BitsBytes.c.cuts 1000 spec_BitsBytes.b []).getD 0 []) { slots := [.undef, .undef, .undef, .sl 0 0, .sl 1 0, .int .i64 v0, .undef, .undef, .undef, .undef, .undef, .undef, .undef, .undef, .undef, .undef, .undef, .undef, .undef, .undef, .undef, .undef, .undef, .undef, .undef, .undef, .undef, .undef, .undef, .undef, .undef, .undef, .undef, .undef, .undef, .undef, .undef, .undef, .undef, .undef, .undef, .undef, .undef, .undef, .undef, .undef, .undef, .undef], loc := locOf [.row 0 true 5 v1, .row 0 true 3 v2], nx := 2 }
noncomputable def spec_BitsBytes_l1 (v0 : Int) (v1 : Int) (v2 : Int) (v3 : List Int) (v4 : List Int) : Option (List Int) := Lw spec_BitsBytes.c (finish spec_BitsBytes.c (fiOf (GT tab) Try.f38 spec_BitsBytes.ms) (decRes tab spec_BitsBytes.rs)) ((loops spec_BitsBytes.c.cuts 1000 spec_BitsBytes.b []).getD 1 []) { slots := [.undef, .undef, .undef, .sl 0 0, .sl 1 0, .int .i64 v0, .int .i64 v1, .int .i64 v2, .undef, .undef, .undef, .undef, .undef, .undef, .undef, .undef, .undef, .undef, .undef, .undef, .undef, .undef, .undef, .undef, .undef, .undef, .undef, .undef, .undef, .undef, .undef, .undef, .undef, .undef, .undef, .undef, .undef, .undef, .undef, .undef, .undef, .undef, .undef, .undef, .undef, .undef, .undef, .undef], loc := locOf [.row 0 true 5 v3, .row 0 true 3 v4], nx := 2 }
theorem spec_BitsBytes.eq (x0 : Int × (List Int)) : spec_BitsBytes x0 =
    (spec_BitsOk (x0.1, x0.2)).bind fun y1 =>
    bif !y1 then
      some ([] : List Int)
    else
      (spec_VarOf x0.1).bind fun y2 =>
      (spec_l01List (x0.1, x0.2)).bind fun y3 =>
      spec_BitsBytes_l0 (0 : Int) y2 y3 := by kernel_rfl
theorem spec_BitsBytes_l0.eq (v0 : Int) (v1 : List Int) (v2 : List Int) : spec_BitsBytes_l0 v0 v1 v2 =
    bif decide (v0 < (v2.length : Int)) then
      spec_BitsBytes_l1 v0 (0 : Int) (7 : Int) v1 v2
    else
      some v1 := (Lw_eq tysOk (getG_con (spec_BitsBytes.gok _)) _ _).trans (by kernel_rfl)
theorem spec_BitsBytes_l1.eq (v0 : Int) (v1 : Int) (v2 : Int) (v3 : List Int) (v4 : List Int) : spec_BitsBytes_l1 v0 v1 v2 v3 v4 =
    bif decide (v2 ≥ (0 : Int)) then
      bif decide (IntKind.i64.wrap (v0 + v2) < (v4.length : Int)) then
        (at? v4 (IntKind.i64.wrap (v0 + v2))).bind fun y1 =>
        v4[(IntKind.i64.wrap (v0 + v2)).toNat]?.bind fun y2 =>
        spec_BitsBytes_l1 v0 (IntKind.i64.wrap ((IntKind.i64.wrap ((2 : Int) * v1)) + y2)) (IntKind.i64.wrap (v2 - (1 : Int))) v3 v4
      else
        spec_BitsBytes_l1 v0 (IntKind.i64.wrap ((2 : Int) * v1)) (IntKind.i64.wrap (v2 - (1 : Int))) v3 v4
    else
      bif decide ((v3.length + ([IntKind.u8.wrap v1] : List Int).length) * 1 ≤ 140737488355328) then
        spec_BitsBytes_l0 (IntKind.i64.wrap (v0 + (8 : Int))) (v3 ++ ([IntKind.u8.wrap v1] : List Int)) v4
      else
        none := (Lw_eq tysOk (getG_con (spec_BitsBytes.gok _)) _ _).trans (by kernel_rfl)

/-! ### impl_BitsOk: loop.example/g00688/impl.BitsOk -/
def impl_BitsOk.ms : List Mode := [.lend]
def impl_BitsOk.as : List VSh := [.agg [.int .i64, .sl false false 103]]
def impl_BitsOk.rs : RSh := ⟨[.one (.b (.b (.b (.b (.bool)))))], [none]⟩
noncomputable def impl_BitsOk.gs (δ : Type) : List (Nat × Callee (GT tab) δ) := [(67, calleeS tab impl_within.ms impl_within.as impl_within.rs impl_within.fn)]
theorem impl_BitsOk.gok (δ : Type) : AllCon Try.prog tab (impl_BitsOk.gs δ) := .cons impl_within.con (.nil)
noncomputable def impl_BitsOk.c : Ctx (GT tab) (KT tab) (ResT tab impl_BitsOk.rs) := { X := XT tab, ty := tyOf tys, inner := fun _ => true, keep := keepOf 0 impl_BitsOk.ms, cuts := [], live := liveOf [], G := getG (impl_BitsOk.gs _) }
noncomputable def impl_BitsOk.b : Code := bodyOf Try.f77
noncomputable def impl_BitsOk (x0 : Int × (List Int)) : Option (Bool) := callW impl_BitsOk.c (fiOf (GT tab) Try.f77 impl_BitsOk.ms) impl_BitsOk.b (decRes tab impl_BitsOk.rs) (encArgs tab impl_BitsOk.as x0)
theorem impl_BitsOk.fok : FnOk Try.prog 77 Try.f77 impl_BitsOk.ms impl_BitsOk.b := ⟨Try.func77, by kernel_rfl, by kernel_rfl⟩
noncomputable def impl_BitsOk.fn : Args tab impl_BitsOk.as → Option (ResT tab impl_BitsOk.rs) := fun x => impl_BitsOk x
theorem impl_BitsOk.con {δ : Type} : Con Try.prog (KT tab) 77 (calleeS (β := δ) tab impl_BitsOk.ms impl_BitsOk.as impl_BitsOk.rs impl_BitsOk.fn) := con_shape (c := impl_BitsOk.c) mixed tysOk (getG_con (impl_BitsOk.gok _)) impl_BitsOk.fok rfl rfl (fun _ => rfl)
theorem impl_BitsOk.eq (x0 : Int × (List Int)) : impl_BitsOk x0 =
    (impl_within x0.1 (0 : Int) (5000 : Int)).bind fun y1 =>
    bif !y1 then
      some false
    else
      bif (x0.2.length : Int) != IntKind.i64.wrap ((IntKind.i64.wrap ((IntKind.i64.wrap (x0.1 + (64 : Int))) - (1 : Int))).tdiv (64 : Int)) then
        some false
      else
        bif x0.1.tmod (64 : Int) == (0 : Int) then
          some true
        else
          (at? x0.2 (IntKind.i64.wrap ((x0.2.length : Int) - (1 : Int)))).bind fun y2 =>
          bif decide (x0.1.tmod (64 : Int) < (0 : Int)) then
            none
          else
            some (y2.fdiv (2 ^ (min (x0.1.tmod (64 : Int)).toNat 64)) == (0 : Int)) := by kernel_rfl

/-! ### impl_VarOf: loop.example/g00688/impl.VarOf -/
def impl_VarOf.ms : List Mode := [.lend]
def impl_VarOf.as : List VSh := [.one (.b (.b (.b (.b (.int .i64)))))]
def impl_VarOf.rs : RSh := ⟨[.one (.b (.b (.b (.b (.sl true true 5)))))], [none]⟩
noncomputable def impl_VarOf.gs (δ : Type) : List (Nat × Callee (GT tab) δ) := [(67, calleeS tab impl_within.ms impl_within.as impl_within.rs impl_within.fn)]
theorem impl_VarOf.gok (δ : Type) : AllCon Try.prog tab (impl_VarOf.gs δ) := .cons impl_within.con (.nil)
noncomputable def impl_VarOf.c : Ctx (GT tab) (KT tab) (ResT tab impl_VarOf.rs) := { X := XT tab, ty := tyOf tys, inner := fun _ => true, keep := keepOf 0 impl_VarOf.ms, cuts := [], live := liveOf [(4, [0, 3])], G := getG (impl_VarOf.gs _) }
noncomputable def impl_VarOf.b : Code := bodyOf Try.f93
noncomputable def impl_VarOf (x0 : Int) : Option (List Int) := callW impl_VarOf.c (fiOf (GT tab) Try.f93 impl_VarOf.ms) impl_VarOf.b (decRes tab impl_VarOf.rs) (encArgs tab impl_VarOf.as x0)
theorem impl_VarOf.fok : FnOk Try.prog 93 Try.f93 impl_VarOf.ms impl_VarOf.b := ⟨Try.func93, by kernel_rfl, by kernel_rfl⟩
noncomputable def impl_VarOf.fn : Args tab impl_VarOf.as → Option (ResT tab impl_VarOf.rs) := fun x => impl_VarOf x
theorem impl_VarOf.con {δ : Type} : Con Try.prog (KT tab) 93 (calleeS (β := δ) tab impl_VarOf.ms impl_VarOf.as impl_VarOf.rs impl_VarOf.fn) := con_shape (c := impl_VarOf.c) mixed tysOk (getG_con (impl_VarOf.gok _)) impl_VarOf.fok rfl rfl (fun _ => rfl)
noncomputable def impl_VarOf_l0 (v0 : Int) (v1 : List Int) : Option (List Int) := Lw impl_VarOf.c (finish impl_VarOf.c (fiOf (GT tab) Try.f93 impl_VarOf.ms) (decRes tab impl_VarOf.rs)) ((loops impl_VarOf.c.cuts 1000 impl_VarOf.b []).getD 0 []) { slots := [.int .i64 v0, .undef, .undef, .sl 0 0, .undef, .undef, .undef, .undef, .undef, .undef, .undef, .undef, .undef, .undef, .undef, .undef, .undef, .undef, .undef, .undef, .undef, .undef, .undef], loc := locOf [.row 0 true 5 v1], nx := 1 }
theorem impl_VarOf.eq (x0 : Int) : impl_VarOf x0 =
    (impl_within x0 (0 : Int) (4294967295 : Int)).bind fun y1 =>
    bif !y1 then
      some ([] : List Int)
    else
      impl_VarOf_l0 x0 ([] : List Int) := by kernel_rfl
theorem impl_VarOf_l0.eq (v0 : Int) (v1 : List Int) : impl_VarOf_l0 v0 v1 =
    bif decide (v0 ≥ (128 : Int)) then
      bif decide ((v1.length + ([IntKind.u8.wrap (IntKind.i64.wrap (((BitVec.ofInt 64 (IntKind.i64.wrap (((BitVec.ofInt 64 v0) &&& (BitVec.ofInt 64 (127 : Int))).toNat : Int))) ||| (BitVec.ofInt 64 (128 : Int))).toNat : Int))] : List Int).length) * 1 ≤ 140737488355328) then
        impl_VarOf_l0 (v0.fdiv (2 ^ 7)) (v1 ++ ([IntKind.u8.wrap (IntKind.i64.wrap (((BitVec.ofInt 64 (IntKind.i64.wrap (((BitVec.ofInt 64 v0) &&& (BitVec.ofInt 64 (127 : Int))).toNat : Int))) ||| (BitVec.ofInt 64 (128 : Int))).toNat : Int))] : List Int))
      else
        none
    else
      bif decide ((v1.length + ([IntKind.u8.wrap v0] : List Int).length) * 1 ≤ 140737488355328) then
        some (v1 ++ ([IntKind.u8.wrap v0] : List Int))
      else
        none := (Lw_eq tysOk (getG_con (impl_VarOf.gok _)) _ _).trans (by kernel_rfl)

/-! ### laws_eqByteS: loop.example/g00688/laws.eqByteS -/
def laws_eqByteS.ms : List Mode := [.lend, .lend]
def laws_eqByteS.as : List VSh := [.one (.b (.b (.b (.b (.sl false false 5))))), .one (.b (.b (.b (.b (.sl false false 5)))))]
def laws_eqByteS.rs : RSh := ⟨[.one (.b (.b (.b (.b (.bool)))))], [none, none]⟩
noncomputable def laws_eqByteS.gs (δ : Type) : List (Nat × Callee (GT tab) δ) := []
theorem laws_eqByteS.gok (δ : Type) : AllCon Try.prog tab (laws_eqByteS.gs δ) := .nil
noncomputable def laws_eqByteS.c : Ctx (GT tab) (KT tab) (ResT tab laws_eqByteS.rs) := { X := XT tab, ty := tyOf tys, inner := fun _ => true, keep := keepOf 0 laws_eqByteS.ms, cuts := [], live := liveOf [(4, [0, 1, 5])], G := getG (laws_eqByteS.gs _) }
noncomputable def laws_eqByteS.b : Code := bodyOf Try.f41
noncomputable def laws_eqByteS (x0 : List Int) (x1 : List Int) : Option (Bool) := callW laws_eqByteS.c (fiOf (GT tab) Try.f41 laws_eqByteS.ms) laws_eqByteS.b (decRes tab laws_eqByteS.rs) (encArgs tab laws_eqByteS.as (x0, x1))
theorem laws_eqByteS.fok : FnOk Try.prog 41 Try.f41 laws_eqByteS.ms laws_eqByteS.b := ⟨Try.func41, by kernel_rfl, by kernel_rfl⟩
noncomputable def laws_eqByteS.fn : Args tab laws_eqByteS.as → Option (ResT tab laws_eqByteS.rs) := fun x => laws_eqByteS x.1 x.2
theorem laws_eqByteS.con {δ : Type} : Con Try.prog (KT tab) 41 (calleeS (β := δ) tab laws_eqByteS.ms laws_eqByteS.as laws_eqByteS.rs laws_eqByteS.fn) := con_shape (c := laws_eqByteS.c) mixed tysOk (getG_con (laws_eqByteS.gok _)) laws_eqByteS.fok rfl rfl (fun _ => rfl)
noncomputable def laws_eqByteS_l0 (v0 : List Int) (v1 : List Int) (v2 : Int) : Option (Bool) := Lw laws_eqByteS.c (finish laws_eqByteS.c (fiOf (GT tab) Try.f41 laws_eqByteS.ms) (decRes tab laws_eqByteS.rs)) ((loops laws_eqByteS.c.cuts 1000 laws_eqByteS.b []).getD 0 []) { slots := [.vs false 5 v0, .vs false 5 v1, .undef, .undef, .undef, .int .i64 v2, .undef, .undef, .undef, .undef, .undef, .undef, .undef, .undef, .undef, .undef, .undef, .undef, .undef, .undef, .undef, .undef, .undef, .undef, .undef, .undef], loc := locOf [], nx := 0 }
theorem laws_eqByteS.eq (x0 : List Int) (x1 : List Int) : laws_eqByteS x0 x1 =
    bif (x0.length : Int) != (x1.length : Int) then
      some false
    else
      laws_eqByteS_l0 x0 x1 (0 : Int) := by kernel_rfl
theorem laws_eqByteS_l0.eq (v0 : List Int) (v1 : List Int) (v2 : Int) : laws_eqByteS_l0 v0 v1 v2 =
    bif decide (v2 < (v0.length : Int)) then
      (at? v0 v2).bind fun y1 =>
      (at? v1 v2).bind fun y2 =>
      bif y1 != y2 then
        some false
      else
        laws_eqByteS_l0 v0 v1 (IntKind.i64.wrap (v2 + (1 : Int)))
    else
      some true := (Lw_eq tysOk (getG_con (laws_eqByteS.gok _)) _ _).trans (by kernel_rfl)

/-! ### laws_eqUint64S: loop.example/g00688/laws.eqUint64S -/
def laws_eqUint64S.ms : List Mode := [.lend, .lend]
def laws_eqUint64S.as : List VSh := [.one (.b (.b (.b (.b (.sl false false 103))))), .one (.b (.b (.b (.b (.sl false false 103)))))]
def laws_eqUint64S.rs : RSh := ⟨[.one (.b (.b (.b (.b (.bool)))))], [none, none]⟩
noncomputable def laws_eqUint64S.gs (δ : Type) : List (Nat × Callee (GT tab) δ) := []
theorem laws_eqUint64S.gok (δ : Type) : AllCon Try.prog tab (laws_eqUint64S.gs δ) := .nil
noncomputable def laws_eqUint64S.c : Ctx (GT tab) (KT tab) (ResT tab laws_eqUint64S.rs) := { X := XT tab, ty := tyOf tys, inner := fun _ => true, keep := keepOf 0 laws_eqUint64S.ms, cuts := [], live := liveOf [(4, [0, 1, 5])], G := getG (laws_eqUint64S.gs _) }
noncomputable def laws_eqUint64S.b : Code := bodyOf Try.f79
noncomputable def laws_eqUint64S (x0 : List Int) (x1 : List Int) : Option (Bool) := callW laws_eqUint64S.c (fiOf (GT tab) Try.f79 laws_eqUint64S.ms) laws_eqUint64S.b (decRes tab laws_eqUint64S.rs) (encArgs tab laws_eqUint64S.as (x0, x1))
theorem laws_eqUint64S.fok : FnOk Try.prog 79 Try.f79 laws_eqUint64S.ms laws_eqUint64S.b := ⟨Try.func79, by kernel_rfl, by kernel_rfl⟩
noncomputable def laws_eqUint64S.fn : Args tab laws_eqUint64S.as → Option (ResT tab laws_eqUint64S.rs) := fun x => laws_eqUint64S x.1 x.2
theorem laws_eqUint64S.con {δ : Type} : Con Try.prog (KT tab) 79 (calleeS (β := δ) tab laws_eqUint64S.ms laws_eqUint64S.as laws_eqUint64S.rs laws_eqUint64S.fn) := con_shape (c := laws_eqUint64S.c) mixed tysOk (getG_con (laws_eqUint64S.gok _)) laws_eqUint64S.fok rfl rfl (fun _ => rfl)
noncomputable def laws_eqUint64S_l0 (v0 : List Int) (v1 : List Int) (v2 : Int) : Option (Bool) := Lw laws_eqUint64S.c (finish laws_eqUint64S.c (fiOf (GT tab) Try.f79 laws_eqUint64S.ms) (decRes tab laws_eqUint64S.rs)) ((loops laws_eqUint64S.c.cuts 1000 laws_eqUint64S.b []).getD 0 []) { slots := [.vs false 103 v0, .vs false 103 v1, .undef, .undef, .undef, .int .i64 v2, .undef, .undef, .undef, .undef, .undef, .undef, .undef, .undef, .undef, .undef, .undef, .undef, .undef, .undef, .undef, .undef, .undef, .undef, .undef, .undef], loc := locOf [], nx := 0 }
theorem laws_eqUint64S.eq (x0 : List Int) (x1 : List Int) : laws_eqUint64S x0 x1 =
    bif (x0.length : Int) != (x1.length : Int) then
      some false
    else
      laws_eqUint64S_l0 x0 x1 (0 : Int) := by kernel_rfl
theorem laws_eqUint64S_l0.eq (v0 : List Int) (v1 : List Int) (v2 : Int) : laws_eqUint64S_l0 v0 v1 v2 =
    bif decide (v2 < (v0.length : Int)) then
      (at? v0 v2).bind fun y1 =>
      (at? v1 v2).bind fun y2 =>
      bif y1 != y2 then
        some false
      else
        laws_eqUint64S_l0 v0 v1 (IntKind.i64.wrap (v2 + (1 : Int)))
    else
      some true := (Lw_eq tysOk (getG_con (laws_eqUint64S.gok _)) _ _).trans (by kernel_rfl)

/-! ### laws_eqBits: loop.example/g00688/laws.eqBits -/
def laws_eqBits.ms : List Mode := [.lend, .lend]
def laws_eqBits.as : List VSh := [.agg [.int .i64, .sl false false 103], .agg [.int .i64, .sl false false 103]]
def laws_eqBits.rs : RSh := ⟨[.one (.b (.b (.b (.b (.bool)))))], [none, none]⟩
noncomputable def laws_eqBits.gs (δ : Type) : List (Nat × Callee (GT tab) δ) := [(79, calleeS tab laws_eqUint64S.ms laws_eqUint64S.as laws_eqUint64S.rs laws_eqUint64S.fn)]
theorem laws_eqBits.gok (δ : Type) : AllCon Try.prog tab (laws_eqBits.gs δ) := .cons laws_eqUint64S.con (.nil)
noncomputable def laws_eqBits.c : Ctx (GT tab) (KT tab) (ResT tab laws_eqBits.rs) := { X := XT tab, ty := tyOf tys, inner := fun _ => true, keep := keepOf 0 laws_eqBits.ms, cuts := [], live := liveOf [], G := getG (laws_eqBits.gs _) }
noncomputable def laws_eqBits.b : Code := bodyOf Try.f42
noncomputable def laws_eqBits (x0 : Int × (List Int)) (x1 : Int × (List Int)) : Option (Bool) := callW laws_eqBits.c (fiOf (GT tab) Try.f42 laws_eqBits.ms) laws_eqBits.b (decRes tab laws_eqBits.rs) (encArgs tab laws_eqBits.as (x0, x1))
theorem laws_eqBits.fok : FnOk Try.prog 42 Try.f42 laws_eqBits.ms laws_eqBits.b := ⟨Try.func42, by kernel_rfl, by kernel_rfl⟩
noncomputable def laws_eqBits.fn : Args tab laws_eqBits.as → Option (ResT tab laws_eqBits.rs) := fun x => laws_eqBits x.1 x.2
theorem laws_eqBits.con {δ : Type} : Con Try.prog (KT tab) 42 (calleeS (β := δ) tab laws_eqBits.ms laws_eqBits.as laws_eqBits.rs laws_eqBits.fn) := con_shape (c := laws_eqBits.c) mixed tysOk (getG_con (laws_eqBits.gok _)) laws_eqBits.fok rfl rfl (fun _ => rfl)
theorem laws_eqBits.eq (x0 : Int × (List Int)) (x1 : Int × (List Int)) : laws_eqBits x0 x1 =
    bif x0.1 != x1.1 then
      some false
    else
      (laws_eqUint64S x0.2 x1.2).bind fun y1 =>
      bif !y1 then
        some false
      else
        some true := by kernel_rfl

/-! ### laws_markUint64S: loop.example/g00688/laws.markUint64S -/
def laws_markUint64S.ms : List Mode := [.keep, .lend]
def laws_markUint64S.as : List VSh := [.one (.b (.b (.b (.b (.sl true true 103))))), .one (.b (.b (.b (.b (.int .i64)))))]
def laws_markUint64S.rs : RSh := ⟨[.one (.b (.b (.b (.b (.int .i64)))))], [some (.one (.b (.b (.b (.b (.sl true true 103)))))), none]⟩
noncomputable def laws_markUint64S.gs (δ : Type) : List (Nat × Callee (GT tab) δ) := []
theorem laws_markUint64S.gok (δ : Type) : AllCon Try.prog tab (laws_markUint64S.gs δ) := .nil
noncomputable def laws_markUint64S.c : Ctx (GT tab) (KT tab) (ResT tab laws_markUint64S.rs) := { X := XT tab, ty := tyOf tys, inner := fun _ => true, keep := keepOf 0 laws_markUint64S.ms, cuts := [], live := liveOf [(2, [0, 1, 5])], G := getG (laws_markUint64S.gs _) }
noncomputable def laws_markUint64S.b : Code := bodyOf Try.f80
noncomputable def laws_markUint64S (x0 : List Int) (x1 : Int) : Option (Int × (List Int)) := callW laws_markUint64S.c (fiOf (GT tab) Try.f80 laws_markUint64S.ms) laws_markUint64S.b (decRes tab laws_markUint64S.rs) (encArgs tab laws_markUint64S.as (x0, x1))
theorem laws_markUint64S.fok : FnOk Try.prog 80 Try.f80 laws_markUint64S.ms laws_markUint64S.b := ⟨Try.func80, by kernel_rfl, by kernel_rfl⟩
noncomputable def laws_markUint64S.fn : Args tab laws_markUint64S.as → Option (ResT tab laws_markUint64S.rs) := fun x => laws_markUint64S x.1 x.2
theorem laws_markUint64S.con {δ : Type} : Con Try.prog (KT tab) 80 (calleeS (β := δ) tab laws_markUint64S.ms laws_markUint64S.as laws_markUint64S.rs laws_markUint64S.fn) := con_shape (c := laws_markUint64S.c) mixed tysOk (getG_con (laws_markUint64S.gok _)) laws_markUint64S.fok rfl rfl (fun _ => rfl)
noncomputable def laws_markUint64S_l0 (v0 : Int) (v1 : Int) (v2 : List Int) : Option (Int × (List Int)) := Lw laws_markUint64S.c (finish laws_markUint64S.c (fiOf (GT tab) Try.f80 laws_markUint64S.ms) (decRes tab laws_markUint64S.rs)) ((loops laws_markUint64S.c.cuts 1000 laws_markUint64S.b []).getD 0 []) { slots := [.sl 0 0, .int .i64 v0, .undef, .undef, .undef, .int .i64 v1, .undef, .undef, .undef, .undef, .undef, .undef, .undef, .undef, .undef, .undef, .undef, .undef, .undef, .undef], loc := locOf [.row 0 true 103 v2], nx := 1 }
theorem laws_markUint64S.eq (x0 : List Int) (x1 : Int) : laws_markUint64S x0 x1 =
    laws_markUint64S_l0 x1 (0 : Int) x0 := by kernel_rfl
theorem laws_markUint64S_l0.eq (v0 : Int) (v1 : Int) (v2 : List Int) : laws_markUint64S_l0 v0 v1 v2 =
    bif decide (v1 < (v2.length : Int)) then
      (at? v2 v1).bind fun y1 =>
      v2[v1.toNat]?.bind fun y2 =>
      laws_markUint64S_l0 (IntKind.i64.wrap (v0 + (1 : Int))) (IntKind.i64.wrap (v1 + (1 : Int))) (v2.set v1.toNat (IntKind.u64.wrap v0))
    else
      some (v0, v2) := (Lw_eq tysOk (getG_con (laws_markUint64S.gok _)) _ _).trans (by kernel_rfl)

/-! ### laws_markBits: loop.example/g00688/laws.markBits -/
def laws_markBits.ms : List Mode := [.keep, .lend]
def laws_markBits.as : List VSh := [.agg [.int .i64, .sl true true 103], .one (.b (.b (.b (.b (.int .i64)))))]
def laws_markBits.rs : RSh := ⟨[.one (.b (.b (.b (.b (.int .i64)))))], [some (.agg [.int .i64, .sl true true 103]), none]⟩
noncomputable def laws_markBits.gs (δ : Type) : List (Nat × Callee (GT tab) δ) := [(80, calleeS tab laws_markUint64S.ms laws_markUint64S.as laws_markUint64S.rs laws_markUint64S.fn)]
theorem laws_markBits.gok (δ : Type) : AllCon Try.prog tab (laws_markBits.gs δ) := .cons laws_markUint64S.con (.nil)
noncomputable def laws_markBits.c : Ctx (GT tab) (KT tab) (ResT tab laws_markBits.rs) := { X := XT tab, ty := tyOf tys, inner := fun _ => true, keep := keepOf 0 laws_markBits.ms, cuts := [], live := liveOf [], G := getG (laws_markBits.gs _) }
noncomputable def laws_markBits.b : Code := bodyOf Try.f43
noncomputable def laws_markBits (x0 : Int × (List Int)) (x1 : Int) : Option (Int × (Int × (List Int))) := callW laws_markBits.c (fiOf (GT tab) Try.f43 laws_markBits.ms) laws_markBits.b (decRes tab laws_markBits.rs) (encArgs tab laws_markBits.as (x0, x1))
theorem laws_markBits.fok : FnOk Try.prog 43 Try.f43 laws_markBits.ms laws_markBits.b := ⟨Try.func43, by kernel_rfl, by kernel_rfl⟩
noncomputable def laws_markBits.fn : Args tab laws_markBits.as → Option (ResT tab laws_markBits.rs) := fun x => laws_markBits x.1 x.2
theorem laws_markBits.con {δ : Type} : Con Try.prog (KT tab) 43 (calleeS (β := δ) tab laws_markBits.ms laws_markBits.as laws_markBits.rs laws_markBits.fn) := con_shape (c := laws_markBits.c) mixed tysOk (getG_con (laws_markBits.gok _)) laws_markBits.fok rfl rfl (fun _ => rfl)
theorem laws_markBits.eq (x0 : Int × (List Int)) (x1 : Int) : laws_markBits x0 x1 =
    (laws_markUint64S x0.2 x1).bind fun y1 =>
    some (y1.1, (x0.1, y1.2)) := by kernel_rfl

/-! ### laws_markByteS: loop.example/g00688/laws.markByteS -/
def laws_markByteS.ms : List Mode := [.keep, .lend]
def laws_markByteS.as : List VSh := [.one (.b (.b (.b (.b (.sl true true 5))))), .one (.b (.b (.b (.b (.int .i64)))))]
def laws_markByteS.rs : RSh := ⟨[.one (.b (.b (.b (.b (.int .i64)))))], [some (.one (.b (.b (.b (.b (.sl true true 5)))))), none]⟩
noncomputable def laws_markByteS.gs (δ : Type) : List (Nat × Callee (GT tab) δ) := []
theorem laws_markByteS.gok (δ : Type) : AllCon Try.prog tab (laws_markByteS.gs δ) := .nil
noncomputable def laws_markByteS.c : Ctx (GT tab) (KT tab) (ResT tab laws_markByteS.rs) := { X := XT tab, ty := tyOf tys, inner := fun _ => true, keep := keepOf 0 laws_markByteS.ms, cuts := [], live := liveOf [(2, [0, 1, 5])], G := getG (laws_markByteS.gs _) }
noncomputable def laws_markByteS.b : Code := bodyOf Try.f44
noncomputable def laws_markByteS (x0 : List Int) (x1 : Int) : Option (Int × (List Int)) := callW laws_markByteS.c (fiOf (GT tab) Try.f44 laws_markByteS.ms) laws_markByteS.b (decRes tab laws_markByteS.rs) (encArgs tab laws_markByteS.as (x0, x1))
theorem laws_markByteS.fok : FnOk Try.prog 44 Try.f44 laws_markByteS.ms laws_markByteS.b := ⟨Try.func44, by kernel_rfl, by kernel_rfl⟩
noncomputable def laws_markByteS.fn : Args tab laws_markByteS.as → Option (ResT tab laws_markByteS.rs) := fun x => laws_markByteS x.1 x.2
theorem laws_markByteS.con {δ : Type} : Con Try.prog (KT tab) 44 (calleeS (β := δ) tab laws_markByteS.ms laws_markByteS.as laws_markByteS.rs laws_markByteS.fn) := con_shape (c := laws_markByteS.c) mixed tysOk (getG_con (laws_markByteS.gok _)) laws_markByteS.fok rfl rfl (fun _ => rfl)
noncomputable def laws_markByteS_l0 (v0 : Int) (v1 : Int) (v2 : List Int) : Option (Int × (List Int)) := Lw laws_markByteS.c (finish laws_markByteS.c (fiOf (GT tab) Try.f44 laws_markByteS.ms) (decRes tab laws_markByteS.rs)) ((loops laws_markByteS.c.cuts 1000 laws_markByteS.b []).getD 0 []) { slots := [.sl 0 0, .int .i64 v0, .undef, .undef, .undef, .int .i64 v1, .undef, .undef, .undef, .undef, .undef, .undef, .undef, .undef, .undef, .undef, .undef, .undef, .undef, .undef], loc := locOf [.row 0 true 5 v2], nx := 1 }
theorem laws_markByteS.eq (x0 : List Int) (x1 : Int) : laws_markByteS x0 x1 =
    laws_markByteS_l0 x1 (0 : Int) x0 := by kernel_rfl
theorem laws_markByteS_l0.eq (v0 : Int) (v1 : Int) (v2 : List Int) : laws_markByteS_l0 v0 v1 v2 =
    bif decide (v1 < (v2.length : Int)) then
      (at? v2 v1).bind fun y1 =>
      v2[v1.toNat]?.bind fun y2 =>
      laws_markByteS_l0 (IntKind.i64.wrap (v0 + (1 : Int))) (IntKind.i64.wrap (v1 + (1 : Int))) (v2.set v1.toNat (IntKind.u8.wrap v0))
    else
      some (v0, v2) := (Lw_eq tysOk (getG_con (laws_markByteS.gok _)) _ _).trans (by kernel_rfl)

end Go.Ev.W
