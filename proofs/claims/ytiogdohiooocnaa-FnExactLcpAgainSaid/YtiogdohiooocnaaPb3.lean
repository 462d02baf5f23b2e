/- What functions of the program come to. -/
import Derived.Test.YtiogdohiooocnaaPbT
import Derived.Test.YtiogdohiooocnaaPb6
namespace Go.Ev.W
open Go.Ev Go.Proofs
set_option maxRecDepth 100000
set_option linter.unusedVariables false

/-! ### spec_l01List: loop.example/g00688/spec.l01List -/
def spec_l01List.ms : List Mode := [.lend]
def spec_l01List.as : List VSh := [.agg [.int .i64, .sl false false 117]]
def spec_l01List.rs : RSh := ⟨[.one (.b (.b (.b (.b (.sl true true 3)))))], [none]⟩
noncomputable def spec_l01List.gs (δ : Type) : List (Nat × Callee (GT tab) δ) := []
theorem spec_l01List.gok (δ : Type) : AllCon Try.prog tab (spec_l01List.gs δ) := .nil
noncomputable def spec_l01List.c : Ctx (GT tab) (KT tab) (ResT tab spec_l01List.rs) := { X := XT tab, ty := tyOf tys, inner := fun _ => true, keep := keepOf 0 spec_l01List.ms, cuts := [], live := liveOf [(3, [1, 3, 4]), (7, [1, 3, 4, 5, 6])], G := getG (spec_l01List.gs _) }
noncomputable def spec_l01List.b : Code := bodyOf Try.f92
noncomputable def spec_l01List (x0 : Int × (List Int)) : Option (List Int) := callW spec_l01List.c (fiOf (GT tab) Try.f92 spec_l01List.ms) spec_l01List.b (decRes tab spec_l01List.rs) (encArgs tab spec_l01List.as x0)
theorem spec_l01List.fok : FnOk Try.prog 92 Try.f92 spec_l01List.ms spec_l01List.b := ⟨Try.func92, by kernel_rfl, by kernel_rfl⟩
noncomputable def spec_l01List.fn : Args tab spec_l01List.as → Option (ResT tab spec_l01List.rs) := fun x => spec_l01List x
theorem spec_l01List.con {δ : Type} : Con Try.prog (KT tab) 92 (calleeS (β := δ) tab spec_l01List.ms spec_l01List.as spec_l01List.rs spec_l01List.fn) := con_shape (c := spec_l01List.c) mixed tysOk (getG_con (spec_l01List.gok _)) spec_l01List.fok rfl rfl (fun _ => rfl)
noncomputable def spec_l01List_l0 (v0 : Int) (v1 : Int) (v2 : List Int) (v3 : List Int) : Option (List Int) := Lw spec_l01List.c (finish spec_l01List.c (fiOf (GT tab) Try.f92 spec_l01List.ms) (decRes tab spec_l01List.rs)) ((loops spec_l01List.c.cuts 1000 spec_l01List.b []).getD 0 []) { slots := [.undef, .ptr 0 0, .undef, .sl 1 0, .int .i64 v0, .undef, .undef, .undef, .undef, .undef, .undef, .undef, .undef, .undef, .undef, .undef, .undef, .undef, .undef, .undef, .undef, .undef, .undef, .undef, .undef, .undef, .undef, .undef, .undef, .undef, .undef, .undef, .undef, .undef, .undef], loc := locOf [.box 51 [.int .i64 v1, .vs false 117 v2], .row 0 true 3 v3], nx := 2 }
noncomputable def spec_l01List_l1 (v0 : Int) (v1 : Int) (v2 : Int) (v3 : Int) (v4 : List Int) (v5 : List Int) : Option (List Int) := Lw spec_l01List.c (finish spec_l01List.c (fiOf (GT tab) Try.f92 spec_l01List.ms) (decRes tab spec_l01List.rs)) ((loops spec_l01List.c.cuts 1000 spec_l01List.b []).getD 1 []) { slots := [.undef, .ptr 0 0, .undef, .sl 1 0, .int .i64 v0, .int .u64 v1, .int .i64 v2, .undef, .undef, .undef, .undef, .undef, .undef, .undef, .undef, .undef, .undef, .undef, .undef, .undef, .undef, .undef, .undef, .undef, .undef, .undef, .undef, .undef, .undef, .undef, .undef, .undef, .undef, .undef, .undef], loc := locOf [.box 51 [.int .i64 v3, .vs false 117 v4], .row 0 true 3 v5], nx := 2 }
theorem spec_l01List.eq (x0 : Int × (List Int)) : spec_l01List x0 =
    spec_l01List_l0 (0 : Int) x0.1 x0.2 ([] : List Int) := by kernel_rfl
theorem spec_l01List_l0.eq (v0 : Int) (v1 : Int) (v2 : List Int) (v3 : List Int) : spec_l01List_l0 v0 v1 v2 v3 =
    bif decide (v0 < v1) then
      (at? v2 (IntKind.i64.wrap (v0.tdiv (64 : Int)))).bind fun y1 =>
      spec_l01List_l1 v0 y1 (v0.tmod (64 : Int)) v1 v2 v3
    else
      some v3 := (Lw_eq tysOk (getG_con (spec_l01List.gok _)) _ _).trans (by kernel_rfl)
theorem spec_l01List_l1.eq (v0 : Int) (v1 : Int) (v2 : Int) (v3 : Int) (v4 : List Int) (v5 : List Int) : spec_l01List_l1 v0 v1 v2 v3 v4 v5 =
    bif decide (v2 > (0 : Int)) then
      spec_l01List_l1 v0 (IntKind.u64.wrap (v1.tdiv (2 : Int))) (IntKind.i64.wrap (v2 - (1 : Int))) v3 v4 v5
    else
      bif decide ((v5.length + ([IntKind.i64.wrap (v1.tmod (2 : Int))] : List Int).length) * 8 ≤ 140737488355328) then
        spec_l01List_l0 (IntKind.i64.wrap (v0 + (1 : Int))) v3 v4 (v5 ++ ([IntKind.i64.wrap (v1.tmod (2 : Int))] : List Int))
      else
        none := (Lw_eq tysOk (getG_con (spec_l01List.gok _)) _ _).trans (by kernel_rfl)

/-! ### spec_l01Power: loop.example/g00688/spec.l01Power -/
def spec_l01Power.ms : List Mode := [.lend]
def spec_l01Power.as : List VSh := [.one (.b (.b (.b (.b (.int .i64)))))]
def spec_l01Power.rs : RSh := ⟨[.one (.b (.b (.b (.b (.int .u64)))))], [none]⟩
noncomputable def spec_l01Power.gs (δ : Type) : List (Nat × Callee (GT tab) δ) := []
theorem spec_l01Power.gok (δ : Type) : AllCon Try.prog tab (spec_l01Power.gs δ) := .nil
noncomputable def spec_l01Power.c : Ctx (GT tab) (KT tab) (ResT tab spec_l01Power.rs) := { X := XT tab, ty := tyOf tys, inner := fun _ => true, keep := keepOf 0 spec_l01Power.ms, cuts := [], live := liveOf [(2, [0, 3])], G := getG (spec_l01Power.gs _) }
noncomputable def spec_l01Power.b : Code := bodyOf Try.f149
noncomputable def spec_l01Power (x0 : Int) : Option (Int) := callW spec_l01Power.c (fiOf (GT tab) Try.f149 spec_l01Power.ms) spec_l01Power.b (decRes tab spec_l01Power.rs) (encArgs tab spec_l01Power.as x0)
theorem spec_l01Power.fok : FnOk Try.prog 149 Try.f149 spec_l01Power.ms spec_l01Power.b := ⟨Try.func149, by kernel_rfl, by kernel_rfl⟩
noncomputable def spec_l01Power.fn : Args tab spec_l01Power.as → Option (ResT tab spec_l01Power.rs) := fun x => spec_l01Power x
theorem spec_l01Power.con {δ : Type} : Con Try.prog (KT tab) 149 (calleeS (β := δ) tab spec_l01Power.ms spec_l01Power.as spec_l01Power.rs spec_l01Power.fn) := con_shape (c := spec_l01Power.c) mixed tysOk (getG_con (spec_l01Power.gok _)) spec_l01Power.fok rfl rfl (fun _ => rfl)
noncomputable def spec_l01Power_l0 (v0 : Int) (v1 : Int) : Option (Int) := Lw spec_l01Power.c (finish spec_l01Power.c (fiOf (GT tab) Try.f149 spec_l01Power.ms) (decRes tab spec_l01Power.rs)) ((loops spec_l01Power.c.cuts 1000 spec_l01Power.b []).getD 0 []) { slots := [.int .i64 v0, .undef, .undef, .int .u64 v1, .undef, .undef, .undef, .undef, .undef, .undef, .undef], loc := locOf [], nx := 0 }
theorem spec_l01Power.eq (x0 : Int) : spec_l01Power x0 =
    spec_l01Power_l0 x0 (1 : Int) := by kernel_rfl
theorem spec_l01Power_l0.eq (v0 : Int) (v1 : Int) : spec_l01Power_l0 v0 v1 =
    bif decide (v0 > (0 : Int)) then
      spec_l01Power_l0 (IntKind.i64.wrap (v0 - (1 : Int))) (IntKind.u64.wrap ((2 : Int) * v1))
    else
      some v1 := (Lw_eq tysOk (getG_con (spec_l01Power.gok _)) _ _).trans (by kernel_rfl)

/-! ### spec_BitsOf: loop.example/g00688/spec.BitsOf -/
def spec_BitsOf.ms : List Mode := [.lend]
def spec_BitsOf.as : List VSh := [.one (.b (.b (.b (.b (.sl false false 3)))))]
def spec_BitsOf.rs : RSh := ⟨[.agg [.int .i64, .sl true true 117], .one (.b (.b (.b (.b (.bool)))))], [none]⟩
noncomputable def spec_BitsOf.gs (δ : Type) : List (Nat × Callee (GT tab) δ) := [(149, calleeS tab spec_l01Power.ms spec_l01Power.as spec_l01Power.rs spec_l01Power.fn)]
theorem spec_BitsOf.gok (δ : Type) : AllCon Try.prog tab (spec_BitsOf.gs δ) := .cons spec_l01Power.con (.nil)
noncomputable def spec_BitsOf.c : Ctx (GT tab) (KT tab) (ResT tab spec_BitsOf.rs) := { X := XT tab, ty := tyOf tys, inner := fun _ => true, keep := keepOf 0 spec_BitsOf.ms, cuts := [9], live := liveOf [(5, [0, 2, 4, 5]), (9, [0, 2, 4, 5])], G := getG (spec_BitsOf.gs _) }
noncomputable def spec_BitsOf.b : Code := bodyOf Try.f91
noncomputable def spec_BitsOf (x0 : List Int) : Option ((Int × (List Int)) × Bool) := callW spec_BitsOf.c (fiOf (GT tab) Try.f91 spec_BitsOf.ms) spec_BitsOf.b (decRes tab spec_BitsOf.rs) (encArgs tab spec_BitsOf.as x0)
theorem spec_BitsOf.fok : FnOk Try.prog 91 Try.f91 spec_BitsOf.ms spec_BitsOf.b := ⟨Try.func91, by kernel_rfl, by kernel_rfl⟩
noncomputable def spec_BitsOf.fn : Args tab spec_BitsOf.as → Option (ResT tab spec_BitsOf.rs) := fun x => spec_BitsOf x
theorem spec_BitsOf.con {δ : Type} : Con Try.prog (KT tab) 91 (calleeS (β := δ) tab spec_BitsOf.ms spec_BitsOf.as spec_BitsOf.rs spec_BitsOf.fn) := con_shape (c := spec_BitsOf.c) mixed tysOk (getG_con (spec_BitsOf.gok _)) spec_BitsOf.fok rfl rfl (fun _ => rfl)
noncomputable def spec_BitsOf_l0 (v0 : List Int) (v1 : Int) (v2 : Int) (v3 : List Int) (v4 : Int) (v5 : List Int) : Option ((Int × (List Int)) × Bool) := Lw spec_BitsOf.c (finish spec_BitsOf.c (fiOf (GT tab) Try.f91 spec_BitsOf.ms) (decRes tab spec_BitsOf.rs)) ((loops spec_BitsOf.c.cuts 1000 spec_BitsOf.b []).getD 0 []) { slots := [.vs false 3 v0, .undef, .ptr 0 0, .undef, .ptr 2 0, .int .i64 v1, .undef, .undef, .undef, .undef, .undef, .undef, .undef, .undef, .undef, .undef, .undef, .undef, .undef, .undef, .undef, .undef, .undef, .undef, .undef, .undef, .undef, .undef, .undef, .undef, .undef, .undef, .undef, .undef, .undef, .undef, .undef, .undef, .undef, .undef, .undef, .undef, .undef, .undef, .undef, .undef, .undef, .undef, .undef, .undef, .undef, .undef, .undef, .undef, .undef, .undef, .undef, .undef, .undef, .undef, .undef], loc := locOf [.box 51 [.int .i64 v2, .sl 1 0], .row 0 true 117 v3, .box 51 [.int .i64 v4, .sl 3 0], .row 0 true 117 v5], nx := 4 }
noncomputable def spec_BitsOf_l1 (v0 : List Int) (v1 : Int) (v2 : Int) (v3 : List Int) (v4 : Int) (v5 : List Int) : Option ((Int × (List Int)) × Bool) := Lw spec_BitsOf.c (finish spec_BitsOf.c (fiOf (GT tab) Try.f91 spec_BitsOf.ms) (decRes tab spec_BitsOf.rs)) ((loops spec_BitsOf.c.cuts 1000 spec_BitsOf.b []).getD 1 []) { slots := [.vs false 3 v0, .undef, .ptr 0 0, .undef, .ptr 2 0, .int .i64 v1, .undef, .undef, .undef, .undef, .undef, .undef, .undef, .undef, .undef, .undef, .undef, .undef, .undef, .undef, .undef, .undef, .undef, .undef, .undef, .undef, .undef, .undef, .undef, .undef, .undef, .undef, .undef, .undef, .undef, .undef, .undef, .undef, .undef, .undef, .undef, .undef, .undef, .undef, .undef, .undef, .undef, .undef, .undef, .undef, .undef, .undef, .undef, .undef, .undef, .undef, .undef, .undef, .undef, .undef, .undef], loc := locOf [.box 51 [.int .i64 v2, .sl 1 0], .row 0 true 117 v3, .box 51 [.int .i64 v4, .sl 3 0], .row 0 true 117 v5], nx := 4 }
theorem spec_BitsOf.eq (x0 : List Int) : spec_BitsOf x0 =
    bif decide ((x0.length : Int) > (5000 : Int)) then
      some (((0 : Int), ([] : List Int)), false)
    else
      spec_BitsOf_l0 x0 (0 : Int) (0 : Int) ([] : List Int) (x0.length : Int) ([] : List Int) := by kernel_rfl
theorem spec_BitsOf_l0.eq (v0 : List Int) (v1 : Int) (v2 : Int) (v3 : List Int) (v4 : Int) (v5 : List Int) : spec_BitsOf_l0 v0 v1 v2 v3 v4 v5 =
    bif decide (v1 < (v0.length : Int)) then
      (at? v0 v1).bind fun y1 =>
      bif y1 != (0 : Int) then
        (at? v0 v1).bind fun y2 =>
        bif y2 != (1 : Int) then
          some (((0 : Int), ([] : List Int)), false)
        else
          spec_BitsOf_l1 v0 v1 v2 v3 v4 v5
      else
        spec_BitsOf_l1 v0 v1 v2 v3 v4 v5
    else
      some ((v4, v5), true) := (Lw_eq tysOk (getG_con (spec_BitsOf.gok _)) _ _).trans (by kernel_rfl)
theorem spec_BitsOf_l1.eq (v0 : List Int) (v1 : Int) (v2 : Int) (v3 : List Int) (v4 : Int) (v5 : List Int) : spec_BitsOf_l1 v0 v1 v2 v3 v4 v5 =
    bif v1.tmod (64 : Int) == (0 : Int) then
      bif decide ((v5.length + ([(0 : Int)] : List Int).length) * 8 ≤ 140737488355328) then
        (at? v0 v1).bind fun y1 =>
        bif y1 == (1 : Int) then
          (at? (v5 ++ ([(0 : Int)] : List Int)) (IntKind.i64.wrap (v1.tdiv (64 : Int)))).bind fun y2 =>
          (v5 ++ ([(0 : Int)] : List Int))[(IntKind.i64.wrap (v1.tdiv (64 : Int))).toNat]?.bind fun y3 =>
          (spec_l01Power (v1.tmod (64 : Int))).bind fun y4 =>
          (at? (v5 ++ ([(0 : Int)] : List Int)) (IntKind.i64.wrap (v1.tdiv (64 : Int)))).bind fun y5 =>
          (v5 ++ ([(0 : Int)] : List Int))[(IntKind.i64.wrap (v1.tdiv (64 : Int))).toNat]?.bind fun y6 =>
          spec_BitsOf_l0 v0 (IntKind.i64.wrap (v1 + (1 : Int))) v2 v3 v4 ((v5 ++ ([(0 : Int)] : List Int)).set ((IntKind.i64.wrap (v1.tdiv (64 : Int))).toNat) (IntKind.u64.wrap (y3 + y4)))
        else
          spec_BitsOf_l0 v0 (IntKind.i64.wrap (v1 + (1 : Int))) v2 v3 v4 (v5 ++ ([(0 : Int)] : List Int))
      else
        none
    else
      (at? v0 v1).bind fun y7 =>
      bif y7 == (1 : Int) then
        (at? v5 (IntKind.i64.wrap (v1.tdiv (64 : Int)))).bind fun y8 =>
        v5[(IntKind.i64.wrap (v1.tdiv (64 : Int))).toNat]?.bind fun y9 =>
        (spec_l01Power (v1.tmod (64 : Int))).bind fun y10 =>
        (at? v5 (IntKind.i64.wrap (v1.tdiv (64 : Int)))).bind fun y11 =>
        v5[(IntKind.i64.wrap (v1.tdiv (64 : Int))).toNat]?.bind fun y12 =>
        spec_BitsOf_l0 v0 (IntKind.i64.wrap (v1 + (1 : Int))) v2 v3 v4 (v5.set ((IntKind.i64.wrap (v1.tdiv (64 : Int))).toNat) (IntKind.u64.wrap (y9 + y10)))
      else
        spec_BitsOf_l0 v0 (IntKind.i64.wrap (v1 + (1 : Int))) v2 v3 v4 v5 := (Lw_eq tysOk (getG_con (spec_BitsOf.gok _)) _ _).trans (by kernel_rfl)

/-! ### spec_BitsOk: loop.example/g00688/spec.BitsOk -/
def spec_BitsOk.ms : List Mode := [.lend]
def spec_BitsOk.as : List VSh := [.agg [.int .i64, .sl false false 117]]
def spec_BitsOk.rs : RSh := ⟨[.one (.b (.b (.b (.b (.bool)))))], [none]⟩
noncomputable def spec_BitsOk.gs (δ : Type) : List (Nat × Callee (GT tab) δ) := [(91, calleeS tab spec_BitsOf.ms spec_BitsOf.as spec_BitsOf.rs spec_BitsOf.fn), (92, calleeS tab spec_l01List.ms spec_l01List.as spec_l01List.rs spec_l01List.fn)]
theorem spec_BitsOk.gok (δ : Type) : AllCon Try.prog tab (spec_BitsOk.gs δ) := .cons spec_BitsOf.con (.cons spec_l01List.con (.nil))
noncomputable def spec_BitsOk.c : Ctx (GT tab) (KT tab) (ResT tab spec_BitsOk.rs) := { X := XT tab, ty := tyOf tys, inner := fun _ => true, keep := keepOf 0 spec_BitsOk.ms, cuts := [3], live := liveOf [(3, [1]), (5, [1, 3, 5])], G := getG (spec_BitsOk.gs _) }
noncomputable def spec_BitsOk.b : Code := bodyOf Try.f37
noncomputable def spec_BitsOk (x0 : Int × (List Int)) : Option (Bool) := callW spec_BitsOk.c (fiOf (GT tab) Try.f37 spec_BitsOk.ms) spec_BitsOk.b (decRes tab spec_BitsOk.rs) (encArgs tab spec_BitsOk.as x0)
theorem spec_BitsOk.fok : FnOk Try.prog 37 Try.f37 spec_BitsOk.ms spec_BitsOk.b := ⟨Try.func37, by kernel_rfl, by kernel_rfl⟩
noncomputable def spec_BitsOk.fn : Args tab spec_BitsOk.as → Option (ResT tab spec_BitsOk.rs) := fun x => spec_BitsOk x
theorem spec_BitsOk.con {δ : Type} : Con Try.prog (KT tab) 37 (calleeS (β := δ) tab spec_BitsOk.ms spec_BitsOk.as spec_BitsOk.rs spec_BitsOk.fn) := con_shape (c := spec_BitsOk.c) mixed tysOk (getG_con (spec_BitsOk.gok _)) spec_BitsOk.fok rfl rfl (fun _ => rfl)
noncomputable def spec_BitsOk_l0 (v0 : Int) (v1 : List Int) : Option (Bool) := Lw spec_BitsOk.c (finish spec_BitsOk.c (fiOf (GT tab) Try.f37 spec_BitsOk.ms) (decRes tab spec_BitsOk.rs)) ((loops spec_BitsOk.c.cuts 1000 spec_BitsOk.b []).getD 0 []) { slots := [.undef, .ptr 0 0, .undef, .undef, .undef, .undef, .undef, .undef, .undef, .undef, .undef, .undef, .undef, .undef, .undef, .undef, .undef, .undef, .undef, .undef, .undef, .undef, .undef, .undef, .undef, .undef, .undef, .undef, .undef, .undef, .undef, .undef, .undef, .undef, .undef, .undef, .undef, .undef, .undef, .undef, .undef, .undef, .undef, .undef, .undef, .undef, .undef, .undef], loc := locOf [.box 51 [.int .i64 v0, .vs false 117 v1]], nx := 1 }
noncomputable def spec_BitsOk_l1 (v0 : Int) (v1 : Int) (v2 : List Int) (v3 : Int) (v4 : List Int) : Option (Bool) := Lw spec_BitsOk.c (finish spec_BitsOk.c (fiOf (GT tab) Try.f37 spec_BitsOk.ms) (decRes tab spec_BitsOk.rs)) ((loops spec_BitsOk.c.cuts 1000 spec_BitsOk.b []).getD 1 []) { slots := [.undef, .ptr 0 0, .undef, .ptr 1 0, .undef, .int .i64 v0, .undef, .undef, .undef, .undef, .undef, .undef, .undef, .undef, .undef, .undef, .undef, .undef, .undef, .undef, .undef, .undef, .undef, .undef, .undef, .undef, .undef, .undef, .undef, .undef, .undef, .undef, .undef, .undef, .undef, .undef, .undef, .undef, .undef, .undef, .undef, .undef, .undef, .undef, .undef, .undef, .undef, .undef], loc := locOf [.box 51 [.int .i64 v1, .vs false 117 v2], .box 51 [.int .i64 v3, .sl 2 0], .row 0 true 117 v4], nx := 3 }
theorem spec_BitsOk.eq (x0 : Int × (List Int)) : spec_BitsOk x0 =
    bif decide (x0.1 < (0 : Int)) then
      some false
    else
      bif decide (x0.1 > (5000 : Int)) then
        some false
      else
        bif (x0.2.length : Int) != IntKind.i64.wrap ((IntKind.i64.wrap (x0.1 + (63 : Int))).tdiv (64 : Int)) then
          some false
        else
          spec_BitsOk_l0 x0.1 x0.2 := by kernel_rfl
theorem spec_BitsOk_l0.eq (v0 : Int) (v1 : List Int) : spec_BitsOk_l0 v0 v1 =
    (spec_l01List (v0, v1)).bind fun y1 =>
    (spec_BitsOf y1).bind fun y2 =>
    spec_BitsOk_l1 (0 : Int) v0 v1 y2.1.1 y2.1.2 := (Lw_eq tysOk (getG_con (spec_BitsOk.gok _)) _ _).trans (by kernel_rfl)
theorem spec_BitsOk_l1.eq (v0 : Int) (v1 : Int) (v2 : List Int) (v3 : Int) (v4 : List Int) : spec_BitsOk_l1 v0 v1 v2 v3 v4 =
    bif decide (v0 < (v2.length : Int)) then
      (at? v2 v0).bind fun y1 =>
      (at? v4 v0).bind fun y2 =>
      v4[v0.toNat]?.bind fun y3 =>
      bif y1 != y3 then
        some false
      else
        spec_BitsOk_l1 (IntKind.i64.wrap (v0 + (1 : Int))) v1 v2 v3 v4
    else
      some true := (Lw_eq tysOk (getG_con (spec_BitsOk.gok _)) _ _).trans (by kernel_rfl)

/-! ### impl_BitsOk: loop.example/g00688/impl.BitsOk -/
def impl_BitsOk.ms : List Mode := [.lend]
def impl_BitsOk.as : List VSh := [.agg [.int .i64, .sl false false 117]]
def impl_BitsOk.rs : RSh := ⟨[.one (.b (.b (.b (.b (.bool)))))], [none]⟩
noncomputable def impl_BitsOk.gs (δ : Type) : List (Nat × Callee (GT tab) δ) := [(117, calleeS tab impl_within.ms impl_within.as impl_within.rs impl_within.fn)]
theorem impl_BitsOk.gok (δ : Type) : AllCon Try.prog tab (impl_BitsOk.gs δ) := .cons impl_within.con (.nil)
noncomputable def impl_BitsOk.c : Ctx (GT tab) (KT tab) (ResT tab impl_BitsOk.rs) := { X := XT tab, ty := tyOf tys, inner := fun _ => true, keep := keepOf 0 impl_BitsOk.ms, cuts := [], live := liveOf [], G := getG (impl_BitsOk.gs _) }
noncomputable def impl_BitsOk.b : Code := bodyOf Try.f93
noncomputable def impl_BitsOk (x0 : Int × (List Int)) : Option (Bool) := callW impl_BitsOk.c (fiOf (GT tab) Try.f93 impl_BitsOk.ms) impl_BitsOk.b (decRes tab impl_BitsOk.rs) (encArgs tab impl_BitsOk.as x0)
theorem impl_BitsOk.fok : FnOk Try.prog 93 Try.f93 impl_BitsOk.ms impl_BitsOk.b := ⟨Try.func93, by kernel_rfl, by kernel_rfl⟩
noncomputable def impl_BitsOk.fn : Args tab impl_BitsOk.as → Option (ResT tab impl_BitsOk.rs) := fun x => impl_BitsOk x
theorem impl_BitsOk.con {δ : Type} : Con Try.prog (KT tab) 93 (calleeS (β := δ) tab impl_BitsOk.ms impl_BitsOk.as impl_BitsOk.rs impl_BitsOk.fn) := con_shape (c := impl_BitsOk.c) mixed tysOk (getG_con (impl_BitsOk.gok _)) impl_BitsOk.fok rfl rfl (fun _ => rfl)
theorem impl_BitsOk.eq (x0 : Int × (List Int)) : impl_BitsOk x0 =
    (impl_within x0.1 (0 : Int) (5000 : Int)).bind fun y1 =>
    bif !y1 then
      some false
    else
      bif (x0.2.length : Int) != IntKind.i64.wrap ((IntKind.i64.wrap ((IntKind.i64.wrap (x0.1 + (64 : Int))) - (1 : Int))).tdiv (64 : Int)) then
        some false
      else
        bif x0.1.tmod (64 : Int) == (0 : Int) then
          some true
        else
          (at? x0.2 (IntKind.i64.wrap ((x0.2.length : Int) - (1 : Int)))).bind fun y2 =>
          bif decide (x0.1.tmod (64 : Int) < (0 : Int)) then
            none
          else
            some (y2.fdiv (2 ^ (min (x0.1.tmod (64 : Int)).toNat 64)) == (0 : Int)) := by kernel_rfl

/-! ### impl_Bits_at: (loop.example/g00688/impl.Bits).at -/
def impl_Bits_at.ms : List Mode := [.lend, .lend]
def impl_Bits_at.as : List VSh := [.agg [.int .i64, .sl false false 117], .one (.b (.b (.b (.b (.int .i64)))))]
def impl_Bits_at.rs : RSh := ⟨[.one (.b (.b (.b (.b (.int .i64)))))], [none, none]⟩
noncomputable def impl_Bits_at.gs (δ : Type) : List (Nat × Callee (GT tab) δ) := []
theorem impl_Bits_at.gok (δ : Type) : AllCon Try.prog tab (impl_Bits_at.gs δ) := .nil
noncomputable def impl_Bits_at.c : Ctx (GT tab) (KT tab) (ResT tab impl_Bits_at.rs) := { X := XT tab, ty := tyOf tys, inner := fun _ => true, keep := keepOf 0 impl_Bits_at.ms, cuts := [], live := liveOf [], G := getG (impl_Bits_at.gs _) }
noncomputable def impl_Bits_at.b : Code := bodyOf Try.f129
noncomputable def impl_Bits_at (x0 : Int × (List Int)) (x1 : Int) : Option (Int) := callW impl_Bits_at.c (fiOf (GT tab) Try.f129 impl_Bits_at.ms) impl_Bits_at.b (decRes tab impl_Bits_at.rs) (encArgs tab impl_Bits_at.as (x0, x1))
theorem impl_Bits_at.fok : FnOk Try.prog 129 Try.f129 impl_Bits_at.ms impl_Bits_at.b := ⟨Try.func129, by kernel_rfl, by kernel_rfl⟩
noncomputable def impl_Bits_at.fn : Args tab impl_Bits_at.as → Option (ResT tab impl_Bits_at.rs) := fun x => impl_Bits_at x.1 x.2
theorem impl_Bits_at.con {δ : Type} : Con Try.prog (KT tab) 129 (calleeS (β := δ) tab impl_Bits_at.ms impl_Bits_at.as impl_Bits_at.rs impl_Bits_at.fn) := con_shape (c := impl_Bits_at.c) mixed tysOk (getG_con (impl_Bits_at.gok _)) impl_Bits_at.fok rfl rfl (fun _ => rfl)
theorem impl_Bits_at.eq (x0 : Int × (List Int)) (x1 : Int) : impl_Bits_at x0 x1 =
    (at? x0.2 (IntKind.i64.wrap (x1.tdiv (64 : Int)))).bind fun y1 =>
    bif decide (x1.tmod (64 : Int) < (0 : Int)) then
      none
    else
      some (IntKind.i64.wrap (IntKind.u64.wrap (((BitVec.ofInt 64 (y1.fdiv (2 ^ (min (x1.tmod (64 : Int)).toNat 64)))) &&& (BitVec.ofInt 64 (1 : Int))).toNat : Int))) := by kernel_rfl

/-! ### impl_Bits_list: (loop.example/g00688/impl.Bits).list -/
def impl_Bits_list.ms : List Mode := [.lend]
def impl_Bits_list.as : List VSh := [.agg [.int .i64, .sl false false 117]]
def impl_Bits_list.rs : RSh := ⟨[.one (.b (.b (.b (.b (.sl true true 3)))))], [none]⟩
noncomputable def impl_Bits_list.gs (δ : Type) : List (Nat × Callee (GT tab) δ) := [(129, calleeS tab impl_Bits_at.ms impl_Bits_at.as impl_Bits_at.rs impl_Bits_at.fn)]
theorem impl_Bits_list.gok (δ : Type) : AllCon Try.prog tab (impl_Bits_list.gs δ) := .cons impl_Bits_at.con (.nil)
noncomputable def impl_Bits_list.c : Ctx (GT tab) (KT tab) (ResT tab impl_Bits_list.rs) := { X := XT tab, ty := tyOf tys, inner := fun _ => true, keep := keepOf 0 impl_Bits_list.ms, cuts := [], live := liveOf [(3, [1, 3, 6, 7])], G := getG (impl_Bits_list.gs _) }
noncomputable def impl_Bits_list.b : Code := bodyOf Try.f74
noncomputable def impl_Bits_list (x0 : Int × (List Int)) : Option (List Int) := callW impl_Bits_list.c (fiOf (GT tab) Try.f74 impl_Bits_list.ms) impl_Bits_list.b (decRes tab impl_Bits_list.rs) (encArgs tab impl_Bits_list.as x0)
theorem impl_Bits_list.fok : FnOk Try.prog 74 Try.f74 impl_Bits_list.ms impl_Bits_list.b := ⟨Try.func74, by kernel_rfl, by kernel_rfl⟩
noncomputable def impl_Bits_list.fn : Args tab impl_Bits_list.as → Option (ResT tab impl_Bits_list.rs) := fun x => impl_Bits_list x
theorem impl_Bits_list.con {δ : Type} : Con Try.prog (KT tab) 74 (calleeS (β := δ) tab impl_Bits_list.ms impl_Bits_list.as impl_Bits_list.rs impl_Bits_list.fn) := con_shape (c := impl_Bits_list.c) mixed tysOk (getG_con (impl_Bits_list.gok _)) impl_Bits_list.fok rfl rfl (fun _ => rfl)
noncomputable def impl_Bits_list_l0 (v0 : Int) (v1 : Int) (v2 : Int) (v3 : List Int) (v4 : List Int) : Option (List Int) := Lw impl_Bits_list.c (finish impl_Bits_list.c (fiOf (GT tab) Try.f74 impl_Bits_list.ms) (decRes tab impl_Bits_list.rs)) ((loops impl_Bits_list.c.cuts 1000 impl_Bits_list.b []).getD 0 []) { slots := [.undef, .ptr 0 0, .undef, .sl 1 0, .undef, .undef, .int .i64 v0, .int .i64 v1, .undef, .undef, .undef, .undef, .undef, .undef, .undef, .undef, .undef, .undef], loc := locOf [.box 51 [.int .i64 v2, .vs false 117 v3], .row 0 true 3 v4], nx := 2 }
theorem impl_Bits_list.eq (x0 : Int × (List Int)) : impl_Bits_list x0 =
    impl_Bits_list_l0 x0.1 (0 : Int) x0.1 x0.2 ([] : List Int) := by kernel_rfl
theorem impl_Bits_list_l0.eq (v0 : Int) (v1 : Int) (v2 : Int) (v3 : List Int) (v4 : List Int) : impl_Bits_list_l0 v0 v1 v2 v3 v4 =
    bif decide (v1 < v0) then
      (impl_Bits_at (v2, v3) v1).bind fun y1 =>
      bif decide ((v4.length + ([y1] : List Int).length) * 8 ≤ 140737488355328) then
        impl_Bits_list_l0 v0 (IntKind.i64.wrap (v1 + (1 : Int))) v2 v3 (v4 ++ ([y1] : List Int))
      else
        none
    else
      some v4 := (Lw_eq tysOk (getG_con (impl_Bits_list.gok _)) _ _).trans (by kernel_rfl)

/-! ### impl_BitsList: loop.example/g00688/impl.BitsList -/
def impl_BitsList.ms : List Mode := [.lend]
def impl_BitsList.as : List VSh := [.agg [.int .i64, .sl false false 117]]
def impl_BitsList.rs : RSh := ⟨[.one (.b (.b (.b (.b (.sl true true 3)))))], [none]⟩
noncomputable def impl_BitsList.gs (δ : Type) : List (Nat × Callee (GT tab) δ) := [(74, calleeS tab impl_Bits_list.ms impl_Bits_list.as impl_Bits_list.rs impl_Bits_list.fn), (93, calleeS tab impl_BitsOk.ms impl_BitsOk.as impl_BitsOk.rs impl_BitsOk.fn)]
theorem impl_BitsList.gok (δ : Type) : AllCon Try.prog tab (impl_BitsList.gs δ) := .cons impl_Bits_list.con (.cons impl_BitsOk.con (.nil))
noncomputable def impl_BitsList.c : Ctx (GT tab) (KT tab) (ResT tab impl_BitsList.rs) := { X := XT tab, ty := tyOf tys, inner := fun _ => true, keep := keepOf 0 impl_BitsList.ms, cuts := [], live := liveOf [], G := getG (impl_BitsList.gs _) }
noncomputable def impl_BitsList.b : Code := bodyOf Try.f137
noncomputable def impl_BitsList (x0 : Int × (List Int)) : Option (List Int) := callW impl_BitsList.c (fiOf (GT tab) Try.f137 impl_BitsList.ms) impl_BitsList.b (decRes tab impl_BitsList.rs) (encArgs tab impl_BitsList.as x0)
theorem impl_BitsList.fok : FnOk Try.prog 137 Try.f137 impl_BitsList.ms impl_BitsList.b := ⟨Try.func137, by kernel_rfl, by kernel_rfl⟩
noncomputable def impl_BitsList.fn : Args tab impl_BitsList.as → Option (ResT tab impl_BitsList.rs) := fun x => impl_BitsList x
theorem impl_BitsList.con {δ : Type} : Con Try.prog (KT tab) 137 (calleeS (β := δ) tab impl_BitsList.ms impl_BitsList.as impl_BitsList.rs impl_BitsList.fn) := con_shape (c := impl_BitsList.c) mixed tysOk (getG_con (impl_BitsList.gok _)) impl_BitsList.fok rfl rfl (fun _ => rfl)
theorem impl_BitsList.eq (x0 : Int × (List Int)) : impl_BitsList x0 =
    (impl_BitsOk (x0.1, x0.2)).bind fun y1 =>
    bif !y1 then
      some ([] : List Int)
    else
      (impl_Bits_list (x0.1, x0.2)).bind fun y2 =>
      some y2 := by kernel_rfl

end Go.Ev.W
