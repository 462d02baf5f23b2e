/- What functions of the program come to. -/
import Derived.Test.YtiogdohiooocnaaPbT
import Derived.Test.YtiogdohiooocnaaPb14
import Derived.Test.YtiogdohiooocnaaPb3
import Derived.Test.YtiogdohiooocnaaPb6
namespace Go.Ev.W
open Go.Ev Go.Proofs
set_option maxRecDepth 100000
set_option linter.unusedVariables false

/-! ### spec_PackOk: loop.example/g00688/spec.PackOk -/
def spec_PackOk.ms : List Mode := [.lend]
def spec_PackOk.as : List VSh := [.agg [.int .i64, .int .i64, .int .i64, .sl false false 117]]
def spec_PackOk.rs : RSh := ⟨[.one (.b (.b (.b (.b (.bool)))))], [none]⟩
noncomputable def spec_PackOk.gs (δ : Type) : List (Nat × Callee (GT tab) δ) := [(37, calleeS tab spec_BitsOk.ms spec_BitsOk.as spec_BitsOk.rs spec_BitsOk.fn)]
theorem spec_PackOk.gok (δ : Type) : AllCon Try.prog tab (spec_PackOk.gs δ) := .cons spec_BitsOk.con (.nil)
noncomputable def spec_PackOk.c : Ctx (GT tab) (KT tab) (ResT tab spec_PackOk.rs) := { X := XT tab, ty := tyOf tys, inner := fun _ => true, keep := keepOf 0 spec_PackOk.ms, cuts := [], live := liveOf [], G := getG (spec_PackOk.gs _) }
noncomputable def spec_PackOk.b : Code := bodyOf Try.f38
noncomputable def spec_PackOk (x0 : Int × Int × Int × (List Int)) : Option (Bool) := callW spec_PackOk.c (fiOf (GT tab) Try.f38 spec_PackOk.ms) spec_PackOk.b (decRes tab spec_PackOk.rs) (encArgs tab spec_PackOk.as x0)
theorem spec_PackOk.fok : FnOk Try.prog 38 Try.f38 spec_PackOk.ms spec_PackOk.b := ⟨Try.func38, by kernel_rfl, by kernel_rfl⟩
noncomputable def spec_PackOk.fn : Args tab spec_PackOk.as → Option (ResT tab spec_PackOk.rs) := fun x => spec_PackOk x
theorem spec_PackOk.con {δ : Type} : Con Try.prog (KT tab) 38 (calleeS (β := δ) tab spec_PackOk.ms spec_PackOk.as spec_PackOk.rs spec_PackOk.fn) := con_shape (c := spec_PackOk.c) mixed tysOk (getG_con (spec_PackOk.gok _)) spec_PackOk.fok rfl rfl (fun _ => rfl)
theorem spec_PackOk.eq (x0 : Int × Int × Int × (List Int)) : spec_PackOk x0 =
    bif decide (x0.1 ≥ (0 : Int)) then
      bif decide (x0.1 ≤ (32 : Int)) then
        bif decide (x0.2.1 ≥ (0 : Int)) then
          bif decide (x0.2.1 ≤ (5000 : Int)) then
            (spec_BitsOk (x0.2.2.1, x0.2.2.2)).bind fun y1 =>
            bif y1 then
              some (x0.2.2.1 == IntKind.i64.wrap (x0.1 * x0.2.1))
            else
              some false
          else
            some false
        else
          some false
      else
        some false
    else
      some false := by kernel_rfl

/-! ### spec_PackOf: loop.example/g00688/spec.PackOf -/
def spec_PackOf.ms : List Mode := [.lend, .lend]
def spec_PackOf.as : List VSh := [.one (.b (.b (.b (.b (.sl false false 3))))), .one (.b (.b (.b (.b (.int .i64)))))]
def spec_PackOf.rs : RSh := ⟨[.agg [.int .i64, .int .i64, .int .i64, .sl true true 117], .one (.b (.b (.b (.b (.bool)))))], [none, none]⟩
noncomputable def spec_PackOf.gs (δ : Type) : List (Nat × Callee (GT tab) δ) := [(91, calleeS tab spec_BitsOf.ms spec_BitsOf.as spec_BitsOf.rs spec_BitsOf.fn), (126, calleeS tab spec_l02Pow.ms spec_l02Pow.as spec_l02Pow.rs spec_l02Pow.fn)]
theorem spec_PackOf.gok (δ : Type) : AllCon Try.prog tab (spec_PackOf.gs δ) := .cons spec_BitsOf.con (.cons spec_l02Pow.con (.nil))
noncomputable def spec_PackOf.c : Ctx (GT tab) (KT tab) (ResT tab spec_PackOf.rs) := { X := XT tab, ty := tyOf tys, inner := fun _ => true, keep := keepOf 0 spec_PackOf.ms, cuts := [3, 10], live := liveOf [(3, [0, 1, 4]), (5, [0, 1, 4, 6, 7]), (10, [0, 1, 4, 6, 7, 8]), (11, [0, 1, 4, 6, 7, 8, 9])], G := getG (spec_PackOf.gs _) }
noncomputable def spec_PackOf.b : Code := bodyOf Try.f143
noncomputable def spec_PackOf (x0 : List Int) (x1 : Int) : Option ((Int × Int × Int × (List Int)) × Bool) := callW spec_PackOf.c (fiOf (GT tab) Try.f143 spec_PackOf.ms) spec_PackOf.b (decRes tab spec_PackOf.rs) (encArgs tab spec_PackOf.as (x0, x1))
theorem spec_PackOf.fok : FnOk Try.prog 143 Try.f143 spec_PackOf.ms spec_PackOf.b := ⟨Try.func143, by kernel_rfl, by kernel_rfl⟩
noncomputable def spec_PackOf.fn : Args tab spec_PackOf.as → Option (ResT tab spec_PackOf.rs) := fun x => spec_PackOf x.1 x.2
theorem spec_PackOf.con {δ : Type} : Con Try.prog (KT tab) 143 (calleeS (β := δ) tab spec_PackOf.ms spec_PackOf.as spec_PackOf.rs spec_PackOf.fn) := con_shape (c := spec_PackOf.c) mixed tysOk (getG_con (spec_PackOf.gok _)) spec_PackOf.fok rfl rfl (fun _ => rfl)
noncomputable def spec_PackOf_l0 (v0 : List Int) (v1 : Int) (v2 : Int) (v3 : Int) (v4 : Int) (v5 : List Int) : Option ((Int × Int × Int × (List Int)) × Bool) := Lw spec_PackOf.c (finish spec_PackOf.c (fiOf (GT tab) Try.f143 spec_PackOf.ms) (decRes tab spec_PackOf.rs)) ((loops spec_PackOf.c.cuts 1000 spec_PackOf.b []).getD 0 []) { slots := [.vs false 3 v0, .int .i64 v1, .undef, .undef, .ptr 0 0, .undef, .undef, .undef, .undef, .undef, .undef, .undef, .undef, .undef, .undef, .undef, .undef, .undef, .undef, .undef, .undef, .undef, .undef, .undef, .undef, .undef, .undef, .undef, .undef, .undef, .undef, .undef, .undef, .undef, .undef, .undef, .undef, .undef, .undef, .undef, .undef, .undef, .undef, .undef, .undef, .undef, .undef, .undef, .undef, .undef, .undef, .undef, .undef, .undef, .undef, .undef, .undef, .undef, .undef, .undef, .undef, .undef, .undef, .undef, .undef, .undef, .undef, .undef, .undef, .undef, .undef, .undef, .undef], loc := locOf [.box 53 [.int .i64 v2, .int .i64 v3, .int .i64 v4, .sl 1 0], .row 0 true 117 v5], nx := 2 }
noncomputable def spec_PackOf_l1 (v0 : List Int) (v1 : Int) (v2 : Int) (v3 : Int) (v4 : Int) (v5 : Int) (v6 : List Int) (v7 : List Int) : Option ((Int × Int × Int × (List Int)) × Bool) := Lw spec_PackOf.c (finish spec_PackOf.c (fiOf (GT tab) Try.f143 spec_PackOf.ms) (decRes tab spec_PackOf.rs)) ((loops spec_PackOf.c.cuts 1000 spec_PackOf.b []).getD 1 []) { slots := [.vs false 3 v0, .int .i64 v1, .undef, .undef, .ptr 0 0, .undef, .sl 2 0, .int .i64 v2, .undef, .undef, .undef, .undef, .undef, .undef, .undef, .undef, .undef, .undef, .undef, .undef, .undef, .undef, .undef, .undef, .undef, .undef, .undef, .undef, .undef, .undef, .undef, .undef, .undef, .undef, .undef, .undef, .undef, .undef, .undef, .undef, .undef, .undef, .undef, .undef, .undef, .undef, .undef, .undef, .undef, .undef, .undef, .undef, .undef, .undef, .undef, .undef, .undef, .undef, .undef, .undef, .undef, .undef, .undef, .undef, .undef, .undef, .undef, .undef, .undef, .undef, .undef, .undef, .undef], loc := locOf [.box 53 [.int .i64 v3, .int .i64 v4, .int .i64 v5, .sl 1 0], .row 0 true 117 v6, .row 0 true 3 v7], nx := 3 }
noncomputable def spec_PackOf_l2 (v0 : List Int) (v1 : Int) (v2 : Int) (v3 : Int) (v4 : Int) (v5 : Int) (v6 : Int) (v7 : List Int) (v8 : List Int) : Option ((Int × Int × Int × (List Int)) × Bool) := Lw spec_PackOf.c (finish spec_PackOf.c (fiOf (GT tab) Try.f143 spec_PackOf.ms) (decRes tab spec_PackOf.rs)) ((loops spec_PackOf.c.cuts 1000 spec_PackOf.b []).getD 2 []) { slots := [.vs false 3 v0, .int .i64 v1, .undef, .undef, .ptr 0 0, .undef, .sl 2 0, .int .i64 v2, .int .i64 v3, .undef, .undef, .undef, .undef, .undef, .undef, .undef, .undef, .undef, .undef, .undef, .undef, .undef, .undef, .undef, .undef, .undef, .undef, .undef, .undef, .undef, .undef, .undef, .undef, .undef, .undef, .undef, .undef, .undef, .undef, .undef, .undef, .undef, .undef, .undef, .undef, .undef, .undef, .undef, .undef, .undef, .undef, .undef, .undef, .undef, .undef, .undef, .undef, .undef, .undef, .undef, .undef, .undef, .undef, .undef, .undef, .undef, .undef, .undef, .undef, .undef, .undef, .undef, .undef], loc := locOf [.box 53 [.int .i64 v4, .int .i64 v5, .int .i64 v6, .sl 1 0], .row 0 true 117 v7, .row 0 true 3 v8], nx := 3 }
noncomputable def spec_PackOf_l3 (v0 : List Int) (v1 : Int) (v2 : Int) (v3 : Int) (v4 : Int) (v5 : Int) (v6 : Int) (v7 : Int) (v8 : List Int) (v9 : List Int) : Option ((Int × Int × Int × (List Int)) × Bool) := Lw spec_PackOf.c (finish spec_PackOf.c (fiOf (GT tab) Try.f143 spec_PackOf.ms) (decRes tab spec_PackOf.rs)) ((loops spec_PackOf.c.cuts 1000 spec_PackOf.b []).getD 3 []) { slots := [.vs false 3 v0, .int .i64 v1, .undef, .undef, .ptr 0 0, .undef, .sl 2 0, .int .i64 v2, .int .i64 v3, .int .i64 v4, .undef, .undef, .undef, .undef, .undef, .undef, .undef, .undef, .undef, .undef, .undef, .undef, .undef, .undef, .undef, .undef, .undef, .undef, .undef, .undef, .undef, .undef, .undef, .undef, .undef, .undef, .undef, .undef, .undef, .undef, .undef, .undef, .undef, .undef, .undef, .undef, .undef, .undef, .undef, .undef, .undef, .undef, .undef, .undef, .undef, .undef, .undef, .undef, .undef, .undef, .undef, .undef, .undef, .undef, .undef, .undef, .undef, .undef, .undef, .undef, .undef, .undef, .undef], loc := locOf [.box 53 [.int .i64 v5, .int .i64 v6, .int .i64 v7, .sl 1 0], .row 0 true 117 v8, .row 0 true 3 v9], nx := 3 }
theorem spec_PackOf.eq (x0 : List Int) (x1 : Int) : spec_PackOf x0 x1 =
    bif decide (x1 < (0 : Int)) then
      some (((0 : Int), (0 : Int), (0 : Int), ([] : List Int)), false)
    else
      bif decide (x1 > (32 : Int)) then
        some (((0 : Int), (0 : Int), (0 : Int), ([] : List Int)), false)
      else
        bif decide ((x0.length : Int) > (5000 : Int)) then
          some (((0 : Int), (0 : Int), (0 : Int), ([] : List Int)), false)
        else
          bif decide (IntKind.i64.wrap ((x0.length : Int) * x1) > (5000 : Int)) then
            some (((0 : Int), (0 : Int), (0 : Int), ([] : List Int)), false)
          else
            spec_PackOf_l0 x0 x1 (0 : Int) (0 : Int) (0 : Int) ([] : List Int) := by kernel_rfl
theorem spec_PackOf_l0.eq (v0 : List Int) (v1 : Int) (v2 : Int) (v3 : Int) (v4 : Int) (v5 : List Int) : spec_PackOf_l0 v0 v1 v2 v3 v4 v5 =
    spec_PackOf_l1 v0 v1 (0 : Int) v2 v3 v4 v5 ([] : List Int) := (Lw_eq tysOk (getG_con (spec_PackOf.gok _)) _ _).trans (by kernel_rfl)
theorem spec_PackOf_l1.eq (v0 : List Int) (v1 : Int) (v2 : Int) (v3 : Int) (v4 : Int) (v5 : Int) (v6 : List Int) (v7 : List Int) : spec_PackOf_l1 v0 v1 v2 v3 v4 v5 v6 v7 =
    bif decide (v2 < (v0.length : Int)) then
      (at? v0 v2).bind fun y1 =>
      bif decide (y1 < (0 : Int)) then
        some (((0 : Int), (0 : Int), (0 : Int), ([] : List Int)), false)
      else
        (spec_l02Pow v1).bind fun y2 =>
        bif decide (y1 ≥ y2) then
          some (((0 : Int), (0 : Int), (0 : Int), ([] : List Int)), false)
        else
          spec_PackOf_l2 v0 v1 v2 y1 v3 v4 v5 v6 v7
    else
      (spec_BitsOf v7).bind fun y3 =>
      some ((v1, (v0.length : Int), y3.1.1, y3.1.2), true) := (Lw_eq tysOk (getG_con (spec_PackOf.gok _)) _ _).trans (by kernel_rfl)
theorem spec_PackOf_l2.eq (v0 : List Int) (v1 : Int) (v2 : Int) (v3 : Int) (v4 : Int) (v5 : Int) (v6 : Int) (v7 : List Int) (v8 : List Int) : spec_PackOf_l2 v0 v1 v2 v3 v4 v5 v6 v7 v8 =
    spec_PackOf_l3 v0 v1 v2 v3 (0 : Int) v4 v5 v6 v7 v8 := (Lw_eq tysOk (getG_con (spec_PackOf.gok _)) _ _).trans (by kernel_rfl)
theorem spec_PackOf_l3.eq (v0 : List Int) (v1 : Int) (v2 : Int) (v3 : Int) (v4 : Int) (v5 : Int) (v6 : Int) (v7 : Int) (v8 : List Int) (v9 : List Int) : spec_PackOf_l3 v0 v1 v2 v3 v4 v5 v6 v7 v8 v9 =
    bif decide (v4 < v1) then
      bif decide ((v9.length + ([v3.tmod (2 : Int)] : List Int).length) * 8 ≤ 140737488355328) then
        spec_PackOf_l3 v0 v1 v2 (IntKind.i64.wrap (v3.tdiv (2 : Int))) (IntKind.i64.wrap (v4 + (1 : Int))) v5 v6 v7 v8 (v9 ++ ([v3.tmod (2 : Int)] : List Int))
      else
        none
    else
      spec_PackOf_l1 v0 v1 (IntKind.i64.wrap (v2 + (1 : Int))) v5 v6 v7 v8 v9 := (Lw_eq tysOk (getG_con (spec_PackOf.gok _)) _ _).trans (by kernel_rfl)

/-! ### impl_PackOk: loop.example/g00688/impl.PackOk -/
def impl_PackOk.ms : List Mode := [.lend]
def impl_PackOk.as : List VSh := [.agg [.int .i64, .int .i64, .int .i64, .sl false false 117]]
def impl_PackOk.rs : RSh := ⟨[.one (.b (.b (.b (.b (.bool)))))], [none]⟩
noncomputable def impl_PackOk.gs (δ : Type) : List (Nat × Callee (GT tab) δ) := [(93, calleeS tab impl_BitsOk.ms impl_BitsOk.as impl_BitsOk.rs impl_BitsOk.fn), (117, calleeS tab impl_within.ms impl_within.as impl_within.rs impl_within.fn)]
theorem impl_PackOk.gok (δ : Type) : AllCon Try.prog tab (impl_PackOk.gs δ) := .cons impl_BitsOk.con (.cons impl_within.con (.nil))
noncomputable def impl_PackOk.c : Ctx (GT tab) (KT tab) (ResT tab impl_PackOk.rs) := { X := XT tab, ty := tyOf tys, inner := fun _ => true, keep := keepOf 0 impl_PackOk.ms, cuts := [], live := liveOf [], G := getG (impl_PackOk.gs _) }
noncomputable def impl_PackOk.b : Code := bodyOf Try.f95
noncomputable def impl_PackOk (x0 : Int × Int × Int × (List Int)) : Option (Bool) := callW impl_PackOk.c (fiOf (GT tab) Try.f95 impl_PackOk.ms) impl_PackOk.b (decRes tab impl_PackOk.rs) (encArgs tab impl_PackOk.as x0)
theorem impl_PackOk.fok : FnOk Try.prog 95 Try.f95 impl_PackOk.ms impl_PackOk.b := ⟨Try.func95, by kernel_rfl, by kernel_rfl⟩
noncomputable def impl_PackOk.fn : Args tab impl_PackOk.as → Option (ResT tab impl_PackOk.rs) := fun x => impl_PackOk x
theorem impl_PackOk.con {δ : Type} : Con Try.prog (KT tab) 95 (calleeS (β := δ) tab impl_PackOk.ms impl_PackOk.as impl_PackOk.rs impl_PackOk.fn) := con_shape (c := impl_PackOk.c) mixed tysOk (getG_con (impl_PackOk.gok _)) impl_PackOk.fok rfl rfl (fun _ => rfl)
theorem impl_PackOk.eq (x0 : Int × Int × Int × (List Int)) : impl_PackOk x0 =
    (impl_within x0.1 (0 : Int) (32 : Int)).bind fun y1 =>
    bif y1 then
      (impl_within x0.2.1 (0 : Int) (5000 : Int)).bind fun y2 =>
      bif y2 then
        (impl_BitsOk (x0.2.2.1, x0.2.2.2)).bind fun y3 =>
        bif y3 then
          some (x0.2.2.1 == IntKind.i64.wrap (x0.2.1 * x0.1))
        else
          some false
      else
        some false
    else
      some false := by kernel_rfl

end Go.Ev.W
