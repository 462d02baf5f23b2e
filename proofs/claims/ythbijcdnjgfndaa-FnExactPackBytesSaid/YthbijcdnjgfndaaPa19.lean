/- What functions of the program come to. -/
import Derived.Test.YthbijcdnjgfndaaPaT
import Derived.Test.YthbijcdnjgfndaaPa2
namespace Go.Ev.W
open Go.Ev Go.Proofs
set_option maxRecDepth 100000
set_option linter.unusedVariables false

/-! ### spec_CopyOf: loop.example/g00688/spec.CopyOf -/
def spec_CopyOf.ms : List Mode := [.lend, .lend]
def spec_CopyOf.as : List VSh := [.one (.b (.b (.b (.b (.sl false false 3))))), .one (.b (.b (.b (.b (.sl false false 3)))))]
def spec_CopyOf.rs : RSh := ⟨[.one (.b (.b (.b (.b (.sl true true 61))))), .one (.b (.b (.b (.b (.bool)))))], [none, none]⟩
noncomputable def spec_CopyOf.gs (δ : Type) : List (Nat × Callee (GT tab) δ) := [(62, calleeS tab spec_l15Right.ms spec_l15Right.as spec_l15Right.rs spec_l15Right.fn)]
theorem spec_CopyOf.gok (δ : Type) : AllCon Try.prog tab (spec_CopyOf.gs δ) := .cons spec_l15Right.con (.nil)
noncomputable def spec_CopyOf.c : Ctx (GT tab) (KT tab) (ResT tab spec_CopyOf.rs) := { X := XT tab, ty := tyOf tys, inner := fun _ => true, keep := keepOf 0 spec_CopyOf.ms, cuts := [3], live := liveOf [(3, [0, 1]), (5, [0, 1, 6, 7]), (8, [0, 1, 6, 7, 8, 9]), (11, [0, 1, 6, 7, 8, 9, 10])], G := getG (spec_CopyOf.gs _) }
noncomputable def spec_CopyOf.b : Code := bodyOf Try.f31
noncomputable def spec_CopyOf (x0 : List Int) (x1 : List Int) : Option ((List (Int × Int × Int)) × Bool) := callW spec_CopyOf.c (fiOf (GT tab) Try.f31 spec_CopyOf.ms) spec_CopyOf.b (decRes tab spec_CopyOf.rs) (encArgs tab spec_CopyOf.as (x0, x1))
theorem spec_CopyOf.fok : FnOk Try.prog 31 Try.f31 spec_CopyOf.ms spec_CopyOf.b := ⟨Try.func31, by kernel_rfl, by kernel_rfl⟩
noncomputable def spec_CopyOf.fn : Args tab spec_CopyOf.as → Option (ResT tab spec_CopyOf.rs) := fun x => spec_CopyOf x.1 x.2
theorem spec_CopyOf.con {δ : Type} : Con Try.prog (KT tab) 31 (calleeS (β := δ) tab spec_CopyOf.ms spec_CopyOf.as spec_CopyOf.rs spec_CopyOf.fn) := con_shape (c := spec_CopyOf.c) mixed tysOk (getG_con (spec_CopyOf.gok _)) spec_CopyOf.fok rfl rfl (fun _ => rfl)
noncomputable def spec_CopyOf_l0 (v0 : List Int) (v1 : List Int) : Option ((List (Int × Int × Int)) × Bool) := Lw spec_CopyOf.c (finish spec_CopyOf.c (fiOf (GT tab) Try.f31 spec_CopyOf.ms) (decRes tab spec_CopyOf.rs)) ((loops spec_CopyOf.c.cuts 1000 spec_CopyOf.b []).getD 0 []) { slots := [.vs false 3 v0, .vs false 3 v1, .undef, .undef, .undef, .undef, .undef, .undef, .undef, .undef, .undef, .undef, .undef, .undef, .undef, .undef, .undef, .undef, .undef, .undef, .undef, .undef, .undef, .undef, .undef, .undef, .undef, .undef, .undef, .undef, .undef, .undef, .undef, .undef, .undef, .undef, .undef, .undef, .undef, .undef, .undef, .undef, .undef, .undef, .undef, .undef, .undef, .undef, .undef, .undef, .undef, .undef, .undef, .undef, .undef, .undef, .undef, .undef, .undef, .undef, .undef, .undef, .undef, .undef, .undef, .undef, .undef, .undef, .undef, .undef, .undef, .undef, .undef, .undef, .undef, .undef, .undef, .undef, .undef, .undef, .undef, .undef, .undef, .undef, .undef, .undef, .undef, .undef], loc := locOf [], nx := 0 }
noncomputable def spec_CopyOf_l1 (v0 : List Int) (v1 : List Int) (v2 : Int) (v3 : List (Int × Int × Int)) : Option ((List (Int × Int × Int)) × Bool) := Lw spec_CopyOf.c (finish spec_CopyOf.c (fiOf (GT tab) Try.f31 spec_CopyOf.ms) (decRes tab spec_CopyOf.rs)) ((loops spec_CopyOf.c.cuts 1000 spec_CopyOf.b []).getD 1 []) { slots := [.vs false 3 v0, .vs false 3 v1, .undef, .undef, .undef, .undef, .sl 0 0, .int .i64 v2, .undef, .undef, .undef, .undef, .undef, .undef, .undef, .undef, .undef, .undef, .undef, .undef, .undef, .undef, .undef, .undef, .undef, .undef, .undef, .undef, .undef, .undef, .undef, .undef, .undef, .undef, .undef, .undef, .undef, .undef, .undef, .undef, .undef, .undef, .undef, .undef, .undef, .undef, .undef, .undef, .undef, .undef, .undef, .undef, .undef, .undef, .undef, .undef, .undef, .undef, .undef, .undef, .undef, .undef, .undef, .undef, .undef, .undef, .undef, .undef, .undef, .undef, .undef, .undef, .undef, .undef, .undef, .undef, .undef, .undef, .undef, .undef, .undef, .undef, .undef, .undef, .undef, .undef, .undef, .undef], loc := locOf [.row 0 true 61 v3], nx := 1 }
noncomputable def spec_CopyOf_l2 (v0 : List Int) (v1 : List Int) (v2 : Int) (v3 : Int) (v4 : List (Int × Int × Int)) (v5 : Int) (v6 : Int) (v7 : Int) : Option ((List (Int × Int × Int)) × Bool) := Lw spec_CopyOf.c (finish spec_CopyOf.c (fiOf (GT tab) Try.f31 spec_CopyOf.ms) (decRes tab spec_CopyOf.rs)) ((loops spec_CopyOf.c.cuts 1000 spec_CopyOf.b []).getD 2 []) { slots := [.vs false 3 v0, .vs false 3 v1, .undef, .undef, .undef, .undef, .sl 0 0, .int .i64 v2, .ptr 1 0, .int .i64 v3, .undef, .undef, .undef, .undef, .undef, .undef, .undef, .undef, .undef, .undef, .undef, .undef, .undef, .undef, .undef, .undef, .undef, .undef, .undef, .undef, .undef, .undef, .undef, .undef, .undef, .undef, .undef, .undef, .undef, .undef, .undef, .undef, .undef, .undef, .undef, .undef, .undef, .undef, .undef, .undef, .undef, .undef, .undef, .undef, .undef, .undef, .undef, .undef, .undef, .undef, .undef, .undef, .undef, .undef, .undef, .undef, .undef, .undef, .undef, .undef, .undef, .undef, .undef, .undef, .undef, .undef, .undef, .undef, .undef, .undef, .undef, .undef, .undef, .undef, .undef, .undef, .undef, .undef], loc := locOf [.row 0 true 61 v4, .box 61 [.int .i64 v5, .int .i64 v6, .int .i64 v7]], nx := 2 }
noncomputable def spec_CopyOf_l3 (v0 : List Int) (v1 : List Int) (v2 : Int) (v3 : Int) (v4 : Int) (v5 : List (Int × Int × Int)) (v6 : Int) (v7 : Int) (v8 : Int) : Option ((List (Int × Int × Int)) × Bool) := Lw spec_CopyOf.c (finish spec_CopyOf.c (fiOf (GT tab) Try.f31 spec_CopyOf.ms) (decRes tab spec_CopyOf.rs)) ((loops spec_CopyOf.c.cuts 1000 spec_CopyOf.b []).getD 3 []) { slots := [.vs false 3 v0, .vs false 3 v1, .undef, .undef, .undef, .undef, .sl 0 0, .int .i64 v2, .ptr 1 0, .int .i64 v3, .int .i64 v4, .undef, .undef, .undef, .undef, .undef, .undef, .undef, .undef, .undef, .undef, .undef, .undef, .undef, .undef, .undef, .undef, .undef, .undef, .undef, .undef, .undef, .undef, .undef, .undef, .undef, .undef, .undef, .undef, .undef, .undef, .undef, .undef, .undef, .undef, .undef, .undef, .undef, .undef, .undef, .undef, .undef, .undef, .undef, .undef, .undef, .undef, .undef, .undef, .undef, .undef, .undef, .undef, .undef, .undef, .undef, .undef, .undef, .undef, .undef, .undef, .undef, .undef, .undef, .undef, .undef, .undef, .undef, .undef, .undef, .undef, .undef, .undef, .undef, .undef, .undef, .undef, .undef], loc := locOf [.row 0 true 61 v5, .box 61 [.int .i64 v6, .int .i64 v7, .int .i64 v8]], nx := 2 }
theorem spec_CopyOf.eq (x0 : List Int) (x1 : List Int) : spec_CopyOf x0 x1 =
    (spec_l15Right x0).bind fun y1 =>
    bif !y1 then
      some (([] : List (Int × Int × Int)), false)
    else
      (spec_l15Right x1).bind fun y2 =>
      bif !y2 then
        some (([] : List (Int × Int × Int)), false)
      else
        spec_CopyOf_l0 x0 x1 := by kernel_rfl
theorem spec_CopyOf_l0.eq (v0 : List Int) (v1 : List Int) : spec_CopyOf_l0 v0 v1 =
    spec_CopyOf_l1 v0 v1 (0 : Int) ([] : List (Int × Int × Int)) := (Lw_eq tysOk (getG_con (spec_CopyOf.gok _)) _ _).trans (by kernel_rfl)
theorem spec_CopyOf_l1.eq (v0 : List Int) (v1 : List Int) (v2 : Int) (v3 : List (Int × Int × Int)) : spec_CopyOf_l1 v0 v1 v2 v3 =
    bif decide (v2 < (v1.length : Int)) then
      spec_CopyOf_l2 v0 v1 v2 (0 : Int) v3 (0 : Int) (0 : Int) (0 : Int)
    else
      some (v3, true) := (Lw_eq tysOk (getG_con (spec_CopyOf.gok _)) _ _).trans (by kernel_rfl)
theorem spec_CopyOf_l2.eq (v0 : List Int) (v1 : List Int) (v2 : Int) (v3 : Int) (v4 : List (Int × Int × Int)) (v5 : Int) (v6 : Int) (v7 : Int) : spec_CopyOf_l2 v0 v1 v2 v3 v4 v5 v6 v7 =
    bif decide (v3 < (v0.length : Int)) then
      spec_CopyOf_l3 v0 v1 v2 v3 (0 : Int) v4 v5 v6 v7
    else
      (at? v1 (IntKind.i64.wrap (v2 + v6))).bind fun y1 =>
      bif decide ((v4.length + ([(v5, v6, y1)] : List (Int × Int × Int)).length) * 24 ≤ 140737488355328) then
        spec_CopyOf_l1 v0 v1 (IntKind.i64.wrap ((IntKind.i64.wrap (v2 + v6)) + (1 : Int))) (v4 ++ ([(v5, v6, y1)] : List (Int × Int × Int)))
      else
        none := (Lw_eq tysOk (getG_con (spec_CopyOf.gok _)) _ _).trans (by kernel_rfl)
theorem spec_CopyOf_l3.eq (v0 : List Int) (v1 : List Int) (v2 : Int) (v3 : Int) (v4 : Int) (v5 : List (Int × Int × Int)) (v6 : Int) (v7 : Int) (v8 : Int) : spec_CopyOf_l3 v0 v1 v2 v3 v4 v5 v6 v7 v8 =
    bif decide (IntKind.i64.wrap (v3 + v4) < (v0.length : Int)) then
      bif decide (IntKind.i64.wrap (v2 + v4) < IntKind.i64.wrap ((v1.length : Int) - (1 : Int))) then
        (at? v0 (IntKind.i64.wrap (v3 + v4))).bind fun y1 =>
        (at? v1 (IntKind.i64.wrap (v2 + v4))).bind fun y2 =>
        bif y1 == y2 then
          spec_CopyOf_l3 v0 v1 v2 v3 (IntKind.i64.wrap (v4 + (1 : Int))) v5 v6 v7 v8
        else
          bif decide (v4 > v7) then
            spec_CopyOf_l2 v0 v1 v2 (IntKind.i64.wrap (v3 + (1 : Int))) v5 v3 v4 (0 : Int)
          else
            spec_CopyOf_l2 v0 v1 v2 (IntKind.i64.wrap (v3 + (1 : Int))) v5 v6 v7 v8
      else
        bif decide (v4 > v7) then
          spec_CopyOf_l2 v0 v1 v2 (IntKind.i64.wrap (v3 + (1 : Int))) v5 v3 v4 (0 : Int)
        else
          spec_CopyOf_l2 v0 v1 v2 (IntKind.i64.wrap (v3 + (1 : Int))) v5 v6 v7 v8
    else
      bif decide (v4 > v7) then
        spec_CopyOf_l2 v0 v1 v2 (IntKind.i64.wrap (v3 + (1 : Int))) v5 v3 v4 (0 : Int)
      else
        spec_CopyOf_l2 v0 v1 v2 (IntKind.i64.wrap (v3 + (1 : Int))) v5 v6 v7 v8 := (Lw_eq tysOk (getG_con (spec_CopyOf.gok _)) _ _).trans (by kernel_rfl)

/-! ### impl_sharedAt: loop.example/g00688/impl.sharedAt -/
def impl_sharedAt.ms : List Mode := [.lend, .lend]
def impl_sharedAt.as : List VSh := [.one (.b (.b (.b (.b (.sl false false 3))))), .one (.b (.b (.b (.b (.sl false false 3)))))]
def impl_sharedAt.rs : RSh := ⟨[.one (.b (.b (.b (.b (.int .i64)))))], [none, none]⟩
noncomputable def impl_sharedAt.gs (δ : Type) : List (Nat × Callee (GT tab) δ) := []
theorem impl_sharedAt.gok (δ : Type) : AllCon Try.prog tab (impl_sharedAt.gs δ) := .nil
noncomputable def impl_sharedAt.c : Ctx (GT tab) (KT tab) (ResT tab impl_sharedAt.rs) := { X := XT tab, ty := tyOf tys, inner := fun _ => true, keep := keepOf 0 impl_sharedAt.ms, cuts := [], live := liveOf [(2, [0, 1, 5])], G := getG (impl_sharedAt.gs _) }
noncomputable def impl_sharedAt.b : Code := bodyOf Try.f69
noncomputable def impl_sharedAt (x0 : List Int) (x1 : List Int) : Option (Int) := callW impl_sharedAt.c (fiOf (GT tab) Try.f69 impl_sharedAt.ms) impl_sharedAt.b (decRes tab impl_sharedAt.rs) (encArgs tab impl_sharedAt.as (x0, x1))
theorem impl_sharedAt.fok : FnOk Try.prog 69 Try.f69 impl_sharedAt.ms impl_sharedAt.b := ⟨Try.func69, by kernel_rfl, by kernel_rfl⟩
noncomputable def impl_sharedAt.fn : Args tab impl_sharedAt.as → Option (ResT tab impl_sharedAt.rs) := fun x => impl_sharedAt x.1 x.2
theorem impl_sharedAt.con {δ : Type} : Con Try.prog (KT tab) 69 (calleeS (β := δ) tab impl_sharedAt.ms impl_sharedAt.as impl_sharedAt.rs impl_sharedAt.fn) := con_shape (c := impl_sharedAt.c) mixed tysOk (getG_con (impl_sharedAt.gok _)) impl_sharedAt.fok rfl rfl (fun _ => rfl)
noncomputable def impl_sharedAt_l0 (v0 : List Int) (v1 : List Int) (v2 : Int) : Option (Int) := Lw impl_sharedAt.c (finish impl_sharedAt.c (fiOf (GT tab) Try.f69 impl_sharedAt.ms) (decRes tab impl_sharedAt.rs)) ((loops impl_sharedAt.c.cuts 1000 impl_sharedAt.b []).getD 0 []) { slots := [.vs false 3 v0, .vs false 3 v1, .undef, .undef, .undef, .int .i64 v2, .undef, .undef, .undef, .undef, .undef, .undef, .undef, .undef, .undef, .undef, .undef, .undef, .undef, .undef, .undef, .undef, .undef, .undef, .undef, .undef, .undef], loc := locOf [], nx := 0 }
theorem impl_sharedAt.eq (x0 : List Int) (x1 : List Int) : impl_sharedAt x0 x1 =
    impl_sharedAt_l0 x0 x1 (0 : Int) := by kernel_rfl
theorem impl_sharedAt_l0.eq (v0 : List Int) (v1 : List Int) (v2 : Int) : impl_sharedAt_l0 v0 v1 v2 =
    bif decide (v2 < if (v1.length : Int) < (v0.length : Int) then (v1.length : Int) else (v0.length : Int)) then
      (at? v0 v2).bind fun y1 =>
      (at? v1 v2).bind fun y2 =>
      bif y1 == y2 then
        impl_sharedAt_l0 v0 v1 (IntKind.i64.wrap (v2 + (1 : Int)))
      else
        some v2
    else
      some v2 := (Lw_eq tysOk (getG_con (impl_sharedAt.gok _)) _ _).trans (by kernel_rfl)

/-! ### impl_CopyOf: loop.example/g00688/impl.CopyOf -/
def impl_CopyOf.ms : List Mode := [.lend, .lend]
def impl_CopyOf.as : List VSh := [.one (.b (.b (.b (.b (.sl false false 3))))), .one (.b (.b (.b (.b (.sl false false 3)))))]
def impl_CopyOf.rs : RSh := ⟨[.one (.b (.b (.b (.b (.sl true true 61))))), .one (.b (.b (.b (.b (.bool)))))], [none, none]⟩
noncomputable def impl_CopyOf.gs (δ : Type) : List (Nat × Callee (GT tab) δ) := [(63, calleeS tab impl_areCopied.ms impl_areCopied.as impl_areCopied.rs impl_areCopied.fn), (69, calleeS tab impl_sharedAt.ms impl_sharedAt.as impl_sharedAt.rs impl_sharedAt.fn)]
theorem impl_CopyOf.gok (δ : Type) : AllCon Try.prog tab (impl_CopyOf.gs δ) := .cons impl_areCopied.con (.cons impl_sharedAt.con (.nil))
noncomputable def impl_CopyOf.c : Ctx (GT tab) (KT tab) (ResT tab impl_CopyOf.rs) := { X := XT tab, ty := tyOf tys, inner := fun _ => true, keep := keepOf 0 impl_CopyOf.ms, cuts := [3], live := liveOf [(3, [0, 1]), (4, [0, 1, 6]), (7, [0, 1, 6, 7, 22, 23])], G := getG (impl_CopyOf.gs _) }
noncomputable def impl_CopyOf.b : Code := bodyOf Try.f32
noncomputable def impl_CopyOf (x0 : List Int) (x1 : List Int) : Option ((List (Int × Int × Int)) × Bool) := callW impl_CopyOf.c (fiOf (GT tab) Try.f32 impl_CopyOf.ms) impl_CopyOf.b (decRes tab impl_CopyOf.rs) (encArgs tab impl_CopyOf.as (x0, x1))
theorem impl_CopyOf.fok : FnOk Try.prog 32 Try.f32 impl_CopyOf.ms impl_CopyOf.b := ⟨Try.func32, by kernel_rfl, by kernel_rfl⟩
noncomputable def impl_CopyOf.fn : Args tab impl_CopyOf.as → Option (ResT tab impl_CopyOf.rs) := fun x => impl_CopyOf x.1 x.2
theorem impl_CopyOf.con {δ : Type} : Con Try.prog (KT tab) 32 (calleeS (β := δ) tab impl_CopyOf.ms impl_CopyOf.as impl_CopyOf.rs impl_CopyOf.fn) := con_shape (c := impl_CopyOf.c) mixed tysOk (getG_con (impl_CopyOf.gok _)) impl_CopyOf.fok rfl rfl (fun _ => rfl)
noncomputable def impl_CopyOf_l0 (v0 : List Int) (v1 : List Int) : Option ((List (Int × Int × Int)) × Bool) := Lw impl_CopyOf.c (finish impl_CopyOf.c (fiOf (GT tab) Try.f32 impl_CopyOf.ms) (decRes tab impl_CopyOf.rs)) ((loops impl_CopyOf.c.cuts 1000 impl_CopyOf.b []).getD 0 []) { slots := [.vs false 3 v0, .vs false 3 v1, .undef, .undef, .undef, .undef, .undef, .undef, .undef, .undef, .undef, .undef, .undef, .undef, .undef, .undef, .undef, .undef, .undef, .undef, .undef, .undef, .undef, .undef, .undef, .undef, .undef, .undef, .undef, .undef, .undef, .undef, .undef, .undef, .undef, .undef, .undef, .undef, .undef, .undef, .undef, .undef, .undef, .undef, .undef, .undef, .undef, .undef, .undef, .undef, .undef, .undef, .undef, .undef, .undef, .undef, .undef, .undef, .undef, .undef], loc := locOf [], nx := 0 }
noncomputable def impl_CopyOf_l1 (v0 : List Int) (v1 : List Int) (v2 : List (Int × Int × Int)) : Option ((List (Int × Int × Int)) × Bool) := Lw impl_CopyOf.c (finish impl_CopyOf.c (fiOf (GT tab) Try.f32 impl_CopyOf.ms) (decRes tab impl_CopyOf.rs)) ((loops impl_CopyOf.c.cuts 1000 impl_CopyOf.b []).getD 1 []) { slots := [.vs false 3 v0, .vs false 3 v1, .undef, .undef, .undef, .undef, .sl 0 0, .undef, .undef, .undef, .undef, .undef, .undef, .undef, .undef, .undef, .undef, .undef, .undef, .undef, .undef, .undef, .undef, .undef, .undef, .undef, .undef, .undef, .undef, .undef, .undef, .undef, .undef, .undef, .undef, .undef, .undef, .undef, .undef, .undef, .undef, .undef, .undef, .undef, .undef, .undef, .undef, .undef, .undef, .undef, .undef, .undef, .undef, .undef, .undef, .undef, .undef, .undef, .undef, .undef], loc := locOf [.row 0 true 61 v2], nx := 1 }
noncomputable def impl_CopyOf_l2 (v0 : List Int) (v1 : List Int) (v2 : Int) (v3 : Int) (v4 : List (Int × Int × Int)) (v5 : Int) (v6 : Int) (v7 : Int) : Option ((List (Int × Int × Int)) × Bool) := Lw impl_CopyOf.c (finish impl_CopyOf.c (fiOf (GT tab) Try.f32 impl_CopyOf.ms) (decRes tab impl_CopyOf.rs)) ((loops impl_CopyOf.c.cuts 1000 impl_CopyOf.b []).getD 2 []) { slots := [.vs false 3 v0, .vs false 3 v1, .undef, .undef, .undef, .undef, .sl 0 0, .ptr 1 0, .undef, .undef, .undef, .undef, .undef, .undef, .undef, .undef, .undef, .undef, .undef, .undef, .undef, .undef, .int .i64 v2, .int .i64 v3, .undef, .undef, .undef, .undef, .undef, .undef, .undef, .undef, .undef, .undef, .undef, .undef, .undef, .undef, .undef, .undef, .undef, .undef, .undef, .undef, .undef, .undef, .undef, .undef, .undef, .undef, .undef, .undef, .undef, .undef, .undef, .undef, .undef, .undef, .undef, .undef], loc := locOf [.row 0 true 61 v4, .box 61 [.int .i64 v5, .int .i64 v6, .int .i64 v7]], nx := 2 }
theorem impl_CopyOf.eq (x0 : List Int) (x1 : List Int) : impl_CopyOf x0 x1 =
    (impl_areCopied x0).bind fun y1 =>
    bif !y1 then
      some (([] : List (Int × Int × Int)), false)
    else
      (impl_areCopied x1).bind fun y2 =>
      bif !y2 then
        some (([] : List (Int × Int × Int)), false)
      else
        impl_CopyOf_l0 x0 x1 := by kernel_rfl
theorem impl_CopyOf_l0.eq (v0 : List Int) (v1 : List Int) : impl_CopyOf_l0 v0 v1 =
    impl_CopyOf_l1 v0 v1 ([] : List (Int × Int × Int)) := (Lw_eq tysOk (getG_con (impl_CopyOf.gok _)) _ _).trans (by kernel_rfl)
theorem impl_CopyOf_l1.eq (v0 : List Int) (v1 : List Int) (v2 : List (Int × Int × Int)) : impl_CopyOf_l1 v0 v1 v2 =
    bif decide ((v1.length : Int) > (0 : Int)) then
      impl_CopyOf_l2 v0 v1 (v0.length : Int) (0 : Int) v2 (0 : Int) (0 : Int) (0 : Int)
    else
      some (v2, true) := (Lw_eq tysOk (getG_con (impl_CopyOf.gok _)) _ _).trans (by kernel_rfl)
theorem impl_CopyOf_l2.eq (v0 : List Int) (v1 : List Int) (v2 : Int) (v3 : Int) (v4 : List (Int × Int × Int)) (v5 : Int) (v6 : Int) (v7 : Int) : impl_CopyOf_l2 v0 v1 v2 v3 v4 v5 v6 v7 =
    bif decide (v3 < v2) then
      bif decide (0 ≤ v3 ∧ v3 ≤ ((v0.length : Nat) : Int)) then
        bif decide (0 ≤ IntKind.i64.wrap ((v1.length : Int) - (1 : Int)) ∧ IntKind.i64.wrap ((v1.length : Int) - (1 : Int)) ≤ ((v1.length : Nat) : Int)) then
          (impl_sharedAt ((v0.take v0.length).drop v3.toNat) ((v1.take ((IntKind.i64.wrap ((v1.length : Int) - (1 : Int))).toNat)).drop 0)).bind fun y1 =>
          bif decide (y1 > v6) then
            impl_CopyOf_l2 v0 v1 v2 (IntKind.i64.wrap (v3 + (1 : Int))) v4 v3 y1 v7
          else
            impl_CopyOf_l2 v0 v1 v2 (IntKind.i64.wrap (v3 + (1 : Int))) v4 v5 v6 v7
        else
          none
      else
        none
    else
      (at? v1 v6).bind fun y2 =>
      bif decide ((v4.length + ([(v5, v6, y2)] : List (Int × Int × Int)).length) * 24 ≤ 140737488355328) then
        bif decide (0 ≤ IntKind.i64.wrap (v6 + (1 : Int)) ∧ IntKind.i64.wrap (v6 + (1 : Int)) ≤ ((v1.length : Nat) : Int)) then
          impl_CopyOf_l1 v0 ((v1.take v1.length).drop ((IntKind.i64.wrap (v6 + (1 : Int))).toNat)) (v4 ++ ([(v5, v6, y2)] : List (Int × Int × Int)))
        else
          none
      else
        none := (Lw_eq tysOk (getG_con (impl_CopyOf.gok _)) _ _).trans (by kernel_rfl)

end Go.Ev.W
