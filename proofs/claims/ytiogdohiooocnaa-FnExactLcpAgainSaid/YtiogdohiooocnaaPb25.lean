/- What functions of the program come to. -/
import Derived.Test.YtiogdohiooocnaaPbT
import Derived.Test.YtiogdohiooocnaaPb22
import Derived.Test.YtiogdohiooocnaaPb24
namespace Go.Ev.W
open Go.Ev Go.Proofs
set_option maxRecDepth 100000
set_option linter.unusedVariables false

/-! ### spec_CopyOf: loop.example/g00688/spec.CopyOf -/
def spec_CopyOf.ms : List Mode := [.lend, .lend]
def spec_CopyOf.as : List VSh := [.one (.b (.b (.b (.b (.sl false false 3))))), .one (.b (.b (.b (.b (.sl false false 3)))))]
def spec_CopyOf.rs : RSh := ⟨[.one (.b (.b (.b (.b (.sl true true 127))))), .one (.b (.b (.b (.b (.bool)))))], [none, none]⟩
noncomputable def spec_CopyOf.gs (δ : Type) : List (Nat × Callee (GT tab) δ) := [(152, calleeS tab spec_l15Right.ms spec_l15Right.as spec_l15Right.rs spec_l15Right.fn)]
theorem spec_CopyOf.gok (δ : Type) : AllCon Try.prog tab (spec_CopyOf.gs δ) := .cons spec_l15Right.con (.nil)
noncomputable def spec_CopyOf.c : Ctx (GT tab) (KT tab) (ResT tab spec_CopyOf.rs) := { X := XT tab, ty := tyOf tys, inner := fun _ => true, keep := keepOf 0 spec_CopyOf.ms, cuts := [3], live := liveOf [(3, [0, 1]), (5, [0, 1, 6, 7]), (8, [0, 1, 6, 7, 8, 9]), (11, [0, 1, 6, 7, 8, 9, 10])], G := getG (spec_CopyOf.gs _) }
noncomputable def spec_CopyOf.b : Code := bodyOf Try.f103
noncomputable def spec_CopyOf (x0 : List Int) (x1 : List Int) : Option ((List (Int × Int × Int)) × Bool) := callW spec_CopyOf.c (fiOf (GT tab) Try.f103 spec_CopyOf.ms) spec_CopyOf.b (decRes tab spec_CopyOf.rs) (encArgs tab spec_CopyOf.as (x0, x1))
theorem spec_CopyOf.fok : FnOk Try.prog 103 Try.f103 spec_CopyOf.ms spec_CopyOf.b := ⟨Try.func103, by kernel_rfl, by kernel_rfl⟩
noncomputable def spec_CopyOf.fn : Args tab spec_CopyOf.as → Option (ResT tab spec_CopyOf.rs) := fun x => spec_CopyOf x.1 x.2
theorem spec_CopyOf.con {δ : Type} : Con Try.prog (KT tab) 103 (calleeS (β := δ) tab spec_CopyOf.ms spec_CopyOf.as spec_CopyOf.rs spec_CopyOf.fn) := con_shape (c := spec_CopyOf.c) mixed tysOk (getG_con (spec_CopyOf.gok _)) spec_CopyOf.fok rfl rfl (fun _ => rfl)
noncomputable def spec_CopyOf_l0 (v0 : List Int) (v1 : List Int) : Option ((List (Int × Int × Int)) × Bool) := Lw spec_CopyOf.c (finish spec_CopyOf.c (fiOf (GT tab) Try.f103 spec_CopyOf.ms) (decRes tab spec_CopyOf.rs)) ((loops spec_CopyOf.c.cuts 1000 spec_CopyOf.b []).getD 0 []) { slots := [.vs false 3 v0, .vs false 3 v1, .undef, .undef, .undef, .undef, .undef, .undef, .undef, .undef, .undef, .undef, .undef, .undef, .undef, .undef, .undef, .undef, .undef, .undef, .undef, .undef, .undef, .undef, .undef, .undef, .undef, .undef, .undef, .undef, .undef, .undef, .undef, .undef, .undef, .undef, .undef, .undef, .undef, .undef, .undef, .undef, .undef, .undef, .undef, .undef, .undef, .undef, .undef, .undef, .undef, .undef, .undef, .undef, .undef, .undef, .undef, .undef, .undef, .undef, .undef, .undef, .undef, .undef, .undef, .undef, .undef, .undef, .undef, .undef, .undef, .undef, .undef, .undef, .undef, .undef, .undef, .undef, .undef, .undef, .undef, .undef, .undef, .undef, .undef, .undef, .undef, .undef], loc := locOf [], nx := 0 }
noncomputable def spec_CopyOf_l1 (v0 : List Int) (v1 : List Int) (v2 : Int) (v3 : List (Int × Int × Int)) : Option ((List (Int × Int × Int)) × Bool) := Lw spec_CopyOf.c (finish spec_CopyOf.c (fiOf (GT tab) Try.f103 spec_CopyOf.ms) (decRes tab spec_CopyOf.rs)) ((loops spec_CopyOf.c.cuts 1000 spec_CopyOf.b []).getD 1 []) { slots := [.vs false 3 v0, .vs false 3 v1, .undef, .undef, .undef, .undef, .sl 0 0, .int .i64 v2, .undef, .undef, .undef, .undef, .undef, .undef, .undef, .undef, .undef, .undef, .undef, .undef, .undef, .undef, .undef, .undef, .undef, .undef, .undef, .undef, .undef, .undef, .undef, .undef, .undef, .undef, .undef, .undef, .undef, .undef, .undef, .undef, .undef, .undef, .undef, .undef, .undef, .undef, .undef, .undef, .undef, .undef, .undef, .undef, .undef, .undef, .undef, .undef, .undef, .undef, .undef, .undef, .undef, .undef, .undef, .undef, .undef, .undef, .undef, .undef, .undef, .undef, .undef, .undef, .undef, .undef, .undef, .undef, .undef, .undef, .undef, .undef, .undef, .undef, .undef, .undef, .undef, .undef, .undef, .undef], loc := locOf [.row 0 true 127 v3], nx := 1 }
noncomputable def spec_CopyOf_l2 (v0 : List Int) (v1 : List Int) (v2 : Int) (v3 : Int) (v4 : List (Int × Int × Int)) (v5 : Int) (v6 : Int) (v7 : Int) : Option ((List (Int × Int × Int)) × Bool) := Lw spec_CopyOf.c (finish spec_CopyOf.c (fiOf (GT tab) Try.f103 spec_CopyOf.ms) (decRes tab spec_CopyOf.rs)) ((loops spec_CopyOf.c.cuts 1000 spec_CopyOf.b []).getD 2 []) { slots := [.vs false 3 v0, .vs false 3 v1, .undef, .undef, .undef, .undef, .sl 0 0, .int .i64 v2, .ptr 1 0, .int .i64 v3, .undef, .undef, .undef, .undef, .undef, .undef, .undef, .undef, .undef, .undef, .undef, .undef, .undef, .undef, .undef, .undef, .undef, .undef, .undef, .undef, .undef, .undef, .undef, .undef, .undef, .undef, .undef, .undef, .undef, .undef, .undef, .undef, .undef, .undef, .undef, .undef, .undef, .undef, .undef, .undef, .undef, .undef, .undef, .undef, .undef, .undef, .undef, .undef, .undef, .undef, .undef, .undef, .undef, .undef, .undef, .undef, .undef, .undef, .undef, .undef, .undef, .undef, .undef, .undef, .undef, .undef, .undef, .undef, .undef, .undef, .undef, .undef, .undef, .undef, .undef, .undef, .undef, .undef], loc := locOf [.row 0 true 127 v4, .box 127 [.int .i64 v5, .int .i64 v6, .int .i64 v7]], nx := 2 }
noncomputable def spec_CopyOf_l3 (v0 : List Int) (v1 : List Int) (v2 : Int) (v3 : Int) (v4 : Int) (v5 : List (Int × Int × Int)) (v6 : Int) (v7 : Int) (v8 : Int) : Option ((List (Int × Int × Int)) × Bool) := Lw spec_CopyOf.c (finish spec_CopyOf.c (fiOf (GT tab) Try.f103 spec_CopyOf.ms) (decRes tab spec_CopyOf.rs)) ((loops spec_CopyOf.c.cuts 1000 spec_CopyOf.b []).getD 3 []) { slots := [.vs false 3 v0, .vs false 3 v1, .undef, .undef, .undef, .undef, .sl 0 0, .int .i64 v2, .ptr 1 0, .int .i64 v3, .int .i64 v4, .undef, .undef, .undef, .undef, .undef, .undef, .undef, .undef, .undef, .undef, .undef, .undef, .undef, .undef, .undef, .undef, .undef, .undef, .undef, .undef, .undef, .undef, .undef, .undef, .undef, .undef, .undef, .undef, .undef, .undef, .undef, .undef, .undef, .undef, .undef, .undef, .undef, .undef, .undef, .undef, .undef, .undef, .undef, .undef, .undef, .undef, .undef, .undef, .undef, .undef, .undef, .undef, .undef, .undef, .undef, .undef, .undef, .undef, .undef, .undef, .undef, .undef, .undef, .undef, .undef, .undef, .undef, .undef, .undef, .undef, .undef, .undef, .undef, .undef, .undef, .undef, .undef], loc := locOf [.row 0 true 127 v5, .box 127 [.int .i64 v6, .int .i64 v7, .int .i64 v8]], nx := 2 }
theorem spec_CopyOf.eq (x0 : List Int) (x1 : List Int) : spec_CopyOf x0 x1 =
    (spec_l15Right x0).bind fun y1 =>
    bif !y1 then
      some (([] : List (Int × Int × Int)), false)
    else
      (spec_l15Right x1).bind fun y2 =>
      bif !y2 then
        some (([] : List (Int × Int × Int)), false)
      else
        spec_CopyOf_l0 x0 x1 := by kernel_rfl
theorem spec_CopyOf_l0.eq (v0 : List Int) (v1 : List Int) : spec_CopyOf_l0 v0 v1 =
    spec_CopyOf_l1 v0 v1 (0 : Int) ([] : List (Int × Int × Int)) := (Lw_eq tysOk (getG_con (spec_CopyOf.gok _)) _ _).trans (by kernel_rfl)
theorem spec_CopyOf_l1.eq (v0 : List Int) (v1 : List Int) (v2 : Int) (v3 : List (Int × Int × Int)) : spec_CopyOf_l1 v0 v1 v2 v3 =
    bif decide (v2 < (v1.length : Int)) then
      spec_CopyOf_l2 v0 v1 v2 (0 : Int) v3 (0 : Int) (0 : Int) (0 : Int)
    else
      some (v3, true) := (Lw_eq tysOk (getG_con (spec_CopyOf.gok _)) _ _).trans (by kernel_rfl)
theorem spec_CopyOf_l2.eq (v0 : List Int) (v1 : List Int) (v2 : Int) (v3 : Int) (v4 : List (Int × Int × Int)) (v5 : Int) (v6 : Int) (v7 : Int) : spec_CopyOf_l2 v0 v1 v2 v3 v4 v5 v6 v7 =
    bif decide (v3 < (v0.length : Int)) then
      spec_CopyOf_l3 v0 v1 v2 v3 (0 : Int) v4 v5 v6 v7
    else
      (at? v1 (IntKind.i64.wrap (v2 + v6))).bind fun y1 =>
      bif decide ((v4.length + ([(v5, v6, y1)] : List (Int × Int × Int)).length) * 24 ≤ 140737488355328) then
        spec_CopyOf_l1 v0 v1 (IntKind.i64.wrap ((IntKind.i64.wrap (v2 + v6)) + (1 : Int))) (v4 ++ ([(v5, v6, y1)] : List (Int × Int × Int)))
      else
        none := (Lw_eq tysOk (getG_con (spec_CopyOf.gok _)) _ _).trans (by kernel_rfl)
theorem spec_CopyOf_l3.eq (v0 : List Int) (v1 : List Int) (v2 : Int) (v3 : Int) (v4 : Int) (v5 : List (Int × Int × Int)) (v6 : Int) (v7 : Int) (v8 : Int) : spec_CopyOf_l3 v0 v1 v2 v3 v4 v5 v6 v7 v8 =
    bif decide (IntKind.i64.wrap (v3 + v4) < (v0.length : Int)) then
      bif decide (IntKind.i64.wrap (v2 + v4) < IntKind.i64.wrap ((v1.length : Int) - (1 : Int))) then
        (at? v0 (IntKind.i64.wrap (v3 + v4))).bind fun y1 =>
        (at? v1 (IntKind.i64.wrap (v2 + v4))).bind fun y2 =>
        bif y1 == y2 then
          spec_CopyOf_l3 v0 v1 v2 v3 (IntKind.i64.wrap (v4 + (1 : Int))) v5 v6 v7 v8
        else
          bif decide (v4 > v7) then
            spec_CopyOf_l2 v0 v1 v2 (IntKind.i64.wrap (v3 + (1 : Int))) v5 v3 v4 (0 : Int)
          else
            spec_CopyOf_l2 v0 v1 v2 (IntKind.i64.wrap (v3 + (1 : Int))) v5 v6 v7 v8
      else
        bif decide (v4 > v7) then
          spec_CopyOf_l2 v0 v1 v2 (IntKind.i64.wrap (v3 + (1 : Int))) v5 v3 v4 (0 : Int)
        else
          spec_CopyOf_l2 v0 v1 v2 (IntKind.i64.wrap (v3 + (1 : Int))) v5 v6 v7 v8
    else
      bif decide (v4 > v7) then
        spec_CopyOf_l2 v0 v1 v2 (IntKind.i64.wrap (v3 + (1 : Int))) v5 v3 v4 (0 : Int)
      else
        spec_CopyOf_l2 v0 v1 v2 (IntKind.i64.wrap (v3 + (1 : Int))) v5 v6 v7 v8 := (Lw_eq tysOk (getG_con (spec_CopyOf.gok _)) _ _).trans (by kernel_rfl)

/-! ### spec_LcpBeside: loop.example/g00688/spec.LcpBeside -/
def spec_LcpBeside.ms : List Mode := [.lend, .lend]
def spec_LcpBeside.as : List VSh := [.one (.b (.b (.b (.b (.sl false false 5))))), .one (.b (.b (.b (.b (.sl false false 5)))))]
def spec_LcpBeside.rs : RSh := ⟨[.one (.b (.b (.b (.b (.sl true true 127))))), .one (.b (.b (.b (.b (.bool)))))], [none, none]⟩
noncomputable def spec_LcpBeside.gs (δ : Type) : List (Nat × Callee (GT tab) δ) := [(100, calleeS tab spec_TextOk.ms spec_TextOk.as spec_TextOk.rs spec_TextOk.fn), (101, calleeS tab spec_Deltas.ms spec_Deltas.as spec_Deltas.rs spec_Deltas.fn), (102, calleeS tab spec_LcpRows.ms spec_LcpRows.as spec_LcpRows.rs spec_LcpRows.fn), (103, calleeS tab spec_CopyOf.ms spec_CopyOf.as spec_CopyOf.rs spec_CopyOf.fn)]
theorem spec_LcpBeside.gok (δ : Type) : AllCon Try.prog tab (spec_LcpBeside.gs δ) := .cons spec_TextOk.con (.cons spec_Deltas.con (.cons spec_LcpRows.con (.cons spec_CopyOf.con (.nil))))
noncomputable def spec_LcpBeside.c : Ctx (GT tab) (KT tab) (ResT tab spec_LcpBeside.rs) := { X := XT tab, ty := tyOf tys, inner := fun _ => true, keep := keepOf 0 spec_LcpBeside.ms, cuts := [3], live := liveOf [(3, [0, 1])], G := getG (spec_LcpBeside.gs _) }
noncomputable def spec_LcpBeside.b : Code := bodyOf Try.f48
noncomputable def spec_LcpBeside (x0 : List Int) (x1 : List Int) : Option ((List (Int × Int × Int)) × Bool) := callW spec_LcpBeside.c (fiOf (GT tab) Try.f48 spec_LcpBeside.ms) spec_LcpBeside.b (decRes tab spec_LcpBeside.rs) (encArgs tab spec_LcpBeside.as (x0, x1))
theorem spec_LcpBeside.fok : FnOk Try.prog 48 Try.f48 spec_LcpBeside.ms spec_LcpBeside.b := ⟨Try.func48, by kernel_rfl, by kernel_rfl⟩
noncomputable def spec_LcpBeside.fn : Args tab spec_LcpBeside.as → Option (ResT tab spec_LcpBeside.rs) := fun x => spec_LcpBeside x.1 x.2
theorem spec_LcpBeside.con {δ : Type} : Con Try.prog (KT tab) 48 (calleeS (β := δ) tab spec_LcpBeside.ms spec_LcpBeside.as spec_LcpBeside.rs spec_LcpBeside.fn) := con_shape (c := spec_LcpBeside.c) mixed tysOk (getG_con (spec_LcpBeside.gok _)) spec_LcpBeside.fok rfl rfl (fun _ => rfl)
noncomputable def spec_LcpBeside_l0 (v0 : List Int) (v1 : List Int) : Option ((List (Int × Int × Int)) × Bool) := Lw spec_LcpBeside.c (finish spec_LcpBeside.c (fiOf (GT tab) Try.f48 spec_LcpBeside.ms) (decRes tab spec_LcpBeside.rs)) ((loops spec_LcpBeside.c.cuts 1000 spec_LcpBeside.b []).getD 0 []) { slots := [.vs false 5 v0, .vs false 5 v1, .undef, .undef, .undef, .undef, .undef, .undef, .undef, .undef, .undef, .undef, .undef, .undef, .undef, .undef, .undef, .undef, .undef, .undef, .undef, .undef, .undef, .undef, .undef, .undef, .undef, .undef, .undef, .undef, .undef, .undef, .undef, .undef, .undef], loc := locOf [], nx := 0 }
theorem spec_LcpBeside.eq (x0 : List Int) (x1 : List Int) : spec_LcpBeside x0 x1 =
    (spec_TextOk x0).bind fun y1 =>
    bif !y1 then
      some (([] : List (Int × Int × Int)), false)
    else
      (spec_TextOk x1).bind fun y2 =>
      bif !y2 then
        some (([] : List (Int × Int × Int)), false)
      else
        spec_LcpBeside_l0 x0 x1 := by kernel_rfl
theorem spec_LcpBeside_l0.eq (v0 : List Int) (v1 : List Int) : spec_LcpBeside_l0 v0 v1 =
    (spec_LcpRows v0).bind fun y1 =>
    (spec_Deltas y1).bind fun y2 =>
    (spec_LcpRows v1).bind fun y3 =>
    (spec_Deltas y3).bind fun y4 =>
    (spec_CopyOf y2.1 y4.1).bind fun y5 =>
    some (y5.1, y5.2) := (Lw_eq tysOk (getG_con (spec_LcpBeside.gok _)) _ _).trans (by kernel_rfl)

/-! ### impl_sharedAt: loop.example/g00688/impl.sharedAt -/
def impl_sharedAt.ms : List Mode := [.lend, .lend]
def impl_sharedAt.as : List VSh := [.one (.b (.b (.b (.b (.sl false false 3))))), .one (.b (.b (.b (.b (.sl false false 3)))))]
def impl_sharedAt.rs : RSh := ⟨[.one (.b (.b (.b (.b (.int .i64)))))], [none, none]⟩
noncomputable def impl_sharedAt.gs (δ : Type) : List (Nat × Callee (GT tab) δ) := []
theorem impl_sharedAt.gok (δ : Type) : AllCon Try.prog tab (impl_sharedAt.gs δ) := .nil
noncomputable def impl_sharedAt.c : Ctx (GT tab) (KT tab) (ResT tab impl_sharedAt.rs) := { X := XT tab, ty := tyOf tys, inner := fun _ => true, keep := keepOf 0 impl_sharedAt.ms, cuts := [], live := liveOf [(2, [0, 1, 5])], G := getG (impl_sharedAt.gs _) }
noncomputable def impl_sharedAt.b : Code := bodyOf Try.f156
noncomputable def impl_sharedAt (x0 : List Int) (x1 : List Int) : Option (Int) := callW impl_sharedAt.c (fiOf (GT tab) Try.f156 impl_sharedAt.ms) impl_sharedAt.b (decRes tab impl_sharedAt.rs) (encArgs tab impl_sharedAt.as (x0, x1))
theorem impl_sharedAt.fok : FnOk Try.prog 156 Try.f156 impl_sharedAt.ms impl_sharedAt.b := ⟨Try.func156, by kernel_rfl, by kernel_rfl⟩
noncomputable def impl_sharedAt.fn : Args tab impl_sharedAt.as → Option (ResT tab impl_sharedAt.rs) := fun x => impl_sharedAt x.1 x.2
theorem impl_sharedAt.con {δ : Type} : Con Try.prog (KT tab) 156 (calleeS (β := δ) tab impl_sharedAt.ms impl_sharedAt.as impl_sharedAt.rs impl_sharedAt.fn) := con_shape (c := impl_sharedAt.c) mixed tysOk (getG_con (impl_sharedAt.gok _)) impl_sharedAt.fok rfl rfl (fun _ => rfl)
noncomputable def impl_sharedAt_l0 (v0 : List Int) (v1 : List Int) (v2 : Int) : Option (Int) := Lw impl_sharedAt.c (finish impl_sharedAt.c (fiOf (GT tab) Try.f156 impl_sharedAt.ms) (decRes tab impl_sharedAt.rs)) ((loops impl_sharedAt.c.cuts 1000 impl_sharedAt.b []).getD 0 []) { slots := [.vs false 3 v0, .vs false 3 v1, .undef, .undef, .undef, .int .i64 v2, .undef, .undef, .undef, .undef, .undef, .undef, .undef, .undef, .undef, .undef, .undef, .undef, .undef, .undef, .undef, .undef, .undef, .undef, .undef, .undef, .undef], loc := locOf [], nx := 0 }
theorem impl_sharedAt.eq (x0 : List Int) (x1 : List Int) : impl_sharedAt x0 x1 =
    impl_sharedAt_l0 x0 x1 (0 : Int) := by kernel_rfl
theorem impl_sharedAt_l0.eq (v0 : List Int) (v1 : List Int) (v2 : Int) : impl_sharedAt_l0 v0 v1 v2 =
    bif decide (v2 < (if (v1.length : Int) < (v0.length : Int) then (v1.length : Int) else (v0.length : Int))) then
      (at? v0 v2).bind fun y1 =>
      (at? v1 v2).bind fun y2 =>
      bif y1 == y2 then
        impl_sharedAt_l0 v0 v1 (IntKind.i64.wrap (v2 + (1 : Int)))
      else
        some v2
    else
      some v2 := (Lw_eq tysOk (getG_con (impl_sharedAt.gok _)) _ _).trans (by kernel_rfl)

/-! ### impl_CopyOf: loop.example/g00688/impl.CopyOf -/
def impl_CopyOf.ms : List Mode := [.lend, .lend]
def impl_CopyOf.as : List VSh := [.one (.b (.b (.b (.b (.sl false false 3))))), .one (.b (.b (.b (.b (.sl false false 3)))))]
def impl_CopyOf.rs : RSh := ⟨[.one (.b (.b (.b (.b (.sl true true 127))))), .one (.b (.b (.b (.b (.bool)))))], [none, none]⟩
noncomputable def impl_CopyOf.gs (δ : Type) : List (Nat × Callee (GT tab) δ) := [(155, calleeS tab impl_areCopied.ms impl_areCopied.as impl_areCopied.rs impl_areCopied.fn), (156, calleeS tab impl_sharedAt.ms impl_sharedAt.as impl_sharedAt.rs impl_sharedAt.fn)]
theorem impl_CopyOf.gok (δ : Type) : AllCon Try.prog tab (impl_CopyOf.gs δ) := .cons impl_areCopied.con (.cons impl_sharedAt.con (.nil))
noncomputable def impl_CopyOf.c : Ctx (GT tab) (KT tab) (ResT tab impl_CopyOf.rs) := { X := XT tab, ty := tyOf tys, inner := fun _ => true, keep := keepOf 0 impl_CopyOf.ms, cuts := [3], live := liveOf [(3, [0, 1]), (4, [0, 1, 6]), (7, [0, 1, 6, 7, 22, 23])], G := getG (impl_CopyOf.gs _) }
noncomputable def impl_CopyOf.b : Code := bodyOf Try.f105
noncomputable def impl_CopyOf (x0 : List Int) (x1 : List Int) : Option ((List (Int × Int × Int)) × Bool) := callW impl_CopyOf.c (fiOf (GT tab) Try.f105 impl_CopyOf.ms) impl_CopyOf.b (decRes tab impl_CopyOf.rs) (encArgs tab impl_CopyOf.as (x0, x1))
theorem impl_CopyOf.fok : FnOk Try.prog 105 Try.f105 impl_CopyOf.ms impl_CopyOf.b := ⟨Try.func105, by kernel_rfl, by kernel_rfl⟩
noncomputable def impl_CopyOf.fn : Args tab impl_CopyOf.as → Option (ResT tab impl_CopyOf.rs) := fun x => impl_CopyOf x.1 x.2
theorem impl_CopyOf.con {δ : Type} : Con Try.prog (KT tab) 105 (calleeS (β := δ) tab impl_CopyOf.ms impl_CopyOf.as impl_CopyOf.rs impl_CopyOf.fn) := con_shape (c := impl_CopyOf.c) mixed tysOk (getG_con (impl_CopyOf.gok _)) impl_CopyOf.fok rfl rfl (fun _ => rfl)
noncomputable def impl_CopyOf_l0 (v0 : List Int) (v1 : List Int) : Option ((List (Int × Int × Int)) × Bool) := Lw impl_CopyOf.c (finish impl_CopyOf.c (fiOf (GT tab) Try.f105 impl_CopyOf.ms) (decRes tab impl_CopyOf.rs)) ((loops impl_CopyOf.c.cuts 1000 impl_CopyOf.b []).getD 0 []) { slots := [.vs false 3 v0, .vs false 3 v1, .undef, .undef, .undef, .undef, .undef, .undef, .undef, .undef, .undef, .undef, .undef, .undef, .undef, .undef, .undef, .undef, .undef, .undef, .undef, .undef, .undef, .undef, .undef, .undef, .undef, .undef, .undef, .undef, .undef, .undef, .undef, .undef, .undef, .undef, .undef, .undef, .undef, .undef, .undef, .undef, .undef, .undef, .undef, .undef, .undef, .undef, .undef, .undef, .undef, .undef, .undef, .undef, .undef, .undef, .undef, .undef, .undef, .undef], loc := locOf [], nx := 0 }
noncomputable def impl_CopyOf_l1 (v0 : List Int) (v1 : List Int) (v2 : List (Int × Int × Int)) : Option ((List (Int × Int × Int)) × Bool) := Lw impl_CopyOf.c (finish impl_CopyOf.c (fiOf (GT tab) Try.f105 impl_CopyOf.ms) (decRes tab impl_CopyOf.rs)) ((loops impl_CopyOf.c.cuts 1000 impl_CopyOf.b []).getD 1 []) { slots := [.vs false 3 v0, .vs false 3 v1, .undef, .undef, .undef, .undef, .sl 0 0, .undef, .undef, .undef, .undef, .undef, .undef, .undef, .undef, .undef, .undef, .undef, .undef, .undef, .undef, .undef, .undef, .undef, .undef, .undef, .undef, .undef, .undef, .undef, .undef, .undef, .undef, .undef, .undef, .undef, .undef, .undef, .undef, .undef, .undef, .undef, .undef, .undef, .undef, .undef, .undef, .undef, .undef, .undef, .undef, .undef, .undef, .undef, .undef, .undef, .undef, .undef, .undef, .undef], loc := locOf [.row 0 true 127 v2], nx := 1 }
noncomputable def impl_CopyOf_l2 (v0 : List Int) (v1 : List Int) (v2 : Int) (v3 : Int) (v4 : List (Int × Int × Int)) (v5 : Int) (v6 : Int) (v7 : Int) : Option ((List (Int × Int × Int)) × Bool) := Lw impl_CopyOf.c (finish impl_CopyOf.c (fiOf (GT tab) Try.f105 impl_CopyOf.ms) (decRes tab impl_CopyOf.rs)) ((loops impl_CopyOf.c.cuts 1000 impl_CopyOf.b []).getD 2 []) { slots := [.vs false 3 v0, .vs false 3 v1, .undef, .undef, .undef, .undef, .sl 0 0, .ptr 1 0, .undef, .undef, .undef, .undef, .undef, .undef, .undef, .undef, .undef, .undef, .undef, .undef, .undef, .undef, .int .i64 v2, .int .i64 v3, .undef, .undef, .undef, .undef, .undef, .undef, .undef, .undef, .undef, .undef, .undef, .undef, .undef, .undef, .undef, .undef, .undef, .undef, .undef, .undef, .undef, .undef, .undef, .undef, .undef, .undef, .undef, .undef, .undef, .undef, .undef, .undef, .undef, .undef, .undef, .undef], loc := locOf [.row 0 true 127 v4, .box 127 [.int .i64 v5, .int .i64 v6, .int .i64 v7]], nx := 2 }
theorem impl_CopyOf.eq (x0 : List Int) (x1 : List Int) : impl_CopyOf x0 x1 =
    (impl_areCopied x0).bind fun y1 =>
    bif !y1 then
      some (([] : List (Int × Int × Int)), false)
    else
      (impl_areCopied x1).bind fun y2 =>
      bif !y2 then
        some (([] : List (Int × Int × Int)), false)
      else
        impl_CopyOf_l0 x0 x1 := by kernel_rfl
theorem impl_CopyOf_l0.eq (v0 : List Int) (v1 : List Int) : impl_CopyOf_l0 v0 v1 =
    impl_CopyOf_l1 v0 v1 ([] : List (Int × Int × Int)) := (Lw_eq tysOk (getG_con (impl_CopyOf.gok _)) _ _).trans (by kernel_rfl)
theorem impl_CopyOf_l1.eq (v0 : List Int) (v1 : List Int) (v2 : List (Int × Int × Int)) : impl_CopyOf_l1 v0 v1 v2 =
    bif decide ((v1.length : Int) > (0 : Int)) then
      impl_CopyOf_l2 v0 v1 (v0.length : Int) (0 : Int) v2 (0 : Int) (0 : Int) (0 : Int)
    else
      some (v2, true) := (Lw_eq tysOk (getG_con (impl_CopyOf.gok _)) _ _).trans (by kernel_rfl)
theorem impl_CopyOf_l2.eq (v0 : List Int) (v1 : List Int) (v2 : Int) (v3 : Int) (v4 : List (Int × Int × Int)) (v5 : Int) (v6 : Int) (v7 : Int) : impl_CopyOf_l2 v0 v1 v2 v3 v4 v5 v6 v7 =
    bif decide (v3 < v2) then
      bif decide (0 ≤ v3 ∧ v3 ≤ ((v0.length : Nat) : Int)) then
        bif decide (0 ≤ IntKind.i64.wrap ((v1.length : Int) - (1 : Int)) ∧ IntKind.i64.wrap ((v1.length : Int) - (1 : Int)) ≤ ((v1.length : Nat) : Int)) then
          (impl_sharedAt ((v0.take v0.length).drop v3.toNat) ((v1.take ((IntKind.i64.wrap ((v1.length : Int) - (1 : Int))).toNat)).drop 0)).bind fun y1 =>
          bif decide (y1 > v6) then
            impl_CopyOf_l2 v0 v1 v2 (IntKind.i64.wrap (v3 + (1 : Int))) v4 v3 y1 v7
          else
            impl_CopyOf_l2 v0 v1 v2 (IntKind.i64.wrap (v3 + (1 : Int))) v4 v5 v6 v7
        else
          none
      else
        none
    else
      (at? v1 v6).bind fun y2 =>
      bif decide ((v4.length + ([(v5, v6, y2)] : List (Int × Int × Int)).length) * 24 ≤ 140737488355328) then
        bif decide (0 ≤ IntKind.i64.wrap (v6 + (1 : Int)) ∧ IntKind.i64.wrap (v6 + (1 : Int)) ≤ ((v1.length : Nat) : Int)) then
          impl_CopyOf_l1 v0 ((v1.take v1.length).drop ((IntKind.i64.wrap (v6 + (1 : Int))).toNat)) (v4 ++ ([(v5, v6, y2)] : List (Int × Int × Int)))
        else
          none
      else
        none := (Lw_eq tysOk (getG_con (impl_CopyOf.gok _)) _ _).trans (by kernel_rfl)

/-! ### impl_LcpBeside: loop.example/g00688/impl.LcpBeside -/
def impl_LcpBeside.ms : List Mode := [.lend, .lend]
def impl_LcpBeside.as : List VSh := [.one (.b (.b (.b (.b (.sl false false 5))))), .one (.b (.b (.b (.b (.sl false false 5)))))]
def impl_LcpBeside.rs : RSh := ⟨[.one (.b (.b (.b (.b (.sl true true 127))))), .one (.b (.b (.b (.b (.bool)))))], [none, none]⟩
noncomputable def impl_LcpBeside.gs (δ : Type) : List (Nat × Callee (GT tab) δ) := [(104, calleeS tab impl_TextOk.ms impl_TextOk.as impl_TextOk.rs impl_TextOk.fn), (105, calleeS tab impl_CopyOf.ms impl_CopyOf.as impl_CopyOf.rs impl_CopyOf.fn), (106, calleeS tab impl_deltas.ms impl_deltas.as impl_deltas.rs impl_deltas.fn), (107, calleeS tab impl_lcpRows.ms impl_lcpRows.as impl_lcpRows.rs impl_lcpRows.fn)]
theorem impl_LcpBeside.gok (δ : Type) : AllCon Try.prog tab (impl_LcpBeside.gs δ) := .cons impl_TextOk.con (.cons impl_CopyOf.con (.cons impl_deltas.con (.cons impl_lcpRows.con (.nil))))
noncomputable def impl_LcpBeside.c : Ctx (GT tab) (KT tab) (ResT tab impl_LcpBeside.rs) := { X := XT tab, ty := tyOf tys, inner := fun _ => true, keep := keepOf 0 impl_LcpBeside.ms, cuts := [], live := liveOf [], G := getG (impl_LcpBeside.gs _) }
noncomputable def impl_LcpBeside.b : Code := bodyOf Try.f49
noncomputable def impl_LcpBeside (x0 : List Int) (x1 : List Int) : Option ((List (Int × Int × Int)) × Bool) := callW impl_LcpBeside.c (fiOf (GT tab) Try.f49 impl_LcpBeside.ms) impl_LcpBeside.b (decRes tab impl_LcpBeside.rs) (encArgs tab impl_LcpBeside.as (x0, x1))
theorem impl_LcpBeside.fok : FnOk Try.prog 49 Try.f49 impl_LcpBeside.ms impl_LcpBeside.b := ⟨Try.func49, by kernel_rfl, by kernel_rfl⟩
noncomputable def impl_LcpBeside.fn : Args tab impl_LcpBeside.as → Option (ResT tab impl_LcpBeside.rs) := fun x => impl_LcpBeside x.1 x.2
theorem impl_LcpBeside.con {δ : Type} : Con Try.prog (KT tab) 49 (calleeS (β := δ) tab impl_LcpBeside.ms impl_LcpBeside.as impl_LcpBeside.rs impl_LcpBeside.fn) := con_shape (c := impl_LcpBeside.c) mixed tysOk (getG_con (impl_LcpBeside.gok _)) impl_LcpBeside.fok rfl rfl (fun _ => rfl)
theorem impl_LcpBeside.eq (x0 : List Int) (x1 : List Int) : impl_LcpBeside x0 x1 =
    (impl_TextOk x0).bind fun y1 =>
    bif !y1 then
      some (([] : List (Int × Int × Int)), false)
    else
      (impl_TextOk x1).bind fun y2 =>
      bif !y2 then
        some (([] : List (Int × Int × Int)), false)
      else
        (impl_lcpRows x0).bind fun y3 =>
        (impl_deltas y3).bind fun y4 =>
        (impl_lcpRows x1).bind fun y5 =>
        (impl_deltas y5).bind fun y6 =>
        (impl_CopyOf y4 y6).bind fun y7 =>
        some (y7.1, y7.2) := by kernel_rfl

/-! ### laws_heldCopyS: loop.example/g00688/laws.heldCopyS -/
def laws_heldCopyS.ms : List Mode := [.lend, .lend]
def laws_heldCopyS.as : List VSh := [.one (.b (.b (.b (.b (.sl false false 127))))), .one (.b (.b (.b (.b (.int .i64)))))]
def laws_heldCopyS.rs : RSh := ⟨[.one (.b (.b (.b (.b (.int .i64)))))], [none, none]⟩
noncomputable def laws_heldCopyS.gs (δ : Type) : List (Nat × Callee (GT tab) δ) := []
theorem laws_heldCopyS.gok (δ : Type) : AllCon Try.prog tab (laws_heldCopyS.gs δ) := .nil
noncomputable def laws_heldCopyS.c : Ctx (GT tab) (KT tab) (ResT tab laws_heldCopyS.rs) := { X := XT tab, ty := tyOf tys, inner := fun _ => true, keep := keepOf 0 laws_heldCopyS.ms, cuts := [], live := liveOf [(2, [0, 1, 5])], G := getG (laws_heldCopyS.gs _) }
noncomputable def laws_heldCopyS.b : Code := bodyOf Try.f52
noncomputable def laws_heldCopyS (x0 : List (Int × Int × Int)) (x1 : Int) : Option (Int) := callW laws_heldCopyS.c (fiOf (GT tab) Try.f52 laws_heldCopyS.ms) laws_heldCopyS.b (decRes tab laws_heldCopyS.rs) (encArgs tab laws_heldCopyS.as (x0, x1))
theorem laws_heldCopyS.fok : FnOk Try.prog 52 Try.f52 laws_heldCopyS.ms laws_heldCopyS.b := ⟨Try.func52, by kernel_rfl, by kernel_rfl⟩
noncomputable def laws_heldCopyS.fn : Args tab laws_heldCopyS.as → Option (ResT tab laws_heldCopyS.rs) := fun x => laws_heldCopyS x.1 x.2
theorem laws_heldCopyS.con {δ : Type} : Con Try.prog (KT tab) 52 (calleeS (β := δ) tab laws_heldCopyS.ms laws_heldCopyS.as laws_heldCopyS.rs laws_heldCopyS.fn) := con_shape (c := laws_heldCopyS.c) mixed tysOk (getG_con (laws_heldCopyS.gok _)) laws_heldCopyS.fok rfl rfl (fun _ => rfl)
noncomputable def laws_heldCopyS_l0 (v0 : List (Int × Int × Int)) (v1 : Int) (v2 : Int) : Option (Int) := Lw laws_heldCopyS.c (finish laws_heldCopyS.c (fiOf (GT tab) Try.f52 laws_heldCopyS.ms) (decRes tab laws_heldCopyS.rs)) ((loops laws_heldCopyS.c.cuts 1000 laws_heldCopyS.b []).getD 0 []) { slots := [.vs false 127 v0, .int .i64 v1, .undef, .undef, .undef, .int .i64 v2, .undef, .undef, .undef, .undef, .undef, .undef, .undef, .undef, .undef, .undef, .undef, .undef, .undef, .undef, .undef, .undef, .undef, .undef, .undef, .undef, .undef, .undef, .undef, .undef, .undef, .undef, .undef, .undef, .undef, .undef, .undef, .undef, .undef, .undef], loc := locOf [], nx := 0 }
theorem laws_heldCopyS.eq (x0 : List (Int × Int × Int)) (x1 : Int) : laws_heldCopyS x0 x1 =
    laws_heldCopyS_l0 x0 x1 (0 : Int) := by kernel_rfl
theorem laws_heldCopyS_l0.eq (v0 : List (Int × Int × Int)) (v1 : Int) (v2 : Int) : laws_heldCopyS_l0 v0 v1 v2 =
    bif decide (v2 < (v0.length : Int)) then
      (at? v0 v2).bind fun y1 =>
      bif y1.1 != v1 then
        some (-1 : Int)
      else
        (at? v0 v2).bind fun y2 =>
        bif y2.2.1 != IntKind.i64.wrap (v1 + (1 : Int)) then
          some (-1 : Int)
        else
          (at? v0 v2).bind fun y3 =>
          bif y3.2.2 != IntKind.i64.wrap ((IntKind.i64.wrap (v1 + (1 : Int))) + (1 : Int)) then
            some (-1 : Int)
          else
            laws_heldCopyS_l0 v0 (IntKind.i64.wrap ((IntKind.i64.wrap ((IntKind.i64.wrap (v1 + (1 : Int))) + (1 : Int))) + (1 : Int))) (IntKind.i64.wrap (v2 + (1 : Int)))
    else
      some v1 := (Lw_eq tysOk (getG_con (laws_heldCopyS.gok _)) _ _).trans (by kernel_rfl)

end Go.Ev.W
