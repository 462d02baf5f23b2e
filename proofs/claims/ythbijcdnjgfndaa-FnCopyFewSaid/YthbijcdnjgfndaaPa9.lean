/- What functions of the program come to. -/
import Derived.Test.YthbijcdnjgfndaaPaT
import Derived.Test.YthbijcdnjgfndaaPa2
import Derived.Test.YthbijcdnjgfndaaPa5
namespace Go.Ev.W
open Go.Ev Go.Proofs
set_option maxRecDepth 100000
set_option linter.unusedVariables false

/-! ### spec_Deltas: loop.example/g00688/spec.Deltas -/
def spec_Deltas.ms : List Mode := [.lend]
def spec_Deltas.as : List VSh := [.one (.b (.b (.b (.b (.sl false false 3)))))]
def spec_Deltas.rs : RSh := ⟨[.one (.b (.b (.b (.b (.sl true true 3))))), .one (.b (.b (.b (.b (.bool)))))], [none]⟩
noncomputable def spec_Deltas.gs (δ : Type) : List (Nat × Callee (GT tab) δ) := [(62, calleeS tab spec_l15Right.ms spec_l15Right.as spec_l15Right.rs spec_l15Right.fn)]
theorem spec_Deltas.gok (δ : Type) : AllCon Try.prog tab (spec_Deltas.gs δ) := .cons spec_l15Right.con (.nil)
noncomputable def spec_Deltas.c : Ctx (GT tab) (KT tab) (ResT tab spec_Deltas.rs) := { X := XT tab, ty := tyOf tys, inner := fun _ => true, keep := keepOf 0 spec_Deltas.ms, cuts := [], live := liveOf [(5, [0, 4, 5])], G := getG (spec_Deltas.gs _) }
noncomputable def spec_Deltas.b : Code := bodyOf Try.f21
noncomputable def spec_Deltas (x0 : List Int) : Option ((List Int) × Bool) := callW spec_Deltas.c (fiOf (GT tab) Try.f21 spec_Deltas.ms) spec_Deltas.b (decRes tab spec_Deltas.rs) (encArgs tab spec_Deltas.as x0)
theorem spec_Deltas.fok : FnOk Try.prog 21 Try.f21 spec_Deltas.ms spec_Deltas.b := ⟨Try.func21, by kernel_rfl, by kernel_rfl⟩
noncomputable def spec_Deltas.fn : Args tab spec_Deltas.as → Option (ResT tab spec_Deltas.rs) := fun x => spec_Deltas x
theorem spec_Deltas.con {δ : Type} : Con Try.prog (KT tab) 21 (calleeS (β := δ) tab spec_Deltas.ms spec_Deltas.as spec_Deltas.rs spec_Deltas.fn) := con_shape (c := spec_Deltas.c) mixed tysOk (getG_con (spec_Deltas.gok _)) spec_Deltas.fok rfl rfl (fun _ => rfl)
noncomputable def spec_Deltas_l0 (v0 : List Int) (v1 : Int) (v2 : List Int) : Option ((List Int) × Bool) := Lw spec_Deltas.c (finish spec_Deltas.c (fiOf (GT tab) Try.f21 spec_Deltas.ms) (decRes tab spec_Deltas.rs)) ((loops spec_Deltas.c.cuts 1000 spec_Deltas.b []).getD 0 []) { slots := [.vs false 3 v0, .undef, .undef, .undef, .sl 0 0, .int .i64 v1, .undef, .undef, .undef, .undef, .undef, .undef, .undef, .undef, .undef, .undef, .undef, .undef, .undef, .undef, .undef, .undef, .undef, .undef, .undef, .undef, .undef, .undef, .undef, .undef, .undef, .undef, .undef, .undef, .undef, .undef, .undef, .undef, .undef, .undef, .undef], loc := locOf [.row 0 true 3 v2], nx := 1 }
theorem spec_Deltas.eq (x0 : List Int) : spec_Deltas x0 =
    (spec_l15Right x0).bind fun y1 =>
    bif !y1 then
      some (([] : List Int), false)
    else
      spec_Deltas_l0 x0 (0 : Int) ([] : List Int) := by kernel_rfl
theorem spec_Deltas_l0.eq (v0 : List Int) (v1 : Int) (v2 : List Int) : spec_Deltas_l0 v0 v1 v2 =
    bif decide (v1 < (v0.length : Int)) then
      bif v1 == (0 : Int) then
        (at? v0 (0 : Int)).bind fun y1 =>
        bif decide ((v2.length + ([y1] : List Int).length) * 8 ≤ 140737488355328) then
          spec_Deltas_l0 v0 (IntKind.i64.wrap (v1 + (1 : Int))) (v2 ++ ([y1] : List Int))
        else
          none
      else
        (at? v0 v1).bind fun y2 =>
        (at? v0 (IntKind.i64.wrap (v1 - (1 : Int)))).bind fun y3 =>
        bif decide ((v2.length + ([IntKind.i64.wrap (y2 - y3)] : List Int).length) * 8 ≤ 140737488355328) then
          spec_Deltas_l0 v0 (IntKind.i64.wrap (v1 + (1 : Int))) (v2 ++ ([IntKind.i64.wrap (y2 - y3)] : List Int))
        else
          none
    else
      (spec_l15Right v2).bind fun y4 =>
      bif !y4 then
        some (([] : List Int), false)
      else
        some (v2, true) := (Lw_eq tysOk (getG_con (spec_Deltas.gok _)) _ _).trans (by kernel_rfl)

/-! ### impl_deltas: loop.example/g00688/impl.deltas -/
def impl_deltas.ms : List Mode := [.lend]
def impl_deltas.as : List VSh := [.one (.b (.b (.b (.b (.sl false false 3)))))]
def impl_deltas.rs : RSh := ⟨[.one (.b (.b (.b (.b (.sl true true 3)))))], [none]⟩
noncomputable def impl_deltas.gs (δ : Type) : List (Nat × Callee (GT tab) δ) := [(64, calleeS tab slices_Clone_int_int.ms slices_Clone_int_int.as slices_Clone_int_int.rs slices_Clone_int_int.fn)]
theorem impl_deltas.gok (δ : Type) : AllCon Try.prog tab (impl_deltas.gs δ) := .cons slices_Clone_int_int.con (.nil)
noncomputable def impl_deltas.c : Ctx (GT tab) (KT tab) (ResT tab impl_deltas.rs) := { X := XT tab, ty := tyOf tys, inner := fun _ => true, keep := keepOf 0 impl_deltas.ms, cuts := [], live := liveOf [(3, [0, 3, 4])], G := getG (impl_deltas.gs _) }
noncomputable def impl_deltas.b : Code := bodyOf Try.f65
noncomputable def impl_deltas (x0 : List Int) : Option (List Int) := callW impl_deltas.c (fiOf (GT tab) Try.f65 impl_deltas.ms) impl_deltas.b (decRes tab impl_deltas.rs) (encArgs tab impl_deltas.as x0)
theorem impl_deltas.fok : FnOk Try.prog 65 Try.f65 impl_deltas.ms impl_deltas.b := ⟨Try.func65, by kernel_rfl, by kernel_rfl⟩
noncomputable def impl_deltas.fn : Args tab impl_deltas.as → Option (ResT tab impl_deltas.rs) := fun x => impl_deltas x
theorem impl_deltas.con {δ : Type} : Con Try.prog (KT tab) 65 (calleeS (β := δ) tab impl_deltas.ms impl_deltas.as impl_deltas.rs impl_deltas.fn) := con_shape (c := impl_deltas.c) mixed tysOk (getG_con (impl_deltas.gok _)) impl_deltas.fok rfl rfl (fun _ => rfl)
noncomputable def impl_deltas_l0 (v0 : List Int) (v1 : Int) (v2 : List Int) : Option (List Int) := Lw impl_deltas.c (finish impl_deltas.c (fiOf (GT tab) Try.f65 impl_deltas.ms) (decRes tab impl_deltas.rs)) ((loops impl_deltas.c.cuts 1000 impl_deltas.b []).getD 0 []) { slots := [.vs false 3 v0, .undef, .undef, .sl 0 0, .int .i64 v1, .undef, .undef, .undef, .undef, .undef, .undef, .undef, .undef, .undef, .undef, .undef, .undef, .undef, .undef, .undef, .undef, .undef, .undef, .undef, .undef], loc := locOf [.row 0 true 3 v2], nx := 1 }
theorem impl_deltas.eq (x0 : List Int) : impl_deltas x0 =
    (slices_Clone_int_int x0).bind fun y1 =>
    impl_deltas_l0 x0 (1 : Int) y1 := by kernel_rfl
theorem impl_deltas_l0.eq (v0 : List Int) (v1 : Int) (v2 : List Int) : impl_deltas_l0 v0 v1 v2 =
    bif decide (v1 < (v0.length : Int)) then
      (at? v2 v1).bind fun y1 =>
      v2[v1.toNat]?.bind fun y2 =>
      (at? v0 (IntKind.i64.wrap (v1 - (1 : Int)))).bind fun y3 =>
      (at? v2 v1).bind fun y4 =>
      v2[v1.toNat]?.bind fun y5 =>
      impl_deltas_l0 v0 (IntKind.i64.wrap (v1 + (1 : Int))) (v2.set v1.toNat (IntKind.i64.wrap (y2 - y3)))
    else
      some v2 := (Lw_eq tysOk (getG_con (impl_deltas.gok _)) _ _).trans (by kernel_rfl)

/-! ### impl_Deltas: loop.example/g00688/impl.Deltas -/
def impl_Deltas.ms : List Mode := [.lend]
def impl_Deltas.as : List VSh := [.one (.b (.b (.b (.b (.sl false false 3)))))]
def impl_Deltas.rs : RSh := ⟨[.one (.b (.b (.b (.b (.sl true true 3))))), .one (.b (.b (.b (.b (.bool)))))], [none]⟩
noncomputable def impl_Deltas.gs (δ : Type) : List (Nat × Callee (GT tab) δ) := [(63, calleeS tab impl_areCopied.ms impl_areCopied.as impl_areCopied.rs impl_areCopied.fn), (65, calleeS tab impl_deltas.ms impl_deltas.as impl_deltas.rs impl_deltas.fn)]
theorem impl_Deltas.gok (δ : Type) : AllCon Try.prog tab (impl_Deltas.gs δ) := .cons impl_areCopied.con (.cons impl_deltas.con (.nil))
noncomputable def impl_Deltas.c : Ctx (GT tab) (KT tab) (ResT tab impl_Deltas.rs) := { X := XT tab, ty := tyOf tys, inner := fun _ => true, keep := keepOf 0 impl_Deltas.ms, cuts := [], live := liveOf [], G := getG (impl_Deltas.gs _) }
noncomputable def impl_Deltas.b : Code := bodyOf Try.f22
noncomputable def impl_Deltas (x0 : List Int) : Option ((List Int) × Bool) := callW impl_Deltas.c (fiOf (GT tab) Try.f22 impl_Deltas.ms) impl_Deltas.b (decRes tab impl_Deltas.rs) (encArgs tab impl_Deltas.as x0)
theorem impl_Deltas.fok : FnOk Try.prog 22 Try.f22 impl_Deltas.ms impl_Deltas.b := ⟨Try.func22, by kernel_rfl, by kernel_rfl⟩
noncomputable def impl_Deltas.fn : Args tab impl_Deltas.as → Option (ResT tab impl_Deltas.rs) := fun x => impl_Deltas x
theorem impl_Deltas.con {δ : Type} : Con Try.prog (KT tab) 22 (calleeS (β := δ) tab impl_Deltas.ms impl_Deltas.as impl_Deltas.rs impl_Deltas.fn) := con_shape (c := impl_Deltas.c) mixed tysOk (getG_con (impl_Deltas.gok _)) impl_Deltas.fok rfl rfl (fun _ => rfl)
theorem impl_Deltas.eq (x0 : List Int) : impl_Deltas x0 =
    (impl_areCopied x0).bind fun y1 =>
    bif !y1 then
      some (([] : List Int), false)
    else
      (impl_deltas x0).bind fun y2 =>
      (impl_areCopied y2).bind fun y3 =>
      bif !y3 then
        some (([] : List Int), false)
      else
        (impl_deltas x0).bind fun y4 =>
        some (y4, true) := by kernel_rfl

end Go.Ev.W
