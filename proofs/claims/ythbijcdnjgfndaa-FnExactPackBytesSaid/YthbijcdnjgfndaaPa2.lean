/- What functions of the program come to. -/
import Derived.Test.YthbijcdnjgfndaaPaT
import Derived.Test.YthbijcdnjgfndaaPa4
namespace Go.Ev.W
open Go.Ev Go.Proofs
set_option maxRecDepth 100000
set_option linter.unusedVariables false

/-! ### spec_l15Right: loop.example/g00688/spec.l15Right -/
def spec_l15Right.ms : List Mode := [.lend]
def spec_l15Right.as : List VSh := [.one (.b (.b (.b (.b (.sl false false 3)))))]
def spec_l15Right.rs : RSh := ⟨[.one (.b (.b (.b (.b (.bool)))))], [none]⟩
noncomputable def spec_l15Right.gs (δ : Type) : List (Nat × Callee (GT tab) δ) := []
theorem spec_l15Right.gok (δ : Type) : AllCon Try.prog tab (spec_l15Right.gs δ) := .nil
noncomputable def spec_l15Right.c : Ctx (GT tab) (KT tab) (ResT tab spec_l15Right.rs) := { X := XT tab, ty := tyOf tys, inner := fun _ => true, keep := keepOf 0 spec_l15Right.ms, cuts := [], live := liveOf [(4, [0, 3])], G := getG (spec_l15Right.gs _) }
noncomputable def spec_l15Right.b : Code := bodyOf Try.f62
noncomputable def spec_l15Right (x0 : List Int) : Option (Bool) := callW spec_l15Right.c (fiOf (GT tab) Try.f62 spec_l15Right.ms) spec_l15Right.b (decRes tab spec_l15Right.rs) (encArgs tab spec_l15Right.as x0)
theorem spec_l15Right.fok : FnOk Try.prog 62 Try.f62 spec_l15Right.ms spec_l15Right.b := ⟨Try.func62, by kernel_rfl, by kernel_rfl⟩
noncomputable def spec_l15Right.fn : Args tab spec_l15Right.as → Option (ResT tab spec_l15Right.rs) := fun x => spec_l15Right x
theorem spec_l15Right.con {δ : Type} : Con Try.prog (KT tab) 62 (calleeS (β := δ) tab spec_l15Right.ms spec_l15Right.as spec_l15Right.rs spec_l15Right.fn) := con_shape (c := spec_l15Right.c) mixed tysOk (getG_con (spec_l15Right.gok _)) spec_l15Right.fok rfl rfl (fun _ => rfl)
noncomputable def spec_l15Right_l0 (v0 : List Int) (v1 : Int) : Option (Bool) := Lw spec_l15Right.c (finish spec_l15Right.c (fiOf (GT tab) Try.f62 spec_l15Right.ms) (decRes tab spec_l15Right.rs)) ((loops spec_l15Right.c.cuts 1000 spec_l15Right.b []).getD 0 []) { slots := [.vs false 3 v0, .undef, .undef, .int .i64 v1, .undef, .undef, .undef, .undef, .undef, .undef, .undef, .undef, .undef, .undef, .undef, .undef, .undef, .undef, .undef, .undef, .undef, .undef, .undef, .undef, .undef], loc := locOf [], nx := 0 }
theorem spec_l15Right.eq (x0 : List Int) : spec_l15Right x0 =
    bif decide ((x0.length : Int) > (301 : Int)) then
      some false
    else
      spec_l15Right_l0 x0 (0 : Int) := by kernel_rfl
theorem spec_l15Right_l0.eq (v0 : List Int) (v1 : Int) : spec_l15Right_l0 v0 v1 =
    bif decide (v1 < (v0.length : Int)) then
      (at? v0 v1).bind fun y1 =>
      bif decide (y1 < (-1000000 : Int)) then
        some false
      else
        (at? v0 v1).bind fun y2 =>
        bif decide (y2 > (1000000 : Int)) then
          some false
        else
          spec_l15Right_l0 v0 (IntKind.i64.wrap (v1 + (1 : Int)))
    else
      some true := (Lw_eq tysOk (getG_con (spec_l15Right.gok _)) _ _).trans (by kernel_rfl)

/-! ### impl_areCopied_1: loop.example/g00688/impl.areCopied$1 -/
def impl_areCopied_1.ms : List Mode := [.lend]
def impl_areCopied_1.as : List VSh := [.one (.b (.b (.b (.b (.int .i64)))))]
def impl_areCopied_1.rs : RSh := ⟨[.one (.b (.b (.b (.b (.bool)))))], [none]⟩
noncomputable def impl_areCopied_1.gs (δ : Type) : List (Nat × Callee (GT tab) δ) := [(67, calleeS tab impl_within.ms impl_within.as impl_within.rs impl_within.fn)]
theorem impl_areCopied_1.gok (δ : Type) : AllCon Try.prog tab (impl_areCopied_1.gs δ) := .cons impl_within.con (.nil)
noncomputable def impl_areCopied_1.c : Ctx (GT tab) (KT tab) (ResT tab impl_areCopied_1.rs) := { X := XT tab, ty := tyOf tys, inner := fun _ => true, keep := keepOf 0 impl_areCopied_1.ms, cuts := [], live := liveOf [], G := getG (impl_areCopied_1.gs _) }
noncomputable def impl_areCopied_1.b : Code := bodyOf Try.f95
noncomputable def impl_areCopied_1 (x0 : Int) : Option (Bool) := callW impl_areCopied_1.c (fiOf (GT tab) Try.f95 impl_areCopied_1.ms) impl_areCopied_1.b (decRes tab impl_areCopied_1.rs) (encArgs tab impl_areCopied_1.as x0)
theorem impl_areCopied_1.fok : FnOk Try.prog 95 Try.f95 impl_areCopied_1.ms impl_areCopied_1.b := ⟨Try.func95, by kernel_rfl, by kernel_rfl⟩
noncomputable def impl_areCopied_1.fn : Args tab impl_areCopied_1.as → Option (ResT tab impl_areCopied_1.rs) := fun x => impl_areCopied_1 x
theorem impl_areCopied_1.con {δ : Type} : Con Try.prog (KT tab) 95 (calleeS (β := δ) tab impl_areCopied_1.ms impl_areCopied_1.as impl_areCopied_1.rs impl_areCopied_1.fn) := con_shape (c := impl_areCopied_1.c) mixed tysOk (getG_con (impl_areCopied_1.gok _)) impl_areCopied_1.fok rfl rfl (fun _ => rfl)
theorem impl_areCopied_1.eq (x0 : Int) : impl_areCopied_1 x0 =
    (impl_within x0 (-1000000 : Int) (1000000 : Int)).bind fun y1 =>
    some y1 := by kernel_rfl

/-! ### impl_areAll_int_1: loop.example/g00688/impl.areAll[int]$1 -/
def impl_areAll_int_1.ms : List Mode := [.lend, .lend]
def impl_areAll_int_1.as : List VSh := [.one (.b (.b (.b (.b (.int .i64))))), .one (.ptr false 0 [.fn 95 []])]
def impl_areAll_int_1.rs : RSh := ⟨[.one (.b (.b (.b (.b (.bool)))))], [none, none]⟩
noncomputable def impl_areAll_int_1.gs (δ : Type) : List (Nat × Callee (GT tab) δ) := [(95, calleeS tab impl_areCopied_1.ms impl_areCopied_1.as impl_areCopied_1.rs impl_areCopied_1.fn)]
theorem impl_areAll_int_1.gok (δ : Type) : AllCon Try.prog tab (impl_areAll_int_1.gs δ) := .cons impl_areCopied_1.con (.nil)
noncomputable def impl_areAll_int_1.c : Ctx (GT tab) (KT tab) (ResT tab impl_areAll_int_1.rs) := { X := XT tab, ty := tyOf tys, inner := fun _ => true, keep := keepOf 0 impl_areAll_int_1.ms, cuts := [], live := liveOf [], G := getG (impl_areAll_int_1.gs _) }
noncomputable def impl_areAll_int_1.b : Code := bodyOf Try.f103
noncomputable def impl_areAll_int_1 (x0 : Int) (x1 : Unit) : Option (Bool) := callW impl_areAll_int_1.c (fiOf (GT tab) Try.f103 impl_areAll_int_1.ms) impl_areAll_int_1.b (decRes tab impl_areAll_int_1.rs) (encArgs tab impl_areAll_int_1.as (x0, x1))
theorem impl_areAll_int_1.fok : FnOk Try.prog 103 Try.f103 impl_areAll_int_1.ms impl_areAll_int_1.b := ⟨Try.func103, by kernel_rfl, by kernel_rfl⟩
noncomputable def impl_areAll_int_1.fn : Args tab impl_areAll_int_1.as → Option (ResT tab impl_areAll_int_1.rs) := fun x => impl_areAll_int_1 x.1 x.2
theorem impl_areAll_int_1.con {δ : Type} : Con Try.prog (KT tab) 103 (calleeS (β := δ) tab impl_areAll_int_1.ms impl_areAll_int_1.as impl_areAll_int_1.rs impl_areAll_int_1.fn) := con_shape (c := impl_areAll_int_1.c) mixed tysOk (getG_con (impl_areAll_int_1.gok _)) impl_areAll_int_1.fok rfl rfl (fun _ => rfl)
theorem impl_areAll_int_1.eq (x0 : Int) (x1 : Unit) : impl_areAll_int_1 x0 x1 =
    (impl_areCopied_1 x0).bind fun y1 =>
    some (!y1) := by kernel_rfl

/-! ### slices_IndexFunc_int_int: slices.IndexFunc[[]int,int] -/
def slices_IndexFunc_int_int.ms : List Mode := [.lend, .lend]
def slices_IndexFunc_int_int.as : List VSh := [.one (.b (.b (.b (.b (.sl false false 3))))), .one (.fn 103 [.ptr false 0 [.fn 95 []]])]
def slices_IndexFunc_int_int.rs : RSh := ⟨[.one (.b (.b (.b (.b (.int .i64)))))], [none, none]⟩
noncomputable def slices_IndexFunc_int_int.gs (δ : Type) : List (Nat × Callee (GT tab) δ) := [(103, calleeS tab impl_areAll_int_1.ms impl_areAll_int_1.as impl_areAll_int_1.rs impl_areAll_int_1.fn)]
theorem slices_IndexFunc_int_int.gok (δ : Type) : AllCon Try.prog tab (slices_IndexFunc_int_int.gs δ) := .cons impl_areAll_int_1.con (.nil)
noncomputable def slices_IndexFunc_int_int.c : Ctx (GT tab) (KT tab) (ResT tab slices_IndexFunc_int_int.rs) := { X := XT tab, ty := tyOf tys, inner := fun _ => true, keep := keepOf 0 slices_IndexFunc_int_int.ms, cuts := [], live := liveOf [(2, [0, 1, 7, 8])], G := getG (slices_IndexFunc_int_int.gs _) }
noncomputable def slices_IndexFunc_int_int.b : Code := bodyOf Try.f106
noncomputable def slices_IndexFunc_int_int (x0 : List Int) (x1 : Unit) : Option (Int) := callW slices_IndexFunc_int_int.c (fiOf (GT tab) Try.f106 slices_IndexFunc_int_int.ms) slices_IndexFunc_int_int.b (decRes tab slices_IndexFunc_int_int.rs) (encArgs tab slices_IndexFunc_int_int.as (x0, x1))
theorem slices_IndexFunc_int_int.fok : FnOk Try.prog 106 Try.f106 slices_IndexFunc_int_int.ms slices_IndexFunc_int_int.b := ⟨Try.func106, by kernel_rfl, by kernel_rfl⟩
noncomputable def slices_IndexFunc_int_int.fn : Args tab slices_IndexFunc_int_int.as → Option (ResT tab slices_IndexFunc_int_int.rs) := fun x => slices_IndexFunc_int_int x.1 x.2
theorem slices_IndexFunc_int_int.con {δ : Type} : Con Try.prog (KT tab) 106 (calleeS (β := δ) tab slices_IndexFunc_int_int.ms slices_IndexFunc_int_int.as slices_IndexFunc_int_int.rs slices_IndexFunc_int_int.fn) := con_shape (c := slices_IndexFunc_int_int.c) mixed tysOk (getG_con (slices_IndexFunc_int_int.gok _)) slices_IndexFunc_int_int.fok rfl rfl (fun _ => rfl)
noncomputable def slices_IndexFunc_int_int_l0 (v0 : List Int) (v1 : Int) (v2 : Int) : Option (Int) := Lw slices_IndexFunc_int_int.c (finish slices_IndexFunc_int_int.c (fiOf (GT tab) Try.f106 slices_IndexFunc_int_int.ms) (decRes tab slices_IndexFunc_int_int.rs)) ((loops slices_IndexFunc_int_int.c.cuts 1000 slices_IndexFunc_int_int.b []).getD 0 []) { slots := [.vs false 3 v0, .fn 103 [.vp [.fn 95 []]], .undef, .undef, .undef, .undef, .undef, .int .i64 v1, .int .i64 v2, .undef, .undef, .undef, .undef, .undef, .undef, .undef, .undef, .undef, .undef], loc := locOf [], nx := 0 }
theorem slices_IndexFunc_int_int.eq (x0 : List Int) (x1 : Unit) : slices_IndexFunc_int_int x0 x1 =
    slices_IndexFunc_int_int_l0 x0 (x0.length : Int) (0 : Int) := by kernel_rfl
theorem slices_IndexFunc_int_int_l0.eq (v0 : List Int) (v1 : Int) (v2 : Int) : slices_IndexFunc_int_int_l0 v0 v1 v2 =
    bif decide (v2 < v1) then
      (at? v0 v2).bind fun y1 =>
      (impl_areAll_int_1 y1 ()).bind fun y2 =>
      bif y2 then
        some v2
      else
        slices_IndexFunc_int_int_l0 v0 v1 (IntKind.i64.wrap (v2 + (1 : Int)))
    else
      some (-1 : Int) := (Lw_eq tysOk (getG_con (slices_IndexFunc_int_int.gok _)) _ _).trans (by kernel_rfl)

/-! ### slices_ContainsFunc_int_int: slices.ContainsFunc[[]int,int] -/
def slices_ContainsFunc_int_int.ms : List Mode := [.lend, .lend]
def slices_ContainsFunc_int_int.as : List VSh := [.one (.b (.b (.b (.b (.sl false false 3))))), .one (.fn 103 [.ptr false 95 [.fn 95 []]])]
def slices_ContainsFunc_int_int.rs : RSh := ⟨[.one (.b (.b (.b (.b (.bool)))))], [none, none]⟩
noncomputable def slices_ContainsFunc_int_int.gs (δ : Type) : List (Nat × Callee (GT tab) δ) := [(106, calleeS tab slices_IndexFunc_int_int.ms slices_IndexFunc_int_int.as slices_IndexFunc_int_int.rs slices_IndexFunc_int_int.fn)]
theorem slices_ContainsFunc_int_int.gok (δ : Type) : AllCon Try.prog tab (slices_ContainsFunc_int_int.gs δ) := .cons slices_IndexFunc_int_int.con (.nil)
noncomputable def slices_ContainsFunc_int_int.c : Ctx (GT tab) (KT tab) (ResT tab slices_ContainsFunc_int_int.rs) := { X := XT tab, ty := tyOf tys, inner := fun _ => true, keep := keepOf 0 slices_ContainsFunc_int_int.ms, cuts := [], live := liveOf [], G := getG (slices_ContainsFunc_int_int.gs _) }
noncomputable def slices_ContainsFunc_int_int.b : Code := bodyOf Try.f102
noncomputable def slices_ContainsFunc_int_int (x0 : List Int) (x1 : Unit) : Option (Bool) := callW slices_ContainsFunc_int_int.c (fiOf (GT tab) Try.f102 slices_ContainsFunc_int_int.ms) slices_ContainsFunc_int_int.b (decRes tab slices_ContainsFunc_int_int.rs) (encArgs tab slices_ContainsFunc_int_int.as (x0, x1))
theorem slices_ContainsFunc_int_int.fok : FnOk Try.prog 102 Try.f102 slices_ContainsFunc_int_int.ms slices_ContainsFunc_int_int.b := ⟨Try.func102, by kernel_rfl, by kernel_rfl⟩
noncomputable def slices_ContainsFunc_int_int.fn : Args tab slices_ContainsFunc_int_int.as → Option (ResT tab slices_ContainsFunc_int_int.rs) := fun x => slices_ContainsFunc_int_int x.1 x.2
theorem slices_ContainsFunc_int_int.con {δ : Type} : Con Try.prog (KT tab) 102 (calleeS (β := δ) tab slices_ContainsFunc_int_int.ms slices_ContainsFunc_int_int.as slices_ContainsFunc_int_int.rs slices_ContainsFunc_int_int.fn) := con_shape (c := slices_ContainsFunc_int_int.c) mixed tysOk (getG_con (slices_ContainsFunc_int_int.gok _)) slices_ContainsFunc_int_int.fok rfl rfl (fun _ => rfl)
theorem slices_ContainsFunc_int_int.eq (x0 : List Int) (x1 : Unit) : slices_ContainsFunc_int_int x0 x1 =
    (slices_IndexFunc_int_int x0 ()).bind fun y1 =>
    some (decide (y1 ≥ (0 : Int))) := by kernel_rfl

/-! ### impl_areAll_int: loop.example/g00688/impl.areAll[int] -/
def impl_areAll_int.ms : List Mode := [.lend, .lend]
def impl_areAll_int.as : List VSh := [.one (.b (.b (.b (.b (.sl false false 3))))), .one (.fn 95 [])]
def impl_areAll_int.rs : RSh := ⟨[.one (.b (.b (.b (.b (.bool)))))], [none, none]⟩
noncomputable def impl_areAll_int.gs (δ : Type) : List (Nat × Callee (GT tab) δ) := [(102, calleeS tab slices_ContainsFunc_int_int.ms slices_ContainsFunc_int_int.as slices_ContainsFunc_int_int.rs slices_ContainsFunc_int_int.fn)]
theorem impl_areAll_int.gok (δ : Type) : AllCon Try.prog tab (impl_areAll_int.gs δ) := .cons slices_ContainsFunc_int_int.con (.nil)
noncomputable def impl_areAll_int.c : Ctx (GT tab) (KT tab) (ResT tab impl_areAll_int.rs) := { X := XT tab, ty := tyOf tys, inner := fun _ => true, keep := keepOf 0 impl_areAll_int.ms, cuts := [], live := liveOf [], G := getG (impl_areAll_int.gs _) }
noncomputable def impl_areAll_int.b : Code := bodyOf Try.f94
noncomputable def impl_areAll_int (x0 : List Int) (x1 : Unit) : Option (Bool) := callW impl_areAll_int.c (fiOf (GT tab) Try.f94 impl_areAll_int.ms) impl_areAll_int.b (decRes tab impl_areAll_int.rs) (encArgs tab impl_areAll_int.as (x0, x1))
theorem impl_areAll_int.fok : FnOk Try.prog 94 Try.f94 impl_areAll_int.ms impl_areAll_int.b := ⟨Try.func94, by kernel_rfl, by kernel_rfl⟩
noncomputable def impl_areAll_int.fn : Args tab impl_areAll_int.as → Option (ResT tab impl_areAll_int.rs) := fun x => impl_areAll_int x.1 x.2
theorem impl_areAll_int.con {δ : Type} : Con Try.prog (KT tab) 94 (calleeS (β := δ) tab impl_areAll_int.ms impl_areAll_int.as impl_areAll_int.rs impl_areAll_int.fn) := con_shape (c := impl_areAll_int.c) mixed tysOk (getG_con (impl_areAll_int.gok _)) impl_areAll_int.fok rfl rfl (fun _ => rfl)
theorem impl_areAll_int.eq (x0 : List Int) (x1 : Unit) : impl_areAll_int x0 x1 =
    (slices_ContainsFunc_int_int x0 ()).bind fun y1 =>
    some (!y1) := by kernel_rfl

/-! ### impl_areCopied: loop.example/g00688/impl.areCopied -/
def impl_areCopied.ms : List Mode := [.lend]
def impl_areCopied.as : List VSh := [.one (.b (.b (.b (.b (.sl false false 3)))))]
def impl_areCopied.rs : RSh := ⟨[.one (.b (.b (.b (.b (.bool)))))], [none]⟩
noncomputable def impl_areCopied.gs (δ : Type) : List (Nat × Callee (GT tab) δ) := [(94, calleeS tab impl_areAll_int.ms impl_areAll_int.as impl_areAll_int.rs impl_areAll_int.fn)]
theorem impl_areCopied.gok (δ : Type) : AllCon Try.prog tab (impl_areCopied.gs δ) := .cons impl_areAll_int.con (.nil)
noncomputable def impl_areCopied.c : Ctx (GT tab) (KT tab) (ResT tab impl_areCopied.rs) := { X := XT tab, ty := tyOf tys, inner := fun _ => true, keep := keepOf 0 impl_areCopied.ms, cuts := [], live := liveOf [], G := getG (impl_areCopied.gs _) }
noncomputable def impl_areCopied.b : Code := bodyOf Try.f63
noncomputable def impl_areCopied (x0 : List Int) : Option (Bool) := callW impl_areCopied.c (fiOf (GT tab) Try.f63 impl_areCopied.ms) impl_areCopied.b (decRes tab impl_areCopied.rs) (encArgs tab impl_areCopied.as x0)
theorem impl_areCopied.fok : FnOk Try.prog 63 Try.f63 impl_areCopied.ms impl_areCopied.b := ⟨Try.func63, by kernel_rfl, by kernel_rfl⟩
noncomputable def impl_areCopied.fn : Args tab impl_areCopied.as → Option (ResT tab impl_areCopied.rs) := fun x => impl_areCopied x
theorem impl_areCopied.con {δ : Type} : Con Try.prog (KT tab) 63 (calleeS (β := δ) tab impl_areCopied.ms impl_areCopied.as impl_areCopied.rs impl_areCopied.fn) := con_shape (c := impl_areCopied.c) mixed tysOk (getG_con (impl_areCopied.gok _)) impl_areCopied.fok rfl rfl (fun _ => rfl)
theorem impl_areCopied.eq (x0 : List Int) : impl_areCopied x0 =
    bif decide ((x0.length : Int) ≤ (301 : Int)) then
      (impl_areAll_int x0 ()).bind fun y1 =>
      some y1
    else
      some false := by kernel_rfl

end Go.Ev.W
