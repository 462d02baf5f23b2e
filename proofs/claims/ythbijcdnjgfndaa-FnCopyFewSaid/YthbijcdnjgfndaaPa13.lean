/- What functions of the program come to. -/
import Derived.Test.YthbijcdnjgfndaaPaT
import Derived.Test.YthbijcdnjgfndaaPa1
import Derived.Test.YthbijcdnjgfndaaPa11
import Derived.Test.YthbijcdnjgfndaaPa12
import Derived.Test.YthbijcdnjgfndaaPa15
import Derived.Test.YthbijcdnjgfndaaPa16
namespace Go.Ev.W
open Go.Ev Go.Proofs
set_option maxRecDepth 100000
set_option linter.unusedVariables false

/-! ### spec_CopyAt: loop.example/g00688/spec.CopyAt -/
def spec_CopyAt.ms : List Mode := [.lend, .lend, .lend]
def spec_CopyAt.as : List VSh := [.one (.b (.b (.b (.b (.sl false false 3))))), .one (.b (.b (.b (.b (.sl false false 61))))), .one (.b (.b (.b (.b (.int .i64)))))]
def spec_CopyAt.rs : RSh := ⟨[.one (.b (.b (.b (.b (.int .i64))))), .one (.b (.b (.b (.b (.bool)))))], [none, none, none]⟩
noncomputable def spec_CopyAt.gs (δ : Type) : List (Nat × Callee (GT tab) δ) := [(28, calleeS tab spec_CopyDo.ms spec_CopyDo.as spec_CopyDo.rs spec_CopyDo.fn)]
theorem spec_CopyAt.gok (δ : Type) : AllCon Try.prog tab (spec_CopyAt.gs δ) := .cons spec_CopyDo.con (.nil)
noncomputable def spec_CopyAt.c : Ctx (GT tab) (KT tab) (ResT tab spec_CopyAt.rs) := { X := XT tab, ty := tyOf tys, inner := fun _ => true, keep := keepOf 0 spec_CopyAt.ms, cuts := [], live := liveOf [], G := getG (spec_CopyAt.gs _) }
noncomputable def spec_CopyAt.b : Code := bodyOf Try.f24
noncomputable def spec_CopyAt (x0 : List Int) (x1 : List (Int × Int × Int)) (x2 : Int) : Option (Int × Bool) := callW spec_CopyAt.c (fiOf (GT tab) Try.f24 spec_CopyAt.ms) spec_CopyAt.b (decRes tab spec_CopyAt.rs) (encArgs tab spec_CopyAt.as (x0, x1, x2))
theorem spec_CopyAt.fok : FnOk Try.prog 24 Try.f24 spec_CopyAt.ms spec_CopyAt.b := ⟨Try.func24, by kernel_rfl, by kernel_rfl⟩
noncomputable def spec_CopyAt.fn : Args tab spec_CopyAt.as → Option (ResT tab spec_CopyAt.rs) := fun x => spec_CopyAt x.1 x.2.1 x.2.2
theorem spec_CopyAt.con {δ : Type} : Con Try.prog (KT tab) 24 (calleeS (β := δ) tab spec_CopyAt.ms spec_CopyAt.as spec_CopyAt.rs spec_CopyAt.fn) := con_shape (c := spec_CopyAt.c) mixed tysOk (getG_con (spec_CopyAt.gok _)) spec_CopyAt.fok rfl rfl (fun _ => rfl)
theorem spec_CopyAt.eq (x0 : List Int) (x1 : List (Int × Int × Int)) (x2 : Int) : spec_CopyAt x0 x1 x2 =
    (spec_CopyDo x0 x1).bind fun y1 =>
    bif !y1.2 then
      some ((0 : Int), false)
    else
      bif decide (x2 < (0 : Int)) then
        some ((0 : Int), false)
      else
        bif decide (x2 ≥ (y1.1.length : Int)) then
          some ((0 : Int), false)
        else
          (at? y1.1 x2).bind fun y2 =>
          y1.1[x2.toNat]?.bind fun y3 =>
          some (y3, true) := by kernel_rfl

/-! ### laws_FnExactCopyAt: loop.example/g00688/laws.FnExactCopyAt -/
def laws_FnExactCopyAt.ms : List Mode := [.lend, .lend, .lend]
def laws_FnExactCopyAt.as : List VSh := [.one (.b (.b (.b (.b (.sl false false 3))))), .one (.b (.b (.b (.b (.sl false false 81))))), .one (.b (.b (.b (.b (.int .i64)))))]
def laws_FnExactCopyAt.rs : RSh := ⟨[.one (.b (.b (.b (.b (.bool)))))], [none, none, none]⟩
noncomputable def laws_FnExactCopyAt.gs (δ : Type) : List (Nat × Callee (GT tab) δ) := [(16, calleeS tab laws_toIntS.ms laws_toIntS.as laws_toIntS.rs laws_toIntS.fn), (18, calleeS tab laws_eqIntS.ms laws_eqIntS.as laws_eqIntS.rs laws_eqIntS.fn), (23, calleeS tab laws_szCopyS.ms laws_szCopyS.as laws_szCopyS.rs laws_szCopyS.fn), (24, calleeS tab spec_CopyAt.ms spec_CopyAt.as spec_CopyAt.rs spec_CopyAt.fn), (25, calleeS tab laws_toCopyS.ms laws_toCopyS.as laws_toCopyS.rs laws_toCopyS.fn), (26, calleeS tab impl_CopyAt.ms impl_CopyAt.as impl_CopyAt.rs impl_CopyAt.fn), (27, calleeS tab laws_eqCopyS.ms laws_eqCopyS.as laws_eqCopyS.rs laws_eqCopyS.fn)]
theorem laws_FnExactCopyAt.gok (δ : Type) : AllCon Try.prog tab (laws_FnExactCopyAt.gs δ) := .cons laws_toIntS.con (.cons laws_eqIntS.con (.cons laws_szCopyS.con (.cons spec_CopyAt.con (.cons laws_toCopyS.con (.cons impl_CopyAt.con (.cons laws_eqCopyS.con (.nil)))))))
noncomputable def laws_FnExactCopyAt.c : Ctx (GT tab) (KT tab) (ResT tab laws_FnExactCopyAt.rs) := { X := XT tab, ty := tyOf tys, inner := fun _ => true, keep := keepOf 0 laws_FnExactCopyAt.ms, cuts := [13], live := liveOf [(13, [0, 1, 10, 11])], G := getG (laws_FnExactCopyAt.gs _) }
noncomputable def laws_FnExactCopyAt.b : Code := bodyOf Try.f5
noncomputable def laws_FnExactCopyAt (x0 : List Int) (x1 : List (Int × Int × Int)) (x2 : Int) : Option (Bool) := callW laws_FnExactCopyAt.c (fiOf (GT tab) Try.f5 laws_FnExactCopyAt.ms) laws_FnExactCopyAt.b (decRes tab laws_FnExactCopyAt.rs) (encArgs tab laws_FnExactCopyAt.as (x0, x1, x2))
theorem laws_FnExactCopyAt.fok : FnOk Try.prog 5 Try.f5 laws_FnExactCopyAt.ms laws_FnExactCopyAt.b := ⟨Try.func5, by kernel_rfl, by kernel_rfl⟩
noncomputable def laws_FnExactCopyAt.fn : Args tab laws_FnExactCopyAt.as → Option (ResT tab laws_FnExactCopyAt.rs) := fun x => laws_FnExactCopyAt x.1 x.2.1 x.2.2
theorem laws_FnExactCopyAt.con {δ : Type} : Con Try.prog (KT tab) 5 (calleeS (β := δ) tab laws_FnExactCopyAt.ms laws_FnExactCopyAt.as laws_FnExactCopyAt.rs laws_FnExactCopyAt.fn) := con_shape (c := laws_FnExactCopyAt.c) mixed tysOk (getG_con (laws_FnExactCopyAt.gok _)) laws_FnExactCopyAt.fok rfl rfl (fun _ => rfl)
noncomputable def laws_FnExactCopyAt_l0 (v0 : List Int) (v1 : List (Int × Int × Int)) (v2 : List Int) (v3 : List (Int × Int × Int)) : Option (Bool) := Lw laws_FnExactCopyAt.c (finish laws_FnExactCopyAt.c (fiOf (GT tab) Try.f5 laws_FnExactCopyAt.ms) (decRes tab laws_FnExactCopyAt.rs)) ((loops laws_FnExactCopyAt.c.cuts 1000 laws_FnExactCopyAt.b []).getD 0 []) { slots := [.vs false 3 v0, .vs false 81 v1, .undef, .undef, .undef, .undef, .undef, .undef, .undef, .undef, .sl 0 0, .sl 1 0, .undef, .undef, .undef, .undef, .undef, .undef, .undef, .undef, .undef, .undef, .undef, .undef, .undef, .undef, .undef, .undef, .undef, .undef, .undef, .undef, .undef, .undef, .undef, .undef, .undef, .undef, .undef, .undef, .undef, .undef, .undef, .undef, .undef, .undef, .undef, .undef, .undef, .undef, .undef, .undef, .undef, .undef, .undef, .undef, .undef, .undef, .undef, .undef], loc := locOf [.row 0 true 3 v2, .row 0 true 61 v3], nx := 2 }
theorem laws_FnExactCopyAt.eq (x0 : List Int) (x1 : List (Int × Int × Int)) (x2 : Int) : laws_FnExactCopyAt x0 x1 x2 =
    bif decide ((x0.length : Int) > (1048576 : Int)) then
      some true
    else
      (laws_szCopyS x1 (1048576 : Int)).bind fun y1 =>
      bif decide (y1 < (0 : Int)) then
        some true
      else
        (laws_toIntS x0).bind fun y2 =>
        (laws_toCopyS x1).bind fun y3 =>
        (spec_CopyAt y2 y3 x2).bind fun y4 =>
        (laws_toIntS x0).bind fun y5 =>
        (laws_toCopyS x1).bind fun y6 =>
        (impl_CopyAt y5 y6 x2).bind fun y7 =>
        bif y7.1 != y4.1 then
          some false
        else
          bif !(y7.2 == y4.2) then
            some false
          else
            laws_FnExactCopyAt_l0 x0 x1 y5 y6 := by kernel_rfl
theorem laws_FnExactCopyAt_l0.eq (v0 : List Int) (v1 : List (Int × Int × Int)) (v2 : List Int) (v3 : List (Int × Int × Int)) : laws_FnExactCopyAt_l0 v0 v1 v2 v3 =
    (laws_toIntS v0).bind fun y1 =>
    (laws_eqIntS v2 y1).bind fun y2 =>
    bif !y2 then
      some false
    else
      (laws_toCopyS v1).bind fun y3 =>
      (laws_eqCopyS v3 y3).bind fun y4 =>
      bif !y4 then
        some false
      else
        some true := (Lw_eq tysOk (getG_con (laws_FnExactCopyAt.gok _)) _ _).trans (by kernel_rfl)

end Go.Ev.W
