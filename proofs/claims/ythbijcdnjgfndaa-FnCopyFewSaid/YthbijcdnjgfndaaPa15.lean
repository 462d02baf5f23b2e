/- What functions of the program come to. -/
import Derived.Test.YthbijcdnjgfndaaPaT
import Derived.Test.YthbijcdnjgfndaaPa14
import Derived.Test.YthbijcdnjgfndaaPa4
namespace Go.Ev.W
open Go.Ev Go.Proofs
set_option maxRecDepth 100000
set_option linter.unusedVariables false

/-! ### impl_CopyAt: loop.example/g00688/impl.CopyAt -/
def impl_CopyAt.ms : List Mode := [.lend, .lend, .lend]
def impl_CopyAt.as : List VSh := [.one (.b (.b (.b (.b (.sl false false 3))))), .one (.b (.b (.b (.b (.sl false false 61))))), .one (.b (.b (.b (.b (.int .i64)))))]
def impl_CopyAt.rs : RSh := ⟨[.one (.b (.b (.b (.b (.int .i64))))), .one (.b (.b (.b (.b (.bool)))))], [none, none, none]⟩
noncomputable def impl_CopyAt.gs (δ : Type) : List (Nat × Callee (GT tab) δ) := [(29, calleeS tab impl_CopyDo.ms impl_CopyDo.as impl_CopyDo.rs impl_CopyDo.fn), (67, calleeS tab impl_within.ms impl_within.as impl_within.rs impl_within.fn)]
theorem impl_CopyAt.gok (δ : Type) : AllCon Try.prog tab (impl_CopyAt.gs δ) := .cons impl_CopyDo.con (.cons impl_within.con (.nil))
noncomputable def impl_CopyAt.c : Ctx (GT tab) (KT tab) (ResT tab impl_CopyAt.rs) := { X := XT tab, ty := tyOf tys, inner := fun _ => true, keep := keepOf 0 impl_CopyAt.ms, cuts := [], live := liveOf [], G := getG (impl_CopyAt.gs _) }
noncomputable def impl_CopyAt.b : Code := bodyOf Try.f26
noncomputable def impl_CopyAt (x0 : List Int) (x1 : List (Int × Int × Int)) (x2 : Int) : Option (Int × Bool) := callW impl_CopyAt.c (fiOf (GT tab) Try.f26 impl_CopyAt.ms) impl_CopyAt.b (decRes tab impl_CopyAt.rs) (encArgs tab impl_CopyAt.as (x0, x1, x2))
theorem impl_CopyAt.fok : FnOk Try.prog 26 Try.f26 impl_CopyAt.ms impl_CopyAt.b := ⟨Try.func26, by kernel_rfl, by kernel_rfl⟩
noncomputable def impl_CopyAt.fn : Args tab impl_CopyAt.as → Option (ResT tab impl_CopyAt.rs) := fun x => impl_CopyAt x.1 x.2.1 x.2.2
theorem impl_CopyAt.con {δ : Type} : Con Try.prog (KT tab) 26 (calleeS (β := δ) tab impl_CopyAt.ms impl_CopyAt.as impl_CopyAt.rs impl_CopyAt.fn) := con_shape (c := impl_CopyAt.c) mixed tysOk (getG_con (impl_CopyAt.gok _)) impl_CopyAt.fok rfl rfl (fun _ => rfl)
theorem impl_CopyAt.eq (x0 : List Int) (x1 : List (Int × Int × Int)) (x2 : Int) : impl_CopyAt x0 x1 x2 =
    (impl_CopyDo x0 x1).bind fun y1 =>
    bif !y1.2 then
      some ((0 : Int), false)
    else
      (impl_within x2 (0 : Int) (IntKind.i64.wrap ((y1.1.length : Int) - (1 : Int)))).bind fun y2 =>
      bif !y2 then
        some ((0 : Int), false)
      else
        (at? y1.1 x2).bind fun y3 =>
        y1.1[x2.toNat]?.bind fun y4 =>
        some (y4, true) := by kernel_rfl

end Go.Ev.W
