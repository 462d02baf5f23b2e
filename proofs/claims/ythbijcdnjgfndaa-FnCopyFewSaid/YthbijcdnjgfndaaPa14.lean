/- What functions of the program come to. -/
import Derived.Test.YthbijcdnjgfndaaPaT
import Derived.Test.YthbijcdnjgfndaaPa2
import Derived.Test.YthbijcdnjgfndaaPa4
namespace Go.Ev.W
open Go.Ev Go.Proofs
set_option maxRecDepth 100000
set_option linter.unusedVariables false

/-! ### impl_CopyDo: loop.example/g00688/impl.CopyDo -/
def impl_CopyDo.ms : List Mode := [.lend, .lend]
def impl_CopyDo.as : List VSh := [.one (.b (.b (.b (.b (.sl false false 3))))), .one (.b (.b (.b (.b (.sl false false 61)))))]
def impl_CopyDo.rs : RSh := ⟨[.one (.b (.b (.b (.b (.sl true true 3))))), .one (.b (.b (.b (.b (.bool)))))], [none, none]⟩
noncomputable def impl_CopyDo.gs (δ : Type) : List (Nat × Callee (GT tab) δ) := [(63, calleeS tab impl_areCopied.ms impl_areCopied.as impl_areCopied.rs impl_areCopied.fn), (67, calleeS tab impl_within.ms impl_within.as impl_within.rs impl_within.fn)]
theorem impl_CopyDo.gok (δ : Type) : AllCon Try.prog tab (impl_CopyDo.gs δ) := .cons impl_areCopied.con (.cons impl_within.con (.nil))
noncomputable def impl_CopyDo.c : Ctx (GT tab) (KT tab) (ResT tab impl_CopyDo.rs) := { X := XT tab, ty := tyOf tys, inner := fun _ => true, keep := keepOf 0 impl_CopyDo.ms, cuts := [], live := liveOf [(5, [0, 6, 12, 13, 14])], G := getG (impl_CopyDo.gs _) }
noncomputable def impl_CopyDo.b : Code := bodyOf Try.f29
noncomputable def impl_CopyDo (x0 : List Int) (x1 : List (Int × Int × Int)) : Option ((List Int) × Bool) := callW impl_CopyDo.c (fiOf (GT tab) Try.f29 impl_CopyDo.ms) impl_CopyDo.b (decRes tab impl_CopyDo.rs) (encArgs tab impl_CopyDo.as (x0, x1))
theorem impl_CopyDo.fok : FnOk Try.prog 29 Try.f29 impl_CopyDo.ms impl_CopyDo.b := ⟨Try.func29, by kernel_rfl, by kernel_rfl⟩
noncomputable def impl_CopyDo.fn : Args tab impl_CopyDo.as → Option (ResT tab impl_CopyDo.rs) := fun x => impl_CopyDo x.1 x.2
theorem impl_CopyDo.con {δ : Type} : Con Try.prog (KT tab) 29 (calleeS (β := δ) tab impl_CopyDo.ms impl_CopyDo.as impl_CopyDo.rs impl_CopyDo.fn) := con_shape (c := impl_CopyDo.c) mixed tysOk (getG_con (impl_CopyDo.gok _)) impl_CopyDo.fok rfl rfl (fun _ => rfl)
noncomputable def impl_CopyDo_l0 (v0 : List Int) (v1 : List (Int × Int × Int)) (v2 : Int) (v3 : Int) (v4 : List Int) : Option ((List Int) × Bool) := Lw impl_CopyDo.c (finish impl_CopyDo.c (fiOf (GT tab) Try.f29 impl_CopyDo.ms) (decRes tab impl_CopyDo.rs)) ((loops impl_CopyDo.c.cuts 1000 impl_CopyDo.b []).getD 0 []) { slots := [.vs false 3 v0, .undef, .undef, .undef, .undef, .undef, .sl 0 0, .undef, .undef, .undef, .undef, .undef, .vs false 61 v1, .int .i64 v2, .int .i64 v3, .undef, .undef, .undef, .undef, .undef, .undef, .undef, .undef, .undef, .undef, .undef, .undef, .undef, .undef, .undef, .undef, .undef, .undef, .undef, .undef, .undef, .undef, .undef, .undef, .undef, .undef, .undef, .undef, .undef, .undef, .undef, .undef, .undef, .undef, .undef, .undef, .undef, .undef, .undef, .undef, .undef, .undef, .undef, .undef, .undef, .undef, .undef, .undef], loc := locOf [.row 0 true 3 v4], nx := 1 }
theorem impl_CopyDo.eq (x0 : List Int) (x1 : List (Int × Int × Int)) : impl_CopyDo x0 x1 =
    (impl_areCopied x0).bind fun y1 =>
    bif !y1 then
      some (([] : List Int), false)
    else
      impl_CopyDo_l0 x0 x1 (x1.length : Int) (0 : Int) ([] : List Int) := by kernel_rfl
theorem impl_CopyDo_l0.eq (v0 : List Int) (v1 : List (Int × Int × Int)) (v2 : Int) (v3 : Int) (v4 : List Int) : impl_CopyDo_l0 v0 v1 v2 v3 v4 =
    bif decide (v3 < v2) then
      (at? v1 v3).bind fun y1 =>
      (impl_within y1.1 (0 : Int) (v0.length : Int)).bind fun y2 =>
      bif !y2 then
        some (([] : List Int), false)
      else
        (impl_within y1.2.1 (0 : Int) (IntKind.i64.wrap ((v0.length : Int) - y1.1))).bind fun y3 =>
        bif !y3 then
          some (([] : List Int), false)
        else
          bif decide (IntKind.i64.wrap ((v4.length : Int) + y1.2.1) ≥ (301 : Int)) then
            some (([] : List Int), false)
          else
            bif decide (0 ≤ IntKind.i64.wrap (y1.1 + y1.2.1) ∧ IntKind.i64.wrap (y1.1 + y1.2.1) ≤ ((v0.length : Nat) : Int)) then
              bif decide (0 ≤ y1.1 ∧ y1.1 ≤ (((IntKind.i64.wrap (y1.1 + y1.2.1)).toNat : Nat) : Int)) then
                bif decide ((v4.length + ((v0.take ((IntKind.i64.wrap (y1.1 + y1.2.1)).toNat)).drop y1.1.toNat).length) * 8 ≤ 140737488355328) then
                  bif decide (((v4 ++ ((v0.take ((IntKind.i64.wrap (y1.1 + y1.2.1)).toNat)).drop y1.1.toNat)).length + ([y1.2.2] : List Int).length) * 8 ≤ 140737488355328) then
                    impl_CopyDo_l0 v0 v1 v2 (IntKind.i64.wrap (v3 + (1 : Int))) ((v4 ++ ((v0.take ((IntKind.i64.wrap (y1.1 + y1.2.1)).toNat)).drop y1.1.toNat)) ++ ([y1.2.2] : List Int))
                  else
                    none
                else
                  none
              else
                none
            else
              none
    else
      (impl_areCopied v4).bind fun y4 =>
      bif !y4 then
        some (([] : List Int), false)
      else
        some (v4, true) := (Lw_eq tysOk (getG_con (impl_CopyDo.gok _)) _ _).trans (by kernel_rfl)

end Go.Ev.W
