/- What functions of the program come to. -/
import Derived.Test.YthbijcdnjgfndaaPaT
import Derived.Test.YthbijcdnjgfndaaPa25
import Derived.Test.YthbijcdnjgfndaaPa4
namespace Go.Ev.W
open Go.Ev Go.Proofs
set_option maxRecDepth 100000
set_option linter.unusedVariables false

/-! ### spec_PackOk: loop.example/g00688/spec.PackOk -/
def spec_PackOk.ms : List Mode := [.lend]
def spec_PackOk.as : List VSh := [.agg [.int .i64, .int .i64, .int .i64, .sl false false 103]]
def spec_PackOk.rs : RSh := ⟨[.one (.b (.b (.b (.b (.bool)))))], [none]⟩
noncomputable def spec_PackOk.gs (δ : Type) : List (Nat × Callee (GT tab) δ) := [(73, calleeS tab spec_BitsOk.ms spec_BitsOk.as spec_BitsOk.rs spec_BitsOk.fn)]
theorem spec_PackOk.gok (δ : Type) : AllCon Try.prog tab (spec_PackOk.gs δ) := .cons spec_BitsOk.con (.nil)
noncomputable def spec_PackOk.c : Ctx (GT tab) (KT tab) (ResT tab spec_PackOk.rs) := { X := XT tab, ty := tyOf tys, inner := fun _ => true, keep := keepOf 0 spec_PackOk.ms, cuts := [], live := liveOf [], G := getG (spec_PackOk.gs _) }
noncomputable def spec_PackOk.b : Code := bodyOf Try.f90
noncomputable def spec_PackOk (x0 : Int × Int × Int × (List Int)) : Option (Bool) := callW spec_PackOk.c (fiOf (GT tab) Try.f90 spec_PackOk.ms) spec_PackOk.b (decRes tab spec_PackOk.rs) (encArgs tab spec_PackOk.as x0)
theorem spec_PackOk.fok : FnOk Try.prog 90 Try.f90 spec_PackOk.ms spec_PackOk.b := ⟨Try.func90, by kernel_rfl, by kernel_rfl⟩
noncomputable def spec_PackOk.fn : Args tab spec_PackOk.as → Option (ResT tab spec_PackOk.rs) := fun x => spec_PackOk x
theorem spec_PackOk.con {δ : Type} : Con Try.prog (KT tab) 90 (calleeS (β := δ) tab spec_PackOk.ms spec_PackOk.as spec_PackOk.rs spec_PackOk.fn) := con_shape (c := spec_PackOk.c) mixed tysOk (getG_con (spec_PackOk.gok _)) spec_PackOk.fok rfl rfl (fun _ => rfl)
theorem spec_PackOk.eq (x0 : Int × Int × Int × (List Int)) : spec_PackOk x0 =
    bif decide (x0.1 ≥ (0 : Int)) then
      bif decide (x0.1 ≤ (32 : Int)) then
        bif decide (x0.2.1 ≥ (0 : Int)) then
          bif decide (x0.2.1 ≤ (5000 : Int)) then
            (spec_BitsOk (x0.2.2.1, x0.2.2.2)).bind fun y1 =>
            bif y1 then
              some (x0.2.2.1 == IntKind.i64.wrap (x0.1 * x0.2.1))
            else
              some false
          else
            some false
        else
          some false
      else
        some false
    else
      some false := by kernel_rfl

/-! ### impl_PackOk: loop.example/g00688/impl.PackOk -/
def impl_PackOk.ms : List Mode := [.lend]
def impl_PackOk.as : List VSh := [.agg [.int .i64, .int .i64, .int .i64, .sl false false 103]]
def impl_PackOk.rs : RSh := ⟨[.one (.b (.b (.b (.b (.bool)))))], [none]⟩
noncomputable def impl_PackOk.gs (δ : Type) : List (Nat × Callee (GT tab) δ) := [(67, calleeS tab impl_within.ms impl_within.as impl_within.rs impl_within.fn), (77, calleeS tab impl_BitsOk.ms impl_BitsOk.as impl_BitsOk.rs impl_BitsOk.fn)]
theorem impl_PackOk.gok (δ : Type) : AllCon Try.prog tab (impl_PackOk.gs δ) := .cons impl_within.con (.cons impl_BitsOk.con (.nil))
noncomputable def impl_PackOk.c : Ctx (GT tab) (KT tab) (ResT tab impl_PackOk.rs) := { X := XT tab, ty := tyOf tys, inner := fun _ => true, keep := keepOf 0 impl_PackOk.ms, cuts := [], live := liveOf [], G := getG (impl_PackOk.gs _) }
noncomputable def impl_PackOk.b : Code := bodyOf Try.f91
noncomputable def impl_PackOk (x0 : Int × Int × Int × (List Int)) : Option (Bool) := callW impl_PackOk.c (fiOf (GT tab) Try.f91 impl_PackOk.ms) impl_PackOk.b (decRes tab impl_PackOk.rs) (encArgs tab impl_PackOk.as x0)
theorem impl_PackOk.fok : FnOk Try.prog 91 Try.f91 impl_PackOk.ms impl_PackOk.b := ⟨Try.func91, by kernel_rfl, by kernel_rfl⟩
noncomputable def impl_PackOk.fn : Args tab impl_PackOk.as → Option (ResT tab impl_PackOk.rs) := fun x => impl_PackOk x
theorem impl_PackOk.con {δ : Type} : Con Try.prog (KT tab) 91 (calleeS (β := δ) tab impl_PackOk.ms impl_PackOk.as impl_PackOk.rs impl_PackOk.fn) := con_shape (c := impl_PackOk.c) mixed tysOk (getG_con (impl_PackOk.gok _)) impl_PackOk.fok rfl rfl (fun _ => rfl)
theorem impl_PackOk.eq (x0 : Int × Int × Int × (List Int)) : impl_PackOk x0 =
    (impl_within x0.1 (0 : Int) (32 : Int)).bind fun y1 =>
    bif y1 then
      (impl_within x0.2.1 (0 : Int) (5000 : Int)).bind fun y2 =>
      bif y2 then
        (impl_BitsOk (x0.2.2.1, x0.2.2.2)).bind fun y3 =>
        bif y3 then
          some (x0.2.2.1 == IntKind.i64.wrap (x0.2.1 * x0.1))
        else
          some false
      else
        some false
    else
      some false := by kernel_rfl

/-! ### laws_eqPacked: loop.example/g00688/laws.eqPacked -/
def laws_eqPacked.ms : List Mode := [.lend, .lend]
def laws_eqPacked.as : List VSh := [.agg [.int .i64, .int .i64, .int .i64, .sl false false 103], .agg [.int .i64, .int .i64, .int .i64, .sl false false 103]]
def laws_eqPacked.rs : RSh := ⟨[.one (.b (.b (.b (.b (.bool)))))], [none, none]⟩
noncomputable def laws_eqPacked.gs (δ : Type) : List (Nat × Callee (GT tab) δ) := [(42, calleeS tab laws_eqBits.ms laws_eqBits.as laws_eqBits.rs laws_eqBits.fn)]
theorem laws_eqPacked.gok (δ : Type) : AllCon Try.prog tab (laws_eqPacked.gs δ) := .cons laws_eqBits.con (.nil)
noncomputable def laws_eqPacked.c : Ctx (GT tab) (KT tab) (ResT tab laws_eqPacked.rs) := { X := XT tab, ty := tyOf tys, inner := fun _ => true, keep := keepOf 0 laws_eqPacked.ms, cuts := [], live := liveOf [], G := getG (laws_eqPacked.gs _) }
noncomputable def laws_eqPacked.b : Code := bodyOf Try.f57
noncomputable def laws_eqPacked (x0 : Int × Int × Int × (List Int)) (x1 : Int × Int × Int × (List Int)) : Option (Bool) := callW laws_eqPacked.c (fiOf (GT tab) Try.f57 laws_eqPacked.ms) laws_eqPacked.b (decRes tab laws_eqPacked.rs) (encArgs tab laws_eqPacked.as (x0, x1))
theorem laws_eqPacked.fok : FnOk Try.prog 57 Try.f57 laws_eqPacked.ms laws_eqPacked.b := ⟨Try.func57, by kernel_rfl, by kernel_rfl⟩
noncomputable def laws_eqPacked.fn : Args tab laws_eqPacked.as → Option (ResT tab laws_eqPacked.rs) := fun x => laws_eqPacked x.1 x.2
theorem laws_eqPacked.con {δ : Type} : Con Try.prog (KT tab) 57 (calleeS (β := δ) tab laws_eqPacked.ms laws_eqPacked.as laws_eqPacked.rs laws_eqPacked.fn) := con_shape (c := laws_eqPacked.c) mixed tysOk (getG_con (laws_eqPacked.gok _)) laws_eqPacked.fok rfl rfl (fun _ => rfl)
theorem laws_eqPacked.eq (x0 : Int × Int × Int × (List Int)) (x1 : Int × Int × Int × (List Int)) : laws_eqPacked x0 x1 =
    bif x0.1 != x1.1 then
      some false
    else
      bif x0.2.1 != x1.2.1 then
        some false
      else
        (laws_eqBits (x0.2.2.1, x0.2.2.2) (x1.2.2.1, x1.2.2.2)).bind fun y1 =>
        bif !y1 then
          some false
        else
          some true := by kernel_rfl

/-! ### laws_markPacked: loop.example/g00688/laws.markPacked -/
def laws_markPacked.ms : List Mode := [.keep, .lend]
def laws_markPacked.as : List VSh := [.agg [.int .i64, .int .i64, .int .i64, .sl true true 103], .one (.b (.b (.b (.b (.int .i64)))))]
def laws_markPacked.rs : RSh := ⟨[.one (.b (.b (.b (.b (.int .i64)))))], [some (.agg [.int .i64, .int .i64, .int .i64, .sl true true 103]), none]⟩
noncomputable def laws_markPacked.gs (δ : Type) : List (Nat × Callee (GT tab) δ) := [(43, calleeS tab laws_markBits.ms laws_markBits.as laws_markBits.rs laws_markBits.fn)]
theorem laws_markPacked.gok (δ : Type) : AllCon Try.prog tab (laws_markPacked.gs δ) := .cons laws_markBits.con (.nil)
noncomputable def laws_markPacked.c : Ctx (GT tab) (KT tab) (ResT tab laws_markPacked.rs) := { X := XT tab, ty := tyOf tys, inner := fun _ => true, keep := keepOf 0 laws_markPacked.ms, cuts := [], live := liveOf [], G := getG (laws_markPacked.gs _) }
noncomputable def laws_markPacked.b : Code := bodyOf Try.f58
noncomputable def laws_markPacked (x0 : Int × Int × Int × (List Int)) (x1 : Int) : Option (Int × (Int × Int × Int × (List Int))) := callW laws_markPacked.c (fiOf (GT tab) Try.f58 laws_markPacked.ms) laws_markPacked.b (decRes tab laws_markPacked.rs) (encArgs tab laws_markPacked.as (x0, x1))
theorem laws_markPacked.fok : FnOk Try.prog 58 Try.f58 laws_markPacked.ms laws_markPacked.b := ⟨Try.func58, by kernel_rfl, by kernel_rfl⟩
noncomputable def laws_markPacked.fn : Args tab laws_markPacked.as → Option (ResT tab laws_markPacked.rs) := fun x => laws_markPacked x.1 x.2
theorem laws_markPacked.con {δ : Type} : Con Try.prog (KT tab) 58 (calleeS (β := δ) tab laws_markPacked.ms laws_markPacked.as laws_markPacked.rs laws_markPacked.fn) := con_shape (c := laws_markPacked.c) mixed tysOk (getG_con (laws_markPacked.gok _)) laws_markPacked.fok rfl rfl (fun _ => rfl)
theorem laws_markPacked.eq (x0 : Int × Int × Int × (List Int)) (x1 : Int) : laws_markPacked x0 x1 =
    (laws_markBits (x0.2.2.1, x0.2.2.2) x1).bind fun y1 =>
    some (y1.1, (x0.1, x0.2.1, x0.2.2.1, y1.2.2)) := by kernel_rfl

end Go.Ev.W
