/- What functions of the program come to. -/
import Derived.Test.YthbijcdnjgfndaaPaT
import Derived.Test.YthbijcdnjgfndaaPa25
import Derived.Test.YthbijcdnjgfndaaPa28
import Derived.Test.YthbijcdnjgfndaaPa4
namespace Go.Ev.W
open Go.Ev Go.Proofs
set_option maxRecDepth 100000
set_option linter.unusedVariables false

/-! ### spec_PackOk: loop.example/g00688/spec.PackOk -/
def spec_PackOk.ms : List Mode := [.lend]
def spec_PackOk.as : List VSh := [.agg [.int .i64, .int .i64, .int .i64, .sl false false 103]]
def spec_PackOk.rs : RSh := ⟨[.one (.b (.b (.b (.b (.bool)))))], [none]⟩
noncomputable def spec_PackOk.gs (δ : Type) : List (Nat × Callee (GT tab) δ) := [(73, calleeS tab spec_BitsOk.ms spec_BitsOk.as spec_BitsOk.rs spec_BitsOk.fn)]
theorem spec_PackOk.gok (δ : Type) : AllCon Try.prog tab (spec_PackOk.gs δ) := .cons spec_BitsOk.con (.nil)
noncomputable def spec_PackOk.c : Ctx (GT tab) (KT tab) (ResT tab spec_PackOk.rs) := { X := XT tab, ty := tyOf tys, inner := fun _ => true, keep := keepOf 0 spec_PackOk.ms, cuts := [], live := liveOf [], G := getG (spec_PackOk.gs _) }
noncomputable def spec_PackOk.b : Code := bodyOf Try.f90
noncomputable def spec_PackOk (x0 : Int × Int × Int × (List Int)) : Option (Bool) := callW spec_PackOk.c (fiOf (GT tab) Try.f90 spec_PackOk.ms) spec_PackOk.b (decRes tab spec_PackOk.rs) (encArgs tab spec_PackOk.as x0)
theorem spec_PackOk.fok : FnOk Try.prog 90 Try.f90 spec_PackOk.ms spec_PackOk.b := ⟨Try.func90, by kernel_rfl, by kernel_rfl⟩
noncomputable def spec_PackOk.fn : Args tab spec_PackOk.as → Option (ResT tab spec_PackOk.rs) := fun x => spec_PackOk x
theorem spec_PackOk.con {δ : Type} : Con Try.prog (KT tab) 90 (calleeS (β := δ) tab spec_PackOk.ms spec_PackOk.as spec_PackOk.rs spec_PackOk.fn) := con_shape (c := spec_PackOk.c) mixed tysOk (getG_con (spec_PackOk.gok _)) spec_PackOk.fok rfl rfl (fun _ => rfl)
theorem spec_PackOk.eq (x0 : Int × Int × Int × (List Int)) : spec_PackOk x0 =
    bif decide (x0.1 ≥ (0 : Int)) then
      bif decide (x0.1 ≤ (32 : Int)) then
        bif decide (x0.2.1 ≥ (0 : Int)) then
          bif decide (x0.2.1 ≤ (5000 : Int)) then
            (spec_BitsOk (x0.2.2.1, x0.2.2.2)).bind fun y1 =>
            bif y1 then
              some (x0.2.2.1 == IntKind.i64.wrap (x0.1 * x0.2.1))
            else
              some false
          else
            some false
        else
          some false
      else
        some false
    else
      some false := by kernel_rfl

/-! ### impl_PackOk: loop.example/g00688/impl.PackOk -/
def impl_PackOk.ms : List Mode := [.lend]
def impl_PackOk.as : List VSh := [.agg [.int .i64, .int .i64, .int .i64, .sl false false 103]]
def impl_PackOk.rs : RSh := ⟨[.one (.b (.b (.b (.b (.bool)))))], [none]⟩
noncomputable def impl_PackOk.gs (δ : Type) : List (Nat × Callee (GT tab) δ) := [(67, calleeS tab impl_within.ms impl_within.as impl_within.rs impl_within.fn), (77, calleeS tab impl_BitsOk.ms impl_BitsOk.as impl_BitsOk.rs impl_BitsOk.fn)]
theorem impl_PackOk.gok (δ : Type) : AllCon Try.prog tab (impl_PackOk.gs δ) := .cons impl_within.con (.cons impl_BitsOk.con (.nil))
noncomputable def impl_PackOk.c : Ctx (GT tab) (KT tab) (ResT tab impl_PackOk.rs) := { X := XT tab, ty := tyOf tys, inner := fun _ => true, keep := keepOf 0 impl_PackOk.ms, cuts := [], live := liveOf [], G := getG (impl_PackOk.gs _) }
noncomputable def impl_PackOk.b : Code := bodyOf Try.f91
noncomputable def impl_PackOk (x0 : Int × Int × Int × (List Int)) : Option (Bool) := callW impl_PackOk.c (fiOf (GT tab) Try.f91 impl_PackOk.ms) impl_PackOk.b (decRes tab impl_PackOk.rs) (encArgs tab impl_PackOk.as x0)
theorem impl_PackOk.fok : FnOk Try.prog 91 Try.f91 impl_PackOk.ms impl_PackOk.b := ⟨Try.func91, by kernel_rfl, by kernel_rfl⟩
noncomputable def impl_PackOk.fn : Args tab impl_PackOk.as → Option (ResT tab impl_PackOk.rs) := fun x => impl_PackOk x
theorem impl_PackOk.con {δ : Type} : Con Try.prog (KT tab) 91 (calleeS (β := δ) tab impl_PackOk.ms impl_PackOk.as impl_PackOk.rs impl_PackOk.fn) := con_shape (c := impl_PackOk.c) mixed tysOk (getG_con (impl_PackOk.gok _)) impl_PackOk.fok rfl rfl (fun _ => rfl)
theorem impl_PackOk.eq (x0 : Int × Int × Int × (List Int)) : impl_PackOk x0 =
    (impl_within x0.1 (0 : Int) (32 : Int)).bind fun y1 =>
    bif y1 then
      (impl_within x0.2.1 (0 : Int) (5000 : Int)).bind fun y2 =>
      bif y2 then
        (impl_BitsOk (x0.2.2.1, x0.2.2.2)).bind fun y3 =>
        bif y3 then
          some (x0.2.2.1 == IntKind.i64.wrap (x0.2.1 * x0.1))
        else
          some false
      else
        some false
    else
      some false := by kernel_rfl

/-! ### spec_PackRead: loop.example/g00688/spec.PackRead -/
def spec_PackRead.ms : List Mode := [.lend, .lend]
def spec_PackRead.as : List VSh := [.one (.b (.b (.b (.b (.sl false false 5))))), .one (.b (.b (.b (.b (.int .i64)))))]
def spec_PackRead.rs : RSh := ⟨[.agg [.int .i64, .int .i64, .int .i64, .sl true true 103], .one (.b (.b (.b (.b (.int .i64))))), .one (.b (.b (.b (.b (.bool)))))], [none, none]⟩
noncomputable def spec_PackRead.gs (δ : Type) : List (Nat × Callee (GT tab) δ) := [(49, calleeS tab spec_BitsRead.ms spec_BitsRead.as spec_BitsRead.rs spec_BitsRead.fn), (84, calleeS tab spec_VarRead.ms spec_VarRead.as spec_VarRead.rs spec_VarRead.fn), (90, calleeS tab spec_PackOk.ms spec_PackOk.as spec_PackOk.rs spec_PackOk.fn)]
theorem spec_PackRead.gok (δ : Type) : AllCon Try.prog tab (spec_PackRead.gs δ) := .cons spec_BitsRead.con (.cons spec_VarRead.con (.cons spec_PackOk.con (.nil)))
noncomputable def spec_PackRead.c : Ctx (GT tab) (KT tab) (ResT tab spec_PackRead.rs) := { X := XT tab, ty := tyOf tys, inner := fun _ => true, keep := keepOf 0 spec_PackRead.ms, cuts := [], live := liveOf [], G := getG (spec_PackRead.gs _) }
noncomputable def spec_PackRead.b : Code := bodyOf Try.f59
noncomputable def spec_PackRead (x0 : List Int) (x1 : Int) : Option ((Int × Int × Int × (List Int)) × Int × Bool) := callW spec_PackRead.c (fiOf (GT tab) Try.f59 spec_PackRead.ms) spec_PackRead.b (decRes tab spec_PackRead.rs) (encArgs tab spec_PackRead.as (x0, x1))
theorem spec_PackRead.fok : FnOk Try.prog 59 Try.f59 spec_PackRead.ms spec_PackRead.b := ⟨Try.func59, by kernel_rfl, by kernel_rfl⟩
noncomputable def spec_PackRead.fn : Args tab spec_PackRead.as → Option (ResT tab spec_PackRead.rs) := fun x => spec_PackRead x.1 x.2
theorem spec_PackRead.con {δ : Type} : Con Try.prog (KT tab) 59 (calleeS (β := δ) tab spec_PackRead.ms spec_PackRead.as spec_PackRead.rs spec_PackRead.fn) := con_shape (c := spec_PackRead.c) mixed tysOk (getG_con (spec_PackRead.gok _)) spec_PackRead.fok rfl rfl (fun _ => rfl)
theorem spec_PackRead.eq (x0 : List Int) (x1 : Int) : spec_PackRead x0 x1 =
    (spec_VarRead x0 x1).bind fun y1 =>
    bif !y1.2.2 then
      some (((0 : Int), (0 : Int), (0 : Int), ([] : List Int)), (0 : Int), false)
    else
      (spec_VarRead x0 y1.2.1).bind fun y2 =>
      bif !y2.2.2 then
        some (((0 : Int), (0 : Int), (0 : Int), ([] : List Int)), (0 : Int), false)
      else
        (spec_BitsRead x0 y2.2.1).bind fun y3 =>
        bif !y3.2.2 then
          some (((0 : Int), (0 : Int), (0 : Int), ([] : List Int)), (0 : Int), false)
        else
          (spec_PackOk (y1.1, y2.1, y3.1.1, y3.1.2)).bind fun y4 =>
          bif !y4 then
            some (((0 : Int), (0 : Int), (0 : Int), ([] : List Int)), (0 : Int), false)
          else
            some ((y1.1, y2.1, y3.1.1, y3.1.2), y3.2.1, true) := by kernel_rfl

/-! ### impl_PackRead: loop.example/g00688/impl.PackRead -/
def impl_PackRead.ms : List Mode := [.lend, .lend]
def impl_PackRead.as : List VSh := [.one (.b (.b (.b (.b (.sl false false 5))))), .one (.b (.b (.b (.b (.int .i64)))))]
def impl_PackRead.rs : RSh := ⟨[.agg [.int .i64, .int .i64, .int .i64, .sl true true 103], .one (.b (.b (.b (.b (.int .i64))))), .one (.b (.b (.b (.b (.bool)))))], [none, none]⟩
noncomputable def impl_PackRead.gs (δ : Type) : List (Nat × Callee (GT tab) δ) := [(51, calleeS tab impl_BitsRead.ms impl_BitsRead.as impl_BitsRead.rs impl_BitsRead.fn), (88, calleeS tab impl_VarRead.ms impl_VarRead.as impl_VarRead.rs impl_VarRead.fn), (91, calleeS tab impl_PackOk.ms impl_PackOk.as impl_PackOk.rs impl_PackOk.fn)]
theorem impl_PackRead.gok (δ : Type) : AllCon Try.prog tab (impl_PackRead.gs δ) := .cons impl_BitsRead.con (.cons impl_VarRead.con (.cons impl_PackOk.con (.nil)))
noncomputable def impl_PackRead.c : Ctx (GT tab) (KT tab) (ResT tab impl_PackRead.rs) := { X := XT tab, ty := tyOf tys, inner := fun _ => true, keep := keepOf 0 impl_PackRead.ms, cuts := [], live := liveOf [], G := getG (impl_PackRead.gs _) }
noncomputable def impl_PackRead.b : Code := bodyOf Try.f60
noncomputable def impl_PackRead (x0 : List Int) (x1 : Int) : Option ((Int × Int × Int × (List Int)) × Int × Bool) := callW impl_PackRead.c (fiOf (GT tab) Try.f60 impl_PackRead.ms) impl_PackRead.b (decRes tab impl_PackRead.rs) (encArgs tab impl_PackRead.as (x0, x1))
theorem impl_PackRead.fok : FnOk Try.prog 60 Try.f60 impl_PackRead.ms impl_PackRead.b := ⟨Try.func60, by kernel_rfl, by kernel_rfl⟩
noncomputable def impl_PackRead.fn : Args tab impl_PackRead.as → Option (ResT tab impl_PackRead.rs) := fun x => impl_PackRead x.1 x.2
theorem impl_PackRead.con {δ : Type} : Con Try.prog (KT tab) 60 (calleeS (β := δ) tab impl_PackRead.ms impl_PackRead.as impl_PackRead.rs impl_PackRead.fn) := con_shape (c := impl_PackRead.c) mixed tysOk (getG_con (impl_PackRead.gok _)) impl_PackRead.fok rfl rfl (fun _ => rfl)
theorem impl_PackRead.eq (x0 : List Int) (x1 : Int) : impl_PackRead x0 x1 =
    (impl_VarRead x0 x1).bind fun y1 =>
    bif !y1.2.2 then
      some (((0 : Int), (0 : Int), (0 : Int), ([] : List Int)), (0 : Int), false)
    else
      (impl_VarRead x0 y1.2.1).bind fun y2 =>
      bif !y2.2.2 then
        some (((0 : Int), (0 : Int), (0 : Int), ([] : List Int)), (0 : Int), false)
      else
        (impl_BitsRead x0 y2.2.1).bind fun y3 =>
        bif !y3.2.2 then
          some (((0 : Int), (0 : Int), (0 : Int), ([] : List Int)), (0 : Int), false)
        else
          (impl_PackOk (y1.1, y2.1, y3.1.1, y3.1.2)).bind fun y4 =>
          bif !y4 then
            some (((0 : Int), (0 : Int), (0 : Int), ([] : List Int)), (0 : Int), false)
          else
            some ((y1.1, y2.1, y3.1.1, y3.1.2), y3.2.1, true) := by kernel_rfl

/-! ### laws_eqPacked: loop.example/g00688/laws.eqPacked -/
def laws_eqPacked.ms : List Mode := [.lend, .lend]
def laws_eqPacked.as : List VSh := [.agg [.int .i64, .int .i64, .int .i64, .sl false false 103], .agg [.int .i64, .int .i64, .int .i64, .sl false false 103]]
def laws_eqPacked.rs : RSh := ⟨[.one (.b (.b (.b (.b (.bool)))))], [none, none]⟩
noncomputable def laws_eqPacked.gs (δ : Type) : List (Nat × Callee (GT tab) δ) := [(42, calleeS tab laws_eqBits.ms laws_eqBits.as laws_eqBits.rs laws_eqBits.fn)]
theorem laws_eqPacked.gok (δ : Type) : AllCon Try.prog tab (laws_eqPacked.gs δ) := .cons laws_eqBits.con (.nil)
noncomputable def laws_eqPacked.c : Ctx (GT tab) (KT tab) (ResT tab laws_eqPacked.rs) := { X := XT tab, ty := tyOf tys, inner := fun _ => true, keep := keepOf 0 laws_eqPacked.ms, cuts := [], live := liveOf [], G := getG (laws_eqPacked.gs _) }
noncomputable def laws_eqPacked.b : Code := bodyOf Try.f57
noncomputable def laws_eqPacked (x0 : Int × Int × Int × (List Int)) (x1 : Int × Int × Int × (List Int)) : Option (Bool) := callW laws_eqPacked.c (fiOf (GT tab) Try.f57 laws_eqPacked.ms) laws_eqPacked.b (decRes tab laws_eqPacked.rs) (encArgs tab laws_eqPacked.as (x0, x1))
theorem laws_eqPacked.fok : FnOk Try.prog 57 Try.f57 laws_eqPacked.ms laws_eqPacked.b := ⟨Try.func57, by kernel_rfl, by kernel_rfl⟩
noncomputable def laws_eqPacked.fn : Args tab laws_eqPacked.as → Option (ResT tab laws_eqPacked.rs) := fun x => laws_eqPacked x.1 x.2
theorem laws_eqPacked.con {δ : Type} : Con Try.prog (KT tab) 57 (calleeS (β := δ) tab laws_eqPacked.ms laws_eqPacked.as laws_eqPacked.rs laws_eqPacked.fn) := con_shape (c := laws_eqPacked.c) mixed tysOk (getG_con (laws_eqPacked.gok _)) laws_eqPacked.fok rfl rfl (fun _ => rfl)
theorem laws_eqPacked.eq (x0 : Int × Int × Int × (List Int)) (x1 : Int × Int × Int × (List Int)) : laws_eqPacked x0 x1 =
    bif x0.1 != x1.1 then
      some false
    else
      bif x0.2.1 != x1.2.1 then
        some false
      else
        (laws_eqBits (x0.2.2.1, x0.2.2.2) (x1.2.2.1, x1.2.2.2)).bind fun y1 =>
        bif !y1 then
          some false
        else
          some true := by kernel_rfl

/-! ### laws_markPacked: loop.example/g00688/laws.markPacked -/
def laws_markPacked.ms : List Mode := [.keep, .lend]
def laws_markPacked.as : List VSh := [.agg [.int .i64, .int .i64, .int .i64, .sl true true 103], .one (.b (.b (.b (.b (.int .i64)))))]
def laws_markPacked.rs : RSh := ⟨[.one (.b (.b (.b (.b (.int .i64)))))], [some (.agg [.int .i64, .int .i64, .int .i64, .sl true true 103]), none]⟩
noncomputable def laws_markPacked.gs (δ : Type) : List (Nat × Callee (GT tab) δ) := [(43, calleeS tab laws_markBits.ms laws_markBits.as laws_markBits.rs laws_markBits.fn)]
theorem laws_markPacked.gok (δ : Type) : AllCon Try.prog tab (laws_markPacked.gs δ) := .cons laws_markBits.con (.nil)
noncomputable def laws_markPacked.c : Ctx (GT tab) (KT tab) (ResT tab laws_markPacked.rs) := { X := XT tab, ty := tyOf tys, inner := fun _ => true, keep := keepOf 0 laws_markPacked.ms, cuts := [], live := liveOf [], G := getG (laws_markPacked.gs _) }
noncomputable def laws_markPacked.b : Code := bodyOf Try.f58
noncomputable def laws_markPacked (x0 : Int × Int × Int × (List Int)) (x1 : Int) : Option (Int × (Int × Int × Int × (List Int))) := callW laws_markPacked.c (fiOf (GT tab) Try.f58 laws_markPacked.ms) laws_markPacked.b (decRes tab laws_markPacked.rs) (encArgs tab laws_markPacked.as (x0, x1))
theorem laws_markPacked.fok : FnOk Try.prog 58 Try.f58 laws_markPacked.ms laws_markPacked.b := ⟨Try.func58, by kernel_rfl, by kernel_rfl⟩
noncomputable def laws_markPacked.fn : Args tab laws_markPacked.as → Option (ResT tab laws_markPacked.rs) := fun x => laws_markPacked x.1 x.2
theorem laws_markPacked.con {δ : Type} : Con Try.prog (KT tab) 58 (calleeS (β := δ) tab laws_markPacked.ms laws_markPacked.as laws_markPacked.rs laws_markPacked.fn) := con_shape (c := laws_markPacked.c) mixed tysOk (getG_con (laws_markPacked.gok _)) laws_markPacked.fok rfl rfl (fun _ => rfl)
theorem laws_markPacked.eq (x0 : Int × Int × Int × (List Int)) (x1 : Int) : laws_markPacked x0 x1 =
    (laws_markBits (x0.2.2.1, x0.2.2.2) x1).bind fun y1 =>
    some (y1.1, (x0.1, x0.2.1, x0.2.2.1, y1.2.2)) := by kernel_rfl

/-! ### laws_heldPacked: loop.example/g00688/laws.heldPacked -/
def laws_heldPacked.ms : List Mode := [.lend, .lend]
def laws_heldPacked.as : List VSh := [.agg [.int .i64, .int .i64, .int .i64, .sl false false 103], .one (.b (.b (.b (.b (.int .i64)))))]
def laws_heldPacked.rs : RSh := ⟨[.one (.b (.b (.b (.b (.int .i64)))))], [none, none]⟩
noncomputable def laws_heldPacked.gs (δ : Type) : List (Nat × Callee (GT tab) δ) := [(52, calleeS tab laws_heldBits.ms laws_heldBits.as laws_heldBits.rs laws_heldBits.fn)]
theorem laws_heldPacked.gok (δ : Type) : AllCon Try.prog tab (laws_heldPacked.gs δ) := .cons laws_heldBits.con (.nil)
noncomputable def laws_heldPacked.c : Ctx (GT tab) (KT tab) (ResT tab laws_heldPacked.rs) := { X := XT tab, ty := tyOf tys, inner := fun _ => true, keep := keepOf 0 laws_heldPacked.ms, cuts := [], live := liveOf [], G := getG (laws_heldPacked.gs _) }
noncomputable def laws_heldPacked.b : Code := bodyOf Try.f61
noncomputable def laws_heldPacked (x0 : Int × Int × Int × (List Int)) (x1 : Int) : Option (Int) := callW laws_heldPacked.c (fiOf (GT tab) Try.f61 laws_heldPacked.ms) laws_heldPacked.b (decRes tab laws_heldPacked.rs) (encArgs tab laws_heldPacked.as (x0, x1))
theorem laws_heldPacked.fok : FnOk Try.prog 61 Try.f61 laws_heldPacked.ms laws_heldPacked.b := ⟨Try.func61, by kernel_rfl, by kernel_rfl⟩
noncomputable def laws_heldPacked.fn : Args tab laws_heldPacked.as → Option (ResT tab laws_heldPacked.rs) := fun x => laws_heldPacked x.1 x.2
theorem laws_heldPacked.con {δ : Type} : Con Try.prog (KT tab) 61 (calleeS (β := δ) tab laws_heldPacked.ms laws_heldPacked.as laws_heldPacked.rs laws_heldPacked.fn) := con_shape (c := laws_heldPacked.c) mixed tysOk (getG_con (laws_heldPacked.gok _)) laws_heldPacked.fok rfl rfl (fun _ => rfl)
theorem laws_heldPacked.eq (x0 : Int × Int × Int × (List Int)) (x1 : Int) : laws_heldPacked x0 x1 =
    (laws_heldBits (x0.2.2.1, x0.2.2.2) x1).bind fun y1 =>
    bif decide (y1 < (0 : Int)) then
      some (-1 : Int)
    else
      some y1 := by kernel_rfl

/-! ### laws_FnExactPackRead: loop.example/g00688/laws.FnExactPackRead -/
def laws_FnExactPackRead.ms : List Mode := [.lend, .lend]
def laws_FnExactPackRead.as : List VSh := [.one (.b (.b (.b (.b (.sl false false 5))))), .one (.b (.b (.b (.b (.int .i64)))))]
def laws_FnExactPackRead.rs : RSh := ⟨[.one (.b (.b (.b (.b (.bool)))))], [none, none]⟩
noncomputable def laws_FnExactPackRead.gs (δ : Type) : List (Nat × Callee (GT tab) δ) := [(41, calleeS tab laws_eqByteS.ms laws_eqByteS.as laws_eqByteS.rs laws_eqByteS.fn), (44, calleeS tab laws_markByteS.ms laws_markByteS.as laws_markByteS.rs laws_markByteS.fn), (50, calleeS tab laws_toByteS.ms laws_toByteS.as laws_toByteS.rs laws_toByteS.fn), (57, calleeS tab laws_eqPacked.ms laws_eqPacked.as laws_eqPacked.rs laws_eqPacked.fn), (58, calleeS tab laws_markPacked.ms laws_markPacked.as laws_markPacked.rs laws_markPacked.fn), (59, calleeS tab spec_PackRead.ms spec_PackRead.as spec_PackRead.rs spec_PackRead.fn), (60, calleeS tab impl_PackRead.ms impl_PackRead.as impl_PackRead.rs impl_PackRead.fn), (61, calleeS tab laws_heldPacked.ms laws_heldPacked.as laws_heldPacked.rs laws_heldPacked.fn)]
theorem laws_FnExactPackRead.gok (δ : Type) : AllCon Try.prog tab (laws_FnExactPackRead.gs δ) := .cons laws_eqByteS.con (.cons laws_markByteS.con (.cons laws_toByteS.con (.cons laws_eqPacked.con (.cons laws_markPacked.con (.cons spec_PackRead.con (.cons impl_PackRead.con (.cons laws_heldPacked.con (.nil))))))))
noncomputable def laws_FnExactPackRead.c : Ctx (GT tab) (KT tab) (ResT tab laws_FnExactPackRead.rs) := { X := XT tab, ty := tyOf tys, inner := fun _ => true, keep := keepOf 0 laws_FnExactPackRead.ms, cuts := [8, 14, 25], live := liveOf [(8, [0, 1, 5, 6, 7, 8, 9, 10, 11]), (14, [0, 1, 5, 6, 7, 9]), (25, [9, 13])], G := getG (laws_FnExactPackRead.gs _) }
noncomputable def laws_FnExactPackRead.b : Code := bodyOf Try.f14
noncomputable def laws_FnExactPackRead (x0 : List Int) (x1 : Int) : Option (Bool) := callW laws_FnExactPackRead.c (fiOf (GT tab) Try.f14 laws_FnExactPackRead.ms) laws_FnExactPackRead.b (decRes tab laws_FnExactPackRead.rs) (encArgs tab laws_FnExactPackRead.as (x0, x1))
theorem laws_FnExactPackRead.fok : FnOk Try.prog 14 Try.f14 laws_FnExactPackRead.ms laws_FnExactPackRead.b := ⟨Try.func14, by kernel_rfl, by kernel_rfl⟩
noncomputable def laws_FnExactPackRead.fn : Args tab laws_FnExactPackRead.as → Option (ResT tab laws_FnExactPackRead.rs) := fun x => laws_FnExactPackRead x.1 x.2
theorem laws_FnExactPackRead.con {δ : Type} : Con Try.prog (KT tab) 14 (calleeS (β := δ) tab laws_FnExactPackRead.ms laws_FnExactPackRead.as laws_FnExactPackRead.rs laws_FnExactPackRead.fn) := con_shape (c := laws_FnExactPackRead.c) mixed tysOk (getG_con (laws_FnExactPackRead.gok _)) laws_FnExactPackRead.fok rfl rfl (fun _ => rfl)
noncomputable def laws_FnExactPackRead_l0 (v0 : List Int) (v1 : Int) (v2 : Int) (v3 : Bool) (v4 : Int) (v5 : Bool) (v6 : Int) (v7 : Int) (v8 : Int) (v9 : List Int) (v10 : List Int) (v11 : Int) (v12 : Int) (v13 : Int) (v14 : List Int) : Option (Bool) := Lw laws_FnExactPackRead.c (finish laws_FnExactPackRead.c (fiOf (GT tab) Try.f14 laws_FnExactPackRead.ms) (decRes tab laws_FnExactPackRead.rs)) ((loops laws_FnExactPackRead.c.cuts 1000 laws_FnExactPackRead.b []).getD 0 []) { slots := [.vs false 5 v0, .int .i64 v1, .undef, .undef, .undef, .ptr 0 0, .int .i64 v2, .bool v3, .sl 2 0, .ptr 3 0, .int .i64 v4, .bool v5, .undef, .undef, .undef, .undef, .undef, .undef, .undef, .undef, .undef, .undef, .undef, .undef, .undef, .undef, .undef, .undef, .undef, .undef, .undef, .undef, .undef, .undef, .undef, .undef, .undef, .undef, .undef, .undef, .undef, .undef, .undef, .undef, .undef, .undef, .undef, .undef, .undef, .undef, .undef, .undef, .undef, .undef, .undef, .undef, .undef, .undef, .undef, .undef, .undef, .undef, .undef, .undef, .undef, .undef, .undef, .undef, .undef, .undef, .undef, .undef, .undef, .undef, .undef, .undef, .undef, .undef, .undef, .undef, .undef, .undef, .undef, .undef, .undef, .undef, .undef, .undef, .undef, .undef, .undef, .undef, .undef, .undef, .undef, .undef, .undef, .undef, .undef, .undef, .undef, .undef, .undef, .undef, .undef, .undef, .undef, .undef, .undef, .undef, .undef, .undef, .undef, .undef, .undef, .undef, .undef, .undef, .undef], loc := locOf [.box 73 [.int .i64 v6, .int .i64 v7, .int .i64 v8, .sl 1 0], .row 0 true 103 v9, .row 0 true 5 v10, .box 73 [.int .i64 v11, .int .i64 v12, .int .i64 v13, .sl 4 0], .row 0 true 103 v14], nx := 5 }
noncomputable def laws_FnExactPackRead_l1 (v0 : List Int) (v1 : Int) (v2 : Int) (v3 : Bool) (v4 : Int) (v5 : Int) (v6 : Int) (v7 : List Int) (v8 : Int) (v9 : Int) (v10 : Int) (v11 : List Int) : Option (Bool) := Lw laws_FnExactPackRead.c (finish laws_FnExactPackRead.c (fiOf (GT tab) Try.f14 laws_FnExactPackRead.ms) (decRes tab laws_FnExactPackRead.rs)) ((loops laws_FnExactPackRead.c.cuts 1000 laws_FnExactPackRead.b []).getD 1 []) { slots := [.vs false 5 v0, .int .i64 v1, .undef, .undef, .undef, .ptr 0 0, .int .i64 v2, .bool v3, .undef, .ptr 2 0, .undef, .undef, .undef, .undef, .undef, .undef, .undef, .undef, .undef, .undef, .undef, .undef, .undef, .undef, .undef, .undef, .undef, .undef, .undef, .undef, .undef, .undef, .undef, .undef, .undef, .undef, .undef, .undef, .undef, .undef, .undef, .undef, .undef, .undef, .undef, .undef, .undef, .undef, .undef, .undef, .undef, .undef, .undef, .undef, .undef, .undef, .undef, .undef, .undef, .undef, .undef, .undef, .undef, .undef, .undef, .undef, .undef, .undef, .undef, .undef, .undef, .undef, .undef, .undef, .undef, .undef, .undef, .undef, .undef, .undef, .undef, .undef, .undef, .undef, .undef, .undef, .undef, .undef, .undef, .undef, .undef, .undef, .undef, .undef, .undef, .undef, .undef, .undef, .undef, .undef, .undef, .undef, .undef, .undef, .undef, .undef, .undef, .undef, .undef, .undef, .undef, .undef, .undef, .undef, .undef, .undef, .undef, .undef, .undef], loc := locOf [.box 73 [.int .i64 v4, .int .i64 v5, .int .i64 v6, .sl 1 0], .row 0 true 103 v7, .box 73 [.int .i64 v8, .int .i64 v9, .int .i64 v10, .sl 3 0], .row 0 true 103 v11], nx := 4 }
noncomputable def laws_FnExactPackRead_l2 (v0 : Int) (v1 : Int) (v2 : Int) (v3 : Int) (v4 : List Int) : Option (Bool) := Lw laws_FnExactPackRead.c (finish laws_FnExactPackRead.c (fiOf (GT tab) Try.f14 laws_FnExactPackRead.ms) (decRes tab laws_FnExactPackRead.rs)) ((loops laws_FnExactPackRead.c.cuts 1000 laws_FnExactPackRead.b []).getD 2 []) { slots := [.undef, .undef, .undef, .undef, .undef, .undef, .undef, .undef, .undef, .ptr 0 0, .undef, .undef, .undef, .int .i64 v0, .undef, .undef, .undef, .undef, .undef, .undef, .undef, .undef, .undef, .undef, .undef, .undef, .undef, .undef, .undef, .undef, .undef, .undef, .undef, .undef, .undef, .undef, .undef, .undef, .undef, .undef, .undef, .undef, .undef, .undef, .undef, .undef, .undef, .undef, .undef, .undef, .undef, .undef, .undef, .undef, .undef, .undef, .undef, .undef, .undef, .undef, .undef, .undef, .undef, .undef, .undef, .undef, .undef, .undef, .undef, .undef, .undef, .undef, .undef, .undef, .undef, .undef, .undef, .undef, .undef, .undef, .undef, .undef, .undef, .undef, .undef, .undef, .undef, .undef, .undef, .undef, .undef, .undef, .undef, .undef, .undef, .undef, .undef, .undef, .undef, .undef, .undef, .undef, .undef, .undef, .undef, .undef, .undef, .undef, .undef, .undef, .undef, .undef, .undef, .undef, .undef, .undef, .undef, .undef, .undef], loc := locOf [.box 73 [.int .i64 v1, .int .i64 v2, .int .i64 v3, .sl 1 0], .row 0 true 103 v4], nx := 2 }
theorem laws_FnExactPackRead.eq (x0 : List Int) (x1 : Int) : laws_FnExactPackRead x0 x1 =
    bif decide ((x0.length : Int) > (1048576 : Int)) then
      some true
    else
      (laws_toByteS x0).bind fun y1 =>
      (spec_PackRead y1 x1).bind fun y2 =>
      (laws_toByteS x0).bind fun y3 =>
      (impl_PackRead y3 x1).bind fun y4 =>
      (laws_eqPacked (y4.1.1, y4.1.2.1, y4.1.2.2.1, y4.1.2.2.2) (y2.1.1, y2.1.2.1, y2.1.2.2.1, y2.1.2.2.2)).bind fun y5 =>
      bif !y5 then
        some false
      else
        bif y4.2.1 != y2.2.1 then
          some false
        else
          bif !(y4.2.2 == y2.2.2) then
            some false
          else
            laws_FnExactPackRead_l0 x0 x1 y2.2.1 y2.2.2 y4.2.1 y4.2.2 y2.1.1 y2.1.2.1 y2.1.2.2.1 y2.1.2.2.2 y3 y4.1.1 y4.1.2.1 y4.1.2.2.1 y4.1.2.2.2 := by kernel_rfl
theorem laws_FnExactPackRead_l0.eq (v0 : List Int) (v1 : Int) (v2 : Int) (v3 : Bool) (v4 : Int) (v5 : Bool) (v6 : Int) (v7 : Int) (v8 : Int) (v9 : List Int) (v10 : List Int) (v11 : Int) (v12 : Int) (v13 : Int) (v14 : List Int) : laws_FnExactPackRead_l0 v0 v1 v2 v3 v4 v5 v6 v7 v8 v9 v10 v11 v12 v13 v14 =
    (laws_toByteS v0).bind fun y1 =>
    (laws_eqByteS v10 y1).bind fun y2 =>
    bif !y2 then
      some false
    else
      (laws_markByteS v10 (1 : Int)).bind fun y3 =>
      bif decide (y3.1 < (0 : Int)) then
        some false
      else
        (laws_eqPacked (v11, v12, v13, v14) (v6, v7, v8, v9)).bind fun y4 =>
        bif !y4 then
          some false
        else
          bif v4 != v2 then
            some false
          else
            bif !(v5 == v3) then
              some false
            else
              laws_FnExactPackRead_l1 v0 v1 v2 v3 v6 v7 v8 v9 v11 v12 v13 v14 := (Lw_eq tysOk (getG_con (laws_FnExactPackRead.gok _)) _ _).trans (by kernel_rfl)
theorem laws_FnExactPackRead_l1.eq (v0 : List Int) (v1 : Int) (v2 : Int) (v3 : Bool) (v4 : Int) (v5 : Int) (v6 : Int) (v7 : List Int) (v8 : Int) (v9 : Int) (v10 : Int) (v11 : List Int) : laws_FnExactPackRead_l1 v0 v1 v2 v3 v4 v5 v6 v7 v8 v9 v10 v11 =
    (laws_markPacked (v8, v9, v10, v11) (1 : Int)).bind fun y1 =>
    (laws_heldPacked (v8, v9, v10, y1.2.2.2.2) (1 : Int)).bind fun y2 =>
    bif decide (y2 < (0 : Int)) then
      some false
    else
      bif y2 != y1.1 then
        some false
      else
        (laws_toByteS v0).bind fun y3 =>
        (impl_PackRead y3 v1).bind fun y4 =>
        (laws_eqPacked (y4.1.1, y4.1.2.1, y4.1.2.2.1, y4.1.2.2.2) (v4, v5, v6, v7)).bind fun y5 =>
        bif !y5 then
          some false
        else
          bif y4.2.1 != v2 then
            some false
          else
            bif !(y4.2.2 == v3) then
              some false
            else
              laws_FnExactPackRead_l2 y1.1 v8 v9 v10 y1.2.2.2.2 := (Lw_eq tysOk (getG_con (laws_FnExactPackRead.gok _)) _ _).trans (by kernel_rfl)
theorem laws_FnExactPackRead_l2.eq (v0 : Int) (v1 : Int) (v2 : Int) (v3 : Int) (v4 : List Int) : laws_FnExactPackRead_l2 v0 v1 v2 v3 v4 =
    (laws_heldPacked (v1, v2, v3, v4) (1 : Int)).bind fun y1 =>
    bif decide (y1 < (0 : Int)) then
      some false
    else
      bif y1 != v0 then
        some false
      else
        some true := (Lw_eq tysOk (getG_con (laws_FnExactPackRead.gok _)) _ _).trans (by kernel_rfl)

end Go.Ev.W
