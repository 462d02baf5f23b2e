/- What functions of the program come to. -/
import Derived.Test.YthbijcdnjgfndaaPaT
import Derived.Test.YthbijcdnjgfndaaEvGrow
import Derived.Test.YthbijcdnjgfndaaPa24
import Derived.Test.YthbijcdnjgfndaaPa25
import Derived.Test.YthbijcdnjgfndaaPa32
import Derived.Test.YthbijcdnjgfndaaPaL
namespace Go.Ev.W
open Go.Ev Go.Proofs
set_option maxRecDepth 100000
set_option linter.unusedVariables false

/-! ### laws_szPacked: loop.example/g00688/laws.szPacked -/
def laws_szPacked.ms : List Mode := [.lend, .lend]
def laws_szPacked.as : List VSh := [.agg [.int .i64, .int .i64, .int .i64, .sl false false 103], .one (.b (.b (.b (.b (.int .i64)))))]
def laws_szPacked.rs : RSh := ⟨[.one (.b (.b (.b (.b (.int .i64)))))], [none, none]⟩
noncomputable def laws_szPacked.gs (δ : Type) : List (Nat × Callee (GT tab) δ) := [(37, calleeS tab laws_szBits.ms laws_szBits.as laws_szBits.rs laws_szBits.fn)]
theorem laws_szPacked.gok (δ : Type) : AllCon Try.prog tab (laws_szPacked.gs δ) := .cons laws_szBits.con (.nil)
noncomputable def laws_szPacked.c : Ctx (GT tab) (KT tab) (ResT tab laws_szPacked.rs) := { X := XT tab, ty := tyOf tys, inner := fun _ => true, keep := keepOf 0 laws_szPacked.ms, cuts := [], live := liveOf [], G := getG (laws_szPacked.gs _) }
noncomputable def laws_szPacked.b : Code := bodyOf Try.f53
noncomputable def laws_szPacked (x0 : Int × Int × Int × (List Int)) (x1 : Int) : Option (Int) := callW laws_szPacked.c (fiOf (GT tab) Try.f53 laws_szPacked.ms) laws_szPacked.b (decRes tab laws_szPacked.rs) (encArgs tab laws_szPacked.as (x0, x1))
theorem laws_szPacked.fok : FnOk Try.prog 53 Try.f53 laws_szPacked.ms laws_szPacked.b := ⟨Try.func53, by kernel_rfl, by kernel_rfl⟩
noncomputable def laws_szPacked.fn : Args tab laws_szPacked.as → Option (ResT tab laws_szPacked.rs) := fun x => laws_szPacked x.1 x.2
theorem laws_szPacked.con {δ : Type} : Con Try.prog (KT tab) 53 (calleeS (β := δ) tab laws_szPacked.ms laws_szPacked.as laws_szPacked.rs laws_szPacked.fn) := con_shape (c := laws_szPacked.c) mixed tysOk (getG_con (laws_szPacked.gok _)) laws_szPacked.fok rfl rfl (fun _ => rfl)
theorem laws_szPacked.eq (x0 : Int × Int × Int × (List Int)) (x1 : Int) : laws_szPacked x0 x1 =
    (laws_szBits (x0.2.2.1, x0.2.2.2) x1).bind fun y1 =>
    bif decide (y1 < (0 : Int)) then
      some (-1 : Int)
    else
      some y1 := by kernel_rfl

/-! ### laws_toPacked: loop.example/g00688/laws.toPacked -/
def laws_toPacked.ms : List Mode := [.lend]
def laws_toPacked.as : List VSh := [.agg [.int .i64, .int .i64, .int .i64, .sl false false 103]]
def laws_toPacked.rs : RSh := ⟨[.agg [.int .i64, .int .i64, .int .i64, .sl true true 103]], [none]⟩
noncomputable def laws_toPacked.gs (δ : Type) : List (Nat × Callee (GT tab) δ) := [(39, calleeS tab laws_toBits.ms laws_toBits.as laws_toBits.rs laws_toBits.fn)]
theorem laws_toPacked.gok (δ : Type) : AllCon Try.prog tab (laws_toPacked.gs δ) := .cons laws_toBits.con (.nil)
noncomputable def laws_toPacked.c : Ctx (GT tab) (KT tab) (ResT tab laws_toPacked.rs) := { X := XT tab, ty := tyOf tys, inner := fun _ => true, keep := keepOf 0 laws_toPacked.ms, cuts := [], live := liveOf [], G := getG (laws_toPacked.gs _) }
noncomputable def laws_toPacked.b : Code := bodyOf Try.f55
noncomputable def laws_toPacked (x0 : Int × Int × Int × (List Int)) : Option (Int × Int × Int × (List Int)) := callW laws_toPacked.c (fiOf (GT tab) Try.f55 laws_toPacked.ms) laws_toPacked.b (decRes tab laws_toPacked.rs) (encArgs tab laws_toPacked.as x0)
theorem laws_toPacked.fok : FnOk Try.prog 55 Try.f55 laws_toPacked.ms laws_toPacked.b := ⟨Try.func55, by kernel_rfl, by kernel_rfl⟩
noncomputable def laws_toPacked.fn : Args tab laws_toPacked.as → Option (ResT tab laws_toPacked.rs) := fun x => laws_toPacked x
theorem laws_toPacked.con {δ : Type} : Con Try.prog (KT tab) 55 (calleeS (β := δ) tab laws_toPacked.ms laws_toPacked.as laws_toPacked.rs laws_toPacked.fn) := con_shape (c := laws_toPacked.c) mixed tysOk (getG_con (laws_toPacked.gok _)) laws_toPacked.fok rfl rfl (fun _ => rfl)
theorem laws_toPacked.eq (x0 : Int × Int × Int × (List Int)) : laws_toPacked x0 =
    (laws_toBits (x0.2.2.1, x0.2.2.2)).bind fun y1 =>
    some (x0.1, x0.2.1, y1.1, y1.2) := by kernel_rfl

/-! ### spec_PackBytes: loop.example/g00688/spec.PackBytes -/
def spec_PackBytes.ms : List Mode := [.lend]
def spec_PackBytes.as : List VSh := [.agg [.int .i64, .int .i64, .int .i64, .sl false false 103]]
def spec_PackBytes.rs : RSh := ⟨[.one (.b (.b (.b (.b (.sl true true 5)))))], [none]⟩
noncomputable def spec_PackBytes.gs (δ : Type) : List (Nat × Callee (GT tab) δ) := [(38, calleeS tab spec_BitsBytes.ms spec_BitsBytes.as spec_BitsBytes.rs spec_BitsBytes.fn), (74, calleeS tab spec_VarOf.ms spec_VarOf.as spec_VarOf.rs spec_VarOf.fn), (90, calleeS tab spec_PackOk.ms spec_PackOk.as spec_PackOk.rs spec_PackOk.fn)]
theorem spec_PackBytes.gok (δ : Type) : AllCon Try.prog tab (spec_PackBytes.gs δ) := .cons spec_BitsBytes.con (.cons spec_VarOf.con (.cons spec_PackOk.con (.nil)))
noncomputable def spec_PackBytes.c : Ctx (GT tab) (KT tab) (ResT tab spec_PackBytes.rs) := { X := XT tab, ty := tyOf tys, inner := fun _ => true, keep := keepOf 0 spec_PackBytes.ms, cuts := [], live := liveOf [], G := getG (spec_PackBytes.gs _) }
noncomputable def spec_PackBytes.b : Code := bodyOf Try.f54
noncomputable def spec_PackBytes (x0 : Int × Int × Int × (List Int)) : Option (List Int) := callW spec_PackBytes.c (fiOf (GT tab) Try.f54 spec_PackBytes.ms) spec_PackBytes.b (decRes tab spec_PackBytes.rs) (encArgs tab spec_PackBytes.as x0)
theorem spec_PackBytes.fok : FnOk Try.prog 54 Try.f54 spec_PackBytes.ms spec_PackBytes.b := ⟨Try.func54, by kernel_rfl, by kernel_rfl⟩
noncomputable def spec_PackBytes.fn : Args tab spec_PackBytes.as → Option (ResT tab spec_PackBytes.rs) := fun x => spec_PackBytes x
theorem spec_PackBytes.con {δ : Type} : Con Try.prog (KT tab) 54 (calleeS (β := δ) tab spec_PackBytes.ms spec_PackBytes.as spec_PackBytes.rs spec_PackBytes.fn) := con_shape (c := spec_PackBytes.c) mixed tysOk (getG_con (spec_PackBytes.gok _)) spec_PackBytes.fok rfl rfl (fun _ => rfl)
theorem spec_PackBytes.eq (x0 : Int × Int × Int × (List Int)) : spec_PackBytes x0 =
    (spec_PackOk (x0.1, x0.2.1, x0.2.2.1, x0.2.2.2)).bind fun y1 =>
    bif !y1 then
      some ([] : List Int)
    else
      (spec_VarOf x0.1).bind fun y2 =>
      (spec_VarOf x0.2.1).bind fun y3 =>
      bif decide ((y2.length + y3.length) * 1 ≤ 140737488355328) then
        (spec_BitsBytes (x0.2.2.1, x0.2.2.2)).bind fun y4 =>
        bif decide (((y2 ++ y3).length + y4.length) * 1 ≤ 140737488355328) then
          some ((y2 ++ y3) ++ y4)
        else
          none
      else
        none := by kernel_rfl

/-! ### slices_Grow_byte_byte: slices.Grow[[]byte,byte] (by hand) -/
def slices_Grow_byte_byte.ms : List Mode := [.give, .lend]
def slices_Grow_byte_byte.as : List VSh := [.one (.b (.b (.b (.b (.sl true true 5))))), .one (.b (.b (.b (.b (.int .i64)))))]
def slices_Grow_byte_byte.rs : RSh := ⟨[.one (.b (.b (.b (.b (.sl true true 5)))))], [none, none]⟩
noncomputable def slices_Grow_byte_byte (x0 : List Int) (x1 : Int) : Option (List Int) := growF 1 (x0, x1)
noncomputable def slices_Grow_byte_byte.fn : Args tab slices_Grow_byte_byte.as → Option (ResT tab slices_Grow_byte_byte.rs) := fun x => slices_Grow_byte_byte x.1 x.2
theorem slices_Grow_byte_byte.con {δ : Type} : Con Try.prog (KT tab) 101 (calleeS (β := δ) tab slices_Grow_byte_byte.ms slices_Grow_byte_byte.as slices_Grow_byte_byte.rs slices_Grow_byte_byte.fn) := con_grow2 Try.laysGrow101 rfl rfl (ty := tyOf tys) tysOk (e := 5) rfl (by decide) rfl rfl

/-! ### slices_Concat_byte_byte: slices.Concat[[]byte,byte] -/
def slices_Concat_byte_byte.ms : List Mode := [.lend]
def slices_Concat_byte_byte.as : List VSh := [.one (.b (.b (.b (.b (.sl false false 42)))))]
def slices_Concat_byte_byte.rs : RSh := ⟨[.one (.b (.b (.b (.b (.sl true true 5)))))], [none]⟩
noncomputable def slices_Concat_byte_byte.gs (δ : Type) : List (Nat × Callee (GT tab) δ) := [(101, calleeS tab slices_Grow_byte_byte.ms slices_Grow_byte_byte.as slices_Grow_byte_byte.rs slices_Grow_byte_byte.fn)]
theorem slices_Concat_byte_byte.gok (δ : Type) : AllCon Try.prog tab (slices_Concat_byte_byte.gs δ) := .cons slices_Grow_byte_byte.con (.nil)
noncomputable def slices_Concat_byte_byte.c : Ctx (GT tab) (KT tab) (ResT tab slices_Concat_byte_byte.rs) := { X := XT tab, ty := tyOf tys, inner := fun _ => true, keep := keepOf 0 slices_Concat_byte_byte.ms, cuts := [], live := liveOf [(3, [0, 3, 9, 10, 11]), (11, [6, 25, 26, 27])], G := getG (slices_Concat_byte_byte.gs _) }
noncomputable def slices_Concat_byte_byte.b : Code := bodyOf Try.f92
noncomputable def slices_Concat_byte_byte (x0 : List (List Int)) : Option (List Int) := callW slices_Concat_byte_byte.c (fiOf (GT tab) Try.f92 slices_Concat_byte_byte.ms) slices_Concat_byte_byte.b (decRes tab slices_Concat_byte_byte.rs) (encArgs tab slices_Concat_byte_byte.as x0)
theorem slices_Concat_byte_byte.fok : FnOk Try.prog 92 Try.f92 slices_Concat_byte_byte.ms slices_Concat_byte_byte.b := ⟨Try.func92, by kernel_rfl, by kernel_rfl⟩
noncomputable def slices_Concat_byte_byte.fn : Args tab slices_Concat_byte_byte.as → Option (ResT tab slices_Concat_byte_byte.rs) := fun x => slices_Concat_byte_byte x
theorem slices_Concat_byte_byte.con {δ : Type} : Con Try.prog (KT tab) 92 (calleeS (β := δ) tab slices_Concat_byte_byte.ms slices_Concat_byte_byte.as slices_Concat_byte_byte.rs slices_Concat_byte_byte.fn) := con_shape (c := slices_Concat_byte_byte.c) mixed tysOk (getG_con (slices_Concat_byte_byte.gok _)) slices_Concat_byte_byte.fok rfl rfl (fun _ => rfl)
noncomputable def slices_Concat_byte_byte_l0 (v0 : List (List Int)) (v1 : Int) (v2 : List (List Int)) (v3 : Int) (v4 : Int) : Option (List Int) := Lw slices_Concat_byte_byte.c (finish slices_Concat_byte_byte.c (fiOf (GT tab) Try.f92 slices_Concat_byte_byte.ms) (decRes tab slices_Concat_byte_byte.rs)) ((loops slices_Concat_byte_byte.c.cuts 1000 slices_Concat_byte_byte.b []).getD 0 []) { slots := [.vs false 42 v0, .undef, .undef, .int .i64 v1, .undef, .undef, .undef, .undef, .undef, .vs false 42 v2, .int .i64 v3, .int .i64 v4, .undef, .undef, .undef, .undef, .undef, .undef, .undef, .undef, .undef, .undef, .undef, .undef, .undef, .undef, .undef, .undef, .undef, .undef, .undef, .undef, .undef, .undef, .undef, .undef], loc := locOf [], nx := 0 }
noncomputable def slices_Concat_byte_byte_l1 (v0 : List (List Int)) (v1 : Int) (v2 : Int) (v3 : List Int) : Option (List Int) := Lw slices_Concat_byte_byte.c (finish slices_Concat_byte_byte.c (fiOf (GT tab) Try.f92 slices_Concat_byte_byte.ms) (decRes tab slices_Concat_byte_byte.rs)) ((loops slices_Concat_byte_byte.c.cuts 1000 slices_Concat_byte_byte.b []).getD 1 []) { slots := [.undef, .undef, .undef, .undef, .undef, .undef, .sl 0 0, .undef, .undef, .undef, .undef, .undef, .undef, .undef, .undef, .undef, .undef, .undef, .undef, .undef, .undef, .undef, .undef, .undef, .undef, .vs false 42 v0, .int .i64 v1, .int .i64 v2, .undef, .undef, .undef, .undef, .undef, .undef, .undef, .undef], loc := locOf [.row 0 true 5 v3], nx := 1 }
theorem slices_Concat_byte_byte.eq (x0 : List (List Int)) : slices_Concat_byte_byte x0 =
    slices_Concat_byte_byte_l0 x0 (0 : Int) x0 (x0.length : Int) (0 : Int) := by kernel_rfl
theorem slices_Concat_byte_byte_l0.eq (v0 : List (List Int)) (v1 : Int) (v2 : List (List Int)) (v3 : Int) (v4 : Int) : slices_Concat_byte_byte_l0 v0 v1 v2 v3 v4 =
    bif decide (v4 < v3) then
      (at? v2 v4).bind fun y1 =>
      bif decide (IntKind.i64.wrap (v1 + (y1.length : Int)) < (0 : Int)) then
        none
      else
        slices_Concat_byte_byte_l0 v0 (IntKind.i64.wrap (v1 + (y1.length : Int))) v2 v3 (IntKind.i64.wrap (v4 + (1 : Int)))
    else
      (slices_Grow_byte_byte ([] : List Int) v1).bind fun y2 =>
      slices_Concat_byte_byte_l1 v0 (v0.length : Int) (0 : Int) y2 := (Lw_eq tysOk (getG_con (slices_Concat_byte_byte.gok _)) _ _).trans (by kernel_rfl)
theorem slices_Concat_byte_byte_l1.eq (v0 : List (List Int)) (v1 : Int) (v2 : Int) (v3 : List Int) : slices_Concat_byte_byte_l1 v0 v1 v2 v3 =
    bif decide (v2 < v1) then
      (at? v0 v2).bind fun y1 =>
      bif decide ((v3.length + y1.length) * 1 ≤ 140737488355328) then
        slices_Concat_byte_byte_l1 v0 v1 (IntKind.i64.wrap (v2 + (1 : Int))) (v3 ++ y1)
      else
        none
    else
      some v3 := (Lw_eq tysOk (getG_con (slices_Concat_byte_byte.gok _)) _ _).trans (by kernel_rfl)

/-! ### impl_PackBytes: loop.example/g00688/impl.PackBytes -/
def impl_PackBytes.ms : List Mode := [.lend]
def impl_PackBytes.as : List VSh := [.agg [.int .i64, .int .i64, .int .i64, .sl false false 103]]
def impl_PackBytes.rs : RSh := ⟨[.one (.b (.b (.b (.b (.sl true true 5)))))], [none]⟩
noncomputable def impl_PackBytes.gs (δ : Type) : List (Nat × Callee (GT tab) δ) := [(78, calleeS tab impl_bitsBytes.ms impl_bitsBytes.as impl_bitsBytes.rs impl_bitsBytes.fn), (91, calleeS tab impl_PackOk.ms impl_PackOk.as impl_PackOk.rs impl_PackOk.fn), (92, calleeS tab slices_Concat_byte_byte.ms slices_Concat_byte_byte.as slices_Concat_byte_byte.rs slices_Concat_byte_byte.fn), (93, calleeS tab impl_VarOf.ms impl_VarOf.as impl_VarOf.rs impl_VarOf.fn)]
theorem impl_PackBytes.gok (δ : Type) : AllCon Try.prog tab (impl_PackBytes.gs δ) := .cons impl_bitsBytes.con (.cons impl_PackOk.con (.cons slices_Concat_byte_byte.con (.cons impl_VarOf.con (.nil))))
noncomputable def impl_PackBytes.c : Ctx (GT tab) (KT tab) (ResT tab impl_PackBytes.rs) := { X := XT tab, ty := tyOf tys, inner := fun _ => true, keep := keepOf 0 impl_PackBytes.ms, cuts := [], live := liveOf [], G := getG (impl_PackBytes.gs _) }
noncomputable def impl_PackBytes.b : Code := bodyOf Try.f56
noncomputable def impl_PackBytes (x0 : Int × Int × Int × (List Int)) : Option (List Int) := callW impl_PackBytes.c (fiOf (GT tab) Try.f56 impl_PackBytes.ms) impl_PackBytes.b (decRes tab impl_PackBytes.rs) (encArgs tab impl_PackBytes.as x0)
theorem impl_PackBytes.fok : FnOk Try.prog 56 Try.f56 impl_PackBytes.ms impl_PackBytes.b := ⟨Try.func56, by kernel_rfl, by kernel_rfl⟩
noncomputable def impl_PackBytes.fn : Args tab impl_PackBytes.as → Option (ResT tab impl_PackBytes.rs) := fun x => impl_PackBytes x
theorem impl_PackBytes.con {δ : Type} : Con Try.prog (KT tab) 56 (calleeS (β := δ) tab impl_PackBytes.ms impl_PackBytes.as impl_PackBytes.rs impl_PackBytes.fn) := con_shape (c := impl_PackBytes.c) mixed tysOk (getG_con (impl_PackBytes.gok _)) impl_PackBytes.fok rfl rfl (fun _ => rfl)
theorem impl_PackBytes.eq (x0 : Int × Int × Int × (List Int)) : impl_PackBytes x0 =
    (impl_PackOk (x0.1, x0.2.1, x0.2.2.1, x0.2.2.2)).bind fun y1 =>
    bif !y1 then
      some ([] : List Int)
    else
      (impl_VarOf x0.1).bind fun y2 =>
      (impl_VarOf x0.2.1).bind fun y3 =>
      (impl_bitsBytes (x0.2.2.1, x0.2.2.2)).bind fun y4 =>
      (slices_Concat_byte_byte ([y2, y3, y4] : List (List Int))).bind fun y5 =>
      some y5 := by kernel_rfl

/-! ### laws_FnExactPackBytes: loop.example/g00688/laws.FnExactPackBytes -/
def laws_FnExactPackBytes.ms : List Mode := [.lend]
def laws_FnExactPackBytes.as : List VSh := [.agg [.int .i64, .int .i64, .int .i64, .sl false false 103]]
def laws_FnExactPackBytes.rs : RSh := ⟨[.one (.b (.b (.b (.b (.bool)))))], [none]⟩
noncomputable def laws_FnExactPackBytes.gs (δ : Type) : List (Nat × Callee (GT tab) δ) := [(41, calleeS tab laws_eqByteS.ms laws_eqByteS.as laws_eqByteS.rs laws_eqByteS.fn), (44, calleeS tab laws_markByteS.ms laws_markByteS.as laws_markByteS.rs laws_markByteS.fn), (45, calleeS tab laws_heldByteS.ms laws_heldByteS.as laws_heldByteS.rs laws_heldByteS.fn), (53, calleeS tab laws_szPacked.ms laws_szPacked.as laws_szPacked.rs laws_szPacked.fn), (54, calleeS tab spec_PackBytes.ms spec_PackBytes.as spec_PackBytes.rs spec_PackBytes.fn), (55, calleeS tab laws_toPacked.ms laws_toPacked.as laws_toPacked.rs laws_toPacked.fn), (56, calleeS tab impl_PackBytes.ms impl_PackBytes.as impl_PackBytes.rs impl_PackBytes.fn), (57, calleeS tab laws_eqPacked.ms laws_eqPacked.as laws_eqPacked.rs laws_eqPacked.fn), (58, calleeS tab laws_markPacked.ms laws_markPacked.as laws_markPacked.rs laws_markPacked.fn)]
theorem laws_FnExactPackBytes.gok (δ : Type) : AllCon Try.prog tab (laws_FnExactPackBytes.gs δ) := .cons laws_eqByteS.con (.cons laws_markByteS.con (.cons laws_heldByteS.con (.cons laws_szPacked.con (.cons spec_PackBytes.con (.cons laws_toPacked.con (.cons impl_PackBytes.con (.cons laws_eqPacked.con (.cons laws_markPacked.con (.nil)))))))))
noncomputable def laws_FnExactPackBytes.c : Ctx (GT tab) (KT tab) (ResT tab laws_FnExactPackBytes.rs) := { X := XT tab, ty := tyOf tys, inner := fun _ => true, keep := keepOf 0 laws_FnExactPackBytes.ms, cuts := [16], live := liveOf [(16, [1, 4, 6])], G := getG (laws_FnExactPackBytes.gs _) }
noncomputable def laws_FnExactPackBytes.b : Code := bodyOf Try.f13
noncomputable def laws_FnExactPackBytes (x0 : Int × Int × Int × (List Int)) : Option (Bool) := callW laws_FnExactPackBytes.c (fiOf (GT tab) Try.f13 laws_FnExactPackBytes.ms) laws_FnExactPackBytes.b (decRes tab laws_FnExactPackBytes.rs) (encArgs tab laws_FnExactPackBytes.as x0)
theorem laws_FnExactPackBytes.fok : FnOk Try.prog 13 Try.f13 laws_FnExactPackBytes.ms laws_FnExactPackBytes.b := ⟨Try.func13, by kernel_rfl, by kernel_rfl⟩
noncomputable def laws_FnExactPackBytes.fn : Args tab laws_FnExactPackBytes.as → Option (ResT tab laws_FnExactPackBytes.rs) := fun x => laws_FnExactPackBytes x
theorem laws_FnExactPackBytes.con {δ : Type} : Con Try.prog (KT tab) 13 (calleeS (β := δ) tab laws_FnExactPackBytes.ms laws_FnExactPackBytes.as laws_FnExactPackBytes.rs laws_FnExactPackBytes.fn) := con_shape (c := laws_FnExactPackBytes.c) mixed tysOk (getG_con (laws_FnExactPackBytes.gok _)) laws_FnExactPackBytes.fok rfl rfl (fun _ => rfl)
noncomputable def laws_FnExactPackBytes_l0 (v0 : Int) (v1 : Int) (v2 : Int) (v3 : List Int) (v4 : List Int) (v5 : List Int) : Option (Bool) := Lw laws_FnExactPackBytes.c (finish laws_FnExactPackBytes.c (fiOf (GT tab) Try.f13 laws_FnExactPackBytes.ms) (decRes tab laws_FnExactPackBytes.rs)) ((loops laws_FnExactPackBytes.c.cuts 1000 laws_FnExactPackBytes.b []).getD 0 []) { slots := [.undef, .ptr 0 0, .undef, .undef, .sl 1 0, .undef, .sl 2 0, .undef, .undef, .undef, .undef, .undef, .undef, .undef, .undef, .undef, .undef, .undef, .undef, .undef, .undef, .undef, .undef, .undef, .undef, .undef, .undef, .undef, .undef, .undef, .undef, .undef, .undef, .undef, .undef, .undef, .undef, .undef, .undef, .undef, .undef, .undef, .undef, .undef, .undef, .undef, .undef, .undef, .undef, .undef, .undef, .undef, .undef, .undef, .undef, .undef, .undef, .undef, .undef, .undef, .undef, .undef, .undef, .undef, .undef, .undef, .undef, .undef, .undef], loc := locOf [.box 69 [.int .i64 v0, .int .i64 v1, .int .i64 v2, .vs false 103 v3], .row 0 true 5 v4, .row 0 true 5 v5], nx := 3 }
theorem laws_FnExactPackBytes.eq (x0 : Int × Int × Int × (List Int)) : laws_FnExactPackBytes x0 =
    (laws_szPacked (x0.1, x0.2.1, x0.2.2.1, x0.2.2.2) (1048576 : Int)).bind fun y1 =>
    bif decide (y1 < (0 : Int)) then
      some true
    else
      (laws_toPacked (x0.1, x0.2.1, x0.2.2.1, x0.2.2.2)).bind fun y2 =>
      (spec_PackBytes (y2.1, y2.2.1, y2.2.2.1, y2.2.2.2)).bind fun y3 =>
      (laws_toPacked (x0.1, x0.2.1, x0.2.2.1, x0.2.2.2)).bind fun y4 =>
      (impl_PackBytes (y4.1, y4.2.1, y4.2.2.1, y4.2.2.2)).bind fun y5 =>
      (laws_eqByteS y5 y3).bind fun y6 =>
      bif !y6 then
        some false
      else
        (laws_toPacked (x0.1, x0.2.1, x0.2.2.1, x0.2.2.2)).bind fun y7 =>
        (laws_eqPacked (y4.1, y4.2.1, y4.2.2.1, y4.2.2.2) (y7.1, y7.2.1, y7.2.2.1, y7.2.2.2)).bind fun y8 =>
        bif !y8 then
          some false
        else
          (laws_markPacked (y4.1, y4.2.1, y4.2.2.1, y4.2.2.2) (1 : Int)).bind fun y9 =>
          bif decide (y9.1 < (0 : Int)) then
            some false
          else
            (laws_eqByteS y5 y3).bind fun y10 =>
            bif !y10 then
              some false
            else
              laws_FnExactPackBytes_l0 x0.1 x0.2.1 x0.2.2.1 x0.2.2.2 y3 y5 := by kernel_rfl
theorem laws_FnExactPackBytes_l0.eq (v0 : Int) (v1 : Int) (v2 : Int) (v3 : List Int) (v4 : List Int) (v5 : List Int) : laws_FnExactPackBytes_l0 v0 v1 v2 v3 v4 v5 =
    (laws_markByteS v5 (1 : Int)).bind fun y1 =>
    (laws_heldByteS y1.2 (1 : Int)).bind fun y2 =>
    bif decide (y2 < (0 : Int)) then
      some false
    else
      bif y2 != y1.1 then
        some false
      else
        (laws_toPacked (v0, v1, v2, v3)).bind fun y3 =>
        (impl_PackBytes (y3.1, y3.2.1, y3.2.2.1, y3.2.2.2)).bind fun y4 =>
        (laws_eqByteS y4 v4).bind fun y5 =>
        bif !y5 then
          some false
        else
          (laws_heldByteS y1.2 (1 : Int)).bind fun y6 =>
          bif decide (y6 < (0 : Int)) then
            some false
          else
            bif y6 != y1.1 then
              some false
            else
              some true := (Lw_eq tysOk (getG_con (laws_FnExactPackBytes.gok _)) _ _).trans (by kernel_rfl)

end Go.Ev.W
