/- What functions of the program come to. -/
import Derived.Test.YthbijcdnjgfndaaPaT
import Derived.Test.YthbijcdnjgfndaaPa24
import Derived.Test.YthbijcdnjgfndaaPa25
namespace Go.Ev.W
open Go.Ev Go.Proofs
set_option maxRecDepth 100000
set_option linter.unusedVariables false

/-! ### impl_BitsBytes: loop.example/g00688/impl.BitsBytes -/
def impl_BitsBytes.ms : List Mode := [.lend]
def impl_BitsBytes.as : List VSh := [.agg [.int .i64, .sl false false 103]]
def impl_BitsBytes.rs : RSh := ⟨[.one (.b (.b (.b (.b (.sl true true 5)))))], [none]⟩
noncomputable def impl_BitsBytes.gs (δ : Type) : List (Nat × Callee (GT tab) δ) := [(77, calleeS tab impl_BitsOk.ms impl_BitsOk.as impl_BitsOk.rs impl_BitsOk.fn), (78, calleeS tab impl_bitsBytes.ms impl_bitsBytes.as impl_bitsBytes.rs impl_bitsBytes.fn)]
theorem impl_BitsBytes.gok (δ : Type) : AllCon Try.prog tab (impl_BitsBytes.gs δ) := .cons impl_BitsOk.con (.cons impl_bitsBytes.con (.nil))
noncomputable def impl_BitsBytes.c : Ctx (GT tab) (KT tab) (ResT tab impl_BitsBytes.rs) := { X := XT tab, ty := tyOf tys, inner := fun _ => true, keep := keepOf 0 impl_BitsBytes.ms, cuts := [], live := liveOf [], G := getG (impl_BitsBytes.gs _) }
noncomputable def impl_BitsBytes.b : Code := bodyOf Try.f40
noncomputable def impl_BitsBytes (x0 : Int × (List Int)) : Option (List Int) := callW impl_BitsBytes.c (fiOf (GT tab) Try.f40 impl_BitsBytes.ms) impl_BitsBytes.b (decRes tab impl_BitsBytes.rs) (encArgs tab impl_BitsBytes.as x0)
theorem impl_BitsBytes.fok : FnOk Try.prog 40 Try.f40 impl_BitsBytes.ms impl_BitsBytes.b := ⟨Try.func40, by kernel_rfl, by kernel_rfl⟩
noncomputable def impl_BitsBytes.fn : Args tab impl_BitsBytes.as → Option (ResT tab impl_BitsBytes.rs) := fun x => impl_BitsBytes x
theorem impl_BitsBytes.con {δ : Type} : Con Try.prog (KT tab) 40 (calleeS (β := δ) tab impl_BitsBytes.ms impl_BitsBytes.as impl_BitsBytes.rs impl_BitsBytes.fn) := con_shape (c := impl_BitsBytes.c) mixed tysOk (getG_con (impl_BitsBytes.gok _)) impl_BitsBytes.fok rfl rfl (fun _ => rfl)
theorem impl_BitsBytes.eq (x0 : Int × (List Int)) : impl_BitsBytes x0 =
    (impl_BitsOk (x0.1, x0.2)).bind fun y1 =>
    bif !y1 then
      some ([] : List Int)
    else
      (impl_bitsBytes (x0.1, x0.2)).bind fun y2 =>
      some y2 := by kernel_rfl

/-! ### laws_FnExactBitsBytes: loop.example/g00688/laws.FnExactBitsBytes -/
def laws_FnExactBitsBytes.ms : List Mode := [.lend]
def laws_FnExactBitsBytes.as : List VSh := [.agg [.int .i64, .sl false false 103]]
def laws_FnExactBitsBytes.rs : RSh := ⟨[.one (.b (.b (.b (.b (.bool)))))], [none]⟩
noncomputable def laws_FnExactBitsBytes.gs (δ : Type) : List (Nat × Callee (GT tab) δ) := [(37, calleeS tab laws_szBits.ms laws_szBits.as laws_szBits.rs laws_szBits.fn), (38, calleeS tab spec_BitsBytes.ms spec_BitsBytes.as spec_BitsBytes.rs spec_BitsBytes.fn), (39, calleeS tab laws_toBits.ms laws_toBits.as laws_toBits.rs laws_toBits.fn), (40, calleeS tab impl_BitsBytes.ms impl_BitsBytes.as impl_BitsBytes.rs impl_BitsBytes.fn), (41, calleeS tab laws_eqByteS.ms laws_eqByteS.as laws_eqByteS.rs laws_eqByteS.fn), (42, calleeS tab laws_eqBits.ms laws_eqBits.as laws_eqBits.rs laws_eqBits.fn), (43, calleeS tab laws_markBits.ms laws_markBits.as laws_markBits.rs laws_markBits.fn), (44, calleeS tab laws_markByteS.ms laws_markByteS.as laws_markByteS.rs laws_markByteS.fn), (45, calleeS tab laws_heldByteS.ms laws_heldByteS.as laws_heldByteS.rs laws_heldByteS.fn)]
theorem laws_FnExactBitsBytes.gok (δ : Type) : AllCon Try.prog tab (laws_FnExactBitsBytes.gs δ) := .cons laws_szBits.con (.cons spec_BitsBytes.con (.cons laws_toBits.con (.cons impl_BitsBytes.con (.cons laws_eqByteS.con (.cons laws_eqBits.con (.cons laws_markBits.con (.cons laws_markByteS.con (.cons laws_heldByteS.con (.nil)))))))))
noncomputable def laws_FnExactBitsBytes.c : Ctx (GT tab) (KT tab) (ResT tab laws_FnExactBitsBytes.rs) := { X := XT tab, ty := tyOf tys, inner := fun _ => true, keep := keepOf 0 laws_FnExactBitsBytes.ms, cuts := [16], live := liveOf [(16, [1, 4, 6])], G := getG (laws_FnExactBitsBytes.gs _) }
noncomputable def laws_FnExactBitsBytes.b : Code := bodyOf Try.f9
noncomputable def laws_FnExactBitsBytes (x0 : Int × (List Int)) : Option (Bool) := callW laws_FnExactBitsBytes.c (fiOf (GT tab) Try.f9 laws_FnExactBitsBytes.ms) laws_FnExactBitsBytes.b (decRes tab laws_FnExactBitsBytes.rs) (encArgs tab laws_FnExactBitsBytes.as x0)
theorem laws_FnExactBitsBytes.fok : FnOk Try.prog 9 Try.f9 laws_FnExactBitsBytes.ms laws_FnExactBitsBytes.b := ⟨Try.func9, by kernel_rfl, by kernel_rfl⟩
noncomputable def laws_FnExactBitsBytes.fn : Args tab laws_FnExactBitsBytes.as → Option (ResT tab laws_FnExactBitsBytes.rs) := fun x => laws_FnExactBitsBytes x
theorem laws_FnExactBitsBytes.con {δ : Type} : Con Try.prog (KT tab) 9 (calleeS (β := δ) tab laws_FnExactBitsBytes.ms laws_FnExactBitsBytes.as laws_FnExactBitsBytes.rs laws_FnExactBitsBytes.fn) := con_shape (c := laws_FnExactBitsBytes.c) mixed tysOk (getG_con (laws_FnExactBitsBytes.gok _)) laws_FnExactBitsBytes.fok rfl rfl (fun _ => rfl)
noncomputable def laws_FnExactBitsBytes_l0 (v0 : Int) (v1 : List Int) (v2 : List Int) (v3 : List Int) : Option (Bool) := Lw laws_FnExactBitsBytes.c (finish laws_FnExactBitsBytes.c (fiOf (GT tab) Try.f9 laws_FnExactBitsBytes.ms) (decRes tab laws_FnExactBitsBytes.rs)) ((loops laws_FnExactBitsBytes.c.cuts 1000 laws_FnExactBitsBytes.b []).getD 0 []) { slots := [.undef, .ptr 0 0, .undef, .undef, .sl 1 0, .undef, .sl 2 0, .undef, .undef, .undef, .undef, .undef, .undef, .undef, .undef, .undef, .undef, .undef, .undef, .undef, .undef, .undef, .undef, .undef, .undef, .undef, .undef, .undef, .undef, .undef, .undef, .undef, .undef, .undef, .undef, .undef, .undef, .undef, .undef, .undef, .undef, .undef, .undef, .undef, .undef, .undef, .undef, .undef, .undef, .undef, .undef, .undef, .undef, .undef, .undef, .undef, .undef, .undef, .undef, .undef, .undef, .undef, .undef, .undef, .undef, .undef, .undef, .undef, .undef], loc := locOf [.box 47 [.int .i64 v0, .vs false 103 v1], .row 0 true 5 v2, .row 0 true 5 v3], nx := 3 }
theorem laws_FnExactBitsBytes.eq (x0 : Int × (List Int)) : laws_FnExactBitsBytes x0 =
    (laws_szBits (x0.1, x0.2) (1048576 : Int)).bind fun y1 =>
    bif decide (y1 < (0 : Int)) then
      some true
    else
      (laws_toBits (x0.1, x0.2)).bind fun y2 =>
      (spec_BitsBytes (y2.1, y2.2)).bind fun y3 =>
      (laws_toBits (x0.1, x0.2)).bind fun y4 =>
      (impl_BitsBytes (y4.1, y4.2)).bind fun y5 =>
      (laws_eqByteS y5 y3).bind fun y6 =>
      bif !y6 then
        some false
      else
        (laws_toBits (x0.1, x0.2)).bind fun y7 =>
        (laws_eqBits (y4.1, y4.2) (y7.1, y7.2)).bind fun y8 =>
        bif !y8 then
          some false
        else
          (laws_markBits (y4.1, y4.2) (1 : Int)).bind fun y9 =>
          bif decide (y9.1 < (0 : Int)) then
            some false
          else
            (laws_eqByteS y5 y3).bind fun y10 =>
            bif !y10 then
              some false
            else
              laws_FnExactBitsBytes_l0 x0.1 x0.2 y3 y5 := by kernel_rfl
theorem laws_FnExactBitsBytes_l0.eq (v0 : Int) (v1 : List Int) (v2 : List Int) (v3 : List Int) : laws_FnExactBitsBytes_l0 v0 v1 v2 v3 =
    (laws_markByteS v3 (1 : Int)).bind fun y1 =>
    (laws_heldByteS y1.2 (1 : Int)).bind fun y2 =>
    bif decide (y2 < (0 : Int)) then
      some false
    else
      bif y2 != y1.1 then
        some false
      else
        (laws_toBits (v0, v1)).bind fun y3 =>
        (impl_BitsBytes (y3.1, y3.2)).bind fun y4 =>
        (laws_eqByteS y4 v2).bind fun y5 =>
        bif !y5 then
          some false
        else
          (laws_heldByteS y1.2 (1 : Int)).bind fun y6 =>
          bif decide (y6 < (0 : Int)) then
            some false
          else
            bif y6 != y1.1 then
              some false
            else
              some true := (Lw_eq tysOk (getG_con (laws_FnExactBitsBytes.gok _)) _ _).trans (by kernel_rfl)

end Go.Ev.W
