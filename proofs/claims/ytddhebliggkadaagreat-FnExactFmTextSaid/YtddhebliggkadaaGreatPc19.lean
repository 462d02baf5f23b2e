/- What functions of the program come to. -/
import Derived.Test.YtddhebliggkadaaGreatPcT
import Derived.Test.YtddhebliggkadaaGreatPc1
import Derived.Test.YtddhebliggkadaaGreatPc14
import Derived.Test.YtddhebliggkadaaGreatPc16
import Derived.Test.YtddhebliggkadaaGreatPc17
import Derived.Test.YtddhebliggkadaaGreatPc18
import Derived.Test.YtddhebliggkadaaGreatPc2
namespace Go.Ev.W
open Go.Ev Go.Proofs
set_option maxRecDepth 100000
set_option linter.unusedVariables false

/-! ### laws_FnExactFmText: loop.example/g00688/laws.FnExactFmText -/
def laws_FnExactFmText.ms : List Mode := [.lend]
def laws_FnExactFmText.as : List VSh := [.agg [.int .i64, .int .i64, .int .i64, .sl false false 3, .sl false false 49, .sl false false 3, .int .i64, .sl false false 126, .int .i64, .int .i64, .int .i64, .sl false false 126, .int .i64, .int .i64, .int .i64, .sl false false 126]]
def laws_FnExactFmText.rs : RSh := ⟨[.one (.b (.b (.b (.b (.bool)))))], [none]⟩
noncomputable def laws_FnExactFmText.gs (δ : Type) : List (Nat × Callee (GT tab) δ) := [(19, calleeS tab spec_FmText.ms spec_FmText.as spec_FmText.rs spec_FmText.fn), (30, calleeS tab laws_szFm.ms laws_szFm.as laws_szFm.rs laws_szFm.fn), (32, calleeS tab laws_toFm.ms laws_toFm.as laws_toFm.rs laws_toFm.fn), (33, calleeS tab laws_eqFm.ms laws_eqFm.as laws_eqFm.rs laws_eqFm.fn), (36, calleeS tab laws_eqByteS.ms laws_eqByteS.as laws_eqByteS.rs laws_eqByteS.fn), (37, calleeS tab impl_FmText.ms impl_FmText.as impl_FmText.rs impl_FmText.fn), (38, calleeS tab laws_markFm.ms laws_markFm.as laws_markFm.rs laws_markFm.fn), (39, calleeS tab laws_markByteS.ms laws_markByteS.as laws_markByteS.rs laws_markByteS.fn), (40, calleeS tab laws_heldByteS.ms laws_heldByteS.as laws_heldByteS.rs laws_heldByteS.fn)]
theorem laws_FnExactFmText.gok (δ : Type) : AllCon Tryz.prog tab (laws_FnExactFmText.gs δ) := .cons spec_FmText.con (.cons laws_szFm.con (.cons laws_toFm.con (.cons laws_eqFm.con (.cons laws_eqByteS.con (.cons impl_FmText.con (.cons laws_markFm.con (.cons laws_markByteS.con (.cons laws_heldByteS.con (.nil)))))))))
noncomputable def laws_FnExactFmText.c : Ctx (GT tab) (KT tab) (ResT tab laws_FnExactFmText.rs) := { X := XT tab, ty := tyOf tys, inner := fun _ => true, keep := keepOf 0 laws_FnExactFmText.ms, cuts := [16], live := liveOf [(16, [1, 4, 6])], G := getG (laws_FnExactFmText.gs _) }
noncomputable def laws_FnExactFmText.b : Code := bodyOf Tryz.f10
noncomputable def laws_FnExactFmText (x0 : Int × Int × Int × (List Int) × (List (Int × (List Int))) × (List Int) × Int × (List Int) × Int × Int × Int × (List Int) × Int × Int × Int × (List Int)) : Option (Bool) := callW laws_FnExactFmText.c (fiOf (GT tab) Tryz.f10 laws_FnExactFmText.ms) laws_FnExactFmText.b (decRes tab laws_FnExactFmText.rs) (encArgs tab laws_FnExactFmText.as x0)
theorem laws_FnExactFmText.fok : FnOk Tryz.prog 10 Tryz.f10 laws_FnExactFmText.ms laws_FnExactFmText.b := ⟨Tryz.func10, by kernel_rfl, by kernel_rfl⟩
noncomputable def laws_FnExactFmText.fn : Args tab laws_FnExactFmText.as → Option (ResT tab laws_FnExactFmText.rs) := fun x => laws_FnExactFmText x
noncomputable def laws_FnExactFmText_l0 (v0 : Int) (v1 : Int) (v2 : Int) (v3 : List Int) (v4 : List (Int × (List Int))) (v5 : List Int) (v6 : Int) (v7 : List Int) (v8 : Int) (v9 : Int) (v10 : Int) (v11 : List Int) (v12 : Int) (v13 : Int) (v14 : Int) (v15 : List Int) (v16 : List Int) (v17 : List Int) : Option (Bool) := Lw laws_FnExactFmText.c (finish laws_FnExactFmText.c (fiOf (GT tab) Tryz.f10 laws_FnExactFmText.ms) (decRes tab laws_FnExactFmText.rs)) ((loops laws_FnExactFmText.c.cuts 1000 laws_FnExactFmText.b []).getD 0 []) { slots := [.undef, .ptr 0 0, .undef, .undef, .sl 1 0, .undef, .sl 2 0, .undef, .undef, .undef, .undef, .undef, .undef, .undef, .undef, .undef, .undef, .undef, .undef, .undef, .undef, .undef, .undef, .undef, .undef, .undef, .undef, .undef, .undef, .undef, .undef, .undef, .undef, .undef, .undef, .undef, .undef, .undef, .undef, .undef, .undef, .undef, .undef, .undef, .undef, .undef, .undef, .undef, .undef, .undef, .undef, .undef, .undef, .undef, .undef, .undef, .undef, .undef, .undef, .undef, .undef, .undef, .undef, .undef, .undef, .undef, .undef, .undef, .undef], loc := locOf [.box 53 [.int .i64 v0, .int .i64 v1, .int .i64 v2, .vs false 3 v3, .vs false 49 v4, .vs false 3 v5, .int .i64 v6, .vs false 126 v7, .int .i64 v8, .int .i64 v9, .int .i64 v10, .vs false 126 v11, .int .i64 v12, .int .i64 v13, .int .i64 v14, .vs false 126 v15], .row 0 true 5 v16, .row 0 true 5 v17], nx := 3 }
theorem laws_FnExactFmText.eq (x0 : Int × Int × Int × (List Int) × (List (Int × (List Int))) × (List Int) × Int × (List Int) × Int × Int × Int × (List Int) × Int × Int × Int × (List Int)) : laws_FnExactFmText x0 =
    (laws_szFm (x0.1, x0.2.1, x0.2.2.1, x0.2.2.2.1, x0.2.2.2.2.1, x0.2.2.2.2.2.1, x0.2.2.2.2.2.2.1, x0.2.2.2.2.2.2.2.1, x0.2.2.2.2.2.2.2.2.1, x0.2.2.2.2.2.2.2.2.2.1, x0.2.2.2.2.2.2.2.2.2.2.1, x0.2.2.2.2.2.2.2.2.2.2.2.1, x0.2.2.2.2.2.2.2.2.2.2.2.2.1, x0.2.2.2.2.2.2.2.2.2.2.2.2.2.1, x0.2.2.2.2.2.2.2.2.2.2.2.2.2.2.1, x0.2.2.2.2.2.2.2.2.2.2.2.2.2.2.2) (1048576 : Int)).bind fun y1 =>
    bif decide (y1 < (0 : Int)) then
      some true
    else
      (laws_toFm (x0.1, x0.2.1, x0.2.2.1, x0.2.2.2.1, x0.2.2.2.2.1, x0.2.2.2.2.2.1, x0.2.2.2.2.2.2.1, x0.2.2.2.2.2.2.2.1, x0.2.2.2.2.2.2.2.2.1, x0.2.2.2.2.2.2.2.2.2.1, x0.2.2.2.2.2.2.2.2.2.2.1, x0.2.2.2.2.2.2.2.2.2.2.2.1, x0.2.2.2.2.2.2.2.2.2.2.2.2.1, x0.2.2.2.2.2.2.2.2.2.2.2.2.2.1, x0.2.2.2.2.2.2.2.2.2.2.2.2.2.2.1, x0.2.2.2.2.2.2.2.2.2.2.2.2.2.2.2)).bind fun y2 =>
      (spec_FmText (y2.1, y2.2.1, y2.2.2.1, y2.2.2.2.1, y2.2.2.2.2.1, y2.2.2.2.2.2.1, y2.2.2.2.2.2.2.1, y2.2.2.2.2.2.2.2.1, y2.2.2.2.2.2.2.2.2.1, y2.2.2.2.2.2.2.2.2.2.1, y2.2.2.2.2.2.2.2.2.2.2.1, y2.2.2.2.2.2.2.2.2.2.2.2.1, y2.2.2.2.2.2.2.2.2.2.2.2.2.1, y2.2.2.2.2.2.2.2.2.2.2.2.2.2.1, y2.2.2.2.2.2.2.2.2.2.2.2.2.2.2.1, y2.2.2.2.2.2.2.2.2.2.2.2.2.2.2.2)).bind fun y3 =>
      (laws_toFm (x0.1, x0.2.1, x0.2.2.1, x0.2.2.2.1, x0.2.2.2.2.1, x0.2.2.2.2.2.1, x0.2.2.2.2.2.2.1, x0.2.2.2.2.2.2.2.1, x0.2.2.2.2.2.2.2.2.1, x0.2.2.2.2.2.2.2.2.2.1, x0.2.2.2.2.2.2.2.2.2.2.1, x0.2.2.2.2.2.2.2.2.2.2.2.1, x0.2.2.2.2.2.2.2.2.2.2.2.2.1, x0.2.2.2.2.2.2.2.2.2.2.2.2.2.1, x0.2.2.2.2.2.2.2.2.2.2.2.2.2.2.1, x0.2.2.2.2.2.2.2.2.2.2.2.2.2.2.2)).bind fun y4 =>
      (impl_FmText (y4.1, y4.2.1, y4.2.2.1, y4.2.2.2.1, y4.2.2.2.2.1, y4.2.2.2.2.2.1, y4.2.2.2.2.2.2.1, y4.2.2.2.2.2.2.2.1, y4.2.2.2.2.2.2.2.2.1, y4.2.2.2.2.2.2.2.2.2.1, y4.2.2.2.2.2.2.2.2.2.2.1, y4.2.2.2.2.2.2.2.2.2.2.2.1, y4.2.2.2.2.2.2.2.2.2.2.2.2.1, y4.2.2.2.2.2.2.2.2.2.2.2.2.2.1, y4.2.2.2.2.2.2.2.2.2.2.2.2.2.2.1, y4.2.2.2.2.2.2.2.2.2.2.2.2.2.2.2)).bind fun y5 =>
      (laws_eqByteS y5 y3).bind fun y6 =>
      bif !y6 then
        some false
      else
        (laws_toFm (x0.1, x0.2.1, x0.2.2.1, x0.2.2.2.1, x0.2.2.2.2.1, x0.2.2.2.2.2.1, x0.2.2.2.2.2.2.1, x0.2.2.2.2.2.2.2.1, x0.2.2.2.2.2.2.2.2.1, x0.2.2.2.2.2.2.2.2.2.1, x0.2.2.2.2.2.2.2.2.2.2.1, x0.2.2.2.2.2.2.2.2.2.2.2.1, x0.2.2.2.2.2.2.2.2.2.2.2.2.1, x0.2.2.2.2.2.2.2.2.2.2.2.2.2.1, x0.2.2.2.2.2.2.2.2.2.2.2.2.2.2.1, x0.2.2.2.2.2.2.2.2.2.2.2.2.2.2.2)).bind fun y7 =>
        (laws_eqFm (y4.1, y4.2.1, y4.2.2.1, y4.2.2.2.1, y4.2.2.2.2.1, y4.2.2.2.2.2.1, y4.2.2.2.2.2.2.1, y4.2.2.2.2.2.2.2.1, y4.2.2.2.2.2.2.2.2.1, y4.2.2.2.2.2.2.2.2.2.1, y4.2.2.2.2.2.2.2.2.2.2.1, y4.2.2.2.2.2.2.2.2.2.2.2.1, y4.2.2.2.2.2.2.2.2.2.2.2.2.1, y4.2.2.2.2.2.2.2.2.2.2.2.2.2.1, y4.2.2.2.2.2.2.2.2.2.2.2.2.2.2.1, y4.2.2.2.2.2.2.2.2.2.2.2.2.2.2.2) (y7.1, y7.2.1, y7.2.2.1, y7.2.2.2.1, y7.2.2.2.2.1, y7.2.2.2.2.2.1, y7.2.2.2.2.2.2.1, y7.2.2.2.2.2.2.2.1, y7.2.2.2.2.2.2.2.2.1, y7.2.2.2.2.2.2.2.2.2.1, y7.2.2.2.2.2.2.2.2.2.2.1, y7.2.2.2.2.2.2.2.2.2.2.2.1, y7.2.2.2.2.2.2.2.2.2.2.2.2.1, y7.2.2.2.2.2.2.2.2.2.2.2.2.2.1, y7.2.2.2.2.2.2.2.2.2.2.2.2.2.2.1, y7.2.2.2.2.2.2.2.2.2.2.2.2.2.2.2)).bind fun y8 =>
        bif !y8 then
          some false
        else
          (laws_markFm (y4.1, y4.2.1, y4.2.2.1, y4.2.2.2.1, y4.2.2.2.2.1, y4.2.2.2.2.2.1, y4.2.2.2.2.2.2.1, y4.2.2.2.2.2.2.2.1, y4.2.2.2.2.2.2.2.2.1, y4.2.2.2.2.2.2.2.2.2.1, y4.2.2.2.2.2.2.2.2.2.2.1, y4.2.2.2.2.2.2.2.2.2.2.2.1, y4.2.2.2.2.2.2.2.2.2.2.2.2.1, y4.2.2.2.2.2.2.2.2.2.2.2.2.2.1, y4.2.2.2.2.2.2.2.2.2.2.2.2.2.2.1, y4.2.2.2.2.2.2.2.2.2.2.2.2.2.2.2) (1 : Int)).bind fun y9 =>
          bif decide (y9.1 < (0 : Int)) then
            some false
          else
            (laws_eqByteS y5 y3).bind fun y10 =>
            bif !y10 then
              some false
            else
              laws_FnExactFmText_l0 x0.1 x0.2.1 x0.2.2.1 x0.2.2.2.1 x0.2.2.2.2.1 x0.2.2.2.2.2.1 x0.2.2.2.2.2.2.1 x0.2.2.2.2.2.2.2.1 x0.2.2.2.2.2.2.2.2.1 x0.2.2.2.2.2.2.2.2.2.1 x0.2.2.2.2.2.2.2.2.2.2.1 x0.2.2.2.2.2.2.2.2.2.2.2.1 x0.2.2.2.2.2.2.2.2.2.2.2.2.1 x0.2.2.2.2.2.2.2.2.2.2.2.2.2.1 x0.2.2.2.2.2.2.2.2.2.2.2.2.2.2.1 x0.2.2.2.2.2.2.2.2.2.2.2.2.2.2.2 y3 y5 := by kernel_rfl
theorem laws_FnExactFmText_l0.eq (v0 : Int) (v1 : Int) (v2 : Int) (v3 : List Int) (v4 : List (Int × (List Int))) (v5 : List Int) (v6 : Int) (v7 : List Int) (v8 : Int) (v9 : Int) (v10 : Int) (v11 : List Int) (v12 : Int) (v13 : Int) (v14 : Int) (v15 : List Int) (v16 : List Int) (v17 : List Int) : laws_FnExactFmText_l0 v0 v1 v2 v3 v4 v5 v6 v7 v8 v9 v10 v11 v12 v13 v14 v15 v16 v17 =
    (laws_markByteS v17 (1 : Int)).bind fun y1 =>
    (laws_heldByteS y1.2 (1 : Int)).bind fun y2 =>
    bif decide (y2 < (0 : Int)) then
      some false
    else
      bif y2 != y1.1 then
        some false
      else
        (laws_toFm (v0, v1, v2, v3, v4, v5, v6, v7, v8, v9, v10, v11, v12, v13, v14, v15)).bind fun y3 =>
        (impl_FmText (y3.1, y3.2.1, y3.2.2.1, y3.2.2.2.1, y3.2.2.2.2.1, y3.2.2.2.2.2.1, y3.2.2.2.2.2.2.1, y3.2.2.2.2.2.2.2.1, y3.2.2.2.2.2.2.2.2.1, y3.2.2.2.2.2.2.2.2.2.1, y3.2.2.2.2.2.2.2.2.2.2.1, y3.2.2.2.2.2.2.2.2.2.2.2.1, y3.2.2.2.2.2.2.2.2.2.2.2.2.1, y3.2.2.2.2.2.2.2.2.2.2.2.2.2.1, y3.2.2.2.2.2.2.2.2.2.2.2.2.2.2.1, y3.2.2.2.2.2.2.2.2.2.2.2.2.2.2.2)).bind fun y4 =>
        (laws_eqByteS y4 v16).bind fun y5 =>
        bif !y5 then
          some false
        else
          (laws_heldByteS y1.2 (1 : Int)).bind fun y6 =>
          bif decide (y6 < (0 : Int)) then
            some false
          else
            bif y6 != y1.1 then
              some false
            else
              some true := (Lw_eq tysOk (getG_con (laws_FnExactFmText.gok _)) _ _).trans (by kernel_rfl)

end Go.Ev.W
