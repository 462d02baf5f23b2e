/- What functions of the program come to. -/
import Derived.Test.YtiogdohiooocnaaPbT
import Derived.Test.YtiogdohiooocnaaPb1
import Derived.Test.YtiogdohiooocnaaPb5
import Derived.Test.YtiogdohiooocnaaPb6
namespace Go.Ev.W
open Go.Ev Go.Proofs
set_option maxRecDepth 100000
set_option linter.unusedVariables false

/-! ### laws_FnExactWaveBytes: loop.example/g00688/laws.FnExactWaveBytes -/
def laws_FnExactWaveBytes.ms : List Mode := [.lend]
def laws_FnExactWaveBytes.as : List VSh := [.agg [.int .i64, .sl false false 3, .sl false false 44]]
def laws_FnExactWaveBytes.rs : RSh := ⟨[.one (.b (.b (.b (.b (.bool)))))], [none]⟩
noncomputable def laws_FnExactWaveBytes.gs (δ : Type) : List (Nat × Callee (GT tab) δ) := [(11, calleeS tab laws_szWave.ms laws_szWave.as laws_szWave.rs laws_szWave.fn), (12, calleeS tab spec_WaveBytes.ms spec_WaveBytes.as spec_WaveBytes.rs spec_WaveBytes.fn), (13, calleeS tab laws_toWave.ms laws_toWave.as laws_toWave.rs laws_toWave.fn), (14, calleeS tab impl_WaveBytes.ms impl_WaveBytes.as impl_WaveBytes.rs impl_WaveBytes.fn), (15, calleeS tab laws_eqByteS.ms laws_eqByteS.as laws_eqByteS.rs laws_eqByteS.fn), (16, calleeS tab laws_eqWave.ms laws_eqWave.as laws_eqWave.rs laws_eqWave.fn), (17, calleeS tab laws_markWave.ms laws_markWave.as laws_markWave.rs laws_markWave.fn), (18, calleeS tab laws_markByteS.ms laws_markByteS.as laws_markByteS.rs laws_markByteS.fn), (19, calleeS tab laws_heldByteS.ms laws_heldByteS.as laws_heldByteS.rs laws_heldByteS.fn)]
theorem laws_FnExactWaveBytes.gok (δ : Type) : AllCon Try.prog tab (laws_FnExactWaveBytes.gs δ) := .cons laws_szWave.con (.cons spec_WaveBytes.con (.cons laws_toWave.con (.cons impl_WaveBytes.con (.cons laws_eqByteS.con (.cons laws_eqWave.con (.cons laws_markWave.con (.cons laws_markByteS.con (.cons laws_heldByteS.con (.nil)))))))))
noncomputable def laws_FnExactWaveBytes.c : Ctx (GT tab) (KT tab) (ResT tab laws_FnExactWaveBytes.rs) := { X := XT tab, ty := tyOf tys, inner := fun _ => true, keep := keepOf 0 laws_FnExactWaveBytes.ms, cuts := [16], live := liveOf [(16, [1, 4, 6])], G := getG (laws_FnExactWaveBytes.gs _) }
noncomputable def laws_FnExactWaveBytes.b : Code := bodyOf Try.f3
noncomputable def laws_FnExactWaveBytes (x0 : Int × (List Int) × (List (Int × (List Int)))) : Option (Bool) := callW laws_FnExactWaveBytes.c (fiOf (GT tab) Try.f3 laws_FnExactWaveBytes.ms) laws_FnExactWaveBytes.b (decRes tab laws_FnExactWaveBytes.rs) (encArgs tab laws_FnExactWaveBytes.as x0)
theorem laws_FnExactWaveBytes.fok : FnOk Try.prog 3 Try.f3 laws_FnExactWaveBytes.ms laws_FnExactWaveBytes.b := ⟨Try.func3, by kernel_rfl, by kernel_rfl⟩
noncomputable def laws_FnExactWaveBytes.fn : Args tab laws_FnExactWaveBytes.as → Option (ResT tab laws_FnExactWaveBytes.rs) := fun x => laws_FnExactWaveBytes x
theorem laws_FnExactWaveBytes.con {δ : Type} : Con Try.prog (KT tab) 3 (calleeS (β := δ) tab laws_FnExactWaveBytes.ms laws_FnExactWaveBytes.as laws_FnExactWaveBytes.rs laws_FnExactWaveBytes.fn) := con_shape (c := laws_FnExactWaveBytes.c) mixed tysOk (getG_con (laws_FnExactWaveBytes.gok _)) laws_FnExactWaveBytes.fok rfl rfl (fun _ => rfl)
noncomputable def laws_FnExactWaveBytes_l0 (v0 : Int) (v1 : List Int) (v2 : List (Int × (List Int))) (v3 : List Int) (v4 : List Int) : Option (Bool) := Lw laws_FnExactWaveBytes.c (finish laws_FnExactWaveBytes.c (fiOf (GT tab) Try.f3 laws_FnExactWaveBytes.ms) (decRes tab laws_FnExactWaveBytes.rs)) ((loops laws_FnExactWaveBytes.c.cuts 1000 laws_FnExactWaveBytes.b []).getD 0 []) { slots := [.undef, .ptr 0 0, .undef, .undef, .sl 1 0, .undef, .sl 2 0, .undef, .undef, .undef, .undef, .undef, .undef, .undef, .undef, .undef, .undef, .undef, .undef, .undef, .undef, .undef, .undef, .undef, .undef, .undef, .undef, .undef, .undef, .undef, .undef, .undef, .undef, .undef, .undef, .undef, .undef, .undef, .undef, .undef, .undef, .undef, .undef, .undef, .undef, .undef, .undef, .undef, .undef, .undef, .undef, .undef, .undef, .undef, .undef, .undef, .undef, .undef, .undef, .undef, .undef, .undef, .undef, .undef, .undef, .undef, .undef, .undef, .undef], loc := locOf [.box 25 [.int .i64 v0, .vs false 3 v1, .vs false 44 v2], .row 0 true 5 v3, .row 0 true 5 v4], nx := 3 }
theorem laws_FnExactWaveBytes.eq (x0 : Int × (List Int) × (List (Int × (List Int)))) : laws_FnExactWaveBytes x0 =
    (laws_szWave (x0.1, x0.2.1, x0.2.2) (1048576 : Int)).bind fun y1 =>
    bif decide (y1 < (0 : Int)) then
      some true
    else
      (laws_toWave (x0.1, x0.2.1, x0.2.2)).bind fun y2 =>
      (spec_WaveBytes (y2.1, y2.2.1, y2.2.2)).bind fun y3 =>
      (laws_toWave (x0.1, x0.2.1, x0.2.2)).bind fun y4 =>
      (impl_WaveBytes (y4.1, y4.2.1, y4.2.2)).bind fun y5 =>
      (laws_eqByteS y5 y3).bind fun y6 =>
      bif !y6 then
        some false
      else
        (laws_toWave (x0.1, x0.2.1, x0.2.2)).bind fun y7 =>
        (laws_eqWave (y4.1, y4.2.1, y4.2.2) (y7.1, y7.2.1, y7.2.2)).bind fun y8 =>
        bif !y8 then
          some false
        else
          (laws_markWave (y4.1, y4.2.1, y4.2.2) (1 : Int)).bind fun y9 =>
          bif decide (y9.1 < (0 : Int)) then
            some false
          else
            (laws_eqByteS y5 y3).bind fun y10 =>
            bif !y10 then
              some false
            else
              laws_FnExactWaveBytes_l0 x0.1 x0.2.1 x0.2.2 y3 y5 := by kernel_rfl
theorem laws_FnExactWaveBytes_l0.eq (v0 : Int) (v1 : List Int) (v2 : List (Int × (List Int))) (v3 : List Int) (v4 : List Int) : laws_FnExactWaveBytes_l0 v0 v1 v2 v3 v4 =
    (laws_markByteS v4 (1 : Int)).bind fun y1 =>
    (laws_heldByteS y1.2 (1 : Int)).bind fun y2 =>
    bif decide (y2 < (0 : Int)) then
      some false
    else
      bif y2 != y1.1 then
        some false
      else
        (laws_toWave (v0, v1, v2)).bind fun y3 =>
        (impl_WaveBytes (y3.1, y3.2.1, y3.2.2)).bind fun y4 =>
        (laws_eqByteS y4 v3).bind fun y5 =>
        bif !y5 then
          some false
        else
          (laws_heldByteS y1.2 (1 : Int)).bind fun y6 =>
          bif decide (y6 < (0 : Int)) then
            some false
          else
            bif y6 != y1.1 then
              some false
            else
              some true := (Lw_eq tysOk (getG_con (laws_FnExactWaveBytes.gok _)) _ _).trans (by kernel_rfl)

end Go.Ev.W
