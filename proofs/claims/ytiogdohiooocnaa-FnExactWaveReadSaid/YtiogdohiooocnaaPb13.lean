/- What functions of the program come to. -/
import Derived.Test.YtiogdohiooocnaaPbT
import Derived.Test.YtiogdohiooocnaaPb11
import Derived.Test.YtiogdohiooocnaaPb5
import Derived.Test.YtiogdohiooocnaaPb9
namespace Go.Ev.W
open Go.Ev Go.Proofs
set_option maxRecDepth 100000
set_option linter.unusedVariables false

/-! ### laws_FnExactWaveRead: loop.example/g00688/laws.FnExactWaveRead -/
def laws_FnExactWaveRead.ms : List Mode := [.lend, .lend]
def laws_FnExactWaveRead.as : List VSh := [.one (.b (.b (.b (.b (.sl false false 5))))), .one (.b (.b (.b (.b (.int .i64)))))]
def laws_FnExactWaveRead.rs : RSh := ⟨[.one (.b (.b (.b (.b (.bool)))))], [none, none]⟩
noncomputable def laws_FnExactWaveRead.gs (δ : Type) : List (Nat × Callee (GT tab) δ) := [(15, calleeS tab laws_eqByteS.ms laws_eqByteS.as laws_eqByteS.rs laws_eqByteS.fn), (16, calleeS tab laws_eqWave.ms laws_eqWave.as laws_eqWave.rs laws_eqWave.fn), (17, calleeS tab laws_markWave.ms laws_markWave.as laws_markWave.rs laws_markWave.fn), (18, calleeS tab laws_markByteS.ms laws_markByteS.as laws_markByteS.rs laws_markByteS.fn), (20, calleeS tab spec_WaveRead.ms spec_WaveRead.as spec_WaveRead.rs spec_WaveRead.fn), (21, calleeS tab laws_toByteS.ms laws_toByteS.as laws_toByteS.rs laws_toByteS.fn), (22, calleeS tab impl_WaveRead.ms impl_WaveRead.as impl_WaveRead.rs impl_WaveRead.fn), (23, calleeS tab laws_heldWave.ms laws_heldWave.as laws_heldWave.rs laws_heldWave.fn)]
theorem laws_FnExactWaveRead.gok (δ : Type) : AllCon Try.prog tab (laws_FnExactWaveRead.gs δ) := .cons laws_eqByteS.con (.cons laws_eqWave.con (.cons laws_markWave.con (.cons laws_markByteS.con (.cons spec_WaveRead.con (.cons laws_toByteS.con (.cons impl_WaveRead.con (.cons laws_heldWave.con (.nil))))))))
noncomputable def laws_FnExactWaveRead.c : Ctx (GT tab) (KT tab) (ResT tab laws_FnExactWaveRead.rs) := { X := XT tab, ty := tyOf tys, inner := fun _ => true, keep := keepOf 0 laws_FnExactWaveRead.ms, cuts := [8, 14, 25], live := liveOf [(8, [0, 1, 5, 6, 7, 8, 9, 10, 11]), (14, [0, 1, 5, 6, 7, 9]), (25, [9, 13])], G := getG (laws_FnExactWaveRead.gs _) }
noncomputable def laws_FnExactWaveRead.b : Code := bodyOf Try.f4
noncomputable def laws_FnExactWaveRead (x0 : List Int) (x1 : Int) : Option (Bool) := callW laws_FnExactWaveRead.c (fiOf (GT tab) Try.f4 laws_FnExactWaveRead.ms) laws_FnExactWaveRead.b (decRes tab laws_FnExactWaveRead.rs) (encArgs tab laws_FnExactWaveRead.as (x0, x1))
theorem laws_FnExactWaveRead.fok : FnOk Try.prog 4 Try.f4 laws_FnExactWaveRead.ms laws_FnExactWaveRead.b := ⟨Try.func4, by kernel_rfl, by kernel_rfl⟩
noncomputable def laws_FnExactWaveRead.fn : Args tab laws_FnExactWaveRead.as → Option (ResT tab laws_FnExactWaveRead.rs) := fun x => laws_FnExactWaveRead x.1 x.2
theorem laws_FnExactWaveRead.con {δ : Type} : Con Try.prog (KT tab) 4 (calleeS (β := δ) tab laws_FnExactWaveRead.ms laws_FnExactWaveRead.as laws_FnExactWaveRead.rs laws_FnExactWaveRead.fn) := con_shape (c := laws_FnExactWaveRead.c) mixed tysOk (getG_con (laws_FnExactWaveRead.gok _)) laws_FnExactWaveRead.fok rfl rfl (fun _ => rfl)
noncomputable def laws_FnExactWaveRead_l0 (v0 : List Int) (v1 : Int) (v2 : Int) (v3 : Bool) (v4 : Int) (v5 : Bool) (v6 : Int) (v7 : List Int) (v8 : List (Int × (List Int))) (v9 : List Int) (v10 : Int) (v11 : List Int) (v12 : List (Int × (List Int))) : Option (Bool) := Lw laws_FnExactWaveRead.c (finish laws_FnExactWaveRead.c (fiOf (GT tab) Try.f4 laws_FnExactWaveRead.ms) (decRes tab laws_FnExactWaveRead.rs)) ((loops laws_FnExactWaveRead.c.cuts 1000 laws_FnExactWaveRead.b []).getD 0 []) { slots := [.vs false 5 v0, .int .i64 v1, .undef, .undef, .undef, .ptr 0 0, .int .i64 v2, .bool v3, .sl 3 0, .ptr 4 0, .int .i64 v4, .bool v5, .undef, .undef, .undef, .undef, .undef, .undef, .undef, .undef, .undef, .undef, .undef, .undef, .undef, .undef, .undef, .undef, .undef, .undef, .undef, .undef, .undef, .undef, .undef, .undef, .undef, .undef, .undef, .undef, .undef, .undef, .undef, .undef, .undef, .undef, .undef, .undef, .undef, .undef, .undef, .undef, .undef, .undef, .undef, .undef, .undef, .undef, .undef, .undef, .undef, .undef, .undef, .undef, .undef, .undef, .undef, .undef, .undef, .undef, .undef, .undef, .undef, .undef, .undef, .undef, .undef, .undef, .undef, .undef, .undef, .undef, .undef, .undef, .undef, .undef, .undef, .undef, .undef, .undef, .undef, .undef, .undef, .undef, .undef, .undef, .undef, .undef, .undef, .undef, .undef, .undef, .undef, .undef, .undef, .undef, .undef, .undef, .undef, .undef, .undef, .undef, .undef, .undef, .undef, .undef, .undef, .undef, .undef], loc := locOf [.box 31 [.int .i64 v6, .sl 1 0, .sl 2 0], .row 0 true 3 v7, .row 0 true 51 v8, .row 0 true 5 v9, .box 31 [.int .i64 v10, .sl 5 0, .sl 6 0], .row 0 true 3 v11, .row 0 true 51 v12], nx := 7 }
noncomputable def laws_FnExactWaveRead_l1 (v0 : List Int) (v1 : Int) (v2 : Int) (v3 : Bool) (v4 : Int) (v5 : List Int) (v6 : List (Int × (List Int))) (v7 : Int) (v8 : List Int) (v9 : List (Int × (List Int))) : Option (Bool) := Lw laws_FnExactWaveRead.c (finish laws_FnExactWaveRead.c (fiOf (GT tab) Try.f4 laws_FnExactWaveRead.ms) (decRes tab laws_FnExactWaveRead.rs)) ((loops laws_FnExactWaveRead.c.cuts 1000 laws_FnExactWaveRead.b []).getD 1 []) { slots := [.vs false 5 v0, .int .i64 v1, .undef, .undef, .undef, .ptr 0 0, .int .i64 v2, .bool v3, .undef, .ptr 3 0, .undef, .undef, .undef, .undef, .undef, .undef, .undef, .undef, .undef, .undef, .undef, .undef, .undef, .undef, .undef, .undef, .undef, .undef, .undef, .undef, .undef, .undef, .undef, .undef, .undef, .undef, .undef, .undef, .undef, .undef, .undef, .undef, .undef, .undef, .undef, .undef, .undef, .undef, .undef, .undef, .undef, .undef, .undef, .undef, .undef, .undef, .undef, .undef, .undef, .undef, .undef, .undef, .undef, .undef, .undef, .undef, .undef, .undef, .undef, .undef, .undef, .undef, .undef, .undef, .undef, .undef, .undef, .undef, .undef, .undef, .undef, .undef, .undef, .undef, .undef, .undef, .undef, .undef, .undef, .undef, .undef, .undef, .undef, .undef, .undef, .undef, .undef, .undef, .undef, .undef, .undef, .undef, .undef, .undef, .undef, .undef, .undef, .undef, .undef, .undef, .undef, .undef, .undef, .undef, .undef, .undef, .undef, .undef, .undef], loc := locOf [.box 31 [.int .i64 v4, .sl 1 0, .sl 2 0], .row 0 true 3 v5, .row 0 true 51 v6, .box 31 [.int .i64 v7, .sl 4 0, .sl 5 0], .row 0 true 3 v8, .row 0 true 51 v9], nx := 6 }
noncomputable def laws_FnExactWaveRead_l2 (v0 : Int) (v1 : Int) (v2 : List Int) (v3 : List (Int × (List Int))) : Option (Bool) := Lw laws_FnExactWaveRead.c (finish laws_FnExactWaveRead.c (fiOf (GT tab) Try.f4 laws_FnExactWaveRead.ms) (decRes tab laws_FnExactWaveRead.rs)) ((loops laws_FnExactWaveRead.c.cuts 1000 laws_FnExactWaveRead.b []).getD 2 []) { slots := [.undef, .undef, .undef, .undef, .undef, .undef, .undef, .undef, .undef, .ptr 0 0, .undef, .undef, .undef, .int .i64 v0, .undef, .undef, .undef, .undef, .undef, .undef, .undef, .undef, .undef, .undef, .undef, .undef, .undef, .undef, .undef, .undef, .undef, .undef, .undef, .undef, .undef, .undef, .undef, .undef, .undef, .undef, .undef, .undef, .undef, .undef, .undef, .undef, .undef, .undef, .undef, .undef, .undef, .undef, .undef, .undef, .undef, .undef, .undef, .undef, .undef, .undef, .undef, .undef, .undef, .undef, .undef, .undef, .undef, .undef, .undef, .undef, .undef, .undef, .undef, .undef, .undef, .undef, .undef, .undef, .undef, .undef, .undef, .undef, .undef, .undef, .undef, .undef, .undef, .undef, .undef, .undef, .undef, .undef, .undef, .undef, .undef, .undef, .undef, .undef, .undef, .undef, .undef, .undef, .undef, .undef, .undef, .undef, .undef, .undef, .undef, .undef, .undef, .undef, .undef, .undef, .undef, .undef, .undef, .undef, .undef], loc := locOf [.box 31 [.int .i64 v1, .sl 1 0, .sl 2 0], .row 0 true 3 v2, .row 0 true 51 v3], nx := 3 }
theorem laws_FnExactWaveRead.eq (x0 : List Int) (x1 : Int) : laws_FnExactWaveRead x0 x1 =
    bif decide ((x0.length : Int) > (1048576 : Int)) then
      some true
    else
      (laws_toByteS x0).bind fun y1 =>
      (spec_WaveRead y1 x1).bind fun y2 =>
      (laws_toByteS x0).bind fun y3 =>
      (impl_WaveRead y3 x1).bind fun y4 =>
      (laws_eqWave (y4.1.1, y4.1.2.1, y4.1.2.2) (y2.1.1, y2.1.2.1, y2.1.2.2)).bind fun y5 =>
      bif !y5 then
        some false
      else
        bif y4.2.1 != y2.2.1 then
          some false
        else
          bif !(y4.2.2 == y2.2.2) then
            some false
          else
            laws_FnExactWaveRead_l0 x0 x1 y2.2.1 y2.2.2 y4.2.1 y4.2.2 y2.1.1 y2.1.2.1 y2.1.2.2 y3 y4.1.1 y4.1.2.1 y4.1.2.2 := by kernel_rfl
theorem laws_FnExactWaveRead_l0.eq (v0 : List Int) (v1 : Int) (v2 : Int) (v3 : Bool) (v4 : Int) (v5 : Bool) (v6 : Int) (v7 : List Int) (v8 : List (Int × (List Int))) (v9 : List Int) (v10 : Int) (v11 : List Int) (v12 : List (Int × (List Int))) : laws_FnExactWaveRead_l0 v0 v1 v2 v3 v4 v5 v6 v7 v8 v9 v10 v11 v12 =
    (laws_toByteS v0).bind fun y1 =>
    (laws_eqByteS v9 y1).bind fun y2 =>
    bif !y2 then
      some false
    else
      (laws_markByteS v9 (1 : Int)).bind fun y3 =>
      bif decide (y3.1 < (0 : Int)) then
        some false
      else
        (laws_eqWave (v10, v11, v12) (v6, v7, v8)).bind fun y4 =>
        bif !y4 then
          some false
        else
          bif v4 != v2 then
            some false
          else
            bif !(v5 == v3) then
              some false
            else
              laws_FnExactWaveRead_l1 v0 v1 v2 v3 v6 v7 v8 v10 v11 v12 := (Lw_eq tysOk (getG_con (laws_FnExactWaveRead.gok _)) _ _).trans (by kernel_rfl)
theorem laws_FnExactWaveRead_l1.eq (v0 : List Int) (v1 : Int) (v2 : Int) (v3 : Bool) (v4 : Int) (v5 : List Int) (v6 : List (Int × (List Int))) (v7 : Int) (v8 : List Int) (v9 : List (Int × (List Int))) : laws_FnExactWaveRead_l1 v0 v1 v2 v3 v4 v5 v6 v7 v8 v9 =
    (laws_markWave (v7, v8, v9) (1 : Int)).bind fun y1 =>
    (laws_heldWave (v7, y1.2.2.1, y1.2.2.2) (1 : Int)).bind fun y2 =>
    bif decide (y2 < (0 : Int)) then
      some false
    else
      bif y2 != y1.1 then
        some false
      else
        (laws_toByteS v0).bind fun y3 =>
        (impl_WaveRead y3 v1).bind fun y4 =>
        (laws_eqWave (y4.1.1, y4.1.2.1, y4.1.2.2) (v4, v5, v6)).bind fun y5 =>
        bif !y5 then
          some false
        else
          bif y4.2.1 != v2 then
            some false
          else
            bif !(y4.2.2 == v3) then
              some false
            else
              laws_FnExactWaveRead_l2 y1.1 v7 y1.2.2.1 y1.2.2.2 := (Lw_eq tysOk (getG_con (laws_FnExactWaveRead.gok _)) _ _).trans (by kernel_rfl)
theorem laws_FnExactWaveRead_l2.eq (v0 : Int) (v1 : Int) (v2 : List Int) (v3 : List (Int × (List Int))) : laws_FnExactWaveRead_l2 v0 v1 v2 v3 =
    (laws_heldWave (v1, v2, v3) (1 : Int)).bind fun y1 =>
    bif decide (y1 < (0 : Int)) then
      some false
    else
      bif y1 != v0 then
        some false
      else
        some true := (Lw_eq tysOk (getG_con (laws_FnExactWaveRead.gok _)) _ _).trans (by kernel_rfl)

end Go.Ev.W
