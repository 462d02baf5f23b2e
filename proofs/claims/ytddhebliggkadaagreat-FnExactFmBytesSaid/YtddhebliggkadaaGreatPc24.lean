/- What functions of the program come to. -/
import Derived.Test.YtddhebliggkadaaGreatPcT
import Derived.Test.YtddhebliggkadaaGreatPc1
import Derived.Test.YtddhebliggkadaaGreatPc13
import Derived.Test.YtddhebliggkadaaGreatPc16
import Derived.Test.YtddhebliggkadaaGreatPc17
import Derived.Test.YtddhebliggkadaaGreatPc23
namespace Go.Ev.W
open Go.Ev Go.Proofs
set_option maxRecDepth 100000
set_option linter.unusedVariables false

noncomputable abbrev laws_FnExactFmBytes.s : Sg := ⟨[.lend], [.agg [.int .i64, .int .i64, .int .i64, .sl false false 3, .sl false false 49, .sl false false 3, .int .i64, .sl false false 126, .int .i64, .int .i64, .int .i64, .sl false false 126, .int .i64, .int .i64, .int .i64, .sl false false 126]], ⟨[vb], [none]⟩, Tryz.f14⟩
noncomputable def laws_FnExactFmBytes.gs (δ : Type) : List (Nat × Callee (GT tab) δ) := [(30, laws_szFm.k), (32, laws_toFm.k), (33, laws_eqFm.k), (36, laws_eqByteS.k), (38, laws_markFm.k), (39, laws_markByteS.k), (40, laws_heldByteS.k), (49, impl_FmBytes.k), (54, spec_FmBytes.k)]
theorem laws_FnExactFmBytes.gok (δ : Type) : AllCon Tryz.prog tab (laws_FnExactFmBytes.gs δ) := .cons laws_szFm.con (.cons laws_toFm.con (.cons laws_eqFm.con (.cons laws_eqByteS.con (.cons laws_markFm.con (.cons laws_markByteS.con (.cons laws_heldByteS.con (.cons impl_FmBytes.con (.cons spec_FmBytes.con .nil))))))))
noncomputable def laws_FnExactFmBytes.c := cx laws_FnExactFmBytes.s [16] [(16, [1, 4, 6])] false (laws_FnExactFmBytes.gs _)
noncomputable def laws_FnExactFmBytes (x0 : Int × Int × Int × (List Int) × (List (Int × (List Int))) × (List Int) × Int × (List Int) × Int × Int × Int × (List Int) × Int × Int × Int × (List Int)) : Option (Bool) := fnW laws_FnExactFmBytes.s laws_FnExactFmBytes.c x0
theorem laws_FnExactFmBytes.fok : FkS laws_FnExactFmBytes.s 14 := ⟨Tryz.func14, by kernel_rfl, by kernel_rfl⟩
noncomputable def laws_FnExactFmBytes.fn (x : Args tab laws_FnExactFmBytes.s.ar) : Option (ResT tab laws_FnExactFmBytes.s.rs) := laws_FnExactFmBytes x
noncomputable abbrev laws_FnExactFmBytes.as := laws_FnExactFmBytes.s.ar
noncomputable abbrev laws_FnExactFmBytes.k {δ : Type} : Callee (GT tab) δ := kS laws_FnExactFmBytes.s laws_FnExactFmBytes.fn
theorem laws_FnExactFmBytes.con {δ : Type} : Con Tryz.prog (KT tab) 14 (laws_FnExactFmBytes.k (δ := δ)) := con_shape (c := laws_FnExactFmBytes.c) mixed tysOk (getG_con (laws_FnExactFmBytes.gok _)) laws_FnExactFmBytes.fok rfl rfl fun _ => rfl
noncomputable def laws_FnExactFmBytes_l0 (v0 v1 v2 : Int) (v3 : List Int) (v4 : List (Int × (List Int))) (v5 : List Int) (v6 : Int) (v7 : List Int) (v8 v9 v10 : Int) (v11 : List Int) (v12 v13 v14 : Int) (v15 v16 v17 : List Int) : Option (Bool) := lpW laws_FnExactFmBytes.s laws_FnExactFmBytes.c 0 (ud 62 [.undef, .ptr 0 0, .undef, .undef, .sl 1 0, .undef, .sl 2 0]) [.box 53 [.int .i64 v0, .int .i64 v1, .int .i64 v2, .vs false 3 v3, .vs false 49 v4, .vs false 3 v5, .int .i64 v6, .vs false 126 v7, .int .i64 v8, .int .i64 v9, .int .i64 v10, .vs false 126 v11, .int .i64 v12, .int .i64 v13, .int .i64 v14, .vs false 126 v15], .row 0 true 5 v16, .row 0 true 5 v17] 3
theorem laws_FnExactFmBytes.eq (x0 : Int × Int × Int × (List Int) × (List (Int × (List Int))) × (List Int) × Int × (List Int) × Int × Int × Int × (List Int) × Int × Int × Int × (List Int)) : laws_FnExactFmBytes x0 =
    (laws_szFm x0 (1048576 : Int)).bind fun y1 =>
    bif decide (y1 < (0 : Int)) then
      some true
    else
      (laws_toFm x0).bind fun y2 =>
      (spec_FmBytes y2).bind fun y3 =>
      (laws_toFm x0).bind fun y4 =>
      (impl_FmBytes y4).bind fun y5 =>
      (laws_eqByteS y5 y3).bind fun y6 =>
      bif !y6 then
        some false
      else
        (laws_toFm x0).bind fun y7 =>
        (laws_eqFm y4 y7).bind fun y8 =>
        bif !y8 then
          some false
        else
          (laws_markFm y4 (1 : Int)).bind fun y9 =>
          bif decide (y9.1 < (0 : Int)) then
            some false
          else
            (laws_eqByteS y5 y3).bind fun y10 =>
            bif !y10 then
              some false
            else
              laws_FnExactFmBytes_l0 x0.1 x0.2.1 x0.2.2.1 x0.2.2.2.1 x0.2.2.2.2.1 x0.2.2.2.2.2.1 x0.2.2.2.2.2.2.1 x0.2.2.2.2.2.2.2.1 x0.2.2.2.2.2.2.2.2.1 x0.2.2.2.2.2.2.2.2.2.1 x0.2.2.2.2.2.2.2.2.2.2.1 x0.2.2.2.2.2.2.2.2.2.2.2.1 x0.2.2.2.2.2.2.2.2.2.2.2.2.1 x0.2.2.2.2.2.2.2.2.2.2.2.2.2.1 x0.2.2.2.2.2.2.2.2.2.2.2.2.2.2.1 x0.2.2.2.2.2.2.2.2.2.2.2.2.2.2.2 y3 y5 := by kernel_rfl
theorem laws_FnExactFmBytes_l0.eq (v0 v1 v2 : Int) (v3 : List Int) (v4 : List (Int × (List Int))) (v5 : List Int) (v6 : Int) (v7 : List Int) (v8 v9 v10 : Int) (v11 : List Int) (v12 v13 v14 : Int) (v15 v16 v17 : List Int) : laws_FnExactFmBytes_l0 v0 v1 v2 v3 v4 v5 v6 v7 v8 v9 v10 v11 v12 v13 v14 v15 v16 v17 =
    (laws_markByteS v17 (1 : Int)).bind fun y1 =>
    (laws_heldByteS y1.2 (1 : Int)).bind fun y2 =>
    bif decide (y2 < (0 : Int)) then
      some false
    else
      bif y2 != y1.1 then
        some false
      else
        (laws_toFm (v0, v1, v2, v3, v4, v5, v6, v7, v8, v9, v10, v11, v12, v13, v14, v15)).bind fun y3 =>
        (impl_FmBytes y3).bind fun y4 =>
        (laws_eqByteS y4 v16).bind fun y5 =>
        bif !y5 then
          some false
        else
          (laws_heldByteS y1.2 (1 : Int)).bind fun y6 =>
          bif decide (y6 < (0 : Int)) then
            some false
          else
            bif y6 != y1.1 then
              some false
            else
              some true := (Lw_eq tysOk (getG_con (laws_FnExactFmBytes.gok _)) _ _).trans (by kernel_rfl)

end Go.Ev.W
