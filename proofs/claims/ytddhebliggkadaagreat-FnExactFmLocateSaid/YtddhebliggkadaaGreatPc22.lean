/- What functions of the program come to. -/
import Derived.Test.YtddhebliggkadaaGreatPcT
import Derived.Test.YtddhebliggkadaaGreatPc1
import Derived.Test.YtddhebliggkadaaGreatPc11
import Derived.Test.YtddhebliggkadaaGreatPc13
import Derived.Test.YtddhebliggkadaaGreatPc16
import Derived.Test.YtddhebliggkadaaGreatPc21
namespace Go.Ev.W
open Go.Ev Go.Proofs
set_option maxRecDepth 100000
set_option linter.unusedVariables false

noncomputable abbrev laws_FnExactFmLocate.s : Sg := ⟨[.lend, .lend], [.agg [.int .i64, .int .i64, .int .i64, .sl false false 3, .sl false false 49, .sl false false 3, .int .i64, .sl false false 126, .int .i64, .int .i64, .int .i64, .sl false false 126, .int .i64, .int .i64, .int .i64, .sl false false 126], vl 5], ⟨[vb], [none, none]⟩, Tryz.f12⟩
noncomputable def laws_FnExactFmLocate.gs (δ : Type) : List (Nat × Callee (GT tab) δ) := [(30, laws_szFm.k), (32, laws_toFm.k), (33, laws_eqFm.k), (35, laws_toByteS.k), (36, laws_eqByteS.k), (38, laws_markFm.k), (39, laws_markByteS.k), (43, spec_FmLocate.k), (44, impl_FmLocate.k), (45, laws_eqIntS.k), (46, laws_markIntS.k), (47, laws_heldIntS.k)]
theorem laws_FnExactFmLocate.gok (δ : Type) : AllCon Tryz.prog tab (laws_FnExactFmLocate.gs δ) := .cons laws_szFm.con (.cons laws_toFm.con (.cons laws_eqFm.con (.cons laws_toByteS.con (.cons laws_eqByteS.con (.cons laws_markFm.con (.cons laws_markByteS.con (.cons spec_FmLocate.con (.cons impl_FmLocate.con (.cons laws_eqIntS.con (.cons laws_markIntS.con (.cons laws_heldIntS.con .nil)))))))))))
noncomputable def laws_FnExactFmLocate.c := cx laws_FnExactFmLocate.s [22] [(22, [1, 2, 6, 9])] false (laws_FnExactFmLocate.gs _)
noncomputable def laws_FnExactFmLocate (x0 : Int × Int × Int × (List Int) × (List (Int × (List Int))) × (List Int) × Int × (List Int) × Int × Int × Int × (List Int) × Int × Int × Int × (List Int)) (x1 : List Int) : Option (Bool) := fnW laws_FnExactFmLocate.s laws_FnExactFmLocate.c (x0, x1)
theorem laws_FnExactFmLocate.fok : FkS laws_FnExactFmLocate.s 12 := ⟨Tryz.func12, by kernel_rfl, by kernel_rfl⟩
noncomputable def laws_FnExactFmLocate.fn (x : Args tab laws_FnExactFmLocate.s.ar) : Option (ResT tab laws_FnExactFmLocate.s.rs) := laws_FnExactFmLocate x.1 x.2
noncomputable abbrev laws_FnExactFmLocate.as := laws_FnExactFmLocate.s.ar
noncomputable abbrev laws_FnExactFmLocate.k {δ : Type} : Callee (GT tab) δ := kS laws_FnExactFmLocate.s laws_FnExactFmLocate.fn
theorem laws_FnExactFmLocate.con {δ : Type} : Con Tryz.prog (KT tab) 12 (laws_FnExactFmLocate.k (δ := δ)) := con_shape (c := laws_FnExactFmLocate.c) mixed tysOk (getG_con (laws_FnExactFmLocate.gok _)) laws_FnExactFmLocate.fok rfl rfl fun _ => rfl
noncomputable def laws_FnExactFmLocate_l0 (v0 : List Int) (v1 v2 v3 : Int) (v4 : List Int) (v5 : List (Int × (List Int))) (v6 : List Int) (v7 : Int) (v8 : List Int) (v9 v10 v11 : Int) (v12 : List Int) (v13 v14 v15 : Int) (v16 v17 v18 : List Int) : Option (Bool) := lpW laws_FnExactFmLocate.s laws_FnExactFmLocate.c 0 (ud 80 [.undef, .vs false 5 v0, .ptr 0 0, .undef, .undef, .undef, .sl 1 0, .undef, .undef, .sl 2 0]) [.box 53 [.int .i64 v1, .int .i64 v2, .int .i64 v3, .vs false 3 v4, .vs false 49 v5, .vs false 3 v6, .int .i64 v7, .vs false 126 v8, .int .i64 v9, .int .i64 v10, .int .i64 v11, .vs false 126 v12, .int .i64 v13, .int .i64 v14, .int .i64 v15, .vs false 126 v16], .row 0 true 3 v17, .row 0 true 3 v18] 3
theorem laws_FnExactFmLocate.eq (x0 : Int × Int × Int × (List Int) × (List (Int × (List Int))) × (List Int) × Int × (List Int) × Int × Int × Int × (List Int) × Int × Int × Int × (List Int)) (x1 : List Int) : laws_FnExactFmLocate x0 x1 =
    bif decide ((x1.length : Int) > (1048576 : Int)) then
      some true
    else
      (laws_szFm x0 (1048576 : Int)).bind fun y1 =>
      bif decide (y1 < (0 : Int)) then
        some true
      else
        (laws_toFm x0).bind fun y2 =>
        (laws_toByteS x1).bind fun y3 =>
        (spec_FmLocate y2 y3).bind fun y4 =>
        (laws_toFm x0).bind fun y5 =>
        (laws_toByteS x1).bind fun y6 =>
        (impl_FmLocate y5 y6).bind fun y7 =>
        (laws_eqIntS y7 y4).bind fun y8 =>
        bif !y8 then
          some false
        else
          (laws_toFm x0).bind fun y9 =>
          (laws_eqFm y5 y9).bind fun y10 =>
          bif !y10 then
            some false
          else
            (laws_toByteS x1).bind fun y11 =>
            (laws_eqByteS y6 y11).bind fun y12 =>
            bif !y12 then
              some false
            else
              (laws_markFm y5 (1 : Int)).bind fun y13 =>
              (laws_markByteS y6 y13.1).bind fun y14 =>
              bif decide (y14.1 < (0 : Int)) then
                some false
              else
                (laws_eqIntS y7 y4).bind fun y15 =>
                bif !y15 then
                  some false
                else
                  laws_FnExactFmLocate_l0 x1 x0.1 x0.2.1 x0.2.2.1 x0.2.2.2.1 x0.2.2.2.2.1 x0.2.2.2.2.2.1 x0.2.2.2.2.2.2.1 x0.2.2.2.2.2.2.2.1 x0.2.2.2.2.2.2.2.2.1 x0.2.2.2.2.2.2.2.2.2.1 x0.2.2.2.2.2.2.2.2.2.2.1 x0.2.2.2.2.2.2.2.2.2.2.2.1 x0.2.2.2.2.2.2.2.2.2.2.2.2.1 x0.2.2.2.2.2.2.2.2.2.2.2.2.2.1 x0.2.2.2.2.2.2.2.2.2.2.2.2.2.2.1 x0.2.2.2.2.2.2.2.2.2.2.2.2.2.2.2 y4 y7 := by kernel_rfl
theorem laws_FnExactFmLocate_l0.eq (v0 : List Int) (v1 v2 v3 : Int) (v4 : List Int) (v5 : List (Int × (List Int))) (v6 : List Int) (v7 : Int) (v8 : List Int) (v9 v10 v11 : Int) (v12 : List Int) (v13 v14 v15 : Int) (v16 v17 v18 : List Int) : laws_FnExactFmLocate_l0 v0 v1 v2 v3 v4 v5 v6 v7 v8 v9 v10 v11 v12 v13 v14 v15 v16 v17 v18 =
    (laws_markIntS v18 (1 : Int)).bind fun y1 =>
    (laws_heldIntS y1.2 (1 : Int)).bind fun y2 =>
    bif decide (y2 < (0 : Int)) then
      some false
    else
      bif y2 != y1.1 then
        some false
      else
        (laws_toFm (v1, v2, v3, v4, v5, v6, v7, v8, v9, v10, v11, v12, v13, v14, v15, v16)).bind fun y3 =>
        (laws_toByteS v0).bind fun y4 =>
        (impl_FmLocate y3 y4).bind fun y5 =>
        (laws_eqIntS y5 v17).bind fun y6 =>
        bif !y6 then
          some false
        else
          (laws_heldIntS y1.2 (1 : Int)).bind fun y7 =>
          bif decide (y7 < (0 : Int)) then
            some false
          else
            bif y7 != y1.1 then
              some false
            else
              some true := (Lw_eq tysOk (getG_con (laws_FnExactFmLocate.gok _)) _ _).trans (by kernel_rfl)

end Go.Ev.W
