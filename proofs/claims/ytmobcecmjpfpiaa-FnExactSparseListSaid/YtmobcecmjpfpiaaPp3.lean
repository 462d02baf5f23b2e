/- What functions of the program come to. -/
import Derived.Test.YtmobcecmjpfpiaaPpT
import Derived.Test.YtmobcecmjpfpiaaPp1
namespace Go.Ev.W
open Go.Ev Go.Proofs
set_option maxRecDepth 100000
set_option linter.unusedVariables false

noncomputable abbrev laws_FnExactSparseList.s : Sg := ⟨[.lend], [.agg [.int .i64, .int .i64, .int .i64, .int .i64, .int .i64, .sl false false 94, .int .i64, .sl false false 94]], ⟨[vb], [none]⟩, Try.f3⟩
noncomputable def laws_FnExactSparseList.gs (δ : Type) : List (Nat × Callee (GT tab) δ) := [(7, laws_szSparse.k), (8, spec_SparseList.k), (9, laws_toSparse.k), (10, impl_SparseList.k), (11, laws_eqIntS.k), (12, laws_eqSparse.k), (13, laws_markSparse.k), (14, laws_markIntS.k), (15, laws_heldIntS.k)]
theorem laws_FnExactSparseList.gok (δ : Type) : AllCon Try.prog tab (laws_FnExactSparseList.gs δ) := .cons laws_szSparse.con (.cons spec_SparseList.con (.cons laws_toSparse.con (.cons impl_SparseList.con (.cons laws_eqIntS.con (.cons laws_eqSparse.con (.cons laws_markSparse.con (.cons laws_markIntS.con (.cons laws_heldIntS.con .nil))))))))
noncomputable def laws_FnExactSparseList.c := cx laws_FnExactSparseList.s [16] [(16, [1, 4, 6])] false (laws_FnExactSparseList.gs _)
noncomputable def laws_FnExactSparseList (x0 : Int × Int × Int × Int × Int × (List Int) × Int × (List Int)) : Option (Bool) := fnW laws_FnExactSparseList.s laws_FnExactSparseList.c x0
theorem laws_FnExactSparseList.fok : FkS laws_FnExactSparseList.s 3 := ⟨Try.func3, by kernel_rfl, by kernel_rfl⟩
noncomputable def laws_FnExactSparseList.fn (x : Args tab laws_FnExactSparseList.s.ar) : Option (ResT tab laws_FnExactSparseList.s.rs) := laws_FnExactSparseList x
noncomputable abbrev laws_FnExactSparseList.as := laws_FnExactSparseList.s.ar
noncomputable abbrev laws_FnExactSparseList.k {δ : Type} : Callee (GT tab) δ := kS laws_FnExactSparseList.s laws_FnExactSparseList.fn
theorem laws_FnExactSparseList.con {δ : Type} : Con Try.prog (KT tab) 3 (laws_FnExactSparseList.k (δ := δ)) := con_shape (c := laws_FnExactSparseList.c) mixed tysOk (getG_con (laws_FnExactSparseList.gok _)) laws_FnExactSparseList.fok rfl rfl fun _ => rfl
noncomputable def laws_FnExactSparseList_l0 (v0 v1 v2 v3 v4 : Int) (v5 : List Int) (v6 : Int) (v7 v8 v9 : List Int) : Option (Bool) := lpW laws_FnExactSparseList.s laws_FnExactSparseList.c 0 (ud 62 [.undef, .ptr 0 0, .undef, .undef, .sl 1 0, .undef, .sl 2 0]) [.box 28 [.int .i64 v0, .int .i64 v1, .int .i64 v2, .int .i64 v3, .int .i64 v4, .vs false 94 v5, .int .i64 v6, .vs false 94 v7], .row 0 true 3 v8, .row 0 true 3 v9] 3
theorem laws_FnExactSparseList.eq (x0 : Int × Int × Int × Int × Int × (List Int) × Int × (List Int)) : laws_FnExactSparseList x0 =
    (laws_szSparse x0 (1048576 : Int)).bind fun y1 =>
    bif decide (y1 < (0 : Int)) then
      some true
    else
      (laws_toSparse x0).bind fun y2 =>
      (spec_SparseList y2).bind fun y3 =>
      (laws_toSparse x0).bind fun y4 =>
      (impl_SparseList y4).bind fun y5 =>
      (laws_eqIntS y5 y3).bind fun y6 =>
      bif !y6 then
        some false
      else
        (laws_toSparse x0).bind fun y7 =>
        (laws_eqSparse y4 y7).bind fun y8 =>
        bif !y8 then
          some false
        else
          (laws_markSparse y4 (1 : Int)).bind fun y9 =>
          bif decide (y9.1 < (0 : Int)) then
            some false
          else
            (laws_eqIntS y5 y3).bind fun y10 =>
            bif !y10 then
              some false
            else
              laws_FnExactSparseList_l0 x0.1 x0.2.1 x0.2.2.1 x0.2.2.2.1 x0.2.2.2.2.1 x0.2.2.2.2.2.1 x0.2.2.2.2.2.2.1 x0.2.2.2.2.2.2.2 y3 y5 := by kernel_rfl
theorem laws_FnExactSparseList_l0.eq (v0 v1 v2 v3 v4 : Int) (v5 : List Int) (v6 : Int) (v7 v8 v9 : List Int) : laws_FnExactSparseList_l0 v0 v1 v2 v3 v4 v5 v6 v7 v8 v9 =
    (laws_markIntS v9 (1 : Int)).bind fun y1 =>
    (laws_heldIntS y1.2 (1 : Int)).bind fun y2 =>
    bif decide (y2 < (0 : Int)) then
      some false
    else
      bif y2 != y1.1 then
        some false
      else
        (laws_toSparse (v0, v1, v2, v3, v4, v5, v6, v7)).bind fun y3 =>
        (impl_SparseList y3).bind fun y4 =>
        (laws_eqIntS y4 v8).bind fun y5 =>
        bif !y5 then
          some false
        else
          (laws_heldIntS y1.2 (1 : Int)).bind fun y6 =>
          bif decide (y6 < (0 : Int)) then
            some false
          else
            bif y6 != y1.1 then
              some false
            else
              some true := (Lw_eq tysOk (getG_con (laws_FnExactSparseList.gok _)) _ _).trans (by kernel_rfl)

end Go.Ev.W
