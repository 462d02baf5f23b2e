/- What functions of the program come to. -/
import Derived.Test.YtcinoldiilbhmaaGreatPdT
import Derived.Test.YtcinoldiilbhmaaGreatPd1
import Derived.Test.YtcinoldiilbhmaaGreatPd2
import Derived.Test.YtcinoldiilbhmaaGreatPd8
namespace Go.Ev.W
open Go.Ev Go.Proofs
set_option maxRecDepth 100000
set_option linter.unusedVariables false

noncomputable abbrev laws_FnExactRelRank.s : Sg := ⟨[.lend, .lend, .lend, .lend], [.agg [.int .i64, .int .i64, .int .i64, .sl false false 3, .sl false false 28, .sl false false 3, .int .i64, .sl false false 157, .int .i64, .int .i64, .int .i64, .sl false false 157, .int .i64, .int .i64, .int .i64, .sl false false 157], .agg [.int .i64, .int .i64, .int .i64, .sl false false 157, .int .i64, .sl false false 157, .int .i64, .sl false false 3, .sl false false 28, .int .i64, .sl false false 3, .sl false false 28, .sl false false 3, .int .i64, .sl false false 157, .int .i64, .int .i64, .int .i64, .sl false false 157, .int .i64, .int .i64, .int .i64, .sl false false 157], vi, vi], ⟨[vb], [none, none, none, none]⟩, Tryz.f5⟩
noncomputable def laws_FnExactRelRank.gs (δ : Type) : List (Nat × Callee (GT tab) δ) := [(15, laws_szFm.k), (16, laws_szRel.k), (18, laws_toFm.k), (19, laws_toRel.k), (21, laws_eqFm.k), (22, laws_eqRel.k), (25, spec_RelRank.k), (26, impl_RelRank.k)]
theorem laws_FnExactRelRank.gok (δ : Type) : AllCon Tryz.prog tab (laws_FnExactRelRank.gs δ) := .cons laws_szFm.con (.cons laws_szRel.con (.cons laws_toFm.con (.cons laws_toRel.con (.cons laws_eqFm.con (.cons laws_eqRel.con (.cons spec_RelRank.con (.cons impl_RelRank.con .nil)))))))
noncomputable def laws_FnExactRelRank.c := cx laws_FnExactRelRank.s [] [] false (laws_FnExactRelRank.gs _)
noncomputable def laws_FnExactRelRank (x0 : Int × Int × Int × (List Int) × (List (Int × (List Int))) × (List Int) × Int × (List Int) × Int × Int × Int × (List Int) × Int × Int × Int × (List Int)) (x1 : Int × Int × Int × (List Int) × Int × (List Int) × Int × (List Int) × (List (Int × (List Int))) × Int × (List Int) × (List (Int × (List Int))) × (List Int) × Int × (List Int) × Int × Int × Int × (List Int) × Int × Int × Int × (List Int)) (x2 x3 : Int) : Option (Bool) := fnW laws_FnExactRelRank.s laws_FnExactRelRank.c (x0, x1, x2, x3)
theorem laws_FnExactRelRank.fok : FkS laws_FnExactRelRank.s 5 := ⟨Tryz.func5, by kernel_rfl, by kernel_rfl⟩
noncomputable def laws_FnExactRelRank.fn (x : Args tab laws_FnExactRelRank.s.ar) : Option (ResT tab laws_FnExactRelRank.s.rs) := laws_FnExactRelRank x.1 x.2.1 x.2.2.1 x.2.2.2
noncomputable abbrev laws_FnExactRelRank.as := laws_FnExactRelRank.s.ar
theorem laws_FnExactRelRank.eq (x0 : Int × Int × Int × (List Int) × (List (Int × (List Int))) × (List Int) × Int × (List Int) × Int × Int × Int × (List Int) × Int × Int × Int × (List Int)) (x1 : Int × Int × Int × (List Int) × Int × (List Int) × Int × (List Int) × (List (Int × (List Int))) × Int × (List Int) × (List (Int × (List Int))) × (List Int) × Int × (List Int) × Int × Int × Int × (List Int) × Int × Int × Int × (List Int)) (x2 x3 : Int) : laws_FnExactRelRank x0 x1 x2 x3 =
    (laws_szFm x0 (1048576 : Int)).bind fun y1 =>
    bif decide (y1 < (0 : Int)) then
      some true
    else
      (laws_szRel x1 y1).bind fun y2 =>
      bif decide (y2 < (0 : Int)) then
        some true
      else
        (laws_toFm x0).bind fun y3 =>
        (laws_toRel x1).bind fun y4 =>
        (spec_RelRank y3 y4 x2 x3).bind fun y5 =>
        (laws_toFm x0).bind fun y6 =>
        (laws_toRel x1).bind fun y7 =>
        (impl_RelRank y6 y7 x2 x3).bind fun y8 =>
        bif y8 != y5 then
          some false
        else
          (laws_toFm x0).bind fun y9 =>
          (laws_eqFm y6 y9).bind fun y10 =>
          bif !y10 then
            some false
          else
            (laws_toRel x1).bind fun y11 =>
            (laws_eqRel y7 y11).bind fun y12 =>
            bif !y12 then
              some false
            else
              some true := by kernel_rfl

end Go.Ev.W
