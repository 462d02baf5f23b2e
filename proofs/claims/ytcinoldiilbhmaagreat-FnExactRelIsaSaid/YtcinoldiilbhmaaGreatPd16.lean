/- What functions of the program come to. -/
import Derived.Test.YtcinoldiilbhmaaGreatPdT
import Derived.Test.YtcinoldiilbhmaaGreatPd1
import Derived.Test.YtcinoldiilbhmaaGreatPd15
import Derived.Test.YtcinoldiilbhmaaGreatPd2
namespace Go.Ev.W
open Go.Ev Go.Proofs
set_option maxRecDepth 100000
set_option linter.unusedVariables false

noncomputable abbrev laws_FnExactRelIsa.s : Sg := ⟨[.lend, .lend, .lend], [.agg [.int .i64, .int .i64, .int .i64, .sl false false 3, .sl false false 28, .sl false false 3, .int .i64, .sl false false 157, .int .i64, .int .i64, .int .i64, .sl false false 157, .int .i64, .int .i64, .int .i64, .sl false false 157], .agg [.int .i64, .int .i64, .int .i64, .sl false false 157, .int .i64, .sl false false 157, .int .i64, .sl false false 3, .sl false false 28, .int .i64, .sl false false 3, .sl false false 28, .sl false false 3, .int .i64, .sl false false 157, .int .i64, .int .i64, .int .i64, .sl false false 157, .int .i64, .int .i64, .int .i64, .sl false false 157], vi], ⟨[vb], [none, none, none]⟩, Tryz.f8⟩
noncomputable def laws_FnExactRelIsa.gs (δ : Type) : List (Nat × Callee (GT tab) δ) := [(15, laws_szFm.k), (16, laws_szRel.k), (18, laws_toFm.k), (19, laws_toRel.k), (21, laws_eqFm.k), (22, laws_eqRel.k), (31, spec_RelIsa.k), (32, impl_RelIsa.k)]
theorem laws_FnExactRelIsa.gok (δ : Type) : AllCon Tryz.prog tab (laws_FnExactRelIsa.gs δ) := .cons laws_szFm.con (.cons laws_szRel.con (.cons laws_toFm.con (.cons laws_toRel.con (.cons laws_eqFm.con (.cons laws_eqRel.con (.cons spec_RelIsa.con (.cons impl_RelIsa.con .nil)))))))
noncomputable def laws_FnExactRelIsa.c := cx laws_FnExactRelIsa.s [] [] false (laws_FnExactRelIsa.gs _)
noncomputable def laws_FnExactRelIsa (x0 : Int × Int × Int × (List Int) × (List (Int × (List Int))) × (List Int) × Int × (List Int) × Int × Int × Int × (List Int) × Int × Int × Int × (List Int)) (x1 : Int × Int × Int × (List Int) × Int × (List Int) × Int × (List Int) × (List (Int × (List Int))) × Int × (List Int) × (List (Int × (List Int))) × (List Int) × Int × (List Int) × Int × Int × Int × (List Int) × Int × Int × Int × (List Int)) (x2 : Int) : Option (Bool) := fnW laws_FnExactRelIsa.s laws_FnExactRelIsa.c (x0, x1, x2)
theorem laws_FnExactRelIsa.fok : FkS laws_FnExactRelIsa.s 8 := ⟨Tryz.func8, by kernel_rfl, by kernel_rfl⟩
noncomputable def laws_FnExactRelIsa.fn (x : Args tab laws_FnExactRelIsa.s.ar) : Option (ResT tab laws_FnExactRelIsa.s.rs) := laws_FnExactRelIsa x.1 x.2.1 x.2.2
noncomputable abbrev laws_FnExactRelIsa.as := laws_FnExactRelIsa.s.ar
theorem laws_FnExactRelIsa.eq (x0 : Int × Int × Int × (List Int) × (List (Int × (List Int))) × (List Int) × Int × (List Int) × Int × Int × Int × (List Int) × Int × Int × Int × (List Int)) (x1 : Int × Int × Int × (List Int) × Int × (List Int) × Int × (List Int) × (List (Int × (List Int))) × Int × (List Int) × (List (Int × (List Int))) × (List Int) × Int × (List Int) × Int × Int × Int × (List Int) × Int × Int × Int × (List Int)) (x2 : Int) : laws_FnExactRelIsa x0 x1 x2 =
    (laws_szFm x0 (1048576 : Int)).bind fun y1 =>
    bif decide (y1 < (0 : Int)) then
      some true
    else
      (laws_szRel x1 y1).bind fun y2 =>
      bif decide (y2 < (0 : Int)) then
        some true
      else
        (laws_toFm x0).bind fun y3 =>
        (laws_toRel x1).bind fun y4 =>
        (spec_RelIsa y3 y4 x2).bind fun y5 =>
        (laws_toFm x0).bind fun y6 =>
        (laws_toRel x1).bind fun y7 =>
        (impl_RelIsa y6 y7 x2).bind fun y8 =>
        bif y8 != y5 then
          some false
        else
          (laws_toFm x0).bind fun y9 =>
          (laws_eqFm y6 y9).bind fun y10 =>
          bif !y10 then
            some false
          else
            (laws_toRel x1).bind fun y11 =>
            (laws_eqRel y7 y11).bind fun y12 =>
            bif !y12 then
              some false
            else
              some true := by kernel_rfl

end Go.Ev.W
