/- What functions of the program come to. -/
import Derived.Test.YtddhebliggkadaaGreatPqT
import Derived.Test.YtddhebliggkadaaGreatPq1
import Derived.Test.YtddhebliggkadaaGreatPq2
import Derived.Test.YtddhebliggkadaaGreatPq8
namespace Go.Ev.W
open Go.Ev Go.Proofs
set_option maxRecDepth 100000
set_option linter.unusedVariables false

noncomputable abbrev laws_FnFmBytes.s : Sg := ⟨[.lend], [vl 5], ⟨[vb], [none]⟩, Tryz.f13⟩
noncomputable def laws_FnFmBytes.gs (δ : Type) : List (Nat × Callee (GT tab) δ) := [(15, laws_big.k), (19, spec_FmText.k), (48, spec_DrawFmBytes.k), (49, impl_FmBytes.k), (50, spec_FmOk.k), (51, impl_FmRead.k), (52, laws_bytesOf.k), (53, laws_pick.k)]
theorem laws_FnFmBytes.gok (δ : Type) : AllCon Tryz.prog tab (laws_FnFmBytes.gs δ) := .cons laws_big.con (.cons spec_FmText.con (.cons spec_DrawFmBytes.con (.cons impl_FmBytes.con (.cons spec_FmOk.con (.cons impl_FmRead.con (.cons laws_bytesOf.con (.cons laws_pick.con .nil)))))))
noncomputable def laws_FnFmBytes.c := cx laws_FnFmBytes.s [10] [(10, [0, 4])] false (laws_FnFmBytes.gs _)
noncomputable def laws_FnFmBytes (x0 : List Int) : Option (Bool) := fnW laws_FnFmBytes.s laws_FnFmBytes.c x0
theorem laws_FnFmBytes.fok : FkS laws_FnFmBytes.s 13 := ⟨Tryz.func13, by kernel_rfl, by kernel_rfl⟩
noncomputable def laws_FnFmBytes.fn (x : Args tab laws_FnFmBytes.s.ar) : Option (ResT tab laws_FnFmBytes.s.rs) := laws_FnFmBytes x
noncomputable abbrev laws_FnFmBytes.as := laws_FnFmBytes.s.ar
noncomputable def laws_FnFmBytes_l0 (v0 v1 : List Int) : Option (Bool) := lpW laws_FnFmBytes.s laws_FnFmBytes.c 0 (ud 68 [.vs false 5 v0, .undef, .undef, .undef, .sl 0 0]) [.row 0 true 5 v1] 1
theorem laws_FnFmBytes.eq (x0 : List Int) : laws_FnFmBytes x0 =
    (laws_big x0).bind fun y1 =>
    bif y1 then
      some true
    else
      (spec_DrawFmBytes x0).bind fun y2 =>
      (spec_DrawFmBytes x0).bind fun y3 =>
      (impl_FmBytes y3).bind fun y4 =>
      (spec_FmOk y2).bind fun y5 =>
      bif !y5 then
        some ((y4.length : Int) == (0 : Int))
      else
        (laws_bytesOf y4).bind fun y6 =>
        (impl_FmRead y6).bind fun y7 =>
        bif !y7.2 then
          some false
        else
          (spec_FmText y7.1).bind fun y8 =>
          (spec_FmText y2).bind fun y9 =>
          bif !((strOf (y8.map fun x => x)).toList == (strOf (y9.map fun x => x)).toList) then
            some false
          else
            bif y7.1.2.1 != y2.2.1 then
              some false
            else
              bif (y4.length : Int) == (0 : Int) then
                some false
              else
                laws_FnFmBytes_l0 x0 y4 := by kernel_rfl
theorem laws_FnFmBytes_l0.eq (v0 v1 : List Int) : laws_FnFmBytes_l0 v0 v1 =
    (laws_pick v0 (3 : Int) (v1.length : Int)).bind fun y1 =>
    (at? v1 y1).bind fun y2 =>
    v1[y1.toNat]?.bind fun y3 =>
    (laws_pick v0 (4 : Int) (255 : Int)).bind fun y4 =>
    (at? v1 y1).bind fun y5 =>
    v1[y1.toNat]?.bind fun y6 =>
    (impl_FmRead (v1.set y1.toNat (IntKind.u8.wrap (y3 + (IntKind.u8.wrap (IntKind.i64.wrap ((1 : Int) + y4))))))).bind fun y7 =>
    some (!y7.2) := (Lw_eq tysOk (getG_con (laws_FnFmBytes.gok _)) _ _).trans (by kernel_rfl)

end Go.Ev.W
