/- What functions of the program come to. -/
import Derived.Test.YtcinoldiilbhmaaGreatPdT
namespace Go.Ev.W
open Go.Ev Go.Proofs
set_option maxRecDepth 100000
set_option linter.unusedVariables false

noncomputable abbrev laws_eqByteS.s : Sg := ⟨[.lend, .lend], [vl 5, vl 5], ⟨[vb], [none, none]⟩, Tryz.f36⟩
noncomputable def laws_eqByteS.gs (δ : Type) : List (Nat × Callee (GT tab) δ) := []
theorem laws_eqByteS.gok (δ : Type) : AllCon Tryz.prog tab (laws_eqByteS.gs δ) := .nil
noncomputable def laws_eqByteS.c := cx laws_eqByteS.s [] [(4, [0, 1, 5])] false (laws_eqByteS.gs _)
noncomputable def laws_eqByteS (x0 x1 : List Int) : Option (Bool) := fnW laws_eqByteS.s laws_eqByteS.c (x0, x1)
theorem laws_eqByteS.fok : FkS laws_eqByteS.s 36 := ⟨Tryz.func36, by kernel_rfl, by kernel_rfl⟩
noncomputable def laws_eqByteS.fn (x : Args tab laws_eqByteS.s.ar) : Option (ResT tab laws_eqByteS.s.rs) := laws_eqByteS x.1 x.2
noncomputable abbrev laws_eqByteS.k {δ : Type} : Callee (GT tab) δ := kS laws_eqByteS.s laws_eqByteS.fn
theorem laws_eqByteS.con {δ : Type} : Con Tryz.prog (KT tab) 36 (laws_eqByteS.k (δ := δ)) := con_shape (c := laws_eqByteS.c) mixed tysOk (getG_con (laws_eqByteS.gok _)) laws_eqByteS.fok rfl rfl fun _ => rfl
noncomputable def laws_eqByteS_l0 (v0 v1 : List Int) (v2 : Int) : Option (Bool) := lpW laws_eqByteS.s laws_eqByteS.c 0 (ud 20 [.vs false 5 v0, .vs false 5 v1, .undef, .undef, .undef, .int .i64 v2]) [] 0
theorem laws_eqByteS.eq (x0 x1 : List Int) : laws_eqByteS x0 x1 =
    bif (x0.length : Int) != (x1.length : Int) then
      some false
    else
      laws_eqByteS_l0 x0 x1 (0 : Int) := by kernel_rfl
theorem laws_eqByteS_l0.eq (v0 v1 : List Int) (v2 : Int) : laws_eqByteS_l0 v0 v1 v2 =
    bif decide (v2 < (v0.length : Int)) then
      (at? v0 v2).bind fun y1 =>
      (at? v1 v2).bind fun y2 =>
      bif y1 != y2 then
        some false
      else
        laws_eqByteS_l0 v0 v1 (IntKind.i64.wrap (v2 + (1 : Int)))
    else
      some true := (Lw_eq tysOk (getG_con (laws_eqByteS.gok _)) _ _).trans (by kernel_rfl)

end Go.Ev.W
