/- What functions of the program come to. -/
import Derived.Test.YtcinoldiilbhmaaGreatPdT
namespace Go.Ev.W
open Go.Ev Go.Proofs
set_option maxRecDepth 100000
set_option linter.unusedVariables false

noncomputable abbrev laws_heldByteS.s : Sg := ⟨[.lend, .lend], [vl 5, vi], ⟨[vi], [none, none]⟩, Tryz.f42⟩
noncomputable def laws_heldByteS.gs (δ : Type) : List (Nat × Callee (GT tab) δ) := []
theorem laws_heldByteS.gok (δ : Type) : AllCon Tryz.prog tab (laws_heldByteS.gs δ) := .nil
noncomputable def laws_heldByteS.c := cx laws_heldByteS.s [] [(2, [0, 1, 5])] false (laws_heldByteS.gs _)
noncomputable def laws_heldByteS (x0 : List Int) (x1 : Int) : Option (Int) := fnW laws_heldByteS.s laws_heldByteS.c (x0, x1)
theorem laws_heldByteS.fok : FkS laws_heldByteS.s 42 := ⟨Tryz.func42, by kernel_rfl, by kernel_rfl⟩
noncomputable def laws_heldByteS.fn (x : Args tab laws_heldByteS.s.ar) : Option (ResT tab laws_heldByteS.s.rs) := laws_heldByteS x.1 x.2
noncomputable abbrev laws_heldByteS.k {δ : Type} : Callee (GT tab) δ := kS laws_heldByteS.s laws_heldByteS.fn
theorem laws_heldByteS.con {δ : Type} : Con Tryz.prog (KT tab) 42 (laws_heldByteS.k (δ := δ)) := con_shape (c := laws_heldByteS.c) mixed tysOk (getG_con (laws_heldByteS.gok _)) laws_heldByteS.fok rfl rfl fun _ => rfl
noncomputable def laws_heldByteS_l0 (v0 : List Int) (v1 v2 : Int) : Option (Int) := lpW laws_heldByteS.s laws_heldByteS.c 0 (ud 16 [.vs false 5 v0, .int .i64 v1, .undef, .undef, .undef, .int .i64 v2]) [] 0
theorem laws_heldByteS.eq (x0 : List Int) (x1 : Int) : laws_heldByteS x0 x1 =
    laws_heldByteS_l0 x0 x1 (0 : Int) := by kernel_rfl
theorem laws_heldByteS_l0.eq (v0 : List Int) (v1 v2 : Int) : laws_heldByteS_l0 v0 v1 v2 =
    bif decide (v2 < (v0.length : Int)) then
      (at? v0 v2).bind fun y1 =>
      bif y1 != IntKind.u8.wrap v1 then
        some (-1 : Int)
      else
        laws_heldByteS_l0 v0 (IntKind.i64.wrap (v1 + (1 : Int))) (IntKind.i64.wrap (v2 + (1 : Int)))
    else
      some v1 := (Lw_eq tysOk (getG_con (laws_heldByteS.gok _)) _ _).trans (by kernel_rfl)

end Go.Ev.W
