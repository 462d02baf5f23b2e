/- FnRelOwn, for every input: it returns true, and each argument reads as it did. -/
import Derived.Test.YtmdkpcneakoagaaGreatRows
import Derived.Test.YtmdkpcneakoagaaGreatWFnRelOwn
import Derived.Test.YtmdkpcneakoagaaGreatMmB
import Derived.WalkKit
import Derived.ProofKit
import Derived.OpenShut
import Derived.ShutString
import Derived.ChangeOld
import Derived.Below
import Derived.SizedLaws
namespace Go.Proofs.YtmdkpcneakoagaaGreat.fnRelOwn
open Go.ChangeShapes Go.WideShapes Go.ChangeAt Go.RowKit Go.Ev Go.Ev.W
open Go.ChangeMaps (open_string shut_string)
set_option linter.unusedVariables false
theorem own : ownKnob Tryz.prog.godebug = none := by kernel_rfl
theorem laidOut : laidOutB Tryz.prog = true := by kernel_rfl
set_option maxRecDepth 100000 in
theorem lifted (os : Os) (started : os.Started) (H : Type) (enc : TypeId × Value → H) :
    ReturnsInHanded {} Tryz.checked os 3 .any (Rows.fnRelOwnSpec.pre6 enc Tryz.prog Tryz.f3 Rows.fnRelOwnRow.domain false) (Rows.fnRelOwnSpec.post enc Tryz.prog Tryz.f3 false true false false) := by
  refine returnsInHanded_of_change_sized (C := Tryz.checked) own started (by kernel_rfl) Tryz.func3
    (ChangeSpec.witness6 (enc := enc) (C := Tryz.checked) false ⟨#[], #[.slice none 0 0], []⟩ 8 (by kernel_rfl) (by kernel_rfl) (by kernel_rfl) (by kernel_rfl)) ?_
  intro W base args ds gs before hval hW hcnd hsz _
  have hW' := hW
  obtain ⟨p, q, hA, hV, rfl, hfz, hnd⟩ := hW
  obtain ⟨rfl, rfl⟩ := trodVars_none hV
  have hlen : ds.length = 1 := (Go.Ev.trod_length hA).trans (by rw [Tryz.params3]; rfl)
  rcases ds with _ | ⟨d0, ds⟩
  · exact absurd hlen (by simp)
  rcases ds with _ | ⟨d1, ds⟩
  rotate_left
  · exact absurd hlen (by simp)
  refine (law_calls (l := tab) (c := Q1N.c) mixed Q0 (Q1 (Q1N.gok _)) Q1N.fok rfl rfl (F := Q1N.fn) (fun _ => rfl) (fun x hx => ⟨true, law_FnRelOwn x hx, rfl⟩) (by kernel_rfl) hval hA).mono fun e W' ⟨he, bel⟩ => ?_
  subst he
  exact ⟨_, rfl, _, _, _, [], _, [], hW', trodAll_mk1 (shut_bool Tryz.underlying4 _), back_all laidOut bel (by kernel_rfl) hA, rfl, bel.frame _, fun h => by cases h⟩
theorem over : Rows.fnRelOwnRow.holds Tryz.pinned (OpenSpec.ofChange Rows.fnRelOwnSpec) :=
  OpenClaim.holds_of_wide 3 Tryz.f3 rfl rfl rfl rfl rfl rfl rfl ⟨rfl, rfl, rfl, rfl, rfl⟩ rfl rfl rfl rfl rfl w1 Tryz.func3 w2 w3 w4
    (fun os started H enc _ => lifted os started H enc)
theorem proved : Rows.FnRelOwnSaid := over
#print axioms proved
end Go.Proofs.YtmdkpcneakoagaaGreat.fnRelOwn
namespace Go.Proofs.YtmdkpcneakoagaaGreat
theorem fnRelOwn_holds : Rows.FnRelOwnSaid := fnRelOwn.proved
end Go.Proofs.YtmdkpcneakoagaaGreat
