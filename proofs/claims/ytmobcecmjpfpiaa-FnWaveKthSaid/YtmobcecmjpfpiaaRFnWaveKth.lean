/- FnWaveKth, for every input: it returns true, and each argument reads as it did. -/
import Derived.Test.YtmobcecmjpfpiaaRows
import Derived.Test.YtmobcecmjpfpiaaWFnWaveKth
import Derived.Test.YtmobcecmjpfpiaaMmB
import Derived.WalkKit
import Derived.ProofKit
import Derived.OpenShut
import Derived.ShutString
import Derived.ChangeOld
import Derived.Below
import Derived.SizedLaws
namespace Go.Proofs.Ytmobcecmjpfpiaa.fnWaveKth
open Go.ChangeShapes Go.WideShapes Go.ChangeAt Go.RowKit Go.Ev Go.Ev.W
open Go.ChangeMaps (open_string shut_string)
set_option linter.unusedVariables false
theorem own : ownKnob Try.prog.godebug = none := by kernel_rfl
theorem laidOut : laidOutB Try.prog = true := by kernel_rfl
set_option maxRecDepth 100000 in
theorem lifted (os : Os) (started : os.Started) (H : Type) (enc : TypeId × Value → H) :
    ReturnsInHanded {} Try.checked os 6 .any (Rows.fnWaveKthSpec.pre6 enc Try.prog Try.f6 Rows.fnWaveKthRow.domain false) (Rows.fnWaveKthSpec.post enc Try.prog Try.f6 false true false false) := by
  refine returnsInHanded_of_change_sized (C := Try.checked) own started (by kernel_rfl) Try.func6
    (ChangeSpec.witness6 (enc := enc) (C := Try.checked) false ⟨#[], #[.slice none 0 0], []⟩ 8 (by kernel_rfl) (by kernel_rfl) (by kernel_rfl) (by kernel_rfl)) ?_
  intro W base args ds gs before hval hW hcnd hsz _
  have hW' := hW
  obtain ⟨p, q, hA, hV, rfl, hfz, hnd⟩ := hW
  obtain ⟨rfl, rfl⟩ := trodVars_none hV
  have hlen : ds.length = 1 := (Go.Ev.trod_length hA).trans (by rw [Try.params6]; rfl)
  rcases ds with _ | ⟨d0, ds⟩
  · exact absurd hlen (by simp)
  rcases ds with _ | ⟨d1, ds⟩
  rotate_left
  · exact absurd hlen (by simp)
  refine (law_calls (l := tab) (c := laws_FnWaveKth.c) mixed tysOk (getG_con (laws_FnWaveKth.gok _)) laws_FnWaveKth.fok rfl rfl (F := laws_FnWaveKth.fn) (fun _ => rfl) (fun x hx => ⟨true, law_FnWaveKth x hx, rfl⟩) (by kernel_rfl) hval hA).mono fun e W' ⟨he, bel⟩ => ?_
  subst he
  exact ⟨_, rfl, _, _, _, [], _, [], hW', trodAll_mk1 (shut_bool Try.underlying4 _), back_all laidOut bel (by kernel_rfl) hA, rfl, bel.frame _, fun h => by cases h⟩
theorem over : Rows.fnWaveKthRow.holds Try.pinned (OpenSpec.ofChange Rows.fnWaveKthSpec) :=
  OpenClaim.holds_of_wide 6 Try.f6 rfl rfl rfl rfl rfl rfl rfl ⟨rfl, rfl, rfl, rfl, rfl⟩ rfl rfl rfl rfl rfl w1 Try.func6 w2 w3 w4
    (fun os started H enc _ => lifted os started H enc)
theorem proved : Rows.FnWaveKthSaid := over
#print axioms proved
end Go.Proofs.Ytmobcecmjpfpiaa.fnWaveKth
namespace Go.Proofs.Ytmobcecmjpfpiaa
/-- The row, under a short name, for the claim. -/
theorem fnWaveKth_holds : Rows.FnWaveKthSaid := fnWaveKth.proved
end Go.Proofs.Ytmobcecmjpfpiaa
