/- The text of a transform: both walks. -/
import Derived.Test.YtmobcecmjpfpiaaEvC
import Derived.Test.YtmobcecmjpfpiaaMBwtText
set_option linter.unusedVariables false
set_option linter.unusedSimpArgs false
namespace Go.Ev.W
open Go.Ev

def tFin (X t : List Nat) : List Int × Bool := bif decide (bwt t = X) then (ints t, true) else ([], false)
theorem ints_inj' {X Y : List Nat} (h : ints X = ints Y) : X = Y := by
  have := congrArg (List.map Int.toNat) h
  unfold ints at this
  rw [List.map_map, List.map_map] at this
  have e : (Int.toNat ∘ fun (x : Nat) => (x : Int)) = id := by funext x; simp
  rw [e, List.map_id, List.map_id] at this
  exact this
theorem dec_ints (X Y : List Nat) : decide (ints X = ints Y) = decide (X = Y) := by
  by_cases h : X = Y
  · rw [h]; simp
  · rw [decide_eq_false h, decide_eq_false fun h2 => h (ints_inj' h2)]
end Go.Ev.W
