/- What the laws' own helpers come to: lists of bit vectors, waves. -/
import Derived.Test.YtmobcecmjpfpiaaEvC
import Derived.Test.YtmobcecmjpfpiaaMBits
import Derived.Test.YtmobcecmjpfpiaaMLaw2
set_option linter.unusedVariables false
set_option linter.unusedSimpArgs false
namespace Go.Ev.W
open Go.Ev

abbrev Lv := List (Int × List Int)
theorem sum_ge {L : List Nat} {x : Nat} (h : x ∈ L) : x ≤ L.sum := by
  induction L with
  | nil => cases h
  | cons y L ih =>
    rw [List.sum_cons]
    rcases List.mem_cons.1 h with rfl | h
    · omega
    · have := ih h; omega
/-- What a law's guard gives. -/
structure Small (Z : List Int) (L : Lv) : Prop where
  z : Z.length ≤ 1048576
  l : L.length ≤ 1048576
  w : ∀ p ∈ L, p.2.length ≤ 1048576
  s : Z.length + L.length + (L.map fun p => p.2.length).sum ≤ 1048576
end Go.Ev.W
