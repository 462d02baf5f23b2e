/- Packed numbers: which are valid; the law's helpers. -/
import Derived.Test.YtddhebliggkadaaGreatEvC
import Derived.Test.YtddhebliggkadaaGreatPc17
import Derived.Test.YtddhebliggkadaaGreatPc2
import Derived.Test.YtddhebliggkadaaGreatPc24
import Derived.Test.YtddhebliggkadaaGreatMBits
import Derived.Test.YtddhebliggkadaaGreatMLaw2
set_option linter.unusedVariables false
set_option linter.unusedSimpArgs false
namespace Go.Ev.W
open Go.Ev

theorem eqPacked_eq (a b c : Int) (x : List Int) (d e f : Int) (y : List Int) (h : x.length < 4611686018427387904) : laws_eqPacked (a, b, c, x) (d, e, f, y) = some (decide ((a, b, c, x) = (d, e, f, y))) := by
  rw [laws_eqPacked.eq]
  by_cases h1 : a = d
  · rw [bif_nne h1]
    by_cases h2 : b = e
    · rw [bif_nne h2]
      simp only
      rw [eqBits_eq _ _ _ _ h, Option.bind_some]
      by_cases h3 : (c, x) = (f, y)
      · rw [decide_eq_true h3, decide_eq_true (by rw [h1, h2, h3])]; rfl
      · rw [decide_eq_false h3, decide_eq_false (by intro h; exact h3 (Prod.mk.inj (Prod.mk.inj h).2).2)]; rfl
    · rw [bif_ne h2, decide_eq_false (by intro h; exact h2 (Prod.mk.inj (Prod.mk.inj h).2).1)]
  · rw [bif_ne h1, decide_eq_false (by intro h; exact h1 (Prod.mk.inj h).1)]
theorem markPacked_eq (a b c : Int) (xs : List Int) (k : Int) (hk : 0 ≤ k) (h : k + (xs.length : Int) < 4611686018427387904) : laws_markPacked (a, b, c, xs) k = some (k + xs.length, (a, b, c, markF IntKind.u64.wrap k xs.length)) := by
  rw [laws_markPacked.eq, markBits_eq _ _ _ hk h, Option.bind_some]
end Go.Ev.W
