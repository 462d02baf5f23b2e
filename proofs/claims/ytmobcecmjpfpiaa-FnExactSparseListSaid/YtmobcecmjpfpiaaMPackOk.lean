/- Packed numbers: which are valid; the law's helpers. -/
import Derived.Test.YtmobcecmjpfpiaaEvC
import Derived.Test.YtmobcecmjpfpiaaPp1
import Derived.Test.YtmobcecmjpfpiaaPp2
import Derived.Test.YtmobcecmjpfpiaaMBits
import Derived.Test.YtmobcecmjpfpiaaMLaw2
set_option linter.unusedVariables false
set_option linter.unusedSimpArgs false
namespace Go.Ev.W
open Go.Ev

def pOk (w n b : Int) (W : List Nat) : Bool := decide (0 ≤ w) && decide (w ≤ 32) && (decide (0 ≤ n) && decide (n ≤ 5000)) && vOk b W && decide (b = w * n)
theorem mul_le (w n : Int) (h1 : 0 ≤ w) (h2 : w ≤ 32) (h3 : 0 ≤ n) (h4 : n ≤ 5000) : 0 ≤ w * n ∧ w * n ≤ 160000 := by
  refine ⟨Int.mul_nonneg h1 h3, ?_⟩
  have := Int.mul_le_mul h2 h4 h3 (by omega)
  omega
theorem specPackOk_eq (w n b : Int) (W : List Nat) (hl : W.length ≤ 1048576) (hx : ∀ x ∈ W, x < 2 ^ 64) : spec_PackOk (w, n, b, ints W) = some (pOk w n b W) := by
  rw [spec_PackOk.eq]
  unfold pOk
  simp only [specBitsOk_eq b W hl hx, Option.bind_some]
  by_cases h1 : 0 ≤ w
  · rw [bif_dec (show w ≥ 0 from h1), decide_eq_true h1]
    by_cases h2 : w ≤ 32
    · rw [bif_dec h2, decide_eq_true h2]
      by_cases h3 : 0 ≤ n
      · rw [bif_dec (show n ≥ 0 from h3), decide_eq_true h3]
        by_cases h4 : n ≤ 5000
        · have hm := mul_le w n h1 h2 h3 h4
          rw [bif_dec h4, decide_eq_true h4, wrapI (by omega) (by omega), beq_dec]
          cases vOk b W <;> rfl
        · rw [bif_ndec h4, decide_eq_false h4]; rfl
      · rw [bif_ndec (show ¬ n ≥ 0 from h3), decide_eq_false h3]; rfl
    · rw [bif_ndec h2, decide_eq_false h2]; rfl
  · rw [bif_ndec (show ¬ w ≥ 0 from h1), decide_eq_false h1]; rfl
theorem implPackOk_eq (w n b : Int) (W : List Nat) (hl : W.length ≤ 1048576) (hx : ∀ x ∈ W, x < 2 ^ 64) : impl_PackOk (w, n, b, ints W) = some (pOk w n b W) := by
  rw [impl_PackOk.eq]
  unfold pOk
  simp only [implBitsOk_eq b W hl hx, withinN_eq, Option.bind_some]
  by_cases h1 : 0 ≤ w ∧ w ≤ 32
  · rw [decide_eq_true h1.1, decide_eq_true h1.2]
    by_cases h2 : 0 ≤ n ∧ n ≤ 5000
    · have hm := mul_le w n h1.1 h1.2 h2.1 h2.2
      rw [decide_eq_true h2.1, decide_eq_true h2.2, Int.mul_comm n w, wrapI (by omega) (by omega), beq_dec]
      cases vOk b W <;> rfl
    · rw [show (decide (0 ≤ n) && decide (n ≤ 5000)) = false by simp only [Bool.and_eq_false_iff, decide_eq_false_iff_not]; omega]; rfl
  · rw [show (decide (0 ≤ w) && decide (w ≤ 32)) = false by simp only [Bool.and_eq_false_iff, decide_eq_false_iff_not]; omega]; rfl

theorem eqPacked_eq (a b c : Int) (x : List Int) (d e f : Int) (y : List Int) (h : x.length < 4611686018427387904) : laws_eqPacked (a, b, c, x) (d, e, f, y) = some (decide ((a, b, c, x) = (d, e, f, y))) := by
  rw [laws_eqPacked.eq]
  by_cases h1 : a = d
  · rw [bif_nne h1]
    by_cases h2 : b = e
    · rw [bif_nne h2]
      try simp only
      rw [eqBits_eq _ _ _ _ h, Option.bind_some]
      by_cases h3 : (c, x) = (f, y)
      · rw [decide_eq_true h3, decide_eq_true (by rw [h1, h2, h3])]; rfl
      · rw [decide_eq_false h3, decide_eq_false (by intro h; exact h3 (Prod.mk.inj (Prod.mk.inj h).2).2)]; rfl
    · rw [bif_ne h2, decide_eq_false (by intro h; exact h2 (Prod.mk.inj (Prod.mk.inj h).2).1)]
  · rw [bif_ne h1, decide_eq_false (by intro h; exact h1 (Prod.mk.inj h).1)]
theorem markPacked_eq (a b c : Int) (xs : List Int) (k : Int) (hk : 0 ≤ k) (h : k + (xs.length : Int) < 4611686018427387904) : laws_markPacked (a, b, c, xs) k = some (k + xs.length, (a, b, c, markF IntKind.u64.wrap k xs.length)) := by
  rw [laws_markPacked.eq, markBits_eq _ _ _ hk h, Option.bind_some]
end Go.Ev.W
