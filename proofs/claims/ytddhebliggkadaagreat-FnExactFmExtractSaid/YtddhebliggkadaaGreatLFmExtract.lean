/- The law of FmExtract. -/
import Derived.Test.YtddhebliggkadaaGreatEvC
import Derived.Test.YtddhebliggkadaaGreatPc1
import Derived.Test.YtddhebliggkadaaGreatPc19
import Derived.Test.YtddhebliggkadaaGreatPc20
import Derived.Test.YtddhebliggkadaaGreatMFmOcc
set_option linter.unusedVariables false
set_option linter.unusedSimpArgs false
namespace Go.Ev.W
open Go.Ev
theorem isRange_eq (x y n : Int) : impl_isRange x y n = some (decide (0 ≤ x) && (decide (x ≤ y) && decide (y ≤ n))) := by
  rw [impl_isRange.eq]
  cases decide (0 ≤ x) <;> cases decide (x ≤ y) <;> rfl
theorem clone_eq (x : List Int) (h : x.length ≤ 1048576) : bytes_Clone x = some x := by
  have e : (bif decide ((([] : List Int).length + x.length) * 1 ≤ 140737488355328) then some (([] : List Int) ++ x) else none) = some x := by
    rw [bif_dec (by simp only [List.length_nil]; omega)]; rfl
  rw [bytes_Clone.eq, e]
  cases x with
  | nil => exact both_self _
  | cons y ys => rfl
theorem fmExtract_both (f : FmT) (hf : SmFm f 1048576) (hx : ∀ p ∈ f.2.2.2.2.1, ∀ x ∈ p.2, 0 ≤ x ∧ x < ((2 ^ 64 : Nat) : Int)) (i j : Int) : ∃ R b, spec_FmExtract f i j = some (R, b) ∧ impl_FmExtract f i j = some (R, b) ∧ R.length ≤ 300 := by
  obtain ⟨v, D, t, h1, h2, h3⟩ := fmRead_eq f hf hx
  rw [spec_FmExtract.eq, impl_FmExtract.eq]
  show ∃ R b, (spec_l09Text f).bind _ = _ ∧ (impl_Fm_read f).bind _ = _ ∧ _
  cases v with
  | false =>
    rw [show spec_l09Text f = some (([] : List Int), false) from h1, show impl_Fm_read f = some (t, false) from h2]
    exact ⟨[], false, rfl, rfl, by simp⟩
  | true =>
    obtain ⟨⟨d1, d2, _⟩, _⟩ := h3 rfl
    rw [show spec_l09Text f = some (ints D, true) from h1, show impl_Fm_read f = some (ints D, true) from h2, Option.bind_some, Option.bind_some]
    simp only [bif_true, Bool.not_true, bif_false, isRange_eq, ints_len, Option.bind_some]
    by_cases c1 : i < 0
    · rw [bif_dec c1, decide_eq_false (show ¬ 0 ≤ i by omega)]; exact ⟨[], false, rfl, rfl, by simp⟩
    rw [bif_ndec c1, decide_eq_true (show 0 ≤ i by omega), Bool.true_and]
    by_cases c2 : i > j
    · rw [bif_dec c2, decide_eq_false (show ¬ i ≤ j by omega)]; exact ⟨[], false, rfl, rfl, by simp⟩
    rw [bif_ndec c2, decide_eq_true (show i ≤ j by omega), Bool.true_and]
    by_cases c3 : j > (D.length : Int)
    · rw [bif_dec c3, decide_eq_false (show ¬ j ≤ (D.length : Int) by omega)]; exact ⟨[], false, rfl, rfl, by simp⟩
    have hRl : (((ints D).drop i.toNat).take (j.toNat - i.toNat)).length ≤ 300 := by
      rw [List.length_take, List.length_drop, ints_len]; omega
    rw [bif_ndec c3, decide_eq_true (show j ≤ (D.length : Int) by omega), Bool.not_true, bif_false, bif_dec (by omega), bif_dec (by omega), bif_dec (by simp only [List.length_nil]; omega), bif_dec (by omega), bif_dec (by omega), clone_eq _ (by omega)]
    exact ⟨_, true, rfl, rfl, hRl⟩
theorem law_FmExtract (x : FmT × Int × Int) (hx : goodA tab laws_FnExactFmExtract.as x) : laws_FnExactFmExtract.fn x = some true := by
  obtain ⟨f, i, j⟩ := x
  show laws_FnExactFmExtract f i j = some true
  have hz : f.2.2.2.1.length ≤ maxLen := hx.1.2.2.2.1.1
  have hl : f.2.2.2.2.1.length ≤ maxLen := hx.1.2.2.2.2.1.1
  have hw : ∀ p ∈ f.2.2.2.2.1, p.2.length ≤ maxLen := fun p hp => (hx.1.2.2.2.2.1.2 p hp).2.1
  have hw2 : ∀ p ∈ f.2.2.2.2.1, ∀ x ∈ p.2, 0 ≤ x ∧ x < ((2 ^ 64 : Nat) : Int) := fun p hp => words_in (d := 2) (hx.1.2.2.2.2.1.2 p hp).2
  have hc : f.2.2.2.2.2.1.length ≤ maxLen := hx.1.2.2.2.2.2.1.1
  have hm : f.2.2.2.2.2.2.2.1.length ≤ maxLen := hx.1.2.2.2.2.2.2.2.1.1
  have hss : f.2.2.2.2.2.2.2.2.2.2.2.1.length ≤ maxLen := hx.1.2.2.2.2.2.2.2.2.2.2.2.1.1
  have hii : f.2.2.2.2.2.2.2.2.2.2.2.2.2.2.2.length ≤ maxLen := hx.1.2.2.2.2.2.2.2.2.2.2.2.2.2.2.2.1
  obtain ⟨r, h1, h2⟩ := szFm_ok f hz hl hw hc hm hss hii
  rw [laws_FnExactFmExtract.eq]
  show (laws_szFm f 1048576).bind _ = _
  rw [h1, Option.bind_some]
  rcases h2 with h2 | ⟨h2, hg⟩
  · rw [bif_dec h2]
  rw [bif_ndec h2]
  obtain ⟨R, b, hsp, him, hR⟩ := fmExtract_both f hg.sm hw2 i j
  have ht := toFm_eq f hg
  have he := eqFm_eq f f hg
  rw [decide_eq_true rfl] at he
  obtain ⟨m, g, hm1, hm2, _⟩ := markFm_ok f hg
  have hm3 : decide (m < 0) = false := decide_eq_false (by omega)
  obtain ⟨a1, a2, a3, a4, a5, a6, a7, a8, a9, a10, a11, a12, a13, a14, a15, a16⟩ := f
  simp (disch := omega) only [ht, hsp, him, he, hm1, hm3, eqByteS_eq, markByteS_eq, heldByteS_eq, laws_FnExactFmExtract_l0.eq, laws_FnExactFmExtract_l1.eq, laws_FnExactFmExtract_l2.eq, Option.bind_some, bne_self_eq_false, beq_self_eq_true, bif_false, decide_true, Bool.not_true, one_lt]
end Go.Ev.W
