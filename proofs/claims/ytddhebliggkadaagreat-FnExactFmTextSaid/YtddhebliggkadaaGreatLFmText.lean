/- The law of FmText. -/
import Derived.Test.YtddhebliggkadaaGreatEvC
import Derived.Test.YtddhebliggkadaaGreatPc1
import Derived.Test.YtddhebliggkadaaGreatPc16
import Derived.Test.YtddhebliggkadaaGreatPc19
import Derived.Test.YtddhebliggkadaaGreatPc2
import Derived.Test.YtddhebliggkadaaGreatMFm4
set_option linter.unusedVariables false
set_option linter.unusedSimpArgs false
namespace Go.Ev.W
open Go.Ev
theorem fmText_both (f : FmT) (hf : SmFm f 1048576) (hx : ∀ p ∈ f.2.2.2.2.1, ∀ x ∈ p.2, 0 ≤ x ∧ x < ((2 ^ 64 : Nat) : Int)) : ∃ R, spec_FmText f = some R ∧ impl_FmText f = some R ∧ R.length ≤ 300 := by
  obtain ⟨v, D, t, h1, h2, h3⟩ := fmRead_eq f hf hx
  rw [spec_FmText.eq, impl_FmText.eq]
  show ∃ R, (spec_l09Text f).bind _ = _ ∧ (impl_Fm_read f).bind _ = _ ∧ _
  cases v with
  | false =>
    rw [show spec_l09Text f = some (([] : List Int), false) from h1, show impl_Fm_read f = some (t, false) from h2]
    exact ⟨[], rfl, rfl, by simp⟩
  | true =>
    obtain ⟨⟨d1, d2, _⟩, _⟩ := h3 rfl
    rw [show spec_l09Text f = some (ints D, true) from h1, show impl_Fm_read f = some (ints D, true) from h2, Option.bind_some, Option.bind_some]
    exact ⟨ints D, rfl, rfl, by rw [ints_len]; exact d1⟩
theorem law_FmText (f : FmT) (hx : goodA tab laws_FnExactFmText.as f) : laws_FnExactFmText.fn f = some true := by
  show laws_FnExactFmText f = some true
  have hz : f.2.2.2.1.length ≤ maxLen := hx.2.2.2.1.1
  have hl : f.2.2.2.2.1.length ≤ maxLen := hx.2.2.2.2.1.1
  have hw : ∀ p ∈ f.2.2.2.2.1, p.2.length ≤ maxLen := fun p hp => (hx.2.2.2.2.1.2 p hp).2.1
  have hw2 : ∀ p ∈ f.2.2.2.2.1, ∀ x ∈ p.2, 0 ≤ x ∧ x < ((2 ^ 64 : Nat) : Int) := fun p hp => words_in (d := 2) (hx.2.2.2.2.1.2 p hp).2
  have hc : f.2.2.2.2.2.1.length ≤ maxLen := hx.2.2.2.2.2.1.1
  have hm : f.2.2.2.2.2.2.2.1.length ≤ maxLen := hx.2.2.2.2.2.2.2.1.1
  have hs : f.2.2.2.2.2.2.2.2.2.2.2.1.length ≤ maxLen := hx.2.2.2.2.2.2.2.2.2.2.2.1.1
  have hi : f.2.2.2.2.2.2.2.2.2.2.2.2.2.2.2.length ≤ maxLen := hx.2.2.2.2.2.2.2.2.2.2.2.2.2.2.2.1
  obtain ⟨r, h1, h2⟩ := szFm_ok f hz hl hw hc hm hs hi
  rw [laws_FnExactFmText.eq]
  show (laws_szFm f 1048576).bind _ = _
  rw [h1, Option.bind_some]
  rcases h2 with h2 | ⟨h2, hg⟩
  · rw [bif_dec h2]
  rw [bif_ndec h2]
  obtain ⟨R, hsp, him, hR⟩ := fmText_both f hg.sm hw2
  have ht := toFm_eq f hg
  have he := eqFm_eq f f hg
  rw [decide_eq_true rfl] at he
  obtain ⟨m, g, hm1, hm2, _⟩ := markFm_ok f hg
  have hm3 : decide (m < 0) = false := decide_eq_false (by omega)
  obtain ⟨a1, a2, a3, a4, a5, a6, a7, a8, a9, a10, a11, a12, a13, a14, a15, a16⟩ := f
  simp (disch := omega) only [ht, hsp, him, he, hm1, hm3, eqByteS_eq, markByteS_eq, heldByteS_eq, laws_FnExactFmText_l0.eq, Option.bind_some, bne_self_eq_false, bif_false, decide_true, Bool.not_true, one_lt]
end Go.Ev.W
