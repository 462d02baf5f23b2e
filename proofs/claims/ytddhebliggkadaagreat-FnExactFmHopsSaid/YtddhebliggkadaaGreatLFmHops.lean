/- The law of FmHops. -/
import Derived.Test.YtddhebliggkadaaGreatEvC
import Derived.Test.YtddhebliggkadaaGreatPc1
import Derived.Test.YtddhebliggkadaaGreatPc10
import Derived.Test.YtddhebliggkadaaGreatPc11
import Derived.Test.YtddhebliggkadaaGreatPc2
import Derived.Test.YtddhebliggkadaaGreatPc5
import Derived.Test.YtddhebliggkadaaGreatMFm4
set_option linter.unusedVariables false
set_option linter.unusedSimpArgs false
namespace Go.Ev.W
open Go.Ev
theorem fmHops_both (f : FmT) (hf : SmFm f 1048576) (hx : ∀ p ∈ f.2.2.2.2.1, ∀ x ∈ p.2, 0 ≤ x ∧ x < ((2 ^ 64 : Nat) : Int)) (k : Int) : ∃ v, spec_FmHops f k = some v ∧ impl_FmHops f k = some v := by
  obtain ⟨v, D, t, h1, h2, h3⟩ := fmRead_eq f hf hx
  rw [spec_FmHops.eq, impl_FmHops.eq]
  show ∃ v, (spec_FmSa f k).bind _ = _ ∧ (impl_Fm_read f).bind _ = _
  rw [spec_FmSa.eq]
  show ∃ v, ((spec_l09Text f).bind _).bind _ = _ ∧ _
  cases v with
  | false =>
    rw [show spec_l09Text f = some (([] : List Int), false) from h1, show impl_Fm_read f = some (t, false) from h2]
    exact ⟨-1, rfl, rfl⟩
  | true =>
    obtain ⟨⟨d1, d2, d3, d4, _⟩, _⟩ := h3 rfl
    rw [show spec_l09Text f = some (ints D, true) from h1, show impl_Fm_read f = some (ints D, true) from h2, Option.bind_some, Option.bind_some]
    simp only [bif_true, Bool.not_true, bif_false]
    rw [withinN_eq, ints_len, guard2, Option.bind_some, bif_not]
    by_cases hk : 0 ≤ k ∧ k ≤ D.length
    · obtain ⟨m, rfl⟩ : ∃ m : Nat, k = m := ⟨k.toNat, by omega⟩
      have hs := srt_len' D
      rw [show (decide ((0 : Int) ≤ (m : Int)) && decide ((m : Int) ≤ (D.length : Int))) = true by rw [Bool.and_eq_true, decide_eq_true_eq, decide_eq_true_eq]; exact hk, bif_true, bif_true, specSuf_eq D d1, implSuf_eq D d1 d2, Option.bind_some, Option.bind_some, at?_nat, Int.toNat_natCast, getElem?_ints _ m (by omega)]
      simp only [Option.bind_some]
      rw [bif_ndec (by omega), bif_ndec (by omega)]
      exact ⟨_, rfl, rfl⟩
    · rw [show (decide ((0 : Int) ≤ k) && decide (k ≤ (D.length : Int))) = false by rw [Bool.and_eq_false_iff, decide_eq_false_iff_not, decide_eq_false_iff_not]; omega]
      exact ⟨_, rfl, rfl⟩
theorem law_FmHops (x : FmT × Int) (hx : goodA tab laws_FnExactFmHops.as x) : laws_FnExactFmHops.fn x = some true := by
  obtain ⟨f, k⟩ := x
  show laws_FnExactFmHops f k = some true
  have hz : f.2.2.2.1.length ≤ maxLen := hx.1.2.2.2.1.1
  have hl : f.2.2.2.2.1.length ≤ maxLen := hx.1.2.2.2.2.1.1
  have hw : ∀ p ∈ f.2.2.2.2.1, p.2.length ≤ maxLen := fun p hp => (hx.1.2.2.2.2.1.2 p hp).2.1
  have hw2 : ∀ p ∈ f.2.2.2.2.1, ∀ x ∈ p.2, 0 ≤ x ∧ x < ((2 ^ 64 : Nat) : Int) := fun p hp => words_in (d := 2) (hx.1.2.2.2.2.1.2 p hp).2
  have hc : f.2.2.2.2.2.1.length ≤ maxLen := hx.1.2.2.2.2.2.1.1
  have hm : f.2.2.2.2.2.2.2.1.length ≤ maxLen := hx.1.2.2.2.2.2.2.2.1.1
  have hs : f.2.2.2.2.2.2.2.2.2.2.2.1.length ≤ maxLen := hx.1.2.2.2.2.2.2.2.2.2.2.2.1.1
  have hi : f.2.2.2.2.2.2.2.2.2.2.2.2.2.2.2.length ≤ maxLen := hx.1.2.2.2.2.2.2.2.2.2.2.2.2.2.2.2.1
  obtain ⟨r, h1, h2⟩ := szFm_ok f hz hl hw hc hm hs hi
  rw [laws_FnExactFmHops.eq]
  show (laws_szFm f 1048576).bind _ = _
  rw [h1, Option.bind_some]
  rcases h2 with h2 | ⟨h2, hg⟩
  · rw [bif_dec h2]
  rw [bif_ndec h2]
  obtain ⟨v, hsp, him⟩ := fmHops_both f hg.sm hw2 k
  show ((laws_toFm f).bind fun y2 => (spec_FmHops y2 k).bind fun y3 => (laws_toFm f).bind fun y4 => (impl_FmHops y4 k).bind fun y5 => bif y5 != y3 then some false else (laws_toFm f).bind fun y6 => (laws_eqFm y4 y6).bind fun y7 => bif !y7 then some false else some true) = some true
  simp only [toFm_eq f hg, hsp, him, Option.bind_some, bne_self_eq_false, bif_false, eqFm_eq f f hg, decide_true, Bool.not_true]
end Go.Ev.W
