/- The law of FmLocate. -/
import Derived.Test.YtddhebliggkadaaGreatEvC
import Derived.Test.YtddhebliggkadaaGreatPc1
import Derived.Test.YtddhebliggkadaaGreatPc21
import Derived.Test.YtddhebliggkadaaGreatPc22
import Derived.Test.YtddhebliggkadaaGreatMFmOcc
set_option linter.unusedVariables false
set_option linter.unusedSimpArgs false
namespace Go.Ev.W
open Go.Ev
theorem fmLocate_both (f : FmT) (hf : SmFm f 1048576) (hx : ∀ p ∈ f.2.2.2.2.1, ∀ x ∈ p.2, 0 ≤ x ∧ x < ((2 ^ 64 : Nat) : Int)) (P : List Nat) (hP : ByteL P) : ∃ R, spec_FmLocate f (ints P) = some R ∧ impl_FmLocate f (ints P) = some R ∧ R.length ≤ 301 := by
  obtain ⟨v, D, t, h1, h2, h3⟩ := fmRead_eq f hf hx
  rw [spec_FmLocate.eq, impl_FmLocate.eq]
  show ∃ R, (spec_l09Text f).bind _ = _ ∧ (impl_Fm_read f).bind _ = _ ∧ _
  cases v with
  | false =>
    rw [show spec_l09Text f = some (([] : List Int), false) from h1, show impl_Fm_read f = some (t, false) from h2]
    exact ⟨[], rfl, rfl, by simp⟩
  | true =>
    obtain ⟨⟨d1, d2, _⟩, _⟩ := h3 rfl
    rw [show spec_l09Text f = some (ints D, true) from h1, show impl_Fm_read f = some (ints D, true) from h2, Option.bind_some, Option.bind_some]
    simp only [bif_true, Bool.not_true, bif_false, specOcc_eq D P d1 d2 hP, implOcc_eq D P d1 d2 hP, Option.bind_some]
    exact ⟨_, rfl, rfl, by rw [ints_len]; have := occ_len D P (D.length + 1); omega⟩
theorem law_FmLocate (x : FmT × List Int) (hx : goodA tab laws_FnExactFmLocate.as x) : laws_FnExactFmLocate.fn x = some true := by
  obtain ⟨f, xs⟩ := x
  show laws_FnExactFmLocate f xs = some true
  have hg2 : AllP (α := Tup [CT.int .u8]) (allL (goodC 4) [CT.int .u8]) xs := hx.2
  have hz : f.2.2.2.1.length ≤ maxLen := hx.1.2.2.2.1.1
  have hl : f.2.2.2.2.1.length ≤ maxLen := hx.1.2.2.2.2.1.1
  have hw : ∀ p ∈ f.2.2.2.2.1, p.2.length ≤ maxLen := fun p hp => (hx.1.2.2.2.2.1.2 p hp).2.1
  have hw2 : ∀ p ∈ f.2.2.2.2.1, ∀ x ∈ p.2, 0 ≤ x ∧ x < ((2 ^ 64 : Nat) : Int) := fun p hp => words_in (d := 2) (hx.1.2.2.2.2.1.2 p hp).2
  have hc : f.2.2.2.2.2.1.length ≤ maxLen := hx.1.2.2.2.2.2.1.1
  have hm : f.2.2.2.2.2.2.2.1.length ≤ maxLen := hx.1.2.2.2.2.2.2.2.1.1
  have hs : f.2.2.2.2.2.2.2.2.2.2.2.1.length ≤ maxLen := hx.1.2.2.2.2.2.2.2.2.2.2.2.1.1
  have hi : f.2.2.2.2.2.2.2.2.2.2.2.2.2.2.2.length ≤ maxLen := hx.1.2.2.2.2.2.2.2.2.2.2.2.2.2.2.2.1
  obtain ⟨r, h1, h2⟩ := szFm_ok f hz hl hw hc hm hs hi
  rw [laws_FnExactFmLocate.eq]
  by_cases hlen : (xs.length : Int) > 1048576
  · rw [bif_dec hlen]
  rw [bif_ndec hlen]
  show (laws_szFm f 1048576).bind _ = _
  rw [h1, Option.bind_some]
  rcases h2 with h2 | ⟨h2, hg⟩
  · rw [bif_dec h2]
  rw [bif_ndec h2]
  obtain ⟨P, rfl, hP⟩ := ints_of xs 256 (bytes_of hg2)
  have hPl : P.length ≤ 1048576 := by rw [List.length_map] at hlen; omega
  have hil : (ints P).length = P.length := List.length_map ..
  obtain ⟨R, hsp, him, hR⟩ := fmLocate_both f hg.sm hw2 P hP
  have ht := toFm_eq f hg
  have he := eqFm_eq f f hg
  rw [decide_eq_true rfl] at he
  obtain ⟨m, g, hm1, hm2, hm4⟩ := markFm_ok f hg
  have hm3 : decide (m + (P.length : Int) < 0) = false := decide_eq_false (by omega)
  obtain ⟨a1, a2, a3, a4, a5, a6, a7, a8, a9, a10, a11, a12, a13, a14, a15, a16⟩ := f
  simp (disch := omega) only [ht, toByteS_eq, hsp, him, he, hm1, hil, hm3, eqIntS_eq, eqByteS_eq, markByteS_eq, markIntS_eq, heldIntS_eq, laws_FnExactFmLocate_l0.eq, Option.bind_some, bne_self_eq_false, bif_false, decide_true, Bool.not_true, one_lt]
end Go.Ev.W
