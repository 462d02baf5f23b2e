/- The law of FmBytes. -/
import Derived.Test.YtddhebliggkadaaGreatEvC
import Derived.Test.YtddhebliggkadaaGreatPc1
import Derived.Test.YtddhebliggkadaaGreatPc24
import Derived.Test.YtddhebliggkadaaGreatMFmBytes
import Derived.Test.YtddhebliggkadaaGreatMFm4
set_option linter.unusedVariables false
set_option linter.unusedSimpArgs false
namespace Go.Ev.W
open Go.Ev
theorem law_FmBytes (f : FmT) (hx : goodA tab laws_FnExactFmBytes.as f) : laws_FnExactFmBytes.fn f = some true := by
  show laws_FnExactFmBytes f = some true
  have hz : f.2.2.2.1.length ≤ maxLen := hx.2.2.2.1.1
  have hl : f.2.2.2.2.1.length ≤ maxLen := hx.2.2.2.2.1.1
  have hw : ∀ p ∈ f.2.2.2.2.1, p.2.length ≤ maxLen := fun p hp => (hx.2.2.2.2.1.2 p hp).2.1
  have hw2 : ∀ p ∈ f.2.2.2.2.1, ∀ x ∈ p.2, 0 ≤ x ∧ x < ((2 ^ 64 : Nat) : Int) := fun p hp => words_in (d := 2) (hx.2.2.2.2.1.2 p hp).2
  have hc : f.2.2.2.2.2.1.length ≤ maxLen := hx.2.2.2.2.2.1.1
  have hm : f.2.2.2.2.2.2.2.1.length ≤ maxLen := hx.2.2.2.2.2.2.2.1.1
  have hs : f.2.2.2.2.2.2.2.2.2.2.2.1.length ≤ maxLen := hx.2.2.2.2.2.2.2.2.2.2.2.1.1
  have hi : f.2.2.2.2.2.2.2.2.2.2.2.2.2.2.2.length ≤ maxLen := hx.2.2.2.2.2.2.2.2.2.2.2.2.2.2.2.1
  obtain ⟨r, h1, h2⟩ := szFm_ok f hz hl hw hc hm hs hi
  rw [laws_FnExactFmBytes.eq]
  show (laws_szFm f 1048576).bind _ = _
  rw [h1, Option.bind_some]
  rcases h2 with h2 | ⟨h2, hg⟩
  · rw [bif_dec h2]
  rw [bif_ndec h2]
  obtain ⟨R, hsp, him, hR⟩ := fmBytes_all f hg.sm hw2
  have hRl : (ints R).length = R.length := List.length_map ..
  have ht := toFm_eq f hg
  have he := eqFm_eq f f hg
  rw [decide_eq_true rfl] at he
  obtain ⟨m, g, hm1, hm2, _⟩ := markFm_ok f hg
  have hm3 : decide (m < 0) = false := decide_eq_false (by omega)
  obtain ⟨a1, a2, a3, a4, a5, a6, a7, a8, a9, a10, a11, a12, a13, a14, a15, a16⟩ := f
  simp (disch := omega) only [ht, hsp, him, he, hm1, hm3, eqByteS_eq, markByteS_eq, heldByteS_eq, laws_FnExactFmBytes_l0.eq, Option.bind_some, bne_self_eq_false, bif_false, decide_true, Bool.not_true, one_lt]
end Go.Ev.W
