/- The law of WaveBytes. -/
import Derived.Test.YtiogdohiooocnaaEvC
import Derived.Test.YtiogdohiooocnaaPb8
import Derived.Test.YtiogdohiooocnaaMWave3
set_option linter.unusedVariables false
set_option linter.unusedSimpArgs false
namespace Go.Ev.W
open Go.Ev
theorem law_WaveBytes (x : Int × List Int × List (Int × List Int)) (hx : goodA tab laws_FnExactWaveBytes.as x) : laws_FnExactWaveBytes.fn x = some true := by
  obtain ⟨n, Z, X⟩ := x
  show laws_FnExactWaveBytes (n, Z, X) = some true
  have hz := hx.2.1.1
  have hX := hx.2.2
  have hXl := hX.1
  have hw : ∀ p ∈ X, p.2.length ≤ maxLen := fun p hp => (hX.2 p hp).2.1
  obtain ⟨L, hLX, hL⟩ := lv_of X fun p hp => words_in (d := 2) (hX.2 p hp).2
  rw [laws_FnExactWaveBytes.eq]
  simp only
  obtain ⟨r, h1, h2⟩ := szWave_ok n Z X hz hXl hw
  rw [h1, Option.bind_some]
  rcases h2 with h2 | ⟨h2, hs⟩
  · rw [bif_dec h2]
  rw [bif_ndec h2]
  have hl := LI_len (L := L) (by rw [← hLX]; exact hs.w)
  have hsp := specWaveBytes_eq n Z L hl hL
  have him := implWaveBytes_eq n Z L hl hL
  rw [← hLX] at hsp him
  obtain ⟨m, w, hm1, hm2⟩ := markWave_ok n Z X 1 (by omega) (by omega) hs
  have hRl := wB_len n Z L
  have hRl' : (ints (wB n Z L)).length = (wB n Z L).length := List.length_map ..
  have hm3 : decide (m < 0) = false := decide_eq_false (by omega)
  simp (disch := omega) only [toWave_eq _ _ _ hs, eqWave_eq _ _ _ _ _ _ hs, hm1, hm3, hsp, him, eqByteS_eq, markByteS_eq, heldByteS_eq, laws_FnExactWaveBytes_l0.eq, Option.bind_some, decide_true, Bool.not_true, cond_false, beq_self_eq_true, bne_self_eq_false, one_lt]
end Go.Ev.W
