/- The law of WaveKth. -/
import Derived.Test.YtmobcecmjpfpiaaEvC
import Derived.Test.YtmobcecmjpfpiaaPp13
import Derived.Test.YtmobcecmjpfpiaaMKth
import Derived.Test.YtmobcecmjpfpiaaMWave3
import Derived.Test.YtmobcecmjpfpiaaMWaveS
set_option linter.unusedVariables false
set_option linter.unusedSimpArgs false
namespace Go.Ev.W
open Go.Ev
theorem law_WaveKth (x : (Int × List Int × List (Int × List Int)) × Int × Int × Int) (hx : goodA tab laws_FnExactWaveKth.as x) : laws_FnExactWaveKth.fn x = some true := by
  obtain ⟨⟨n, Z, X⟩, lo, hi, k⟩ := x
  show laws_FnExactWaveKth (n, Z, X) lo hi k = some true
  have hz := hx.1.2.1.1
  have hX := hx.1.2.2
  have hXl := hX.1
  have hw : ∀ p ∈ X, p.2.length ≤ maxLen := fun p hp => (hX.2 p hp).2.1
  obtain ⟨L, hLX, hL⟩ := lv_of X fun p hp => words_in (d := 2) (hX.2 p hp).2
  rw [laws_FnExactWaveKth.eq]
  try simp only
  obtain ⟨r, h1, h2⟩ := szWave_ok n Z X hz hXl hw
  rw [h1, Option.bind_some]
  rcases h2 with h2 | ⟨h2, hs⟩
  · rw [bif_dec h2]
  rw [bif_ndec h2]
  have hl := LI_len (L := L) (by rw [← hLX]; exact hs.w)
  have hsp := specKth_eq n Z L hl hL lo hi k
  have him := implKth_eq n Z L hl hL lo hi k
  rw [← hLX] at hsp him
  simp only [toWave_eq _ _ _ hs, eqWave_eq _ _ _ _ _ _ hs, hsp, him, Option.bind_some, decide_true, Bool.not_true, cond_false, bne_self_eq_false]
end Go.Ev.W
