/- The law of BitsBytes. -/
import Derived.Test.YthbijcdnjgfndaaEvB
import Derived.Test.YthbijcdnjgfndaaPa24
import Derived.Test.YthbijcdnjgfndaaMBits
import Derived.Test.YthbijcdnjgfndaaMLaw2
set_option linter.unusedVariables false
set_option linter.unusedSimpArgs false
namespace Go.Ev.W
open Go.Ev
theorem law_BitsBytes (v : Int × List Int) (hx : goodA tab laws_FnExactBitsBytes.as v) : laws_FnExactBitsBytes.fn v = some true := by
  show laws_FnExactBitsBytes v = some true
  obtain ⟨n, xs⟩ := v
  have hg : AllP (α := Tup [CT.int .u64]) (allL (goodC 4) [CT.int .u64]) xs := hx.2
  have hm : xs.length ≤ maxLen := hg.1
  rw [laws_FnExactBitsBytes.eq]
  simp only
  rw [szBits_eq _ _ (by omega) (by omega) hm, Option.bind_some, szcase]
  by_cases h : (1048576 : Int) - (xs.length : Int) < 0
  · rw [bif_dec h]
  rw [bif_ndec h]
  obtain ⟨W, rfl, hW⟩ := ints_of xs (2 ^ 64) (words_of hg)
  have hl : W.length ≤ 1048576 := by rw [List.length_map] at h; omega
  have hil : (ints W).length = W.length := List.length_map ..
  obtain ⟨R, hR⟩ : ∃ R, R = ints (bif vOk n W then bb n W else []) := ⟨_, rfl⟩
  have hs := specBitsBytes_eq n W hl hW
  have hi := implBitsBytes_eq n W hl hW
  rw [← hR] at hs hi
  have hRl : R.length ≤ 1000 := by
    rw [hR, List.length_map]
    cases hv : vOk n W with
    | false => simp
    | true =>
      simp only [vOk, Bool.and_eq_true, decide_eq_true_eq] at hv
      have := bb_len n W hv.1.2
      simp only [bif_true]; omega
  clear hR
  simp (disch := omega) only [toBits_eq, hs, hi, eqByteS_eq, eqBits_eq, markBits_eq, markByteS_eq, heldByteS_eq, laws_FnExactBitsBytes_l0.eq, Option.bind_some, decide_true, Bool.not_true, cond_false, beq_self_eq_true, bne_self_eq_false, one_lt]
end Go.Ev.W
