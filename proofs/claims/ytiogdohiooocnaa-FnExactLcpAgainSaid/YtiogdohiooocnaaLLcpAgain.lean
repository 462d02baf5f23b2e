/- The law of LcpAgain. -/
import Derived.Test.YtiogdohiooocnaaEvC
import Derived.Test.YtiogdohiooocnaaPb22
import Derived.Test.YtiogdohiooocnaaPb24
import Derived.Test.YtiogdohiooocnaaPb27
import Derived.Test.YtiogdohiooocnaaPb28
import Derived.Test.YtiogdohiooocnaaMLcp
import Derived.Test.YtiogdohiooocnaaMLaw2
set_option linter.unusedVariables false
set_option linter.unusedSimpArgs false
namespace Go.Ev.W
open Go.Ev
def lA (D : List Nat) (l : List Cp) : List Int × Bool := bif decide (D.length ≤ 300) then (bif !(CDo (Dif (ints (lcps D))) l).2 then ([], false) else Und (CDo (Dif (ints (lcps D))) l).1) else ([], false)
theorem lA_len (D : List Nat) (l : List Cp) : (lA D l).1.length ≤ 301 := by
  unfold lA
  cases decide (D.length ≤ 300) with
  | false => simp
  | true =>
    rw [bif_true]
    cases (CDo (Dif (ints (lcps D))) l).2 with
    | false => simp
    | true => exact Und_len _
theorem lcp_small' (D : List Nat) (h : D.length ≤ 300) : (ints (lcps D)).length ≤ 301 ∧ ∀ x ∈ ints (lcps D), 0 ≤ x ∧ x ≤ 300 :=
  ⟨by rw [lcps_len]; omega, fun x hx => by have := lcps_le D x hx; omega⟩
theorem specLA_eq (D : List Nat) (l : List Cp) : spec_LcpAgain (ints D) l = some (lA D l) := by
  rw [spec_LcpAgain.eq, spec_TextOk.eq, List.length_map]
  unfold lA
  by_cases h1 : D.length ≤ 300
  · have s1 := lcp_small' D h1
    have hc := CDo_len (Dif (ints (lcps D))) l
    rw [decide_eq_true (show (D.length : Int) ≤ 300 by omega), decide_eq_true h1, Option.bind_some, Bool.not_true, bif_false, bif_true, specLcp_eq D h1, Option.bind_some, specDeltas_eq _ (by omega), Option.bind_some, Dels_small s1.1 s1.2, specCopyDo_eq _ _ (by rw [Dif_length]; omega), Option.bind_some]
    simp only
    cases (CDo (Dif (ints (lcps D))) l).2 with
    | false => rfl
    | true =>
      rw [Bool.not_true, bif_false, bif_false, specUndelta_eq _ (by omega)]; rfl
  · rw [decide_eq_false (show ¬ (D.length : Int) ≤ 300 by omega), decide_eq_false h1]; rfl
theorem implLA_eq (D : List Nat) (l : List Cp) (hD : ∀ x ∈ D, x < 256) (hl : l.length ≤ maxLen) : impl_LcpAgain (ints D) l = some (lA D l) := by
  rw [impl_LcpAgain.eq, impl_TextOk.eq, List.length_map]
  unfold lA
  by_cases h1 : D.length ≤ 300
  · have s1 := lcp_small' D h1
    have hc := CDo_len (Dif (ints (lcps D))) l
    rw [decide_eq_true (show (D.length : Int) ≤ 300 by omega), decide_eq_true h1, Option.bind_some, Bool.not_true, bif_false, bif_true, implLcp_eq D h1 hD, Option.bind_some, deltas_eq _ (by omega) (fun x hx => by have := s1.2 x hx; omega), Option.bind_some, implCopyDo_eq _ _ (by rw [Dif_length]; omega) hl, Option.bind_some]
    cases (CDo (Dif (ints (lcps D))) l).2 with
    | false => rfl
    | true =>
      rw [Bool.not_true, bif_false, bif_false, implUndelta_eq _ (by omega)]; rfl
  · rw [decide_eq_false (show ¬ (D.length : Int) ≤ 300 by omega), decide_eq_false h1]; rfl
theorem law_LcpAgain (x : List Int × List Cp) (hx : goodA tab laws_FnExactLcpAgain.as x) : laws_FnExactLcpAgain.fn x = some true := by
  obtain ⟨xs, l⟩ := x
  show laws_FnExactLcpAgain xs l = some true
  have hg1 : AllP (α := Tup [CT.int .u8]) (allL (goodC 4) [CT.int .u8]) xs := hx.1
  have hm : l.length ≤ maxLen := hx.2.1
  rw [laws_FnExactLcpAgain.eq]
  by_cases h : (xs.length : Int) > 1048576
  · rw [bif_dec h]
  rw [bif_ndec h, szCopyS_eq _ _ (by omega) (by omega) hm, Option.bind_some, sz_case]
  by_cases h2 : (1048576 : Int) - (l.length : Int) < 0
  · rw [bif_dec h2]
  rw [bif_ndec h2]
  obtain ⟨D, rfl, hD⟩ := ints_of xs 256 (bytes_of hg1)
  have hil : (ints D).length = D.length := List.length_map ..
  have hs := specLA_eq D l
  have hi := implLA_eq D l hD hm
  have hl := lA_len D l
  obtain ⟨R, hR⟩ : ∃ R, R = lA D l := ⟨_, rfl⟩
  rw [← hR] at hs hi hl
  clear hR
  obtain ⟨C, ok⟩ := R
  simp only at hl
  simp (disch := omega) only [toByteS_eq, toCopyS_eq, hs, hi, eqByteS_eq, eqCopyS_eq, eqIntS_eq, markByteS_eq, markCopyS_eq, markIntS_eq, heldIntS_eq, laws_FnExactLcpAgain_l0.eq, laws_FnExactLcpAgain_l1.eq, laws_FnExactLcpAgain_l2.eq, Option.bind_some, decide_true, Bool.not_true, cond_false, beq_self_eq_true, bne_self_eq_false, one_lt]
  rw [bif_ndec (by omega)]
end Go.Ev.W
