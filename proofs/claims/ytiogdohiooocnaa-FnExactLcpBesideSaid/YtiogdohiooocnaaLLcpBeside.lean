/- The law of LcpBeside. -/
import Derived.Test.YtiogdohiooocnaaEvC
import Derived.Test.YtiogdohiooocnaaPb22
import Derived.Test.YtiogdohiooocnaaPb24
import Derived.Test.YtiogdohiooocnaaPb25
import Derived.Test.YtiogdohiooocnaaPb26
import Derived.Test.YtiogdohiooocnaaMLcp
import Derived.Test.YtiogdohiooocnaaMLaw2
set_option linter.unusedVariables false
set_option linter.unusedSimpArgs false
namespace Go.Ev.W
open Go.Ev
def lB (D E : List Nat) : List Cp × Bool := bif decide (D.length ≤ 300) && decide (E.length ≤ 300) then COf (Dif (ints (lcps D))) (Dif (ints (lcps E))) else ([], false)
theorem lB_len (D E : List Nat) : (lB D E).1.length ≤ 301 := by
  unfold lB
  cases decide (D.length ≤ 300) && decide (E.length ≤ 300) with
  | false => simp
  | true => exact COf_len _ _
theorem lcp_small (D : List Nat) (h : D.length ≤ 300) : (ints (lcps D)).length ≤ 301 ∧ ∀ x ∈ ints (lcps D), 0 ≤ x ∧ x ≤ 300 :=
  ⟨by rw [lcps_len]; omega, fun x hx => by have := lcps_le D x hx; omega⟩
theorem specLB_eq (D E : List Nat) : spec_LcpBeside (ints D) (ints E) = some (lB D E) := by
  rw [spec_LcpBeside.eq, spec_TextOk.eq, spec_TextOk.eq, List.length_map, List.length_map]
  unfold lB
  by_cases h1 : D.length ≤ 300
  · rw [decide_eq_true (show (D.length : Int) ≤ 300 by omega), decide_eq_true h1, Option.bind_some]
    by_cases h2 : E.length ≤ 300
    · have s1 := lcp_small D h1
      have s2 := lcp_small E h2
      rw [decide_eq_true (show (E.length : Int) ≤ 300 by omega), decide_eq_true h2, Option.bind_some, Bool.not_true, bif_false, bif_false, spec_LcpBeside_l0.eq, specLcp_eq D h1, Option.bind_some, specDeltas_eq _ (by omega), Option.bind_some, specLcp_eq E h2, Option.bind_some, specDeltas_eq _ (by omega), Option.bind_some, Dels_small s1.1 s1.2, Dels_small s2.1 s2.2,
        specCopyOf_eq _ _ (by rw [Dif_length]; omega) (by rw [Dif_length]; omega)]
      rfl
    · rw [decide_eq_false (show ¬ (E.length : Int) ≤ 300 by omega), decide_eq_false h2]; rfl
  · rw [decide_eq_false (show ¬ (D.length : Int) ≤ 300 by omega), decide_eq_false h1]; rfl
theorem implLB_eq (D E : List Nat) (hD : ∀ x ∈ D, x < 256) (hE : ∀ x ∈ E, x < 256) : impl_LcpBeside (ints D) (ints E) = some (lB D E) := by
  rw [impl_LcpBeside.eq, impl_TextOk.eq, impl_TextOk.eq, List.length_map, List.length_map]
  unfold lB
  by_cases h1 : D.length ≤ 300
  · rw [decide_eq_true (show (D.length : Int) ≤ 300 by omega), decide_eq_true h1, Option.bind_some]
    by_cases h2 : E.length ≤ 300
    · have s1 := lcp_small D h1
      have s2 := lcp_small E h2
      rw [decide_eq_true (show (E.length : Int) ≤ 300 by omega), decide_eq_true h2, Option.bind_some, Bool.not_true, bif_false, bif_false, implLcp_eq D h1 hD, Option.bind_some, deltas_eq _ (by omega) (fun x hx => by have := s1.2 x hx; omega), Option.bind_some, implLcp_eq E h2 hE, Option.bind_some, deltas_eq _ (by omega) (fun x hx => by have := s2.2 x hx; omega), Option.bind_some,
        implCopyOf_eq _ _ (by rw [Dif_length]; omega) (by rw [Dif_length]; omega)]
      rfl
    · rw [decide_eq_false (show ¬ (E.length : Int) ≤ 300 by omega), decide_eq_false h2]; rfl
  · rw [decide_eq_false (show ¬ (D.length : Int) ≤ 300 by omega), decide_eq_false h1]; rfl
theorem law_LcpBeside (x : List Int × List Int) (hx : goodA tab laws_FnExactLcpBeside.as x) : laws_FnExactLcpBeside.fn x = some true := by
  obtain ⟨xs, ys⟩ := x
  show laws_FnExactLcpBeside xs ys = some true
  have hg1 : AllP (α := Tup [CT.int .u8]) (allL (goodC 4) [CT.int .u8]) xs := hx.1
  have hg2 : AllP (α := Tup [CT.int .u8]) (allL (goodC 4) [CT.int .u8]) ys := hx.2
  rw [laws_FnExactLcpBeside.eq]
  by_cases h : (xs.length : Int) > 1048576
  · rw [bif_dec h]
  rw [bif_ndec h]
  by_cases h2 : (ys.length : Int) > 1048576
  · rw [bif_dec h2]
  rw [bif_ndec h2]
  obtain ⟨D, rfl, hD⟩ := ints_of xs 256 (bytes_of hg1)
  obtain ⟨E, rfl, hE⟩ := ints_of ys 256 (bytes_of hg2)
  have hil : (ints D).length = D.length := List.length_map ..
  have hil2 : (ints E).length = E.length := List.length_map ..
  have hs := specLB_eq D E
  have hi := implLB_eq D E hD hE
  have hl := lB_len D E
  obtain ⟨R, hR⟩ : ∃ R, R = lB D E := ⟨_, rfl⟩
  rw [← hR] at hs hi hl
  clear hR
  obtain ⟨C, ok⟩ := R
  simp only at hl
  simp (disch := omega) only [toByteS_eq, hs, hi, eqByteS_eq, eqCopyS_eq, markByteS_eq, markCopyS_eq, heldCopyS_eq, laws_FnExactLcpBeside_l0.eq, laws_FnExactLcpBeside_l1.eq, laws_FnExactLcpBeside_l2.eq, Option.bind_some, decide_true, Bool.not_true, cond_false, beq_self_eq_true, bne_self_eq_false, one_lt]
  rw [bif_ndec (by omega), bif_ndec (by omega), bif_ndec (by omega)]
end Go.Ev.W
