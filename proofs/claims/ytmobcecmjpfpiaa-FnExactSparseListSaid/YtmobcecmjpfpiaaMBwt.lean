/- The transform of a text. -/
import Derived.Test.YtmobcecmjpfpiaaEvC
import Derived.Test.YtmobcecmjpfpiaaPp4
import Derived.Test.YtmobcecmjpfpiaaMSuf2
set_option linter.unusedVariables false
set_option linter.unusedSimpArgs false
namespace Go.Ev.W
open Go.Ev

def bwS (D : List Nat) (s : Nat) : Nat := if s = 0 then 0 else D.getD (s - 1) 0 + 1
def bwt (D : List Nat) : List Nat := (srt D).map (bwS D)
theorem srt_len' (D : List Nat) : (srt D).length = D.length + 1 := by have := (srt_SS D).length (by omega); omega
theorem bwt_len (D : List Nat) : (bwt D).length = D.length + 1 := by unfold bwt; rw [List.length_map, srt_len']
theorem bwt_step (D : List Nat) (i : Nat) (hi : i < (srt D).length) : ints ((bwt D).take i) ++ [((bwS D (srt D)[i] : Nat) : Int)] = ints ((bwt D).take (i + 1)) := by
  have hi2 : i < (bwt D).length := by unfold bwt; rw [List.length_map]; exact hi
  rw [List.take_add_one, List.getElem?_eq_getElem hi2]
  have e : (bwt D)[i] = bwS D (srt D)[i] := by simp only [bwt, List.getElem_map]
  rw [e]
  exact (List.map_append (f := fun (x : Nat) => (x : Int)) (l₁ := (bwt D).take i) (l₂ := [bwS D (srt D)[i]])).symm
theorem bwS_pos (D : List Nat) (hD : ∀ x ∈ D, x < 256) (s : Nat) (h0 : s ≠ 0) (hs : s ≤ D.length) : at? (ints D) (IntKind.i64.wrap ((s : Int) - 1)) = some ((D.getD (s - 1) 0 : Nat) : Int) ∧ IntKind.i64.wrap ((IntKind.i64.wrap ((D.getD (s - 1) 0 : Nat) : Int)) + 1) = ((bwS D s : Nat) : Int) ∨ D.length > 1000000 := by
  by_cases hl : D.length > 1000000
  · exact .inr hl
  refine .inl ⟨?_, ?_⟩
  · rw [wrapI (by omega) (by omega), show (s : Int) - 1 = ((s - 1 : Nat) : Int) by omega, at?_ints D (s - 1) (by omega), List.getD_eq_getElem?_getD, List.getElem?_eq_getElem (show s - 1 < D.length by omega)]; rfl
  · have hx : D.getD (s - 1) 0 < 256 := by
      rw [List.getD_eq_getElem?_getD, List.getElem?_eq_getElem (show s - 1 < D.length by omega)]
      exact hD _ (List.getElem_mem _)
    rw [wrapI (x := ((D.getD (s - 1) 0 : Nat) : Int)) (by omega) (by omega), wrapI (by omega) (by omega)]
    unfold bwS
    rw [if_neg h0]; rfl
theorem specBwt_l0 (D : List Nat) (hl : D.length ≤ 300) (hD : ∀ x ∈ D, x < 256) : ∀ (d i : Nat), D.length + 1 - i = d → i ≤ D.length + 1 → spec_BwtOf_l0 (ints D) i (ints (srt D)) (ints ((bwt D).take i)) = some (ints (bwt D)) := by
  have hsl := srt_len' D
  have hll : (ints (srt D)).length = D.length + 1 := by rw [List.length_map, hsl]
  intro d
  induction d with
  | zero =>
    intro i h1 h2
    obtain rfl : i = D.length + 1 := by omega
    rw [spec_BwtOf_l0.eq, hll, bif_ndec (by omega), List.take_of_length_le (by rw [bwt_len]; omega)]
  | succ d ih =>
    intro i h1 h2
    have hi : i < (srt D).length := by omega
    have hm := ((srt_SS D).mem _).1 (List.getElem_mem hi)
    have hout : (ints ((bwt D).take i)).length = i := by rw [List.length_map, List.length_take, bwt_len]; omega
    rw [spec_BwtOf_l0.eq, hll, bif_dec (by omega), at?_ints _ _ hi, Option.bind_some, Int.toNat_natCast, getElem?_ints _ _ hi, Option.bind_some]
    by_cases h0 : (srt D)[i] = 0
    · rw [bif_eq (by omega), bif_dec (by rw [hout]; simp only [List.length_cons, List.length_nil]; omega), wrapS i (by omega)]
      have := bwt_step D i hi
      rw [show bwS D (srt D)[i] = 0 by unfold bwS; rw [if_pos h0]] at this
      have e : ints ((bwt D).take i) ++ [(0 : Int)] = ints ((bwt D).take (i + 1)) := this
      rw [e]
      exact ih (i + 1) (by omega) (by omega)
    · rcases bwS_pos D hD _ h0 hm.2 with ⟨e1, e2⟩ | h
      · rw [bif_neq (by omega), Option.bind_some, Option.bind_some, e1, Option.bind_some, bif_dec (by rw [hout]; simp only [List.length_cons, List.length_nil]; omega), wrapS i (by omega), e2, bwt_step D i hi]
        exact ih (i + 1) (by omega) (by omega)
      · omega
theorem specBwt_eq (D : List Nat) (hl : D.length ≤ 300) (hD : ∀ x ∈ D, x < 256) : spec_BwtOf (ints D) = some (ints (bwt D)) := by
  rw [spec_BwtOf.eq, specSuf_eq D hl, Option.bind_some]
  exact specBwt_l0 D hl hD _ 0 rfl (by omega)
end Go.Ev.W
