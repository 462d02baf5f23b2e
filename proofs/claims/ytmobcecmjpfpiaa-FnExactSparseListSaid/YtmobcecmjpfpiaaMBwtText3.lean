/- The text of a transform: both alike. -/
import Derived.Test.YtmobcecmjpfpiaaEvC
import Derived.Test.YtmobcecmjpfpiaaPp4
import Derived.Test.YtmobcecmjpfpiaaMBwtText2
set_option linter.unusedVariables false
set_option linter.unusedSimpArgs false
namespace Go.Ev.W
open Go.Ev

theorem countN_l0 (X : List Nat) (hX : X.length ≤ 301) : ∀ (d i : Nat), X.length - i = d → i ≤ X.length → impl_count_l0 0 (eqc (X.take i) 0 : Nat) (ints X) X.length i = some ((eqc X 0 : Nat) : Int) := by
  intro d
  induction d with
  | zero =>
    intro i h1 h2
    obtain rfl : i = X.length := by omega
    rw [impl_count_l0.eq, bif_ndec (by omega), List.take_length]
  | succ d ih =>
    intro i h1 h2
    have hi : i < X.length := by omega
    have hle := eqc_le (X.take i) 0
    rw [List.length_take] at hle
    have et : X.take (i + 1) = X.take i ++ [X[i]] := by rw [List.take_add_one, List.getElem?_eq_getElem hi]; rfl
    have ih' := ih (i + 1) (by omega) (by omega)
    rw [et, eqc_snoc] at ih'
    rw [impl_count_l0.eq, bif_dec (by omega), at?_ints _ _ hi, Option.bind_some]
    by_cases h0 : X[i] = 0
    · rw [if_pos h0] at ih'
      rw [bif_eq (by omega), wrapS i (by omega), wrapS _ (by omega)]
      exact ih'
    · rw [if_neg h0, Nat.add_zero] at ih'
      rw [bif_neq (by omega), wrapS i (by omega)]
      exact ih'
theorem countN_eq (X : List Nat) (hX : X.length ≤ 301) : impl_count (ints X) 0 = some ((eqc X 0 : Nat) : Int) := by
  rw [impl_count.eq, List.length_map]
  exact countN_l0 X hX _ 0 rfl (by omega)
theorem eqc_map (D l : List Nat) : eqc (l.map (bwS D)) 0 = eqc l 0 := by
  induction l with
  | nil => rfl
  | cons s l ih =>
    unfold eqc at ih ⊢
    rw [List.map_cons, List.filter_cons, List.filter_cons]
    by_cases h : s = 0
    · rw [if_pos (by simp [bwS, h]), if_pos (by simpa using h), List.length_cons, List.length_cons, ih]
    · rw [if_neg (by simp [bwS, h]), if_neg (by simpa using h), ih]
theorem eqc_range : ∀ n : Nat, eqc (List.range (n + 1)) 0 = 1
  | 0 => rfl
  | n + 1 => by rw [List.range_succ, eqc_snoc, eqc_range n, if_neg (by omega)]
theorem eqc_bwt (D : List Nat) : eqc (bwt D) 0 = 1 := by
  unfold bwt
  rw [eqc_map]
  have hp : (srt D).Perm (List.range (D.length + 1)) := List.mergeSort_perm ..
  have := (hp.filter fun x => decide (x = 0)).length_eq
  have h2 := eqc_range D.length
  unfold eqc at h2 ⊢
  rw [this, h2]
/-- The text that has this transform. -/
def bT (X : List Nat) : List Int × Bool := bif decide (X.length = 0) then ([], false) else tFin X (wk X (X.length - 1) 0 []).1
theorem bT_len (X : List Nat) (hX : X.length ≤ 301) : ∃ t : List Nat, (bT X).1 = ints t ∧ t.length ≤ 300 := by
  unfold bT
  by_cases h0 : X.length = 0
  · rw [decide_eq_true h0]; exact ⟨[], rfl, by simp⟩
  · rw [decide_eq_false h0, bif_false]
    unfold tFin
    have hw := (wk_len X (X.length - 1) 0 []).1
    rw [List.length_nil] at hw
    cases decide (bwt (wk X (X.length - 1) 0 []).1 = X) with
    | true => exact ⟨_, rfl, by omega⟩
    | false => exact ⟨[], rfl, by simp⟩
end Go.Ev.W
