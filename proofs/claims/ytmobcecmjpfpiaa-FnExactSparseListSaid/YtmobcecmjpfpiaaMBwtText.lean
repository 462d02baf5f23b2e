/- The text of a transform. -/
import Derived.Test.YtmobcecmjpfpiaaEvC
import Derived.Test.YtmobcecmjpfpiaaMLf
set_option linter.unusedVariables false
set_option linter.unusedSimpArgs false
namespace Go.Ev.W
open Go.Ev

theorem ltc_eqc : ∀ (X : List Nat) (c : Nat), ltc X c + eqc X c ≤ X.length
  | [], _ => Nat.le_refl _
  | x :: X, c => by
    have ih := ltc_eqc X c
    unfold ltc eqc at ih ⊢
    rw [List.filter_cons, List.filter_cons, List.length_cons]
    by_cases h1 : x < c
    · rw [if_pos (by simpa using h1), if_neg (by simp; omega), List.length_cons]; omega
    · by_cases h2 : x = c
      · rw [if_neg (by simp; omega), if_pos (by simpa using h2), List.length_cons]; omega
      · rw [if_neg (by simp; omega), if_neg (by simp; omega)]; omega
theorem eqc_app (X Y : List Nat) (c : Nat) : eqc (X ++ Y) c = eqc X c + eqc Y c := by unfold eqc; rw [List.filter_append, List.length_append]
theorem lfV_lt (X : List Nat) (i : Nat) (hi : i < X.length) : lfV X i < X.length := by
  rw [lfV_at X i hi]
  have h1 := ltc_eqc X X[i]
  have h2 : eqc X X[i] = eqc (X.take i) X[i] + eqc (X.drop i) X[i] := by rw [← eqc_app, List.take_append_drop]
  have h3 : 0 < eqc (X.drop i) X[i] := by
    rw [List.drop_eq_getElem_cons hi]
    unfold eqc
    rw [List.filter_cons, if_pos (by simp), List.length_cons]; omega
  omega
theorem lfs_at (X : List Nat) (i : Nat) (hi : i < X.length) : (ints (lfs X))[i]? = some ((lfV X i : Nat) : Int) := by
  have hi2 : i < (lfs X).length := by rw [lfs_len]; exact hi
  rw [getElem?_ints _ _ hi2]
  simp [lfs]
/-- Back from row r, k steps at most; the text so far; whether all steps were made. -/
def wk (X : List Nat) : Nat → Nat → List Nat → List Nat × Bool
  | 0, _, acc => (acc, true)
  | k + 1, r, acc => if X.getD r 0 = 0 then (acc, false) else wk X k (lfV X r) ((X.getD r 0 - 1) :: acc)
theorem wk_len (X : List Nat) : ∀ (k r : Nat) (acc : List Nat), (wk X k r acc).1.length ≤ acc.length + k ∧ ((wk X k r acc).2 = true → (wk X k r acc).1.length = acc.length + k) ∧ ((wk X k r acc).2 = false → (wk X k r acc).1.length < acc.length + k)
  | 0, _, acc => by simp [wk]
  | k + 1, r, acc => by
    rw [wk]
    split
    · simp
    · have := wk_len X k (lfV X r) ((X.getD r 0 - 1) :: acc)
      rw [List.length_cons] at this
      refine ⟨by omega, fun h => by have := this.2.1 h; omega, fun h => by have := this.2.2 h; omega⟩
theorem wk_bytes (X : List Nat) (hx : ∀ x ∈ X, x ≤ 256) : ∀ (k r : Nat) (acc : List Nat), (∀ x ∈ acc, x < 256) → ∀ x ∈ (wk X k r acc).1, x < 256
  | 0, _, acc, h => h
  | k + 1, r, acc, h => by
    rw [wk]
    split
    · exact h
    · refine wk_bytes X hx k _ _ fun x h2 => ?_
      rcases List.mem_cons.1 h2 with rfl | h2
      · have : X.getD r 0 ≤ 256 := by
          rw [List.getD_eq_getElem?_getD]
          cases h3 : X[r]? with
          | none => simp
          | some y => exact hx y (List.mem_of_getElem? h3)
        omega
      · exact h x h2
end Go.Ev.W
