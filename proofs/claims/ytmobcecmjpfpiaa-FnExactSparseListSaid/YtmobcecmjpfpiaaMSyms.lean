/- Symbols: which lists are valid; how many are less than each. -/
import Derived.Test.YtmobcecmjpfpiaaEvC
import Derived.Test.YtmobcecmjpfpiaaPp2
import Derived.Test.YtmobcecmjpfpiaaMBwt
set_option linter.unusedVariables false
set_option linter.unusedSimpArgs false
namespace Go.Ev.W
open Go.Ev

def sOk (X : List Int) : Bool := decide (X.length ≤ 301) && X.all fun x => decide (0 ≤ x) && decide (x ≤ 256)
theorem withinS_eq (n a b : Int) : impl_within n a b = some (decide (a ≤ n) && decide (n ≤ b)) := by
  rw [impl_within.eq, Bool.cond_decide]
  by_cases h : a ≤ n <;> simp [h]
theorem sOk_nat {xs : List Int} (h : sOk xs = true) : ∃ X : List Nat, xs = ints X ∧ X.length ≤ 301 ∧ ∀ x ∈ X, x ≤ 256 := by
  simp only [sOk, Bool.and_eq_true, decide_eq_true_eq, List.all_eq_true] at h
  obtain ⟨X, rfl, hX⟩ := ints_of xs 257 fun x hx => by have := h.2 x hx; omega
  exact ⟨X, rfl, by rw [← List.length_map (f := fun (x : Nat) => (x : Int))]; exact h.1, fun x hx => by have := hX x hx; omega⟩
def ltc (X : List Nat) (c : Nat) : Nat := (X.filter fun x => decide (x < c)).length
def hst (X : List Nat) (c : Nat) : Nat := (X.filter fun x => decide (x + 1 = c)).length
theorem ltc_le (X : List Nat) (c : Nat) : ltc X c ≤ X.length := List.length_filter_le ..
theorem hst_le (X : List Nat) (c : Nat) : hst X c ≤ X.length := List.length_filter_le ..
theorem ltc_succ : ∀ (X : List Nat) (c : Nat), ltc X (c + 1) = hst X (c + 1) + ltc X c
  | [], _ => rfl
  | x :: X, c => by
    have ih := ltc_succ X c
    unfold ltc hst at ih ⊢
    rw [List.filter_cons, List.filter_cons, List.filter_cons]
    by_cases h1 : x < c
    · rw [if_pos (by simp; omega), if_neg (by simp; omega), if_pos (by simpa using h1), List.length_cons, List.length_cons, ih]; omega
    · by_cases h2 : x = c
      · rw [if_pos (by simp; omega), if_pos (by simp; omega), if_neg (by simp; omega), List.length_cons, List.length_cons, ih]; omega
      · rw [if_neg (by simp; omega), if_neg (by simp; omega), if_neg (by simp; omega), ih]
theorem ltc_zero (X : List Nat) : ltc X 0 = 0 := by unfold ltc; simp
theorem hst_snoc (X : List Nat) (x c : Nat) : hst (X ++ [x]) c = hst X c + (if x + 1 = c then 1 else 0) := by
  unfold hst
  rw [List.filter_append, List.length_append]
  by_cases h : x + 1 = c <;> simp [h]
theorem mapr_get {α : Type} (f : Nat → α) (n i : Nat) (h : i < n) : ((List.range n).map f)[i]? = some (f i) := by simp [h]
theorem mapr_set {α : Type} (f : Nat → α) (n i : Nat) (v : α) : ((List.range n).map f).set i v = (List.range n).map fun c => if c = i then v else f c := by
  apply List.ext_getElem (by simp)
  intro j h1 h2
  rw [List.getElem_set]
  by_cases h : i = j
  · subst h; simp
  · rw [if_neg h]; simp [Ne.symm h]
end Go.Ev.W
