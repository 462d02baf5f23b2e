/- Where a word occurs: both functions. -/
import Derived.Test.YtmobcecmjpfpiaaGreatEvC
import Derived.Test.YtmobcecmjpfpiaaGreatPz1
import Derived.Test.YtmobcecmjpfpiaaGreatMFm4
import Derived.Test.YtmobcecmjpfpiaaGreatMRead
set_option linter.unusedVariables false
set_option linter.unusedSimpArgs false
namespace Go.Ev.W
open Go.Ev

def bgn (X P : List Nat) : Bool := decide (X.take P.length = P)
theorem bgn_len {X P : List Nat} (h : bgn X P = true) : P.length ≤ X.length := by
  have h := of_decide_eq_true h
  rw [← h, List.length_take]; omega
theorem bgn_cmp : ∀ (X P : List Nat), bgn X P = true → ¬ cmpN X P < 0
  | [], [], _ => by show ¬ (0 : Int) < 0; omega
  | [], _ :: _, h => by have := bgn_len h; simp at this
  | _ :: _, [], _ => by show ¬ (1 : Int) < 0; omega
  | a :: X, b :: P, h => by
    have h1 := of_decide_eq_true h
    rw [List.length_cons, List.take_succ_cons] at h1
    injection h1 with h2 h3
    rw [cmpN, h2, if_neg (by omega), if_neg (by omega)]
    exact bgn_cmp X P (decide_eq_true h3)
theorem ints_takeN (X : List Nat) (n : Nat) : (ints X).take n = ints (X.take n) := (List.map_take).symm
theorem ints_dropN (X : List Nat) (n : Nat) : (ints X).drop n = ints (X.drop n) := (List.map_drop).symm
theorem drop_ints (D : List Nat) (a : Nat) : ((ints D).take D.length).drop a = ints (D.drop a) := by
  rw [ints_takeN, ints_dropN, List.take_of_length_le (Nat.le_refl _)]
theorem compare_eq (X P : List Nat) (hX : ByteL X) (hP : ByteL P) : bytes_Compare (ints X) (ints P) = some (cmpN X P) := by
  have e3 : bytealg_Compare (ints X) (ints P) = some (cmpN X P) := by
    unfold bytealg_Compare
    rw [show ((ints X).map fun x => x) = ints X from List.map_id _, show ((ints P).map fun x => x) = ints P from List.map_id _, cmpB_eq _ _ hX hP]
  rw [bytes_Compare.eq, e3]; rfl
def occ (D P : List Nat) (i : Nat) : List Nat := (List.range i).filter fun j => bgn (D.drop j) P
def low (D P : List Nat) (i : Nat) : Nat := ((List.range i).filter fun j => decide (cmpN (D.drop j) P < 0)).length
theorem rf_snoc (p : Nat → Bool) (i : Nat) : (List.range (i + 1)).filter p = (List.range i).filter p ++ (if p i then [i] else []) := by
  rw [List.range_succ, List.filter_append]
  cases h : p i <;> simp [h]
theorem occ_snoc (D P : List Nat) (i : Nat) : occ D P (i + 1) = occ D P i ++ (if bgn (D.drop i) P then [i] else []) := rf_snoc _ i
theorem low_snoc (D P : List Nat) (i : Nat) : low D P (i + 1) = low D P i + (if cmpN (D.drop i) P < 0 then 1 else 0) := by
  unfold low
  rw [rf_snoc, List.length_append]
  by_cases h : cmpN (D.drop i) P < 0
  · rw [decide_eq_true h, if_pos rfl, if_pos h]; rfl
  · rw [decide_eq_false h, if_neg h]; rfl
theorem occ_len (D P : List Nat) (i : Nat) : (occ D P i).length ≤ i := by
  unfold occ
  have := List.length_filter_le (fun j => bgn (D.drop j) P) (List.range i)
  rw [List.length_range] at this; exact this
theorem low_le (D P : List Nat) (i : Nat) : low D P i ≤ i := by
  unfold low
  have := List.length_filter_le (fun j => decide (cmpN (D.drop j) P < 0)) (List.range i)
  rw [List.length_range] at this; exact this
section
variable (D P : List Nat) (hl : D.length ≤ 300) (hD : ByteL D) (hP : ByteL P)
include hl hD hP
end
end Go.Ev.W
