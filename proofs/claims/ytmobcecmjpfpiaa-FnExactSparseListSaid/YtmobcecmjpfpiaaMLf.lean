/- From each row to the row before it. -/
import Derived.Test.YtmobcecmjpfpiaaEvC
import Derived.Test.YtmobcecmjpfpiaaMSyms
set_option linter.unusedVariables false
set_option linter.unusedSimpArgs false
namespace Go.Ev.W
open Go.Ev

def eqc (X : List Nat) (c : Nat) : Nat := (X.filter fun x => decide (x = c)).length
theorem eqc_le (X : List Nat) (c : Nat) : eqc X c ≤ X.length := List.length_filter_le ..
theorem eqc_snoc (X : List Nat) (x c : Nat) : eqc (X ++ [x]) c = eqc X c + (if x = c then 1 else 0) := by
  unfold eqc
  rw [List.filter_append, List.length_append]
  by_cases h : x = c <;> simp [h]
theorem ltc_snoc (X : List Nat) (x c : Nat) : ltc (X ++ [x]) c = ltc X c + (if x < c then 1 else 0) := by
  unfold ltc
  rw [List.filter_append, List.length_append]
  by_cases h : x < c <;> simp [h]
def lfV (X : List Nat) (i : Nat) : Nat := ltc X (X.getD i 0) + eqc (X.take i) (X.getD i 0)
def lfs (X : List Nat) : List Nat := (List.range X.length).map (lfV X)
theorem lfs_len (X : List Nat) : (lfs X).length = X.length := by unfold lfs; rw [List.length_map, List.length_range]
theorem lfs_step (X : List Nat) (i : Nat) : ints ((List.range i).map (lfV X)) ++ [((lfV X i : Nat) : Int)] = ints ((List.range (i + 1)).map (lfV X)) := by
  rw [List.range_succ, List.map_append]
  exact (List.map_append (f := fun (x : Nat) => (x : Int)) (l₁ := (List.range i).map (lfV X)) (l₂ := [lfV X i])).symm
theorem lfV_at (X : List Nat) (i : Nat) (hi : i < X.length) : lfV X i = ltc X X[i] + eqc (X.take i) X[i] := by
  unfold lfV
  rw [List.getD_eq_getElem?_getD, List.getElem?_eq_getElem hi]; rfl
end Go.Ev.W
