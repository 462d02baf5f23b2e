/- Indexes: plain facts. -/
import Derived.Test.YtmobcecmjpfpiaaEvC
import Derived.Test.YtmobcecmjpfpiaaMBwtText3
set_option linter.unusedVariables false
set_option linter.unusedSimpArgs false
namespace Go.Ev.W
open Go.Ev

/-! #### widths -/
def wdF : Nat → Nat → Nat
  | 0, _ => 0
  | k + 1, n => if n = 0 then 0 else wdF k (n / 2) + 1
def wd (n : Nat) : Nat := wdF 64 n
theorem wdF_lt : ∀ (k n : Nat), n < 2 ^ k → n < 2 ^ wdF k n
  | 0, n, h => by simpa [wdF] using h
  | k + 1, n, h => by
    rw [wdF]
    by_cases h0 : n = 0
    · rw [if_pos h0]; subst h0; decide
    · rw [if_neg h0]
      have := wdF_lt k (n / 2) (by rw [Nat.pow_succ] at h; omega)
      rw [Nat.pow_succ]; omega
theorem wd_lt (n : Nat) (h : n < 2 ^ 64) : n < 2 ^ wd n := wdF_lt 64 n h
theorem wdF_le : ∀ (k n j : Nat), n < 2 ^ j → wdF k n ≤ j
  | 0, _, _, _ => Nat.zero_le _
  | k + 1, n, 0, h => by
    obtain rfl : n = 0 := by simpa using h
    rw [wdF, if_pos rfl]; omega
  | k + 1, n, j + 1, h => by
    rw [wdF]
    by_cases h0 : n = 0
    · rw [if_pos h0]; omega
    · rw [if_neg h0]
      have := wdF_le k (n / 2) j (by rw [Nat.pow_succ] at h; omega)
      omega

/-! #### digits -/
def dg (w n : Nat) : List Bool := (List.range w).map fun k => n.testBit k
def dgs (w : Nat) (X : List Nat) : List Bool := (X.map (dg w)).flatten
theorem dg_len (w n : Nat) : (dg w n).length = w := by unfold dg; rw [List.length_map, List.length_range]
theorem dgs_len (w : Nat) : ∀ X : List Nat, (dgs w X).length = X.length * w
  | [] => by simp [dgs]
  | x :: X => by
    have := dgs_len w X
    unfold dgs at this ⊢
    rw [List.map_cons, List.flatten_cons, List.length_append, this, dg_len, List.length_cons, Nat.add_mul]; omega
theorem dg_succ (w n : Nat) : dg (w + 1) n = (n.testBit 0) :: dg w (n / 2) := by
  unfold dg
  rw [List.range_succ_eq_map, List.map_cons, List.map_map]
  refine congrArg _ (List.map_congr_left fun k _ => ?_)
  show n.testBit (k + 1) = (n / 2).testBit k
  rw [Nat.testBit_succ]
theorem dg_snoc (w n : Nat) : dg (w + 1) n = dg w n ++ [n.testBit w] := by
  unfold dg
  rw [List.range_succ, List.map_append]; rfl
theorem dgs_snoc (w : Nat) (X : List Nat) (x : Nat) : dgs w (X ++ [x]) = dgs w X ++ dg w x := by
  unfold dgs
  rw [List.map_append, List.flatten_append]; simp
theorem bit0 (n : Nat) : ((n % 2 : Nat) : Int) = bint (n.testBit 0) := by
  unfold bint
  rw [Nat.testBit_zero]
  rcases Nat.mod_two_eq_zero_or_one n with h | h <;> rw [h] <;> rfl
/-- Packed numbers. -/
abbrev PkV := Int × Int × Int × List Int
def pk (w : Nat) (X : List Nat) : PkV := ((w : Int), (X.length : Int), ((X.length * w : Nat) : Int), ints (wrds (dgs w X)))

/-! #### the rows of suffixes -/
theorem idx_iff {S : List Nat} (hn : S.Nodup) {i : Nat} (hi : i < S.length) (x : Nat) : S[i] = x ↔ S.idxOf x = i := by
  constructor
  · intro h
    rw [← h]
    exact hn.idxOf_getElem i hi
  · intro h
    subst h
    exact List.getElem_idxOf hi
def inv (S : List Nat) : List Nat := (List.range S.length).map fun x => S.idxOf x
theorem inv_len (S : List Nat) : (inv S).length = S.length := by unfold inv; rw [List.length_map, List.length_range]
theorem inv_at (S : List Nat) (x : Nat) (h : x < S.length) : (inv S)[x]? = some (S.idxOf x) := by
  unfold inv
  rw [List.getElem?_map, List.getElem?_range h]; rfl

/-! #### the parts of an index -/
def isM (r s : Nat) : Bool := decide (s % r = 0)
def mkB (r : Nat) (S : List Nat) : List Bool := S.map (isM r)
def saL (r : Nat) (S : List Nat) : List Nat := (S.filter (isM r)).map fun s => s / r
def isaL (r n : Nat) (S : List Nat) : List Nat := (List.range (n / r + 1)).map fun j => S.idxOf (j * r)
theorem mkB_len (r : Nat) (S : List Nat) : (mkB r S).length = S.length := List.length_map ..
theorem saL_len (r : Nat) (S : List Nat) : (saL r S).length ≤ S.length := by
  unfold saL; rw [List.length_map]; exact List.length_filter_le ..
theorem isaL_len (r n : Nat) (S : List Nat) : (isaL r n S).length = n / r + 1 := by unfold isaL; rw [List.length_map, List.length_range]
end Go.Ev.W
