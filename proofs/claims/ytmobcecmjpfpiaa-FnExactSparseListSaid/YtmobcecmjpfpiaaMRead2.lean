/- Bits out of bytes, whole. -/
import Derived.Test.YtmobcecmjpfpiaaEvC
import Derived.Test.YtmobcecmjpfpiaaPp2
import Derived.Test.YtmobcecmjpfpiaaMRead
set_option linter.unusedVariables false
set_option linter.unusedSimpArgs false
namespace Go.Ev.W
open Go.Ev

/-- Bit i of bytes. -/
def bbit (B : List Nat) (i : Nat) : Bool := (B.getD (i / 8) 0).testBit (i % 8)
def lbits (B : List Nat) (n : Nat) : List Bool := (List.range n).map (bbit B)
theorem lbits_length (B : List Nat) (n : Nat) : (lbits B n).length = n := by simp [lbits]
theorem lbits_get (B : List Nat) (n i : Nat) (h : i < n) : (lbits B n)[i]? = some (bbit B i) := by simp [lbits, h]
theorem lbits_getD (B : List Nat) (n i : Nat) : (lbits B n).getD i false = (decide (i < n) && bbit B i) := by
  rw [List.getD_eq_getElem?_getD]
  by_cases h : i < n
  · rw [lbits_get _ _ _ h]; simp [h]
  · rw [List.getElem?_eq_none (by rw [lbits_length]; omega)]; simp [h]
theorem byt_bit (l : List Bool) (m k : Nat) : (byt l m).testBit k = (decide (k < 8) && l.getD (8 * m + k) false) := by
  rw [byt, ofB_testBit, List.getD_eq_getElem?_getD, List.getElem?_take]
  by_cases hk : k < 8
  · rw [if_pos hk, decide_eq_true hk, List.getElem?_drop, Bool.true_and, List.getD_eq_getElem?_getD]
  · rw [if_neg hk, decide_eq_false hk]; rfl
/-- The bytes of the bits are these bytes: just if no bit stands behind the n-th. -/
theorem bys_iff (B : List Nat) (hB : ByteL B) (n : Nat) (hn : B.length = (n + 7) / 8) : bys (lbits B n) = B ↔ ∀ i, n ≤ i → bbit B i = false := by
  constructor
  · intro h i hi
    unfold bbit
    by_cases hj : i / 8 < B.length
    · have hg : B.getD (i / 8) 0 = byt (lbits B n) (i / 8) := by
        have h2 := congrArg (fun Z : List Nat => Z.getD (i / 8) 0) h
        rw [← h2, List.getD_eq_getElem?_getD, bys_get _ _ (by rw [lbits_length]; omega)]; rfl
      rw [hg, byt_bit, show 8 * (i / 8) + i % 8 = i by omega, lbits_getD, decide_eq_false (show ¬ i < n by omega)]
      simp
    · rw [List.getD_eq_getElem?_getD, List.getElem?_eq_none (by omega)]; exact Nat.zero_testBit _
  · intro h
    refine List.ext_getElem? fun m => ?_
    by_cases hm : m < B.length
    · rw [bys_get _ _ (by rw [lbits_length]; omega), List.getElem?_eq_getElem hm]
      congr 1
      refine Nat.eq_of_testBit_eq fun k => ?_
      rw [byt_bit, lbits_getD]
      by_cases hk : k < 8
      · have e : bbit B (8 * m + k) = B[m].testBit k := by
          unfold bbit
          rw [show (8 * m + k) / 8 = m by omega, show (8 * m + k) % 8 = k by omega, List.getD_eq_getElem?_getD, List.getElem?_eq_getElem hm]; rfl
        rw [decide_eq_true hk, Bool.true_and, e]
        by_cases hin : 8 * m + k < n
        · rw [decide_eq_true hin, Bool.true_and]
        · rw [decide_eq_false hin, Bool.false_and, ← e, h _ (by omega)]
      · rw [decide_eq_false hk, Bool.false_and]
        exact (Nat.testBit_lt_two_pow (Nat.lt_of_lt_of_le (hB _ (List.getElem_mem hm)) (Nat.pow_le_pow_right (n := 2) (i := 8) (by omega) (by omega)))).symm
    · rw [List.getElem?_eq_none (by rw [bys_length, lbits_length]; omega), List.getElem?_eq_none (by omega)]
/-- What BitsRead comes to, behind the number n at 'from'. -/
def brFin (D : List Nat) (n b : Nat) : (Int × List Int) × Int × Bool :=
  let B := (D.drop b).take ((n + 7) / 8)
  if bys (lbits B n) = B then (((n : Int), ints (wrds (lbits B n))), ((b + (n + 7) / 8 : Nat) : Int), true) else (((0 : Int), []), 0, false)
def BRd (D : List Nat) (a : Int) : (Int × List Int) × Int × Bool :=
  bif !(VRd D a).2.2 then (((0 : Int), []), 0, false) else
  if (VRd D a).1 > 5000 then (((0 : Int), []), 0, false) else
  if ((VRd D a).1.toNat + 7) / 8 + (VRd D a).2.1.toNat > D.length then (((0 : Int), []), 0, false) else brFin D (VRd D a).1.toNat (VRd D a).2.1.toNat

theorem pow8 (k : Nat) (h : k < 8) : 1 ≤ 2 ^ k ∧ 2 ^ k ≤ 128 := by
  rcases (show k = 0 ∨ k = 1 ∨ k = 2 ∨ k = 3 ∨ k = 4 ∨ k = 5 ∨ k = 6 ∨ k = 7 by omega) with h | h | h | h | h | h | h | h <;> subst h <;> decide
theorem l02Pow_l0 : ∀ (k : Nat) (x : Nat), k < 62 → x * 2 ^ k < 2 ^ 63 → spec_l02Pow_l0 k x = some ((x * 2 ^ k : Nat) : Int) := by
  intro k
  induction k with
  | zero => intro x _ _; rw [spec_l02Pow_l0.eq, bif_ndec (by omega)]; simp
  | succ k ih =>
    intro x hk hx
    have hx2 : 2 * x * 2 ^ k < 2 ^ 63 := by rw [Nat.pow_succ] at hx; rw [Nat.mul_comm 2 x, Nat.mul_assoc, Nat.mul_comm 2]; exact hx
    have hx3 : 2 * x < 2 ^ 63 := Nat.lt_of_le_of_lt (Nat.le_mul_of_pos_right _ (Nat.two_pow_pos k)) hx2
    rw [spec_l02Pow_l0.eq, bif_dec (by omega), wrapI (by omega) (by omega), show ((k + 1 : Nat) : Int) - 1 = k by omega, show (2 : Int) * (x : Int) = ((2 * x : Nat) : Int) by omega, wrapIn hx3, ih (2 * x) (by omega) hx2]
    rw [Nat.pow_succ, Nat.mul_comm 2 x, Nat.mul_assoc, Nat.mul_comm 2]
theorem l02Pow_eq (k : Nat) (hk : k < 62) : spec_l02Pow k = some ((2 ^ k : Nat) : Int) := by
  have h := l02Pow_l0 k 1 hk (by rw [Nat.one_mul]; exact Nat.pow_lt_pow_right (by omega) (by omega))
  rw [Nat.one_mul] at h
  rw [spec_l02Pow.eq]; exact h
theorem bb_bytes (n : Int) (W : List Nat) : ByteL (bb n W) := by
  intro x hx
  rcases List.mem_append.1 hx with hx | hx
  · exact Var_bytes n x hx
  · obtain ⟨m, _, rfl⟩ := List.mem_map.1 hx
    exact byt_lt _ _
end Go.Ev.W
