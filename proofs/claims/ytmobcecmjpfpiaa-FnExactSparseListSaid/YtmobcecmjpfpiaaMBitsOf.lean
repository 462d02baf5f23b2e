/- Bits of a list: the program's. -/
import Derived.Test.YtmobcecmjpfpiaaEvC
import Derived.Test.YtmobcecmjpfpiaaPp1
import Derived.Test.YtmobcecmjpfpiaaMSyms
import Derived.Test.YtmobcecmjpfpiaaMWave
set_option linter.unusedVariables false
set_option linter.unusedSimpArgs false
namespace Go.Ev.W
open Go.Ev

theorem toNat_bit (b : Bool) (m : Nat) : (b.toNat).testBit m = (decide (m = 0) && b) := by
  cases b with
  | false => simp
  | true =>
    cases m with
    | zero => rfl
    | succ m => simp [Nat.testBit_succ]
theorem take_getD (l : List Bool) (i j : Nat) : (l.take i).getD j false = (decide (j < i) && l.getD j false) := by
  rw [List.getD_eq_getElem?_getD, List.getD_eq_getElem?_getD, List.getElem?_take]
  by_cases h : j < i <;> simp [h]
theorem wrd_step (l : List Bool) (i : Nat) (hi : i < l.length) (j : Nat) : wrd (l.take (i + 1)) j = if j = i / 64 then wrd (l.take i) j ||| ((l[i]).toNat * 2 ^ (i % 64)) else wrd (l.take i) j := by
  apply Nat.eq_of_testBit_eq
  intro k
  have hg : l.getD i false = l[i] := by rw [List.getD_eq_getElem?_getD, List.getElem?_eq_getElem hi]; rfl
  have hb : (l[i]).toNat * 2 ^ (i % 64) < 2 ^ 64 := by
    have h1 : (l[i]).toNat ≤ 1 := by cases l[i] <;> simp
    have h2 : 2 ^ (i % 64) ≤ 2 ^ 63 := Nat.pow_le_pow_right (by omega) (by omega)
    have h3 : (l[i]).toNat * 2 ^ (i % 64) ≤ 1 * 2 ^ (i % 64) := Nat.mul_le_mul_right _ h1
    omega
  by_cases hk : k < 64
  · by_cases hj : j = i / 64
    · rw [if_pos hj, Nat.testBit_or, wrd_bit _ _ _ hk, wrd_bit _ _ _ hk, take_getD, take_getD, Nat.testBit_mul_two_pow, toNat_bit]
      by_cases h1 : 64 * j + k = i
      · rw [h1, hg, decide_eq_true (show i < i + 1 by omega), decide_eq_false (show ¬ i < i by omega), decide_eq_true (show i % 64 ≤ k by omega), decide_eq_true (show k - i % 64 = 0 by omega)]; simp
      · by_cases h2 : 64 * j + k < i
        · have h4 : ¬ (i % 64 ≤ k ∧ k - i % 64 = 0) := by omega
          rw [decide_eq_true (show 64 * j + k < i + 1 by omega), decide_eq_true h2]
          by_cases h5 : i % 64 ≤ k
          · rw [decide_eq_false (show ¬ k - i % 64 = 0 by omega)]; simp
          · rw [decide_eq_false h5]; simp
        · rw [decide_eq_false (show ¬ 64 * j + k < i + 1 by omega), decide_eq_false h2, decide_eq_false (show ¬ k - i % 64 = 0 by omega)]; simp
    · rw [if_neg hj, wrd_bit _ _ _ hk, wrd_bit _ _ _ hk, take_getD, take_getD]
      by_cases h2 : 64 * j + k < i
      · rw [decide_eq_true (show 64 * j + k < i + 1 by omega), decide_eq_true h2]
      · rw [decide_eq_false (show ¬ 64 * j + k < i + 1 by omega), decide_eq_false h2]
  · have big : ∀ x : Nat, x < 2 ^ 64 → x.testBit k = false := fun x hx => Nat.testBit_lt_two_pow (Nat.lt_of_lt_of_le hx (Nat.pow_le_pow_right (by omega) (by omega)))
    rw [big _ (wrd_lt _ _)]
    split
    · rw [Nat.testBit_or, big _ (wrd_lt _ _), big _ hb]; rfl
    · rw [big _ (wrd_lt _ _)]
theorem implBitsOf_l0 (bs : List Bool) (hn : bs.length ≤ 5000) (a : Int) (b : List Int) : ∀ (d i : Nat), bs.length - i = d → i ≤ bs.length → impl_bitsOf_l0 (bints bs) bs.length i a b bs.length ((List.range (nw bs.length)).map fun j => ((wrd (bs.take i) j : Nat) : Int)) = some ((bs.length : Int), ints (wrds bs)) := by
  intro d
  induction d with
  | zero =>
    intro i h1 h2
    obtain rfl : i = bs.length := by omega
    rw [impl_bitsOf_l0.eq, bif_ndec (by omega), List.take_length]
    unfold wrds
    show _ = some (_, List.map (fun (x : Nat) => (x : Int)) (List.map (wrd bs) _))
    rw [List.map_map]; rfl
  | succ d ih =>
    intro i h1 h2
    have hi : i < bs.length := by omega
    have hw : i / 64 < nw bs.length := by unfold nw; omega
    have e1 : (i : Int).tdiv 64 = ((i / 64 : Nat) : Int) := rfl
    have e2 : (i : Int).tmod 64 = ((i % 64 : Nat) : Int) := rfl
    have e3 : min (i % 64) 64 = i % 64 := by omega
    have hlt := wrd_lt (bs.take i) (i / 64)
    have hb1 : (bs[i]).toNat ≤ 1 := by cases bs[i] <;> simp
    have hpw : 2 ^ (i % 64) ≤ 2 ^ 63 := Nat.pow_le_pow_right (by omega) (by omega)
    have hb2 : (bs[i]).toNat * 2 ^ (i % 64) ≤ 1 * 2 ^ (i % 64) := Nat.mul_le_mul_right _ hb1
    rw [impl_bitsOf_l0.eq, bif_dec (by omega), at?_bints bs i hi, Option.bind_some, e1, e2, wrapI (x := ((i / 64 : Nat) : Int)) (by omega) (by omega)]
    simp only [at?_nat, Int.toNat_natCast, mapr_get _ (nw bs.length) (i / 64) hw, Option.bind_some]
    rw [bif_ndec (by omega), e3, wrapS i (by omega), mapr_set]
    have ev : IntKind.u64.wrap (((BitVec.ofInt 64 ((wrd (bs.take i) (i / 64) : Nat) : Int)) ||| (BitVec.ofInt 64 (IntKind.u64.wrap ((IntKind.u64.wrap (bint bs[i])) * 2 ^ (i % 64))))).toNat : Int) = ((wrd (bs.take i) (i / 64) ||| ((bs[i]).toNat * 2 ^ (i % 64)) : Nat) : Int) := by
      have h3 : IntKind.u64.wrap (bint bs[i]) = (((bs[i]).toNat : Nat) : Int) := wrapUn (by omega)
      have h4 : (((bs[i]).toNat : Nat) : Int) * 2 ^ (i % 64) = (((bs[i]).toNat * 2 ^ (i % 64) : Nat) : Int) := by simp
      have h6 : IntKind.u64.wrap (((bs[i]).toNat * 2 ^ (i % 64) : Nat) : Int) = (((bs[i]).toNat * 2 ^ (i % 64) : Nat) : Int) := wrapUn (by omega)
      rw [h3, h4, h6]
      have h5 := bv_or 64 (wrd (bs.take i) (i / 64)) ((bs[i]).toNat * 2 ^ (i % 64)) hlt (by omega)
      rw [h5, wrapUn (Nat.or_lt_two_pow hlt (by omega))]
    rw [ev]
    have e4 : (List.range (nw bs.length)).map (fun c => if c = i / 64 then ((wrd (bs.take i) (i / 64) ||| ((bs[i]).toNat * 2 ^ (i % 64)) : Nat) : Int) else ((wrd (bs.take i) c : Nat) : Int)) = (List.range (nw bs.length)).map fun j => ((wrd (bs.take (i + 1)) j : Nat) : Int) := by
      refine List.map_congr_left fun c _ => ?_
      rw [wrd_step bs i hi c]
      by_cases h : c = i / 64
      · subst h; rw [if_pos rfl, if_pos rfl]
      · rw [if_neg h, if_neg h]
    rw [e4]
    exact ih (i + 1) (by omega) (by omega)
theorem implBitsOf_eq (bs : List Bool) (hn : bs.length ≤ 5000) : impl_bitsOf (bints bs) = some ((bs.length : Int), ints (wrds bs)) := by
  have e1 : ((bs.length : Int) + 63).tdiv 64 = ((nw bs.length : Nat) : Int) := rfl
  have hnw := nw_le hn
  rw [impl_bitsOf.eq, List.length_map, wrapI (x := (bs.length : Int) + 64) (by omega) (by omega), wrapI (x := (bs.length : Int) + 64 - 1) (by omega) (by omega), show (bs.length : Int) + 64 - 1 = bs.length + 63 by omega, e1, wrapI (x := ((nw bs.length : Nat) : Int)) (by omega) (by omega), Int.toNat_natCast]
  have e2 : (decide ((0 : Int) ≤ ((nw bs.length : Nat) : Int)) && decide (nw bs.length * 8 ≤ 140737488355328)) = true := by
    rw [Bool.and_eq_true, decide_eq_true_eq, decide_eq_true_eq]; omega
  rw [e2, bif_true]
  have h := implBitsOf_l0 bs hn 0 [] _ 0 rfl (by omega)
  have e3 : List.replicate (nw bs.length) (0 : Int) = (List.range (nw bs.length)).map (fun j => ((wrd (bs.take 0) j : Nat) : Int)) := by
    refine List.ext_getElem (by rw [List.length_replicate, List.length_map, List.length_range]) fun j h1 h2 => ?_
    rw [List.getElem_replicate, List.getElem_map]
    simp [wrd, ofB]
  rw [e3]
  exact h
end Go.Ev.W
