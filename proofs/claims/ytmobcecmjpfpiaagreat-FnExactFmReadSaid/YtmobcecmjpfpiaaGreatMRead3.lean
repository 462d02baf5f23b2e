/- Bits out of bytes: the program's; the law. -/
import Derived.Test.YtmobcecmjpfpiaaGreatEvC
import Derived.Test.YtmobcecmjpfpiaaGreatPz1
import Derived.Test.YtmobcecmjpfpiaaGreatPz2
import Derived.Test.YtmobcecmjpfpiaaGreatMRead2
set_option linter.unusedVariables false
set_option linter.unusedSimpArgs false
namespace Go.Ev.W
open Go.Ev

/-- Words with the bits of the first m bytes. -/
def filled (B : List Nat) (n m : Nat) (V : List Nat) : Prop := V.length = nw n ∧ (∀ x ∈ V, x < 2 ^ 64) ∧ ∀ i, bit V i = (decide (i < 8 * m) && bbit B i)
theorem bit_set (V : List Nat) (j x i : Nat) (hj : j < V.length) : bit (V.set j x) i = if i / 64 = j then x.testBit (i % 64) else bit V i := by
  unfold bit
  rw [List.getD_eq_getElem?_getD, List.getD_eq_getElem?_getD]
  by_cases h : i / 64 = j
  · rw [if_pos h, h, List.getElem?_set_self hj]; rfl
  · rw [if_neg h, List.getElem?_set_ne (by omega)]
theorem filled_step (B : List Nat) (hB : ByteL B) (n m : Nat) (hm : m < B.length) (hn : B.length = (n + 7) / 8) (V : List Nat) (h : filled B n m V) : 8 * m / 64 < V.length ∧ V.getD (8 * m / 64) 0 < 2 ^ 64 ∧ B[m] * 2 ^ (8 * m % 64) < 2 ^ 64 ∧ filled B n (m + 1) (V.set (8 * m / 64) (V.getD (8 * m / 64) 0 ||| B[m] * 2 ^ (8 * m % 64))) := by
  obtain ⟨h1, h2, h3⟩ := h
  unfold nw at h1
  have hj : 8 * m / 64 < V.length := by omega
  have hx := getD_lt V h2 (8 * m / 64)
  have hy := hB _ (List.getElem_mem hm)
  have hs : 8 * m % 64 ≤ 56 := by omega
  have hsh : B[m] * 2 ^ (8 * m % 64) < 2 ^ 64 := by
    have : B[m] * 2 ^ (8 * m % 64) < 256 * 2 ^ (8 * m % 64) := Nat.mul_lt_mul_of_pos_right hy (Nat.two_pow_pos _)
    have h2 : 256 * 2 ^ (8 * m % 64) ≤ 2 ^ 64 := by
      rw [show (256 : Nat) = 2 ^ 8 by rfl, ← Nat.pow_add]
      exact Nat.pow_le_pow_right (by omega) (by omega)
    omega
  refine ⟨hj, hx, hsh, ?_, ?_, fun i => ?_⟩
  · rw [List.length_set]; exact h1
  · intro x hx'
    rcases List.mem_or_eq_of_mem_set hx' with hx' | rfl
    · exact h2 x hx'
    · exact Nat.or_lt_two_pow hx hsh
  · rw [bit_set _ _ _ _ hj]
    have hbb : bbit B (8 * m + (i - 8 * m)) = (B.getD ((8 * m + (i - 8 * m)) / 8) 0).testBit ((8 * m + (i - 8 * m)) % 8) := rfl
    by_cases hij : i / 64 = 8 * m / 64
    · rw [if_pos hij, Nat.testBit_or, ← Nat.shiftLeft_eq, Nat.testBit_shiftLeft]
      have e1 : (V.getD (8 * m / 64) 0).testBit (i % 64) = bit V i := by unfold bit; rw [hij]
      rw [e1, h3 i]
      by_cases hi : i < 8 * m
      · rw [decide_eq_true hi, decide_eq_false (show ¬ i % 64 ≥ 8 * m % 64 by omega), decide_eq_true (show i < 8 * (m + 1) by omega)]
        simp
      · rw [decide_eq_false hi, decide_eq_true (show i % 64 ≥ 8 * m % 64 by omega), Bool.false_and, Bool.false_or, Bool.true_and]
        by_cases hi2 : i < 8 * (m + 1)
        · have e2 : bbit B i = B[m].testBit (i % 64 - 8 * m % 64) := by
            unfold bbit
            rw [show i / 8 = m by omega, show i % 8 = i % 64 - 8 * m % 64 by omega, List.getD_eq_getElem?_getD, List.getElem?_eq_getElem hm]; rfl
          rw [decide_eq_true hi2, Bool.true_and, e2]
        · rw [decide_eq_false hi2, Bool.false_and]
          exact Nat.testBit_lt_two_pow (Nat.lt_of_lt_of_le hy (Nat.pow_le_pow_right (n := 2) (i := 8) (by omega) (by omega)))
    · rw [if_neg hij, h3 i]
      by_cases hi : i < 8 * m
      · rw [decide_eq_true hi, decide_eq_true (show i < 8 * (m + 1) by omega)]
      · rw [decide_eq_false hi, decide_eq_false (show ¬ i < 8 * (m + 1) by omega)]
theorem filled_end (B : List Nat) (hB : ByteL B) (n : Nat) (hn : B.length = (n + 7) / 8) (V : List Nat) (h : filled B n B.length V) : (tight n V ↔ bys (lbits B n) = B) ∧ (tight n V → V = wrds (lbits B n)) := by
  obtain ⟨h1, h2, h3⟩ := h
  have hall : ∀ i, bit V i = bbit B i := by
    intro i
    rw [h3]
    by_cases hi : i < 8 * B.length
    · rw [decide_eq_true hi, Bool.true_and]
    · rw [decide_eq_false hi, Bool.false_and]
      unfold bbit
      rw [List.getD_eq_getElem?_getD, List.getElem?_eq_none (by omega)]
      exact (Nat.zero_testBit _).symm
  refine ⟨?_, fun ht => ?_⟩
  · rw [bys_iff B hB n hn]
    constructor
    · intro ht i hi; rw [← hall]; exact ht.2.2 i hi
    · intro hb; exact ⟨h1, h2, fun i hi => by rw [hall]; exact hb i hi⟩
  · rw [← wrds_bts n V ht]
    congr 1
    exact List.map_congr_left fun i _ => hall i
theorem implBitsRead_l1 (B : List Nat) (hB : ByteL B) (n b : Nat) (hn : n ≤ 5000) (hb : b ≤ 1048576) (hBl : B.length = (n + 7) / 8) (e5 : Int) (e6 : List Int) : ∀ (d m : Nat), B.length - m = d → m ≤ B.length → ∀ V : List Nat, filled B n m V →
    impl_BitsRead_l1 b ((n + 7) / 8 : Nat) (ints B) B.length m e5 e6 n (ints V) = some (if bys (lbits B n) = B then (((n : Int), ints (wrds (lbits B n))), ((b + (n + 7) / 8 : Nat) : Int), true) else (((0 : Int), []), 0, false)) := by
  intro d
  induction d with
  | zero =>
    intro m hd hm V hV
    have hmm : m = B.length := by omega
    subst hmm
    have hf := filled_end B hB n hBl V hV
    have hvl : V.length ≤ 100 := by rw [hV.1]; exact nw_le hn
    rw [impl_BitsRead_l1.eq, bif_ndec (by omega), implBitsOk_eq _ _ (by omega) hV.2.1, Option.bind_some]
    have hv : vOk (n : Int) V = okW n V := by
      unfold vOk
      rw [decide_eq_true (show (0 : Int) ≤ n by omega), decide_eq_true (show (n : Int) ≤ 5000 by omega), Int.toNat_natCast]; rfl
    rw [hv]
    cases ho : okW n V with
    | false =>
      rw [if_neg (fun h => by have := (okW_iff n V hV.2.1).2 (hf.1.2 h); rw [ho] at this; cases this)]
      rfl
    | true =>
      have ht := (okW_iff n V hV.2.1).1 ho
      rw [if_pos (hf.1.1 ht), Bool.not_true, bif_false, ← hf.2 ht, ← Int.natCast_add, wrapIn (by omega)]
  | succ d ih =>
    intro m hd hm V hV
    have hmb : m < B.length := by omega
    obtain ⟨h1, h2, h3, h4⟩ := filled_step B hB n m hmb hBl V hV
    have hg : V.getD (8 * m / 64) 0 = V[8 * m / 64] := by rw [List.getD_eq_getElem?_getD, List.getElem?_eq_getElem h1]; rfl
    have hy := hB _ (List.getElem_mem hmb)
    have e0 : IntKind.i64.wrap ((m : Int) * 8) = ((8 * m : Nat) : Int) := by rw [show (m : Int) * 8 = ((8 * m : Nat) : Int) by omega]; exact wrapIn (by omega)
    have e1 : ((8 * m : Nat) : Int).tdiv 64 = ((8 * m / 64 : Nat) : Int) := rfl
    have e2 : ((8 * m : Nat) : Int).tmod 64 = ((8 * m % 64 : Nat) : Int) := rfl
    have e3 : min ((8 * m % 64 : Nat) : Int).toNat 64 = 8 * m % 64 := by omega
    have e4 : (2 : Int) ^ (8 * m % 64) = ((2 ^ (8 * m % 64) : Nat) : Int) := by simp
    have b2 := bv_or 64 V[8 * m / 64] (B[m] * 2 ^ (8 * m % 64)) (by rw [← hg]; exact h2) h3
    have hor : V[8 * m / 64] ||| B[m] * 2 ^ (8 * m % 64) < 2 ^ 64 := Nat.or_lt_two_pow (by rw [← hg]; exact h2) h3
    rw [impl_BitsRead_l1.eq, bif_dec (by omega), e0, e1, e2, wrapIn (z := 8 * m / 64) (by omega), at?_ints _ _ hmb, Option.bind_some, at?_ints _ _ h1, Option.bind_some, Int.toNat_natCast, getElem?_ints _ _ h1, Option.bind_some, bif_ndec (by omega), Option.bind_some, Option.bind_some, e3, e4, wrapUn (z := B[m]) (by omega), ← Int.natCast_mul, wrapUn h3, b2, wrapUn hor, wrapS _ (by omega), ints_set, ← hg]
    exact ih (m + 1) (by omega) (by omega) _ h4
theorem implBitsRead_eq (D : List Nat) (hD : ByteL D) (hl : D.length ≤ 1048576) (a : Int) : impl_BitsRead (ints D) a = some (BRd D a) := by
  rw [impl_BitsRead.eq, implVarRead_eq D hD hl, Option.bind_some]
  unfold BRd
  obtain ⟨v, hv⟩ : ∃ v, v = VRd D a := ⟨_, rfl⟩
  rw [← hv]
  obtain ⟨n, b, ok⟩ := v
  cases ok with
  | false => rfl
  | true =>
    obtain ⟨a', n', b', rfl, rfl, rfl, h1, h2, h3, h4⟩ := VRd_ok hv.symm
    simp only [Bool.not_true, bif_false, Int.toNat_natCast, List.length_map]
    by_cases h5 : (n' : Int) > 5000
    · rw [bif_dec h5, if_pos h5]
    rw [bif_ndec h5, if_neg h5]
    have e1 : ((n' : Int) + 7).tdiv 8 = (((n' + 7) / 8 : Nat) : Int) := rfl
    rw [wrapI (x := (n' : Int) + 8) (by omega) (by omega), wrapI (x := (n' : Int) + 8 - 1) (by omega) (by omega), show (n' : Int) + 8 - 1 = n' + 7 by omega, e1, wrapIn (z := (n' + 7) / 8) (by omega), wrapI (x := (D.length : Int) - b') (by omega) (by omega)]
    by_cases h6 : (n' + 7) / 8 + b' > D.length
    · rw [bif_dec (by omega), if_pos h6]
    have e2 : ((n' : Int) + 63).tdiv 64 = ((nw n' : Nat) : Int) := rfl
    have hnw : nw n' ≤ 100 := nw_le (by omega)
    rw [bif_ndec (by omega), if_neg h6, impl_BitsRead_l0.eq, wrapI (x := (n' : Int) + 64) (by omega) (by omega), wrapI (x := (n' : Int) + 64 - 1) (by omega) (by omega), show (n' : Int) + 64 - 1 = n' + 63 by omega, e2, wrapIn (z := nw n') (by omega), ← Int.natCast_add, wrapIn (z := b' + (n' + 7) / 8) (by omega), Int.toNat_natCast, Int.toNat_natCast, Int.toNat_natCast, List.length_map]
    have e3 : (decide ((0 : Int) ≤ ((nw n' : Nat) : Int)) && decide (nw n' * 8 ≤ 140737488355328)) = true := by simp; omega
    rw [e3, bif_true, bif_dec (by omega), bif_dec (by omega), ints_take, ints_drop, List.drop_take, Nat.add_sub_cancel_left]
    have hrep : List.replicate (nw n') (0 : Int) = ints (List.replicate (nw n') 0) := by simp
    rw [hrep]
    obtain ⟨B, hB⟩ : ∃ B, B = (D.drop b').take ((n' + 7) / 8) := ⟨_, rfl⟩
    have hBl : B.length = (n' + 7) / 8 := by rw [hB, List.length_take, List.length_drop]; omega
    have hBb : ByteL B := by rw [hB]; exact (hD.drop _).take _
    simp only [brFin]
    rw [← hB]
    have := implBitsRead_l1 B hBb n' b' (by omega) (by omega) hBl 0 [] B.length 0 (by omega) (by omega) (List.replicate (nw n') 0) ⟨by simp, by intro x hx; rw [(List.mem_replicate.1 hx).2]; omega, fun i => by
      unfold bit
      rw [List.getD_eq_getElem?_getD, List.getElem?_replicate]
      split <;> simp⟩
    rw [List.length_map]
    exact this
theorem BRd_words (D : List Nat) (a : Int) : (BRd D a).1.2.length ≤ 100 := by
  unfold BRd
  cases (VRd D a).2.2 with
  | false => simp
  | true =>
    rw [Bool.not_true, bif_false]
    split
    · simp
    · split
      · simp
      · unfold brFin
        try simp only
        split
        · simp only [List.length_map]
          rw [wrds_length, lbits_length]
          exact nw_le (by omega)
        · simp
theorem heldBits_eq (a : Int) (n : Nat) (k : Int) (hk : 0 ≤ k) (h : k + (n : Int) < 4611686018427387904) : laws_heldBits (a, markF IntKind.u64.wrap k n) k = some (k + n) := by
  rw [laws_heldBits.eq, heldUint64S_eq n k hk h, Option.bind_some, bif_ndec (by omega)]
end Go.Ev.W
