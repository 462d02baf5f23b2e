/- Bits out of bytes, whole. -/
import Derived.Test.YtmobcecmjpfpiaaGreatEvC
import Derived.Test.YtmobcecmjpfpiaaGreatPz1
import Derived.Test.YtmobcecmjpfpiaaGreatMRead
set_option linter.unusedVariables false
set_option linter.unusedSimpArgs false
namespace Go.Ev.W
open Go.Ev

/-- Bit i of bytes. -/
def bbit (B : List Nat) (i : Nat) : Bool := (B.getD (i / 8) 0).testBit (i % 8)
def lbits (B : List Nat) (n : Nat) : List Bool := (List.range n).map (bbit B)
theorem lbits_length (B : List Nat) (n : Nat) : (lbits B n).length = n := by simp [lbits]
theorem lbits_get (B : List Nat) (n i : Nat) (h : i < n) : (lbits B n)[i]? = some (bbit B i) := by simp [lbits, h]
theorem lbits_getD (B : List Nat) (n i : Nat) : (lbits B n).getD i false = (decide (i < n) && bbit B i) := by
  rw [List.getD_eq_getElem?_getD]
  by_cases h : i < n
  · rw [lbits_get _ _ _ h]; simp [h]
  · rw [List.getElem?_eq_none (by rw [lbits_length]; omega)]; simp [h]
theorem byt_bit (l : List Bool) (m k : Nat) : (byt l m).testBit k = (decide (k < 8) && l.getD (8 * m + k) false) := by
  rw [byt, ofB_testBit, List.getD_eq_getElem?_getD, List.getElem?_take]
  by_cases hk : k < 8
  · rw [if_pos hk, decide_eq_true hk, List.getElem?_drop, Bool.true_and, List.getD_eq_getElem?_getD]
  · rw [if_neg hk, decide_eq_false hk]; rfl
/-- The bytes of the bits are these bytes: just if no bit stands behind the n-th. -/
theorem bys_iff (B : List Nat) (hB : ByteL B) (n : Nat) (hn : B.length = (n + 7) / 8) : bys (lbits B n) = B ↔ ∀ i, n ≤ i → bbit B i = false := by
  constructor
  · intro h i hi
    unfold bbit
    by_cases hj : i / 8 < B.length
    · have hg : B.getD (i / 8) 0 = byt (lbits B n) (i / 8) := by
        have h2 := congrArg (fun Z : List Nat => Z.getD (i / 8) 0) h
        rw [← h2, List.getD_eq_getElem?_getD, bys_get _ _ (by rw [lbits_length]; omega)]; rfl
      rw [hg, byt_bit, show 8 * (i / 8) + i % 8 = i by omega, lbits_getD, decide_eq_false (show ¬ i < n by omega)]
      simp
    · rw [List.getD_eq_getElem?_getD, List.getElem?_eq_none (by omega)]; exact Nat.zero_testBit _
  · intro h
    refine List.ext_getElem? fun m => ?_
    by_cases hm : m < B.length
    · rw [bys_get _ _ (by rw [lbits_length]; omega), List.getElem?_eq_getElem hm]
      congr 1
      refine Nat.eq_of_testBit_eq fun k => ?_
      rw [byt_bit, lbits_getD]
      by_cases hk : k < 8
      · have e : bbit B (8 * m + k) = B[m].testBit k := by
          unfold bbit
          rw [show (8 * m + k) / 8 = m by omega, show (8 * m + k) % 8 = k by omega, List.getD_eq_getElem?_getD, List.getElem?_eq_getElem hm]; rfl
        rw [decide_eq_true hk, Bool.true_and, e]
        by_cases hin : 8 * m + k < n
        · rw [decide_eq_true hin, Bool.true_and]
        · rw [decide_eq_false hin, Bool.false_and, ← e, h _ (by omega)]
      · rw [decide_eq_false hk, Bool.false_and]
        exact (Nat.testBit_lt_two_pow (Nat.lt_of_lt_of_le (hB _ (List.getElem_mem hm)) (Nat.pow_le_pow_right (n := 2) (i := 8) (by omega) (by omega)))).symm
    · rw [List.getElem?_eq_none (by rw [bys_length, lbits_length]; omega), List.getElem?_eq_none (by omega)]
/-- What BitsRead comes to, behind the number n at 'from'. -/
def brFin (D : List Nat) (n b : Nat) : (Int × List Int) × Int × Bool :=
  let B := (D.drop b).take ((n + 7) / 8)
  if bys (lbits B n) = B then (((n : Int), ints (wrds (lbits B n))), ((b + (n + 7) / 8 : Nat) : Int), true) else (((0 : Int), []), 0, false)
def BRd (D : List Nat) (a : Int) : (Int × List Int) × Int × Bool :=
  bif !(VRd D a).2.2 then (((0 : Int), []), 0, false) else
  if (VRd D a).1 > 5000 then (((0 : Int), []), 0, false) else
  if ((VRd D a).1.toNat + 7) / 8 + (VRd D a).2.1.toNat > D.length then (((0 : Int), []), 0, false) else brFin D (VRd D a).1.toNat (VRd D a).2.1.toNat

theorem pow8 (k : Nat) (h : k < 8) : 1 ≤ 2 ^ k ∧ 2 ^ k ≤ 128 := by
  rcases (show k = 0 ∨ k = 1 ∨ k = 2 ∨ k = 3 ∨ k = 4 ∨ k = 5 ∨ k = 6 ∨ k = 7 by omega) with h | h | h | h | h | h | h | h <;> subst h <;> decide
theorem l02Pow_l0 : ∀ (k : Nat) (x : Nat), k < 62 → x * 2 ^ k < 2 ^ 63 → spec_l02Pow_l0 k x = some ((x * 2 ^ k : Nat) : Int) := by
  intro k
  induction k with
  | zero => intro x _ _; rw [spec_l02Pow_l0.eq, bif_ndec (by omega)]; simp
  | succ k ih =>
    intro x hk hx
    have hx2 : 2 * x * 2 ^ k < 2 ^ 63 := by rw [Nat.pow_succ] at hx; rw [Nat.mul_comm 2 x, Nat.mul_assoc, Nat.mul_comm 2]; exact hx
    have hx3 : 2 * x < 2 ^ 63 := Nat.lt_of_le_of_lt (Nat.le_mul_of_pos_right _ (Nat.two_pow_pos k)) hx2
    rw [spec_l02Pow_l0.eq, bif_dec (by omega), wrapI (by omega) (by omega), show ((k + 1 : Nat) : Int) - 1 = k by omega, show (2 : Int) * (x : Int) = ((2 * x : Nat) : Int) by omega, wrapIn hx3, ih (2 * x) (by omega) hx2]
    rw [Nat.pow_succ, Nat.mul_comm 2 x, Nat.mul_assoc, Nat.mul_comm 2]
theorem l02Pow_eq (k : Nat) (hk : k < 62) : spec_l02Pow k = some ((2 ^ k : Nat) : Int) := by
  have h := l02Pow_l0 k 1 hk (by rw [Nat.one_mul]; exact Nat.pow_lt_pow_right (by omega) (by omega))
  rw [Nat.one_mul] at h
  rw [spec_l02Pow.eq]; exact h
theorem l16Here_eq (D P : List Nat) (hD : ByteL D) (hP : ByteL P) (a : Nat) (hl : D.length ≤ 1048576) (ha : a ≤ D.length) (hp : P.length ≤ 1048576) : spec_l16Here (ints D) a (ints P) = some (decide (0 < P.length) && decide ((D.drop a).take P.length = P)) := by
  rw [spec_l16Here.eq, List.length_map, List.length_map]
  by_cases h0 : 0 < P.length
  · rw [bif_dec (by omega), bif_dec (by omega), wrapI (x := (D.length : Int) - P.length) (by omega) (by omega), decide_eq_true h0, Bool.true_and]
    by_cases h1 : a + P.length ≤ D.length
    · rw [bif_dec (by omega), wrapI (x := (a : Int) + P.length) (by omega) (by omega), bif_dec (by omega), bif_dec (by omega), show (a : Int) + (P.length : Int) = ((a + P.length : Nat) : Int) by omega, Int.toNat_natCast, Int.toNat_natCast, ints_take, ints_drop, strOf_eq _ _ ((hD.take _).drop _) hP, List.drop_take, Nat.add_sub_cancel_left]
    · rw [bif_ndec (by omega), decide_eq_false]
      intro h
      have := congrArg List.length h
      rw [List.length_take, List.length_drop] at this
      omega
  · rw [bif_ndec (by omega), decide_eq_false h0]; rfl
theorem bb_bytes (n : Int) (W : List Nat) : ByteL (bb n W) := by
  intro x hx
  rcases List.mem_append.1 hx with hx | hx
  · exact Var_bytes n x hx
  · obtain ⟨m, _, rfl⟩ := List.mem_map.1 hx
    exact byt_lt _ _
theorem specBitsRead_l1 (D : List Nat) (hD : ByteL D) (hl : D.length ≤ 1048576) (a n b : Nat) (hn : n ≤ 5000) (hb : b + (n + 7) / 8 ≤ D.length) (hab : a + (Var n).length = b) (hv : (D.drop a).take (Var n).length = Var n) (hv0 : 0 < (Var n).length) (e5 : Int) (e6 : List Int) : ∀ (d i : Nat), n - i = d → i ≤ n →
    spec_BitsRead_l1 (ints D) a n b i e5 e6 (bints ((lbits ((D.drop b).take ((n + 7) / 8)) n).take i)) = some (brFin D n b) := by
  obtain ⟨B, hB⟩ : ∃ B, B = (D.drop b).take ((n + 7) / 8) := ⟨_, rfl⟩
  have hBl : B.length = (n + 7) / 8 := by rw [hB, List.length_take, List.length_drop]; omega
  have hBb : ByteL B := by rw [hB]; exact (hD.drop _).take _
  rw [← hB]
  have hll := lbits_length B n
  intro d
  induction d with
  | zero =>
    intro i hd hi
    have hin : i = n := by omega
    subst hin
    have hwl : (wrds (lbits B i)).length ≤ 100 := by rw [wrds_length, hll]; unfold nw; omega
    have ht := wrds_tight (lbits B i)
    rw [hll] at ht
    have hok : vOk (i : Int) (wrds (lbits B i)) = true := by
      simp only [vOk, Bool.and_eq_true, decide_eq_true_eq, Int.toNat_natCast]
      exact ⟨⟨by omega, by omega⟩, (okW_iff i _ ht.2.1).2 ht⟩
    have hbbl := bb_len (i : Int) (wrds (lbits B i)) (by omega)
    rw [spec_BitsRead_l1.eq, bif_ndec (by omega), List.take_of_length_le (by omega), specBitsOf_eq _ (by omega), Option.bind_some]
    try simp only
    rw [hll, specBitsBytes_eq _ _ (by omega) ht.2.1, Option.bind_some, hok, bif_true, l16Here_eq _ _ hD (bb_bytes _ _) _ hl (by omega) (by omega), Option.bind_some]
    have hbb : bb (i : Int) (wrds (lbits B i)) = Var i ++ bys (lbits B i) := by
      unfold bb
      rw [Int.toNat_natCast]
      have := bts_wrds (lbits B i)
      rw [hll] at this
      rw [this]
    have hcond : ((D.drop a).take (bb (i : Int) (wrds (lbits B i))).length = bb (i : Int) (wrds (lbits B i))) ↔ bys (lbits B i) = B := by
      have hbl : (bys (lbits B i)).length = (i + 7) / 8 := by rw [bys_length, hll]
      rw [hbb, List.length_append, List.take_add, hv, List.drop_drop, hab, hbl, ← hB]
      constructor
      · intro h; exact (List.append_cancel_left h).symm
      · intro h; rw [h]
    rw [decide_eq_true (show 0 < (bb (i : Int) (wrds (lbits B i))).length by rw [hbb, List.length_append]; omega), Bool.true_and]
    simp only [brFin]
    rw [← hB]
    by_cases hc : bys (lbits B i) = B
    · rw [if_pos hc, decide_eq_true (hcond.2 hc), Bool.not_true, bif_false, List.length_map]
      congr 2
      rw [wrapI (by omega) (by omega), hbb, List.length_append, bys_length, hll]
      simp only [Prod.mk.injEq, and_true]
      omega
    · rw [if_neg hc, decide_eq_false (fun h => hc (hcond.1 h))]; rfl
  | succ d ih =>
    intro i hd hi
    have hin : i < n := by omega
    have e1 : (i : Int).tdiv 8 = ((i / 8 : Nat) : Int) := rfl
    have e2 : (i : Int).tmod 8 = ((i % 8 : Nat) : Int) := rfl
    have hj : b + i / 8 < D.length := by omega
    have hp := pow8 (i % 8) (Nat.mod_lt _ (by omega))
    have hy := hD _ (List.getElem_mem hj)
    have hbit : D[b + i / 8] / 2 ^ (i % 8) % 2 = (bbit B i).toNat := by
      rw [testBit_div]
      congr 2
      rw [hB, List.getD_eq_getElem?_getD, List.getElem?_take, if_pos (by omega), List.getElem?_drop, List.getElem?_eq_getElem hj]; rfl
    have hdv : D[b + i / 8] / 2 ^ (i % 8) ≤ D[b + i / 8] := Nat.div_le_self _ _
    have etd : (((D[b + i / 8] : Nat) : Int)).tdiv ((2 ^ (i % 8) : Nat) : Int) = ((D[b + i / 8] / 2 ^ (i % 8) : Nat) : Int) := rfl
    have etm : ((D[b + i / 8] / 2 ^ (i % 8) : Nat) : Int).tmod 2 = ((D[b + i / 8] / 2 ^ (i % 8) % 2 : Nat) : Int) := rfl
    rw [spec_BitsRead_l1.eq, bif_dec (by omega), e1, e2, wrapIn (z := i / 8) (by omega), wrapI (x := (b : Int) + ((i / 8 : Nat) : Int)) (by omega) (by omega), show (b : Int) + ((i / 8 : Nat) : Int) = ((b + i / 8 : Nat) : Int) by omega, at?_ints _ _ hj, Option.bind_some, l02Pow_eq _ (by omega), Option.bind_some, bif_ndec (by omega), wrapIn (z := D[b + i / 8]) (by omega), etd, wrapIn (z := D[b + i / 8] / 2 ^ (i % 8)) (by omega), etm, hbit, wrapS _ (by omega), bif_dec (by simp only [List.length_map, List.length_take, List.length_cons, List.length_nil]; omega)]
    have hnext : bints ((lbits B n).take i) ++ [((bbit B i).toNat : Int)] = bints ((lbits B n).take (i + 1)) := by
      have hg : (lbits B n)[i]'(by omega) = bbit B i := by simp [lbits]
      rw [← List.take_append_getElem (show i < (lbits B n).length by omega), hg]
      simp [bint]
    rw [hnext]
    exact ih (i + 1) (by omega) (by omega)
theorem specBitsRead_eq (D : List Nat) (hD : ByteL D) (hl : D.length ≤ 1048576) (a : Int) : spec_BitsRead (ints D) a = some (BRd D a) := by
  rw [spec_BitsRead.eq, specVarRead_eq D hD hl, Option.bind_some]
  unfold BRd
  obtain ⟨v, hv⟩ : ∃ v, v = VRd D a := ⟨_, rfl⟩
  rw [← hv]
  obtain ⟨n, b, ok⟩ := v
  cases ok with
  | false => rfl
  | true =>
    obtain ⟨a', n', b', rfl, rfl, rfl, h1, h2, h3, h4⟩ := VRd_ok hv.symm
    simp only [Bool.not_true, bif_false, Int.toNat_natCast, List.length_map]
    by_cases h5 : (n' : Int) > 5000
    · rw [bif_dec h5, if_pos h5]
    rw [bif_ndec h5, if_neg h5]
    have e1 : ((n' : Int) + 7).tdiv 8 = (((n' + 7) / 8 : Nat) : Int) := rfl
    rw [wrapI (x := (n' : Int) + 7) (by omega) (by omega), e1, wrapIn (z := (n' + 7) / 8) (by omega), wrapI (x := (D.length : Int) - b') (by omega) (by omega)]
    by_cases h6 : (n' + 7) / 8 + b' > D.length
    · rw [bif_dec (by omega), if_pos h6]
    rw [bif_ndec (by omega), if_neg h6, spec_BitsRead_l0.eq]
    exact specBitsRead_l1 D hD hl a' n' b' (by omega) (by omega) h1 h3 h4 0 [] n' 0 (by omega) (by omega)
end Go.Ev.W
