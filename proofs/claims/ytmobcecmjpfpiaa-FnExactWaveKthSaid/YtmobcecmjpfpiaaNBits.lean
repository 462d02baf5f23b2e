/- Bits in words: plain arithmetic. -/
import Derived.Test.YtmobcecmjpfpiaaEvC
import Derived.Test.YtmobcecmjpfpiaaMLaw
set_option linter.unusedVariables false
set_option linter.unusedSimpArgs false
namespace Go.Ev.W
open Go.Ev

abbrev ints (W : List Nat) : List Int := W.map fun (x : Nat) => (x : Int)
theorem at?_ints (W : List Nat) (i : Nat) (h : i < W.length) : at? (ints W) (i : Int) = some ((W[i] : Nat) : Int) := by
  rw [at?_nat, List.getElem?_map, List.getElem?_eq_getElem h]; rfl
theorem getElem?_ints (W : List Nat) (i : Nat) (h : i < W.length) : (ints W)[i]? = some ((W[i] : Nat) : Int) := by
  rw [List.getElem?_map, List.getElem?_eq_getElem h]; rfl
/-- A list of numbers that are not negative. -/
theorem ints_of (xs : List Int) (b : Nat) (h : ∀ x ∈ xs, 0 ≤ x ∧ x < b) : ∃ W : List Nat, xs = ints W ∧ ∀ x ∈ W, x < b := by
  refine ⟨xs.map Int.toNat, ?_, fun x hx => ?_⟩
  · unfold ints
    rw [List.map_map]
    refine (List.map_id xs).symm.trans (List.map_congr_left fun x hx => ?_)
    have := h x hx
    simp only [Function.comp, id]
    omega
  · obtain ⟨y, hy, rfl⟩ := List.mem_map.1 hx
    have := h y hy
    omega
theorem tdiv_nat (a b : Nat) : (a : Int).tdiv (b : Int) = ((a / b : Nat) : Int) := rfl
theorem tmod_nat (a b : Nat) : (a : Int).tmod (b : Int) = ((a % b : Nat) : Int) := rfl
theorem fdiv_nat (a k : Nat) : (a : Int).fdiv (2 ^ k) = ((a / 2 ^ k : Nat) : Int) := by
  have : (2 : Int) ^ k = ((2 ^ k : Nat) : Int) := by simp
  rw [this, Int.fdiv_eq_ediv_of_nonneg _ (Int.natCast_nonneg _)]
  rfl
theorem bv_nat (w a : Nat) (h : a < 2 ^ w) : (BitVec.ofInt w (a : Int)).toNat = a := by
  rw [BitVec.ofInt_natCast, BitVec.toNat_ofNat, Nat.mod_eq_of_lt h]
theorem bv_and (w a b : Nat) (ha : a < 2 ^ w) (hb : b < 2 ^ w) : ((BitVec.ofInt w (a : Int)) &&& (BitVec.ofInt w (b : Int))).toNat = a &&& b := by
  rw [BitVec.toNat_and, bv_nat w a ha, bv_nat w b hb]
theorem bv_or (w a b : Nat) (ha : a < 2 ^ w) (hb : b < 2 ^ w) : ((BitVec.ofInt w (a : Int)) ||| (BitVec.ofInt w (b : Int))).toNat = a ||| b := by
  rw [BitVec.toNat_or, bv_nat w a ha, bv_nat w b hb]
theorem bv_xor (w a b : Nat) (ha : a < 2 ^ w) (hb : b < 2 ^ w) : ((BitVec.ofInt w (a : Int)) ^^^ (BitVec.ofInt w (b : Int))).toNat = a ^^^ b := by
  rw [BitVec.toNat_xor, bv_nat w a ha, bv_nat w b hb]

/-! #### bits as a number -/
def ofB : List Bool → Nat
  | [] => 0
  | b :: r => b.toNat + 2 * ofB r
theorem ofB_lt : ∀ l : List Bool, ofB l < 2 ^ l.length
  | [] => by simp [ofB]
  | b :: r => by
    have := ofB_lt r
    simp only [ofB, List.length_cons, Nat.pow_succ]
    cases b <;> simp <;> omega
theorem ofB_testBit : ∀ (l : List Bool) (i : Nat), (ofB l).testBit i = l.getD i false
  | [], i => by simp [ofB]
  | b :: r, 0 => by
    simp only [ofB, Nat.testBit_zero, List.getD_cons_zero]
    cases b <;> simp <;> omega
  | b :: r, i + 1 => by
    rw [Nat.testBit_succ, List.getD_cons_succ, ← ofB_testBit r i]
    congr 1
    simp only [ofB]
    cases b <;> simp <;> omega
theorem ofB_snoc : ∀ (l : List Bool) (b : Bool), ofB (l ++ [b]) = ofB l + 2 ^ l.length * b.toNat
  | [], b => by simp [ofB]
  | c :: r, b => by
    simp only [List.cons_append, ofB, ofB_snoc r b, List.length_cons, Nat.pow_succ]
    rw [Nat.mul_add, Nat.add_assoc, ← Nat.mul_assoc, Nat.mul_comm 2 (2 ^ r.length)]
/-- The number with given bits, all of them told. -/
theorem ofB_eq (l : List Bool) (x : Nat) (h : ∀ i, x.testBit i = l.getD i false) : x = ofB l :=
  Nat.eq_of_testBit_eq fun i => by rw [h, ofB_testBit]

/-- Word j of bits. -/
def wrd (l : List Bool) (j : Nat) : Nat := ofB ((l.drop (64 * j)).take 64)
theorem wrd_lt (l : List Bool) (j : Nat) : wrd l j < 2 ^ 64 :=
  Nat.lt_of_lt_of_le (ofB_lt _) (Nat.pow_le_pow_right (by omega) (by rw [List.length_take]; omega))
theorem wrd_bit (l : List Bool) (j k : Nat) (hk : k < 64) : (wrd l j).testBit k = l.getD (64 * j + k) false := by
  rw [wrd, ofB_testBit, List.getD_eq_getElem?_getD, List.getElem?_take, if_pos hk, List.getElem?_drop, List.getD_eq_getElem?_getD]
def nw (n : Nat) : Nat := (n + 63) / 64
def wrds (l : List Bool) : List Nat := (List.range (nw l.length)).map (wrd l)
theorem wrds_length (l : List Bool) : (wrds l).length = nw l.length := by simp [wrds]
theorem wrds_get (l : List Bool) (j : Nat) (h : j < nw l.length) : (wrds l)[j]? = some (wrd l j) := by
  simp [wrds, h]
/-- Bit i of words. -/
def bit (W : List Nat) (i : Nat) : Bool := (W.getD (i / 64) 0).testBit (i % 64)
def bts (n : Nat) (W : List Nat) : List Bool := (List.range n).map (bit W)
theorem bts_length (n : Nat) (W : List Nat) : (bts n W).length = n := by simp [bts]
theorem bts_get (n : Nat) (W : List Nat) (i : Nat) (h : i < n) : (bts n W)[i]? = some (bit W i) := by simp [bts, h]
theorem bts_getD (n : Nat) (W : List Nat) (i : Nat) : (bts n W).getD i false = (decide (i < n) && bit W i) := by
  rw [List.getD_eq_getElem?_getD]
  by_cases h : i < n
  · rw [bts_get n W i h]; simp [h]
  · rw [List.getElem?_eq_none (by rw [bts_length]; omega)]; simp [h]
/-- No bit behind the n-th. -/
def tight (n : Nat) (W : List Nat) : Prop := W.length = nw n ∧ (∀ x ∈ W, x < 2 ^ 64) ∧ ∀ i, n ≤ i → bit W i = false
theorem getD_lt (W : List Nat) (h : ∀ x ∈ W, x < 2 ^ 64) (j : Nat) : W.getD j 0 < 2 ^ 64 := by
  rw [List.getD_eq_getElem?_getD]
  cases hx : W[j]? with
  | none => simp
  | some x => exact h x (List.mem_of_getElem? hx)
theorem wrds_bts (n : Nat) (W : List Nat) (h : tight n W) : wrds (bts n W) = W := by
  obtain ⟨h1, h2, h3⟩ := h
  refine List.ext_getElem? fun j => ?_
  by_cases hj : j < nw n
  · have hj2 : j < W.length := by omega
    rw [wrds_get _ _ (by rw [bts_length]; exact hj), List.getElem?_eq_getElem hj2]
    congr 1
    refine Nat.eq_of_testBit_eq fun k => ?_
    have hg : W.getD j 0 = W[j] := by rw [List.getD_eq_getElem?_getD, List.getElem?_eq_getElem hj2]; rfl
    by_cases hk : k < 64
    · rw [wrd_bit _ _ _ hk, bts_getD]
      have e1 : (64 * j + k) / 64 = j := by omega
      have e2 : (64 * j + k) % 64 = k := by omega
      have e3 : bit W (64 * j + k) = W[j].testBit k := by simp only [bit, e1, e2, hg]
      by_cases hn : 64 * j + k < n
      · rw [decide_eq_true hn, Bool.true_and, e3]
      · rw [decide_eq_false hn, Bool.false_and, ← e3, h3 _ (by omega)]
    · rw [Nat.testBit_lt_two_pow (Nat.lt_of_lt_of_le (wrd_lt _ _) (Nat.pow_le_pow_right (by omega) (by omega))), Nat.testBit_lt_two_pow (Nat.lt_of_lt_of_le (h2 _ (List.getElem_mem hj2)) (Nat.pow_le_pow_right (by omega) (by omega)))]
  · rw [List.getElem?_eq_none (by rw [wrds_length, bts_length]; omega), List.getElem?_eq_none (by omega)]
theorem bit_wrds (l : List Bool) (i : Nat) : bit (wrds l) i = l.getD i false := by
  unfold bit
  by_cases h : i / 64 < nw l.length
  · have : (wrds l).getD (i / 64) 0 = wrd l (i / 64) := by rw [List.getD_eq_getElem?_getD, wrds_get _ _ h]; rfl
    rw [this, wrd_bit _ _ _ (Nat.mod_lt _ (by omega)), Nat.div_add_mod]
  · have : (wrds l).getD (i / 64) 0 = 0 := by rw [List.getD_eq_getElem?_getD, List.getElem?_eq_none (by rw [wrds_length]; omega)]; rfl
    rw [this, Nat.zero_testBit, List.getD_eq_getElem?_getD, List.getElem?_eq_none (by unfold nw at h; omega)]
    rfl
theorem bts_wrds (l : List Bool) : bts l.length (wrds l) = l := by
  refine List.ext_getElem? fun i => ?_
  by_cases hi : i < l.length
  · rw [bts_get _ _ _ hi, bit_wrds, List.getD_eq_getElem?_getD, List.getElem?_eq_getElem hi]; rfl
  · rw [List.getElem?_eq_none (by rw [bts_length]; omega), List.getElem?_eq_none (by omega)]
theorem wrds_tight (l : List Bool) : tight l.length (wrds l) := by
  refine ⟨wrds_length l, fun x hx => ?_, fun i hi => ?_⟩
  · obtain ⟨j, _, rfl⟩ := List.mem_map.1 hx
    exact wrd_lt l j
  · rw [bit_wrds, List.getD_eq_getElem?_getD, List.getElem?_eq_none (by omega)]; rfl
/-- The words are those of the bits: just if nothing lies behind. -/
theorem tight_iff (n : Nat) (W : List Nat) (h1 : W.length = nw n) (h2 : ∀ x ∈ W, x < 2 ^ 64) : tight n W ↔ wrds (bts n W) = W := by
  constructor
  · exact wrds_bts n W
  · intro h
    have := wrds_tight (bts n W)
    rw [h, bts_length] at this
    exact this
theorem tight_last (n : Nat) (W : List Nat) (h1 : W.length = nw n) (h2 : ∀ x ∈ W, x < 2 ^ 64) : tight n W ↔ (n % 64 = 0 ∨ W.getD (W.length - 1) 0 / 2 ^ (n % 64) = 0) := by
  have hbit : ∀ i, W.length ≤ i / 64 → bit W i = false := by
    intro i hi
    unfold bit
    rw [List.getD_eq_getElem?_getD, List.getElem?_eq_none hi]
    exact Nat.zero_testBit _
  unfold nw at h1
  constructor
  · intro ⟨_, _, h3⟩
    by_cases hn : n % 64 = 0
    · exact .inl hn
    · refine .inr (Nat.div_eq_of_lt ?_)
      refine Nat.lt_pow_two_of_testBit _ fun k hk => ?_
      by_cases hk2 : k < 64
      · have := h3 (64 * (W.length - 1) + k) (by omega)
        unfold bit at this
        rw [show (64 * (W.length - 1) + k) / 64 = W.length - 1 by omega, show (64 * (W.length - 1) + k) % 64 = k by omega] at this
        exact this
      · exact Nat.testBit_lt_two_pow (Nat.lt_of_lt_of_le (getD_lt W h2 _) (Nat.pow_le_pow_right (by omega) (by omega)))
  · intro h
    refine ⟨h1, h2, fun i hi => ?_⟩
    by_cases hlt : i / 64 < W.length
    · rcases h with h | h
      · omega
      · have hj : i / 64 = W.length - 1 := by omega
        unfold bit
        rw [hj]
        have hx : W.getD (W.length - 1) 0 < 2 ^ (n % 64) := by
          rcases Nat.div_eq_zero_iff.1 h with h | h
          · exact absurd h (Nat.pos_iff_ne_zero.1 (Nat.two_pow_pos _))
          · exact h
        exact Nat.testBit_lt_two_pow (Nat.lt_of_lt_of_le hx (Nat.pow_le_pow_right (by omega) (by omega)))
    · exact hbit i (by omega)
/-- What one bit more does. -/
theorem wrds_snoc (l : List Bool) (b : Bool) : wrds (l ++ [b]) = if l.length % 64 = 0 then wrds l ++ [b.toNat] else (wrds l).set (l.length / 64) ((wrds l).getD (l.length / 64) 0 + 2 ^ (l.length % 64) * b.toNat) := by
  have hold : ∀ j, j < l.length / 64 → wrd (l ++ [b]) j = wrd l j := by
    intro j hj
    unfold wrd
    rw [List.drop_append_of_le_length (by omega), List.take_append_of_le_length (by rw [List.length_drop]; omega)]
  have hnew : wrd (l ++ [b]) (l.length / 64) = wrd l (l.length / 64) + 2 ^ (l.length % 64) * b.toNat := by
    unfold wrd
    have hd : (l.drop (64 * (l.length / 64))).length = l.length % 64 := by rw [List.length_drop]; omega
    rw [List.drop_append_of_le_length (by omega), List.take_of_length_le (by rw [List.length_append, hd, List.length_singleton]; omega), ofB_snoc, hd, List.take_of_length_le (by omega)]
  refine List.ext_getElem? fun j => ?_
  have hlen : (l ++ [b]).length = l.length + 1 := by simp
  by_cases h0 : l.length % 64 = 0
  · rw [if_pos h0]
    have hn : nw l.length = l.length / 64 := by unfold nw; omega
    have hn2 : nw (l ++ [b]).length = l.length / 64 + 1 := by rw [hlen]; unfold nw; omega
    have hz : wrd l (l.length / 64) = 0 := by unfold wrd; rw [drop_nil l (by omega)]; rfl
    by_cases hj : j < l.length / 64
    · rw [wrds_get _ _ (by omega), List.getElem?_append_left (by rw [wrds_length]; omega), wrds_get _ _ (by omega), hold j hj]
    · by_cases hj2 : j = l.length / 64
      · rw [hj2, wrds_get _ _ (by omega), hnew, List.getElem?_append_right (by rw [wrds_length]; omega), wrds_length, hn, hz, h0]
        simp
      · rw [List.getElem?_eq_none (by rw [wrds_length]; omega), List.getElem?_eq_none (by rw [List.length_append, wrds_length, List.length_singleton]; omega)]
  · rw [if_neg h0]
    have hn : nw l.length = l.length / 64 + 1 := by unfold nw; omega
    have hn2 : nw (l ++ [b]).length = l.length / 64 + 1 := by rw [hlen]; unfold nw; omega
    have hg : (wrds l).getD (l.length / 64) 0 = wrd l (l.length / 64) := by rw [List.getD_eq_getElem?_getD, wrds_get _ _ (by omega)]; rfl
    by_cases hj : j < l.length / 64
    · rw [wrds_get _ _ (by omega), List.getElem?_set_ne (by omega), wrds_get _ _ (by omega), hold j hj]
    · by_cases hj2 : j = l.length / 64
      · rw [hj2, wrds_get _ _ (by omega), hnew, List.getElem?_set_self (by rw [wrds_length]; omega), hg]
      · rw [List.getElem?_eq_none (by rw [wrds_length]; omega), List.getElem?_eq_none (by rw [List.length_set, wrds_length]; omega)]
/-- Bits as the program has them. -/
def bint (b : Bool) : Int := (b.toNat : Int)
abbrev bints (l : List Bool) : List Int := l.map bint
theorem testBit_div (x k : Nat) : x / 2 ^ k % 2 = (x.testBit k).toNat := by
  rw [Nat.testBit_eq_decide_div_mod_eq]
  have := Nat.mod_lt (x / 2 ^ k) (show 0 < 2 by omega)
  by_cases h : x / 2 ^ k % 2 = 1
  · rw [decide_eq_true h, h]; rfl
  · rw [decide_eq_false h]; simp; omega
end Go.Ev.W
