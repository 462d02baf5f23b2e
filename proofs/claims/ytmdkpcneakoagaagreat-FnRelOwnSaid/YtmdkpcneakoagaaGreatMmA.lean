/- What the functions come to, in plain mathematics, part 1. -/
import Derived.Test.YtmdkpcneakoagaaGreatEvC
import Derived.Test.YtmdkpcneakoagaaGreatPh8
import Derived.Test.YtmdkpcneakoagaaGreatPh2
import Derived.Test.YtmdkpcneakoagaaGreatEvCmp
import Derived.Test.YtmdkpcneakoagaaGreatEvSort
import Derived.Laws.Strings
import Derived.Lib.SlicesCompact
import Derived.Test.YtmdkpcneakoagaaGreatPh3
import Derived.Test.YtmdkpcneakoagaaGreatEvTable
import Derived.Test.YtmdkpcneakoagaaGreatEvGrow
import Derived.Test.YtmdkpcneakoagaaGreatPh6
/- What the laws' own helpers come to. -/
set_option linter.unusedVariables false
set_option linter.unusedSimpArgs false
namespace Go.Ev.W
open Go.Ev
end Go.Ev.W
/- Bits in words: plain arithmetic. -/
set_option linter.unusedVariables false
set_option linter.unusedSimpArgs false
namespace Go.Ev.W
open Go.Ev
abbrev ints (W : List Nat) : List Int := W.map fun (x : Nat) => (x : Int)
theorem Q0M (W : List Nat) (i : Nat) (h : i < W.length) : at? (ints W) (i : Int) = some ((W[i] : Nat) : Int) := by
 rw [Q02, Z11, Z3 h]; rfl
theorem Q2p (W : List Nat) (i : Nat) (h : i < W.length) : (ints W)[i]? = some ((W[i] : Nat) : Int) := by
 rw [Z11, Z3 h]; rfl
theorem ints_of (xs : List Int) (b : Nat) (h : ∀ x ∈ xs, 0 ≤ x ∧ x < b) : ∃ W : List Nat, xs = ints W ∧ ∀ x ∈ W, x < b := by
 refine ⟨xs.map Int.toNat, ?_, fun x hx => ?_⟩
 ·unfold ints
  rw [Z23]
  refine (Z86 xs).symm.trans (Z45 fun x hx => ?_)
  have := h x hx
  simp only [Function.comp, id]
  omega
 ·obtain ⟨y, hy, rfl⟩ := Z18.1 hx
  have := h y hy
  omega
theorem fdiv_nat (a k : Nat) : (a : Int).fdiv (2 ^ k) = ((a / 2 ^ k : Nat) : Int) := by
 have : (2 : Int) ^ k = ((2 ^ k : Nat) : Int) := by simp
 rw [this, Int.fdiv_eq_ediv_of_nonneg _ (Int.natCast_nonneg _)]
 rfl
theorem bv_nat (w a : Nat) (h : a < 2 ^ w) : (BitVec.ofInt w (a : Int)).toNat = a := by
 rw [BitVec.ofInt_natCast, BitVec.toNat_ofNat, Nat.mod_eq_of_lt h]
theorem bv_and (w a b : Nat) (ha : a < 2 ^ w) (hb : b < 2 ^ w) : ((BitVec.ofInt w (a : Int)) &&& (BitVec.ofInt w (b : Int))).toNat = a &&& b := by
 rw [BitVec.toNat_and, bv_nat w a ha, bv_nat w b hb]
theorem bv_or (w a b : Nat) (ha : a < 2 ^ w) (hb : b < 2 ^ w) : ((BitVec.ofInt w (a : Int)) ||| (BitVec.ofInt w (b : Int))).toNat = a ||| b := by
 rw [BitVec.toNat_or, bv_nat w a ha, bv_nat w b hb]
def ofB : List Bool → Nat
 | [] => 0
 | b :: r => b.toNat + 2 * ofB r
theorem ofB_lt : ∀ l : List Bool, ofB l < 2 ^ l.length
 | [] => by simp [ofB]
 | b :: r => by
  have := ofB_lt r
  simp only [ofB, Z2, Z60]
  cases b <;> simp <;> omega
theorem ofB_testBit : ∀ (l : List Bool) (i : Nat), (ofB l).testBit i = l.getD i false
 | [], i => by simp [ofB]
 | b :: r, 0 => by
  simp only [ofB, Nat.testBit_zero, List.getD_cons_zero]
  cases b <;> simp <;> omega
 | b :: r, i + 1 => by
  rw [Nat.testBit_succ, Z85, ← ofB_testBit r i]
  congr 1
  simp only [ofB]
  cases b <;> simp <;> omega
theorem ofB_snoc : ∀ (l : List Bool) (b : Bool), ofB (l ++ [b]) = ofB l + 2 ^ l.length * b.toNat
 | [], b => by simp [ofB]
 | c :: r, b => by
  simp only [List.cons_append, ofB, ofB_snoc r b, Z2, Z60]
  rw [Nat.mul_add, Z65, ← Nat.mul_assoc, Z56 2 (2 ^ r.length)]
def wrd (l : List Bool) (j : Nat) : Nat := ofB ((l.drop (64 * j)).take 64)
theorem wrd_lt (l : List Bool) (j : Nat) : wrd l j < 2 ^ 64 :=
 Z54 (ofB_lt _) (Z80 (by omega) (by rw [Z8]; omega))
theorem wrd_bit (l : List Bool) (j k : Nat) (hk : k < 64) : (wrd l j).testBit k = l.getD (64 * j + k) false := by
 rw [wrd, ofB_testBit, Z9, Z55, if_pos hk, Z61, Z9]
def nw (n : Nat) : Nat := (n + 63) / 64
def wrds (l : List Bool) : List Nat := (List.range (nw l.length)).map (wrd l)
theorem Q1U (l : List Bool) : (wrds l).length = nw l.length := by simp [wrds]
theorem Q2W (l : List Bool) (j : Nat) (h : j < nw l.length) : (wrds l)[j]? = some (wrd l j) := by
 simp [wrds, h]
def bit (W : List Nat) (i : Nat) : Bool := (W.getD (i / 64) 0).testBit (i % 64)
def bts (n : Nat) (W : List Nat) : List Bool := (List.range n).map (bit W)
theorem Q2c (n : Nat) (W : List Nat) : (bts n W).length = n := by simp [bts]
theorem bts_get (n : Nat) (W : List Nat) (i : Nat) (h : i < n) : (bts n W)[i]? = some (bit W i) := by simp [bts, h]
theorem bts_getD (n : Nat) (W : List Nat) (i : Nat) : (bts n W).getD i false = (decide (i < n) && bit W i) := by
 rw [Z9]
 by_cases h : i < n
 ·rw [bts_get n W i h]; simp [h]
 ·rw [Z21 (by rw [Q2c]; omega)]; simp [h]
def tight (n : Nat) (W : List Nat) : Prop := W.length = nw n ∧ (∀ x ∈ W, x < 2 ^ 64) ∧ ∀ i, n ≤ i → bit W i = false
theorem getD_lt (W : List Nat) (h : ∀ x ∈ W, x < 2 ^ 64) (j : Nat) : W.getD j 0 < 2 ^ 64 := by
 rw [Z9]
 cases hx : W[j]? with
 | none => simp
 | some x => exact h x (List.mem_of_getElem? hx)
theorem wrds_bts (n : Nat) (W : List Nat) (h : tight n W) : wrds (bts n W) = W := by
 obtain ⟨h1, h2, h3⟩ := h
 refine Z95 fun j => ?_
 by_cases hj : j < nw n
 ·have hj2 : j < W.length := by omega
  rw [Q2W _ _ (by rw [Q2c]; exact hj), Z3 hj2]
  congr 1
  refine Nat.eq_of_testBit_eq fun k => ?_
  have hg : W.getD j 0 = W[j] := by rw [Z9, Z3 hj2]; rfl
  by_cases hk : k < 64
  ·rw [wrd_bit _ _ _ hk, bts_getD]
   have e1 : (64 * j + k) / 64 = j := by omega
   have e2 : (64 * j + k) % 64 = k := by omega
   have e3 : bit W (64 * j + k) = W[j].testBit k := by simp only [bit, e1, e2, hg]
   by_cases hn : 64 * j + k < n
   ·rw [decide_eq_true hn, Z29, e3]
   ·rw [decide_eq_false hn, Bool.false_and, ← e3, h3 _ (by omega)]
  ·rw [Nat.testBit_lt_two_pow (Z54 (wrd_lt _ _) (Z80 (by omega) (by omega))), Nat.testBit_lt_two_pow (Z54 (h2 _ (Z14 hj2)) (Z80 (by omega) (by omega)))]
 ·rw [Z21 (by rw [Q1U, Q2c]; omega), Z21 (by omega)]
theorem bit_wrds (l : List Bool) (i : Nat) : bit (wrds l) i = l.getD i false := by
 unfold bit
 by_cases h : i / 64 < nw l.length
 ·have : (wrds l).getD (i / 64) 0 = wrd l (i / 64) := by rw [Z9, Q2W _ _ h]; rfl
  rw [this, wrd_bit _ _ _ (Nat.mod_lt _ (by omega)), Nat.div_add_mod]
 ·have : (wrds l).getD (i / 64) 0 = 0 := by rw [Z9, Z21 (by rw [Q1U]; omega)]; rfl
  rw [this, Nat.zero_testBit, Z9, Z21 (by unfold nw at h; omega)]
  rfl
theorem Q2D (l : List Bool) : bts l.length (wrds l) = l := by
 refine Z95 fun i => ?_
 by_cases hi : i < l.length
 ·rw [bts_get _ _ _ hi, bit_wrds, Z9, Z3 hi]; rfl
 ·rw [Z21 (by rw [Q2c]; omega), Z21 (by omega)]
theorem Q2d (l : List Bool) : tight l.length (wrds l) := by
 refine ⟨Q1U l, fun x hx => ?_, fun i hi => ?_⟩
 ·obtain ⟨j, _, rfl⟩ := Z18.1 hx
  exact wrd_lt l j
 ·rw [bit_wrds, Z9, Z21 (by omega)]; rfl
theorem tight_iff (n : Nat) (W : List Nat) (h1 : W.length = nw n) (h2 : ∀ x ∈ W, x < 2 ^ 64) : tight n W ↔ wrds (bts n W) = W := by
 constructor
 ·exact wrds_bts n W
 ·intro h
  have := Q2d (bts n W)
  rw [h, Q2c] at this
  exact this
theorem tight_last (n : Nat) (W : List Nat) (h1 : W.length = nw n) (h2 : ∀ x ∈ W, x < 2 ^ 64) : tight n W ↔ (n % 64 = 0 ∨ W.getD (W.length - 1) 0 / 2 ^ (n % 64) = 0) := by
 have hbit : ∀ i, W.length ≤ i / 64 → bit W i = false := by
  intro i hi
  unfold bit
  rw [Z9, Z21 hi]
  exact Nat.zero_testBit _
 unfold nw at h1
 constructor
 ·intro ⟨_, _, h3⟩
  by_cases hn : n % 64 = 0
  ·exact .inl hn
  ·refine .inr (Nat.div_eq_of_lt ?_)
   refine Nat.lt_pow_two_of_testBit _ fun k hk => ?_
   by_cases hk2 : k < 64
   ·have := h3 (64 * (W.length - 1) + k) (by omega)
    unfold bit at this
    rw [show (64 * (W.length - 1) + k) / 64 = W.length - 1 by omega, show (64 * (W.length - 1) + k) % 64 = k by omega] at this
    exact this
   ·exact Nat.testBit_lt_two_pow (Z54 (getD_lt W h2 _) (Z80 (by omega) (by omega)))
 ·intro h
  refine ⟨h1, h2, fun i hi => ?_⟩
  by_cases hlt : i / 64 < W.length
  ·rcases h with h | h
   ·omega
   ·have hj : i / 64 = W.length - 1 := by omega
    unfold bit
    rw [hj]
    have hx : W.getD (W.length - 1) 0 < 2 ^ (n % 64) := by
     rcases Nat.div_eq_zero_iff.1 h with h | h
     ·exact absurd h (Nat.pos_iff_ne_zero.1 (Nat.two_pow_pos _))
     ·exact h
    exact Nat.testBit_lt_two_pow (Z54 hx (Z80 (by omega) (by omega)))
  ·exact hbit i (by omega)
theorem wrds_snoc (l : List Bool) (b : Bool) : wrds (l ++ [b]) = if l.length % 64 = 0 then wrds l ++ [b.toNat] else (wrds l).set (l.length / 64) ((wrds l).getD (l.length / 64) 0 + 2 ^ (l.length % 64) * b.toNat) := by
 have hold : ∀ j, j < l.length / 64 → wrd (l ++ [b]) j = wrd l j := by
  intro j hj
  unfold wrd
  rw [List.drop_append_of_le_length (by omega), List.take_append_of_le_length (by rw [Z19]; omega)]
 have hnew : wrd (l ++ [b]) (l.length / 64) = wrd l (l.length / 64) + 2 ^ (l.length % 64) * b.toNat := by
  unfold wrd
  have hd : (l.drop (64 * (l.length / 64))).length = l.length % 64 := by rw [Z19]; omega
  rw [List.drop_append_of_le_length (by omega), Z37 (by rw [Z10, hd, List.length_singleton]; omega), ofB_snoc, hd, Z37 (by omega)]
 refine Z95 fun j => ?_
 have hlen : (l ++ [b]).length = l.length + 1 := by simp
 by_cases h0 : l.length % 64 = 0
 ·rw [if_pos h0]
  have hn : nw l.length = l.length / 64 := by unfold nw; omega
  have hn2 : nw (l ++ [b]).length = l.length / 64 + 1 := by rw [hlen]; unfold nw; omega
  have hz : wrd l (l.length / 64) = 0 := by unfold wrd; rw [drop_nil l (by omega)]; rfl
  by_cases hj : j < l.length / 64
  ·rw [Q2W _ _ (by omega), Z94 (by rw [Q1U]; omega), Q2W _ _ (by omega), hold j hj]
  ·by_cases hj2 : j = l.length / 64
   ·rw [hj2, Q2W _ _ (by omega), hnew, Z76 (by rw [Q1U]; omega), Q1U, hn, hz, h0]
    simp
   ·rw [Z21 (by rw [Q1U]; omega), Z21 (by rw [Z10, Q1U, List.length_singleton]; omega)]
 ·rw [if_neg h0]
  have hn : nw l.length = l.length / 64 + 1 := by unfold nw; omega
  have hn2 : nw (l ++ [b]).length = l.length / 64 + 1 := by rw [hlen]; unfold nw; omega
  have hg : (wrds l).getD (l.length / 64) 0 = wrd l (l.length / 64) := by rw [Z9, Q2W _ _ (by omega)]; rfl
  by_cases hj : j < l.length / 64
  ·rw [Q2W _ _ (by omega), List.getElem?_set_ne (by omega), Q2W _ _ (by omega), hold j hj]
  ·by_cases hj2 : j = l.length / 64
   ·rw [hj2, Q2W _ _ (by omega), hnew, List.getElem?_set_self (by rw [Q1U]; omega), hg]
   ·rw [Z21 (by rw [Q1U]; omega), Z21 (by rw [Z92, Q1U]; omega)]
def bint (b : Bool) : Int := (b.toNat : Int)
abbrev Qe (l : List Bool) : List Int := l.map bint
theorem testBit_div (x k : Nat) : x / 2 ^ k % 2 = (x.testBit k).toNat := by
 rw [Nat.testBit_eq_decide_div_mod_eq]
 have := Nat.mod_lt (x / 2 ^ k) (show 0 < 2 by omega)
 by_cases h : x / 2 ^ k % 2 = 1
 ·rw [decide_eq_true h, h]; rfl
 ·rw [decide_eq_false h]; simp; omega
end Go.Ev.W
/- The order of texts and of suffixes. -/
set_option linter.unusedVariables false
set_option linter.unusedSimpArgs false
namespace Go.Ev.W
open Go.Ev
def cmpN : List Nat → List Nat → Int
 | [], [] => 0
 | [], _ :: _ => -1
 | _ :: _, [] => 1
 | a :: x, b :: y => if a < b then -1 else if b < a then 1 else cmpN x y
theorem Q36 : ∀ x, cmpN x x = 0
 | [] => rfl
 | a :: x => by rw [cmpN, if_neg (by omega), if_neg (by omega)]; exact Q36 x
theorem Q2y : ∀ x y, cmpN y x = - cmpN x y
 | [], [] => rfl
 | [], _ :: _ => rfl
 | _ :: _, [] => rfl
 | a :: x, b :: y => by
  rw [cmpN, cmpN]
  by_cases h1 : a < b
  ·rw [if_pos h1, if_neg (by omega), if_pos h1]; rfl
  ·by_cases h2 : b < a
   ·simp [h1, h2]
   ·rw [if_neg h1, if_neg h2, if_neg h2, if_neg h1]; exact Q2y x y
theorem Q3k : ∀ x y, cmpN x y = 0 → x = y
 | [], [], _ => rfl
 | [], _ :: _, h => by cases h
 | _ :: _, [], h => by cases h
 | a :: x, b :: y, h => by
  rw [cmpN] at h
  by_cases h1 : a < b
  ·rw [if_pos h1] at h; cases h
  ·by_cases h2 : b < a
   ·rw [if_neg h1, if_pos h2] at h; cases h
   ·rw [if_neg h1, if_neg h2] at h
    rw [Q3k x y h, show a = b by omega]
theorem cmpN_le : ∀ x y z, cmpN x y ≤ 0 → cmpN y z ≤ 0 → cmpN x z ≤ 0
 | [], [], _, _, h => h
 | [], _ :: _, [], _, _ => by decide
 | [], _ :: _, _ :: _, _, _ => show (-1 : Int) ≤ 0 by decide
 | _ :: _, [], _, h, _ => by cases h
 | _ :: _, _ :: _, [], _, h => by cases h
 | a :: x, b :: y, c :: z, h1, h2 => by
  rw [cmpN] at h1 h2 ⊢
  by_cases p1 : a < b
  ·by_cases p2 : b < c
   ·rw [if_pos (by omega)]; decide
   ·by_cases p3 : c < b
    ·rw [if_neg p2, if_pos p3] at h2; exact absurd h2 (by decide)
    ·rw [if_pos (by omega)]; decide
  ·by_cases p4 : b < a
   ·rw [if_neg p1, if_pos p4] at h1; exact absurd h1 (by decide)
   ·rw [if_neg p1, if_neg p4] at h1
    by_cases p2 : b < c
    ·rw [if_pos (by omega)]; decide
    ·by_cases p3 : c < b
     ·rw [if_neg p2, if_pos p3] at h2; exact absurd h2 (by decide)
     ·rw [if_neg p2, if_neg p3] at h2
      rw [if_neg (by omega), if_neg (by omega)]
      exact cmpN_le x y z h1 h2
theorem Q3L {x y z : List Nat} (h1 : cmpN x y < 0) (h2 : cmpN y z < 0) : cmpN x z < 0 := by
 have h := cmpN_le x y z (by omega) (by omega)
 rcases Int.lt_or_eq_of_le h with h | h
 ·exact h
 ·have := Q3k x z h
  subst this
  have := Q2y x y
  omega
theorem cmpB_eq : ∀ (X Y : List Nat), (∀ x ∈ X, x < 256) → (∀ y ∈ Y, y < 256) → cmpB (ints X) (ints Y) = cmpN X Y
 | [], [], _, _ => rfl
 | [], _ :: _, _, _ => rfl
 | _ :: _, [], _, _ => rfl
 | a :: X, b :: Y, hx, hy => by
  have ih := cmpB_eq X Y (fun x h => hx x (Z57 _ h)) (fun y h => hy y (Z57 _ h))
  have ha := hx a Z43
  have hb := hy b Z43
  have lt : ∀ c d : Nat, c < 256 → d < 256 → (UInt8.ofNat (c : Int).toNat < UInt8.ofNat (d : Int).toNat ↔ c < d) := by
   intro c d hc hd
   rw [UInt8.lt_iff_toNat_lt, Z5, Z5, UInt8.toNat_ofNat', UInt8.toNat_ofNat', Nat.mod_eq_of_lt hc, Nat.mod_eq_of_lt hd]
  show (if UInt8.ofNat (a : Int).toNat < UInt8.ofNat (b : Int).toNat then (-1 : Int) else if UInt8.ofNat (b : Int).toNat < UInt8.ofNat (a : Int).toNat then 1 else cmpB (ints X) (ints Y)) = _
  rw [cmpN, ih]
  simp only [lt a b ha hb, lt b a hb ha]
theorem l05Cmp_l0 (X Y : List Nat) (hX : X.length ≤ 4000000) (hY : Y.length ≤ 4000000) : ∀ (d i : Nat), X.length - i = d → i ≤ X.length → i ≤ Y.length → Qz_l0 (ints X) (ints Y) i = some (cmpN (X.drop i) (Y.drop i)) := by
 have tail : ∀ i : Nat, (i = X.length ∨ i = Y.length) → i ≤ X.length → i ≤ Y.length → (bif decide (((ints X).length : Int) < ((ints Y).length : Int)) then some (-1 : Int) else bif decide (((ints X).length : Int) > ((ints Y).length : Int)) then some (1 : Int) else some (0 : Int)) = some (cmpN (X.drop i) (Y.drop i)) := by
  intro i h1 h2 h3
  rw [Z1, Z1]
  by_cases p1 : X.length < Y.length
  ·rw [Q2 (by omega), Z53 (show X.length ≤ i by omega), Z27 (show i < Y.length by omega)]; rfl
  ·rw [Q3 (by omega)]
   by_cases p2 : Y.length < X.length
   ·rw [Q2 (by omega), Z53 (show Y.length ≤ i by omega), Z27 (show i < X.length by omega)]; rfl
   ·rw [Q3 (by omega), Z53 (show Y.length ≤ i by omega), Z53 (show X.length ≤ i by omega)]; rfl
 intro d
 induction d with
 | zero =>
  intro i h1 h2 h3
  rw [Qz_l0.eq, Q3 (by rw [Z1]; omega)]
  exact tail i (by omega) h2 h3
 | succ d ih =>
  intro i h1 h2 h3
  have hi : i < X.length := by omega
  rw [Qz_l0.eq, Q2 (by rw [Z1]; omega)]
  by_cases hj : i < Y.length
  ·rw [Q2 (by rw [Z1]; omega), Qz_l1.eq, Q0M _ _ hi, Z0, Q0M _ _ hj, Z0, Z0, Z0, Q6 i (by omega), ih (i + 1) (by omega) (by omega) (by omega), Z27 hi, Z27 hj, cmpN]
   by_cases p1 : X[i] < Y[i]
   ·rw [Q2 (by omega), if_pos p1]
   ·rw [Q3 (by omega), if_neg p1]
    by_cases p2 : Y[i] < X[i]
    ·rw [Q2 (by omega), if_pos p2]
    ·rw [Q3 (by omega), if_neg p2]
  ·rw [Q3 (by rw [Z1]; omega)]
   exact tail i (by omega) h2 h3
theorem l05Cmp_eq (X Y : List Nat) (hX : X.length ≤ 4000000) (hY : Y.length ≤ 4000000) : Qz (ints X) (ints Y) = some (cmpN X Y) := by
 rw [Qz.eq]
 exact l05Cmp_l0 X Y hX hY _ 0 rfl (by omega) (by omega)
def Q1S (D : List Nat) (a b : Nat) : Prop := cmpN (D.drop a) (D.drop b) < 0
theorem suf_tri (D : List Nat) (a b : Nat) (ha : a ≤ D.length) (hb : b ≤ D.length) (h : ¬ Q1S D a b) (h' : ¬ Q1S D b a) : a = b := by
 unfold Q1S at h h'
 have := Q2y (D.drop a) (D.drop b)
 have := congrArg List.length (Q3k (D.drop a) (D.drop b) (by omega))
 rw [Z19, Z19] at this
 omega
end Go.Ev.W
/- The rows of suffixes: the program's and the reference's. -/
set_option linter.unusedVariables false
set_option linter.unusedSimpArgs false
namespace Go.Ev.W
open Go.Ev
theorem Q3y (D : List Nat) (a : Nat) : ¬ Q1S D a a := by unfold Q1S; rw [Q36]; omega
theorem Q4c {D : List Nat} {a b c : Nat} (h1 : Q1S D a b) (h2 : Q1S D b c) : Q1S D a c := Q3L h1 h2
theorem sufLt_not {D : List Nat} {a b : Nat} (ha : a ≤ D.length) (hb : b ≤ D.length) (hne : a ≠ b) (h : ¬ Q1S D a b) : Q1S D b a :=
 Classical.byContradiction fun h' => hne (suf_tri D a b ha hb h h')
structure SS (D : List Nat) (lo : Nat) (S : List Nat) : Prop where
 pw : S.Pairwise (Q1S D)
 mem : ∀ x, x ∈ S ↔ lo ≤ x ∧ x ≤ D.length
theorem sorted_unique {D : List Nat} : ∀ {S T : List Nat}, S.Pairwise (Q1S D) → T.Pairwise (Q1S D) → (∀ x, x ∈ S ↔ x ∈ T) → S = T
 | [], [], _, _, _ => rfl
 | [], b :: T, _, _, h => by have := (h b).2 Z43; cases this
 | a :: S, [], _, _, h => by have := (h a).1 Z43; cases this
 | a :: S, b :: T, h1, h2, h => by
  obtain ⟨p1, q1⟩ := Z81.1 h1
  obtain ⟨p2, q2⟩ := Z81.1 h2
  have hab : a = b := by
   rcases Z13.1 ((h a).1 Z43) with h3 | h3
   ·exact h3
   ·rcases Z13.1 ((h b).2 Z43) with h4 | h4
    ·exact h4.symm
    ·exact absurd (Q4c (p1 b h4) (p2 a h3)) (Q3y D a)
  subst hab
  rw [sorted_unique q1 q2 fun x => ⟨fun hx => ?_, fun hx => ?_⟩]
  ·rcases Z13.1 ((h x).1 (Z57 _ hx)) with h3 | h3
   ·subst h3; exact absurd (p1 x hx) (Q3y D x)
   ·exact h3
  ·rcases Z13.1 ((h x).2 (Z57 _ hx)) with h3 | h3
   ·subst h3; exact absurd (p2 x hx) (Q3y D x)
   ·exact h3
theorem SS.unique {D : List Nat} {lo : Nat} {S T : List Nat} (h : SS D lo S) (k : SS D lo T) : S = T :=
 sorted_unique h.pw k.pw fun x => (h.mem x).trans (k.mem x).symm
theorem SS.nodup {D : List Nat} {lo : Nat} {S : List Nat} (h : SS D lo S) : S.Nodup :=
 h.pw.imp fun {a b} hab e => by subst e; exact Q3y D a hab
theorem SS.length {D : List Nat} {lo : Nat} {S : List Nat} (h : SS D lo S) (hlo : lo ≤ D.length + 1) : S.length = D.length + 1 - lo := by
 have hp : S.Perm ((List.range (D.length + 1 - lo)).map (· + lo)) := by
  refine (List.perm_ext_iff_of_nodup h.nodup ?_).2 fun x => ?_
  ·exact List.Pairwise.map _ (fun a b hab => by simp only [ne_eq] at hab ⊢; omega) List.nodup_range
  ·rw [h.mem]
   simp only [Z18, Z50]
   constructor
   ·intro ⟨h1, h2⟩; exact ⟨x - lo, by omega, by omega⟩
   ·rintro ⟨y, hy, rfl⟩; omega
 have := hp.length_eq
 simpa using this
def srt (D : List Nat) : List Nat := (List.range (D.length + 1)).mergeSort fun a b => !decide (cmpN (D.drop b) (D.drop a) < 0)
theorem Q2q (D : List Nat) : SS D 0 (srt D) := by
 have hperm : (srt D).Perm (List.range (D.length + 1)) := List.mergeSort_perm ..
 have hmem : ∀ x, x ∈ srt D ↔ 0 ≤ x ∧ x ≤ D.length := fun x => by rw [hperm.mem_iff, Z50]; omega
 refine ⟨?_, hmem⟩
 have hnd : (srt D).Nodup := hperm.nodup_iff.2 List.nodup_range
 have hs : (srt D).Pairwise fun a b => (!decide (cmpN (D.drop b) (D.drop a) < 0)) = true := by
  refine List.pairwise_mergeSort (fun a b c h1 h2 => ?_) (fun a b => ?_) _
  ·simp only [Bool.not_eq_true', decide_eq_false_iff_not] at h1 h2 ⊢
   have e1 := Q2y (D.drop a) (D.drop b)
   have e2 := Q2y (D.drop b) (D.drop c)
   have e3 := Q2y (D.drop a) (D.drop c)
   have := cmpN_le (D.drop a) (D.drop b) (D.drop c) (by omega) (by omega)
   omega
  ·have e1 := Q2y (D.drop a) (D.drop b)
   by_cases h : cmpN (D.drop b) (D.drop a) < 0
   ·have : ¬ cmpN (D.drop a) (D.drop b) < 0 := by omega
    simp [this]
   ·simp [h]
 have hand := List.Pairwise.and hs hnd
 refine List.Pairwise.imp_of_mem (fun {a b} ha hb h => ?_) hand
 obtain ⟨h1, h2⟩ := h
 simp only [Bool.not_eq_true', decide_eq_false_iff_not] at h1
 exact Classical.byContradiction fun h3 => h2 (suf_tri D a b ((hmem a).1 ha).2 ((hmem b).1 hb).2 h3 h1)
theorem get_lt {D S : List Nat} (h : S.Pairwise (Q1S D)) {i j : Nat} (hij : i < j) (hj : j < S.length) : Q1S D (S[i]'(by omega)) S[j] :=
 List.pairwise_iff_getElem.1 h i j (by omega) hj hij
theorem SS.insert {D : List Nat} {i : Nat} {S : List Nat} (h : SS D (i + 1) S) (hi : i ≤ D.length) (k : Nat) (hk : k ≤ S.length) (h1 : ∀ j, (hj : j < S.length) → j < k → Q1S D S[j] i) (h2 : ∀ j, (hj : j < S.length) → k ≤ j → Q1S D i S[j]) : SS D i (S.take k ++ i :: S.drop k) := by
 refine ⟨?_, fun x => ?_⟩
 ·have hpw := h.pw
  rw [← Z82 k S] at hpw
  obtain ⟨p1, p2, p3⟩ := List.pairwise_append.1 hpw
  refine List.pairwise_append.2 ⟨p1, Z81.2 ⟨fun x hx => ?_, p2⟩, fun x hx y hy => ?_⟩
  ·obtain ⟨j, hj, rfl⟩ := List.getElem_of_mem hx
   rw [List.getElem_drop]
   rw [Z19] at hj
   exact h2 (k + j) (by omega) (by omega)
  ·have hxi : Q1S D x i := by
    obtain ⟨j, hj, rfl⟩ := List.getElem_of_mem hx
    rw [List.getElem_take]
    rw [Z8] at hj
    exact h1 j (by omega) (by omega)
   rcases Z13.1 hy with rfl | hy
   ·exact hxi
   ·exact p3 x hx y hy
 ·have hm := h.mem x
  rw [← Z82 k S, Z26] at hm
  rw [Z26, Z13]
  constructor
  ·rintro (h3 | h3 | h3)
   ·have := hm.1 (.inl h3); omega
   ·omega
   ·have := hm.1 (.inr h3); omega
  ·intro h3
   by_cases hx : x = i
   ·exact .inr (.inl hx)
   ·rcases hm.2 (by omega) with h4 | h4
    ·exact .inl h4
    ·exact .inr (.inr h4)
theorem specSuf_l1 (D : List Nat) (hD : D.length ≤ 300) (i : Nat) (hi : i ≤ D.length) (S : List Nat) (hS : SS D (i + 1) S) : ∀ (d lo hi' : Nat), hi' - lo = d → lo ≤ hi' → hi' ≤ S.length → (∀ j, (hj : j < S.length) → j < lo → Q1S D S[j] i) → (∀ j, (hj : j < S.length) → hi' ≤ j → Q1S D i S[j]) →
  ∃ T, SS D i T ∧ Qu_l1 (ints D) i lo hi' (ints S) = Qu_l0 (ints D) ((i : Int) - 1) (ints T) := by
 have hSl := hS.length (by omega)
 intro d
 induction d using Nat.strongRecOn with
 | ind d ih =>
  intro lo hi' hd hle hhi h1 h2
  rw [Qu_l1.eq]
  by_cases hlt : lo < hi'
  ·have e1 : (((lo : Int) + hi').tdiv 2) = (((lo + hi') / 2 : Nat) : Int) := by rw [show (lo : Int) + hi' = ((lo + hi' : Nat) : Int) by omega]; rfl
   have hm : (lo + hi') / 2 < S.length := by omega
   have hmx := (hS.mem S[(lo + hi') / 2]).1 (Z14 hm)
   rw [Q2 (by omega), Qa (x := (lo : Int) + hi') (by omega) (by omega), e1, Q2J (by omega), Q0M _ _ hm, Z0, Z5, Q2p _ _ hm, Z0, Z1,
    Q2 (show (0 : Int) ≤ ((S[(lo + hi') / 2] : Nat) : Int) ∧ ((S[(lo + hi') / 2] : Nat) : Int) ≤ ((D.length : Nat) : Int) by omega), Q2 (show (0 : Int) ≤ (i : Int) ∧ (i : Int) ≤ ((D.length : Nat) : Int) by omega), Z5, Z5]
   have e2 : ∀ a : Nat, ((ints D).take D.length).drop a = ints (D.drop a) := fun a => by rw [Z37 (by rw [Z1]; omega)]; exact (List.map_drop).symm
   rw [e2, e2, l05Cmp_eq _ _ (by rw [Z19]; omega) (by rw [Z19]; omega), Z0]
   by_cases hc : cmpN (D.drop S[(lo + hi') / 2]) (D.drop i) < 0
   ·rw [Q2 hc, Q6 _ (by omega)]
    refine ih (hi' - ((lo + hi') / 2 + 1)) (by omega) ((lo + hi') / 2 + 1) hi' rfl (by omega) hhi (fun j hj hjl => ?_) h2
    by_cases hj2 : j = (lo + hi') / 2
    ·subst hj2; exact hc
    ·exact Q4c (get_lt hS.pw (show j < (lo + hi') / 2 by omega) hm) hc
   ·rw [Q3 hc]
    have hlt2 : Q1S D i S[(lo + hi') / 2] := sufLt_not hmx.2 hi (by omega) hc
    refine ih ((lo + hi') / 2 - lo) (by omega) lo ((lo + hi') / 2) rfl (by omega) (by omega) h1 (fun j hj hjl => ?_)
    by_cases hj2 : j = (lo + hi') / 2
    ·subst hj2; exact hlt2
    ·exact Q4c hlt2 (get_lt hS.pw (show (lo + hi') / 2 < j by omega) hj)
  ·have hll : (ints S).length = S.length := Z1 ..
   obtain rfl : lo = hi' := by omega
   rw [Q3 (by omega)]
   simp only [Z5, Z58, Nat.sub_zero, Z40, hll]
   have e3 : ((ints S).drop lo).take (S.length - lo) = ints (S.drop lo) := by rw [Z37 (by rw [Z19, hll]; omega)]; exact (List.map_drop).symm
   have e4 : (ints S).take lo = ints (S.take lo) := (Z91).symm
   rw [e3, e4]
   rw [Q2 (show (0 : Int) ≤ (lo : Int) ∧ (lo : Int) ≤ ((S.length : Nat) : Int) by omega), Q2 (by simp only [Z2, Z6, Z1, Z19]; omega), Q2 (show (0 : Int) ≤ (lo : Int) ∧ (lo : Int) ≤ ((S.length : Nat) : Int) by omega), Q2 (by simp only [Z6, Z1, Z8]; omega),
    Q2 (by simp only [Z10, Z2, Z6, Z1, Z8, Z19]; omega), Qa (by omega) (by omega)]
   refine ⟨_, hS.insert hi lo hhi h1 h2, ?_⟩
   congr 1
   show _ = List.map _ _
   rw [Z15]; rfl
theorem specSuf_l0 (D : List Nat) (hD : D.length ≤ 300) : ∀ (i : Nat) (S : List Nat), i ≤ D.length + 1 → SS D i S → Qu_l0 (ints D) ((i : Int) - 1) (ints S) = some (ints (srt D)) := by
 intro i
 induction i with
 | zero =>
  intro S hi hS
  rw [Qu_l0.eq, Q3 (show ¬ ((0 : Nat) : Int) - 1 ≥ 0 by omega), hS.unique (Q2q D)]
 | succ i ih =>
  intro S hi hS
  have hSl := hS.length hi
  rw [Qu_l0.eq, show ((i + 1 : Nat) : Int) - 1 = (i : Int) by omega, Q2 (show (i : Int) ≥ 0 by omega), Z1]
  obtain ⟨T, hT, e⟩ := specSuf_l1 D hD i (by omega) S hS _ 0 S.length rfl (by omega) (by omega) (fun j hj h => by omega) (fun j hj h => by omega)
  exact e.trans (ih T (by omega) hT)
theorem specSuf_eq (D : List Nat) (hD : D.length ≤ 300) : Qu (ints D) = some (ints (srt D)) := by
 rw [Qu.eq, Q0F.eq, Z1, Z0, decide_eq_true (show (D.length : Int) ≤ 300 by omega), Z12, Qg]
 have := specSuf_l0 D hD (D.length + 1) [] (by omega) ⟨.nil, fun x => ⟨fun h => (Z99 h).elim, fun h => by omega⟩⟩
 rw [show ((D.length + 1 : Nat) : Int) - 1 = (D.length : Int) by omega] at this
 exact this
theorem suf1_eq (D : List Nat) (hD : ∀ x ∈ D, x < 256) (i j : Nat) (hi : i ≤ D.length) (hj : j ≤ D.length) : Q0P i j (ints D) = some (cmpN (D.drop i) (D.drop j)) := by
 have e2 : ∀ a : Nat, ((ints D).take D.length).drop a = ints (D.drop a) := fun a => by rw [Z37 (by rw [Z1]; omega)]; exact (List.map_drop).symm
 rw [Q0P.eq, Z1, Q2 (show (0 : Int) ≤ (i : Int) ∧ (i : Int) ≤ ((D.length : Nat) : Int) by omega), Q2 (show (0 : Int) ≤ (j : Int) ∧ (j : Int) ≤ ((D.length : Nat) : Int) by omega), Z5, Z5, e2, e2, Q1C.eq]
 have e3 : Q21 (ints (D.drop i)) (ints (D.drop j)) = some (cmpN (D.drop i) (D.drop j)) := by
  unfold Q21
  rw [show ((ints (D.drop i)).map fun x => x) = ints (D.drop i) from Z86 _, show ((ints (D.drop j)).map fun x => x) = ints (D.drop j) from Z86 _, cmpB_eq _ _ (fun x hx => hD x (List.mem_of_mem_drop hx)) (fun x hx => hD x (List.mem_of_mem_drop hx))]
 rw [e3]; rfl
theorem implSuf_l0 (D : List Nat) (hD : D.length ≤ 300) : ∀ (d i : Nat), D.length + 1 - i = d → i ≤ D.length + 1 → Q06_l0 ((D.length + 1 : Nat) : Int) i (ints D) (ints (List.range i)) = (Q1Z (ints (List.range (D.length + 1))) (ints D)).bind fun y => some y := by
 intro d
 induction d with
 | zero =>
  intro i h1 h2
  obtain rfl : i = D.length + 1 := by omega
  rw [Q06_l0.eq, Q3 (by omega)]
 | succ d ih =>
  intro i h1 h2
  rw [Q06_l0.eq, Q2 (by omega), Q2 (by simp only [Z2, Z6, Z1, Z42]; omega), Q6 i (by omega)]
  have e : ints (List.range i) ++ [(i : Int)] = ints (List.range (i + 1)) := by
   rw [Z88]
   exact (Z15 (f := fun (x : Nat) => (x : Int)) (l₁ := List.range i) (l₂ := [i])).symm
  rw [e]
  exact ih (i + 1) (by omega) (by omega)
theorem sort_eq (D : List Nat) (hD : D.length ≤ 300) (hb : ∀ x ∈ D, x < 256) : Q1Z (ints (List.range (D.length + 1))) (ints D) = some (ints (srt D)) := by
 have hF : ∀ a ∈ ints (List.range (D.length + 1)), ∃ i : Nat, a = i ∧ i ≤ D.length := fun a ha => by
  obtain ⟨i, hi, rfl⟩ := Z18.1 ha
  exact ⟨i, rfl, by have := Z50.1 hi; omega⟩
 have hv : ∀ i j : Nat, i ≤ D.length → j ≤ D.length → Q0P (i : Int) (j : Int) (ints D) = some (cmpN (D.drop i) (D.drop j)) := fun i j h1 h2 => suf1_eq D hb i j h1 h2
 have hok : OkSort (fun a b => Q0P a b (ints D)) (ints (List.range (D.length + 1))) := by
  refine ⟨by rw [Z1, Z42]; omega, ?_, ?_, ?_, ?_, ?_⟩
  ·intro a ha b hb'
   obtain ⟨i, rfl, hi⟩ := hF a ha
   obtain ⟨j, rfl, hj⟩ := hF b hb'
   rw [hv i j hi hj]; rfl
  ·intro a ha
   obtain ⟨i, rfl, hi⟩ := hF a ha
   rw [hv i i hi hi, Q36]; decide
  ·intro a ha b hb' c hc h1 h2
   obtain ⟨i, rfl, hi⟩ := hF a ha
   obtain ⟨j, rfl, hj⟩ := hF b hb'
   obtain ⟨k, rfl, hk⟩ := hF c hc
   rw [hv i j hi hj] at h1
   rw [hv j k hj hk] at h2
   rw [hv i k hi hk]
   exact Q3L h1 h2
  ·intro a ha b hb' c hc h1 h2
   obtain ⟨i, rfl, hi⟩ := hF a ha
   obtain ⟨j, rfl, hj⟩ := hF b hb'
   obtain ⟨k, rfl, hk⟩ := hF c hc
   rw [hv i j hi hj] at h1
   rw [hv j k hj hk] at h2
   rw [hv i k hi hk]
   simp only [Z41] at h1 h2 ⊢
   have e1 := Q2y (D.drop i) (D.drop j)
   have e2 := Q2y (D.drop j) (D.drop k)
   have e3 := Q2y (D.drop i) (D.drop k)
   have := cmpN_le (D.drop k) (D.drop j) (D.drop i) (by omega) (by omega)
   omega
  ·intro a ha b hb' h1 h2
   obtain ⟨i, rfl, hi⟩ := hF a ha
   obtain ⟨j, rfl, hj⟩ := hF b hb'
   rw [hv i j hi hj] at h1
   rw [hv j i hj hi] at h2
   rw [suf_tri D i j hi hj h1 h2]
 unfold Q1Z sortC
 rw [if_pos hok]
 congr 1
 unfold srt
 refine (List.map_mergeSort (f := fun (x : Nat) => (x : Int)) (fun i hi j hj => ?_)).symm
 show _ = !decide ((Q0P (j : Int) (i : Int) (ints D)).getD 0 < 0)
 rw [hv j i (by have := Z50.1 hj; omega) (by have := Z50.1 hi; omega)]
 rfl
theorem implSuf_eq (D : List Nat) (hD : D.length ≤ 300) (hb : ∀ x ∈ D, x < 256) : Q06 (ints D) = some (ints (srt D)) := by
 rw [Q06.eq, Z1, Qa (by omega) (by omega)]
 have := implSuf_l0 D hD _ 0 rfl (by omega)
 rw [sort_eq D hD hb] at this
 exact this
end Go.Ev.W
/- Bits and their bytes: what the functions come to. -/
set_option linter.unusedVariables false
set_option linter.unusedSimpArgs false
namespace Go.Ev.W
open Go.Ev
theorem Q3l (n a b : Int) : QM n a b = some (decide (a ≤ n) && decide (n ≤ b)) := by
 rw [QM.eq, Bool.cond_decide]
 by_cases h : a ≤ n <;> simp [h]
theorem l01List_l1 (i : Nat) (n : Int) (W : List Int) (hi : i < 4611686018427387904) : ∀ (k x : Nat), k < 64 → x < 2 ^ 64 → ∀ out : List Int, out.length ≤ 1048576 → Qr_l1 i x k n W out = Qr_l0 (i + 1 : Nat) n W (out ++ [((x / 2 ^ k % 2 : Nat) : Int)]) := by
 intro k
 induction k with
 | zero =>
  intro x hk hx out ho
  rw [Qr_l1.eq, Q3 (by omega), Q6 _ hi]
  have e : (x : Int).tmod 2 = ((x % 2 : Nat) : Int) := rfl
  rw [e, Qa (by omega) (by omega), Q2 (by simp only [Z2, Z6]; omega)]
  simp
 | succ k ih =>
  intro x hk hx out ho
  rw [Qr_l1.eq, Q2 (by omega), Qa (x := ((k + 1 : Nat) : Int) - 1) (by omega) (by omega)]
  have e : (x : Int).tdiv 2 = ((x / 2 : Nat) : Int) := rfl
  rw [e, wrapU (by omega) (by omega), show ((k + 1 : Nat) : Int) - 1 = k by omega, ih (x / 2) (by omega) (by omega) out ho]
  rw [Nat.div_div_eq_div_mul, Z60, Z56]
theorem l01List_l0 (n : Nat) (W : List Nat) (hn : n ≤ 5000) (hW : n ≤ 64 * W.length) (hx : ∀ x ∈ W, x < 2 ^ 64) : ∀ (d i : Nat), n - i = d → i ≤ n → ∀ out : List Int, out.length ≤ i → Qr_l0 i n (ints W) out = some (out ++ (Qe (bts n W)).drop i) := by
 intro d
 induction d with
 | zero =>
  intro i hd hi out ho
  rw [Qr_l0.eq, Q3 (by omega), drop_nil _ (by simp only [Z1, Q2c]; omega), Z30]
 | succ d ih =>
  intro i hd hi out ho
  rw [Qr_l0.eq, Q2 (by omega)]
  have e1 : (i : Int).tdiv 64 = ((i / 64 : Nat) : Int) := rfl
  have e2 : (i : Int).tmod 64 = ((i % 64 : Nat) : Int) := rfl
  have hj : i / 64 < W.length := by omega
  rw [e1, e2, Qa (by omega) (by omega), Q0M _ _ hj, Z0, l01List_l1 i n _ (by omega) (i % 64) W[i / 64] (by omega) (hx _ (Z14 hj)) out (by omega), ih (i + 1) (by omega) (by omega) _ (by simp; omega)]
  have hb : (Qe (bts n W))[i]? = some ((W[i / 64] / 2 ^ (i % 64) % 2 : Nat) : Int) := by
   rw [Z11, bts_get _ _ _ (by omega)]
   simp only [Z47, bint, bit, Z9, Z3 hj, Z41, testBit_div]
  rw [drop_eq hb, Z28, Z106]
theorem Q4d (n : Nat) (W : List Nat) (hn : n ≤ 5000) (hW : n ≤ 64 * W.length) (hx : ∀ x ∈ W, x < 2 ^ 64) : Qr ((n : Int), ints W) = some (Qe (bts n W)) := by
 rw [Qr.eq]
 have := l01List_l0 n W hn hW hx n 0 (by omega) (by omega) [] (by simp)
 simpa using this
theorem l01Power_l0 : ∀ (k : Nat) (x : Nat), k < 64 → x * 2 ^ k < 2 ^ 64 → Q0g_l0 k x = some ((x * 2 ^ k : Nat) : Int) := by
 intro k
 induction k with
 | zero => intro x _ _; rw [Q0g_l0.eq, Q3 (by omega)]; simp
 | succ k ih =>
  intro x hk hx
  have hx2 : 2 * x * 2 ^ k < 2 ^ 64 := by rw [Z60] at hx; rw [Z56 2 x, Nat.mul_assoc, Z56 2]; exact hx
  have hx3 : 2 * x < 2 ^ 64 := Nat.lt_of_le_of_lt (Nat.le_mul_of_pos_right _ (Nat.two_pow_pos k)) hx2
  rw [Q0g_l0.eq, Q2 (by omega), Qa (by omega) (by omega), show ((k + 1 : Nat) : Int) - 1 = k by omega, show (2 : Int) * (x : Int) = ((2 * x : Nat) : Int) by omega, wrapU (by omega) (by omega), ih (2 * x) (by omega) hx2]
  rw [Z60, Z56 2 x, Nat.mul_assoc, Z56 2]
theorem l01Power_eq (k : Nat) (hk : k < 64) : Q0g k = some ((2 ^ k : Nat) : Int) := by
 have h := l01Power_l0 k 1 hk (by rw [Nat.one_mul]; exact Nat.pow_lt_pow_right (by omega) hk)
 rw [Nat.one_mul] at h
 rw [Q0g.eq]; exact h
theorem ints_set (W : List Nat) (i x : Nat) : (ints W).set i (x : Int) = ints (W.set i x) := (List.map_set).symm
theorem bitsOf_l0 (bs : List Bool) (hn : bs.length ≤ 5000) (a : Int) (b : List Int) : ∀ (d i : Nat), bs.length - i = d → i ≤ bs.length → Qm_l0 (Qe bs) i a b bs.length (ints (wrds (bs.take i))) = some (((bs.length : Int), ints (wrds bs)), true) := by
 intro d
 induction d with
 | zero =>
  intro i hd hi
  rw [Qm_l0.eq, Z1, Q3 (by omega), Z37 (by omega)]
 | succ d ih =>
  intro i hd hi
  have hlt : i < bs.length := by omega
  have hb : at? (Qe bs) (i : Int) = some (bint bs[i]) := by rw [Q02, Z11, Z3 hlt]; rfl
  have hl : (bs.take i).length = i := by rw [Z8]; omega
  have hs := wrds_snoc (bs.take i) bs[i]
  rw [hl, List.take_append_getElem hlt] at hs
  have hwl := Q1U (bs.take i)
  rw [hl] at hwl
  have e1 : (i : Int).tdiv 64 = ((i / 64 : Nat) : Int) := rfl
  have e2 : (i : Int).tmod 64 = ((i % 64 : Nat) : Int) := rfl
  have step : Qm_l1 (Qe bs) i a b bs.length (ints (wrds (bs.take i))) = some (((bs.length : Int), ints (wrds bs)), true) := by
   rw [Qm_l1.eq]
   simp only [e1, e2, hb, Z0]
   rw [Qa (x := ((i / 64 : Nat) : Int)) (by omega) (by omega), Q6 _ (by omega), Z5, l01Power_eq _ (Nat.mod_lt _ (by omega))]
   have hih := ih (i + 1) (by omega) (by omega)
   unfold nw at hwl
   by_cases h0 : i % 64 = 0
   ·rw [if_pos h0] at hs
    rw [hs] at hih
    have hc : ∀ z : Nat, ints (wrds (bs.take i)) ++ [(z : Int)] = ints (wrds (bs.take i) ++ [z]) := fun z => by simp
    rw [Q0w (by omega), Q2 (by simp only [Z1, Z2, Z6]; omega)]
    have hc0' : ints (wrds (bs.take i)) ++ ([0] : List Int) = ints (wrds (bs.take i) ++ [0]) := hc 0
    rw [hc0']
    have hin : i / 64 < (wrds (bs.take i) ++ [0]).length := by rw [Z10, List.length_singleton]; omega
    cases hbi : bs[i] with
    | true =>
     rw [hbi] at hih
     have hg : (wrds (bs.take i) ++ [0])[i / 64] = 0 := by
      rw [List.getElem_append_right (by omega)]; simp
     rw [Q0w (show bint true = 1 from rfl), Q0M _ _ hin, Z0, Q2p _ _ hin, Z0, hg, Z0]
     have e : IntKind.u64.wrap (((0 : Nat) : Int) + ((2 ^ (i % 64) : Nat) : Int)) = ((1 : Nat) : Int) := by rw [h0]; exact wrapU (by omega) (by omega)
     rw [e, ints_set]
     have e2 : (wrds (bs.take i) ++ [0]).set (i / 64) 1 = wrds (bs.take i) ++ [1] := by
      rw [List.set_append_right _ _ (by omega), show i / 64 - (wrds (bs.take i)).length = 0 by omega]; rfl
     simp only [Z0, e2]
     exact hih
    | false =>
     rw [hbi] at hih
     rw [Q0I (show bint false ≠ 1 from by simp [bint])]
     exact hih
   ·rw [if_neg h0] at hs
    rw [hs] at hih
    have hin : i / 64 < (wrds (bs.take i)).length := by omega
    have hg : (wrds (bs.take i)).getD (i / 64) 0 = (wrds (bs.take i))[i / 64] := by rw [Z9, Z3 hin]; rfl
    rw [Q0I (by omega)]
    cases hbi : bs[i] with
    | true =>
     rw [hbi] at hih hs
     rw [Q0w (show bint true = 1 from rfl), Q0M _ _ hin, Z0, Q2p _ _ hin, Z0, Z0]
     have hlt64 : (wrds (bs.take i))[i / 64] + 2 ^ (i % 64) < 2 ^ 64 := by
      have h1 := Q2d (bs.take (i + 1))
      rw [hs] at h1
      have := h1.2.1 ((wrds (bs.take i)).getD (i / 64) 0 + 2 ^ (i % 64) * true.toNat) (List.mem_of_getElem? (List.getElem?_set_self hin))
      rw [hg] at this
      simpa using this
     have e : IntKind.u64.wrap (((wrds (bs.take i))[i / 64] : Int) + ((2 ^ (i % 64) : Nat) : Int)) = (((wrds (bs.take i)).getD (i / 64) 0 + 2 ^ (i % 64) * true.toNat : Nat) : Int) := by
      rw [hg, Bool.toNat_true, Z83, ← Int.natCast_add]
      exact wrapUn hlt64
     simp only [Z0]
     rw [e, ints_set]
     exact hih
    | false =>
     rw [hbi] at hih
     have e2 : (wrds (bs.take i)).set (i / 64) ((wrds (bs.take i)).getD (i / 64) 0 + 2 ^ (i % 64) * false.toNat) = wrds (bs.take i) := by
      rw [Bool.toNat_false, Nat.mul_zero, Z31, hg, List.set_getElem_self]
     rw [e2] at hih
     rw [Q0I (show bint false ≠ 1 from by simp [bint])]
     exact hih
  rw [Qm_l0.eq, Z1, Q2 (by omega), hb, Z0, Z0, step]
  cases bs[i] <;> rfl
theorem Q3m (bs : List Bool) (hn : bs.length ≤ 5000) : Qm (Qe bs) = some (((bs.length : Int), ints (wrds bs)), true) := by
 rw [Qm.eq, Z1, Q3 (by omega)]
 have := bitsOf_l0 bs hn 0 [] bs.length 0 (by omega) (by omega)
 simpa [wrds, nw] using this
def okW (n : Nat) (W : List Nat) : Bool := decide (W.length = nw n) && (decide (n % 64 = 0) || decide (W.getD (W.length - 1) 0 / 2 ^ (n % 64) = 0))
def vOk (n : Int) (W : List Nat) : Bool := decide (0 ≤ n) && decide (n ≤ 5000) && okW n.toNat W
theorem Q2O (n : Nat) (W : List Nat) (h2 : ∀ x ∈ W, x < 2 ^ 64) : okW n W = true ↔ tight n W := by
 simp only [okW, Z4, Bool.or_eq_true, decide_eq_true_eq]
 constructor
 ·intro ⟨h1, h⟩; exact (tight_last n W h1 h2).2 h
 ·intro h; exact ⟨h.1, (tight_last n W h.1 h2).1 h⟩
theorem Q3M (n : Int) (W : List Nat) (hl : W.length ≤ 1048576) (hx : ∀ x ∈ W, x < 2 ^ 64) : Q0y (n, ints W) = some (vOk n W) := by
 rw [Q0y.eq, Q3l, Z0]
 unfold vOk
 cases hn : decide (0 ≤ n) && decide (n ≤ 5000) with
 | false => rfl
 | true =>
  simp only [Z4, decide_eq_true_eq] at hn
  obtain ⟨m, rfl⟩ : ∃ m : Nat, n = m := ⟨n.toNat, by omega⟩
  have e2 : (m : Int).tmod 64 = ((m % 64 : Nat) : Int) := rfl
  have e1 : ((m : Int) + 63).tdiv 64 = ((nw m : Nat) : Int) := rfl
  simp only [Z12, Qg, e2, Z1, Z29, Z5]
  unfold nw at e1
  rw [Qa (x := (m : Int) + 64) (by omega) (by omega), Qa (x := (m : Int) + 64 - 1) (by omega) (by omega), show (m : Int) + 64 - 1 = m + 63 by omega, e1, Qa (by omega) (by omega)]
  unfold okW nw
  by_cases h1 : W.length = (m + 63) / 64
  ·rw [Q20 (by omega), decide_eq_true h1, Z29]
   by_cases h2 : m % 64 = 0
   ·rw [Q0w (by omega), decide_eq_true h2]; rfl
   ·have hj : W.length - 1 < W.length := by omega
    have e3 : min (m % 64) 64 = m % 64 := by omega
    rw [Q0I (by omega), Qa (x := (W.length : Int) - 1) (by omega) (by omega), show (W.length : Int) - 1 = ((W.length - 1 : Nat) : Int) by omega, Q0M _ _ hj, Z0, Q3 (by omega), e3, fdiv_nat, decide_eq_false h2, Bool.false_or, Z9, Z3 hj]
    congr 1
    rw [Z67]
    simp only [beq_iff_eq, decide_eq_true_eq, Z41]
    omega
  ·rw [Q2j (by omega), decide_eq_false h1]; rfl
theorem bitsOk_l1 (a : Int) (b : Int) (U W : List Nat) (hl : U.length = W.length) (hn : W.length ≤ 1048576) : QJ_l1 0 a (ints W) b (ints U) = some (decide (W = U)) := by
 have key : ∀ (d i : Nat), W.length - i = d → i ≤ W.length → QJ_l1 i a (ints W) b (ints U) = some (decide (W.drop i = U.drop i)) := by
  intro d
  induction d with
  | zero =>
   intro i hd hi
   rw [QJ_l1.eq, Z1, Q3 (by omega), drop_nil W (by omega), drop_nil U (by omega)]; simp
  | succ d ih =>
   intro i hd hi
   have hw : i < W.length := by omega
   have hu : i < U.length := by omega
   rw [QJ_l1.eq, Z1, Q2 (by omega), Q0M _ _ hw, Z0, Q0M _ _ hu, Z0, Z5, Q2p _ _ hu, Z0, Q6 _ (by omega), ih (i + 1) (by omega) (by omega), Z27 hw, Z27 hu]
   by_cases h : W[i] = U[i]
   ·rw [Q20 (by omega)]; simp only [h, List.cons.injEq, true_and]
   ·rw [Q2j (by omega)]; simp only [h, List.cons.injEq, false_and, decide_false]
 have := key W.length 0 (by omega) (by omega)
 simpa using this
theorem specBitsOk_eq (n : Int) (W : List Nat) (hl : W.length ≤ 1048576) (hx : ∀ x ∈ W, x < 2 ^ 64) : QJ (n, ints W) = some (vOk n W) := by
 rw [QJ.eq]
 unfold vOk
 by_cases h1 : n < 0
 ·rw [Q2 h1, decide_eq_false (show ¬ 0 ≤ n by omega)]; rfl
 rw [Q3 h1]
 by_cases h2 : n > 5000
 ·rw [Q2 h2, decide_eq_false (show ¬ n ≤ 5000 by omega), Z98]; rfl
 rw [Q3 h2, decide_eq_true (show 0 ≤ n by omega), decide_eq_true (show n ≤ 5000 by omega)]
 obtain ⟨m, rfl⟩ : ∃ m : Nat, n = m := ⟨n.toNat, by omega⟩
 have e1 : ((m : Int) + 63).tdiv 64 = ((nw m : Nat) : Int) := rfl
 simp only [Z1, Z29, Z5]
 rw [Qa (x := (m : Int) + 63) (by omega) (by omega), e1]
 have hm : nw m ≤ 100 := by unfold nw; omega
 rw [Qa (by omega) (by omega)]
 by_cases h3 : W.length = nw m
 ·have hb := Q2c m W
  rw [Q20 (by omega), QJ_l0.eq, Q4d m W (by omega) (by unfold nw at h3; omega) hx, Z0, Q3m _ (by omega), Z0]
  try simp only
  rw [bitsOk_l1 _ _ _ _ (by rw [Q1U, hb, h3]) hl]
  congr 1
  rw [Z67, Q2O m W hx, decide_eq_true_eq, tight_iff m W h3 hx]
  exact eq_comm
 ·rw [Q2j (by omega)]
  unfold okW
  rw [decide_eq_false h3]; rfl
def varB (n : Nat) : List Nat := if h : n < 128 then [n] else (n % 128 + 128) :: varB (n / 128)
 termination_by n
 decreasing_by omega
def Var (n : Int) : List Nat := if 0 ≤ n ∧ n ≤ 4294967295 then varB n.toNat else []
def byt (l : List Bool) (m : Nat) : Nat := ofB ((l.drop (8 * m)).take 8)
def bys (l : List Bool) : List Nat := (List.range ((l.length + 7) / 8)).map (byt l)
def bb (n : Int) (W : List Nat) : List Nat := Var n ++ bys (bts n.toNat W)
theorem nw_le {n : Nat} (h : n ≤ 5000) : nw n ≤ 100 := by unfold nw; omega
end Go.Ev.W
/- What the laws' helpers come to: bytes, words, bits, packed numbers. -/
set_option linter.unusedVariables false
set_option linter.unusedSimpArgs false
namespace Go.Ev.W
open Go.Ev
theorem Q2E {α : Type} [BEq α] [LawfulBEq α] [DecidableEq α] (x y : α) : (x == y) = decide (x = y) := by rw [Z67]; simp
end Go.Ev.W
/- Bits out of bytes: what the functions come to. -/
set_option linter.unusedVariables false
set_option linter.unusedSimpArgs false
namespace Go.Ev.W
open Go.Ev
def Qq (D : List Nat) : Prop := ∀ x ∈ D, x < 256
theorem strOf_eq (X Y : List Nat) (hX : Qq X) (hY : Qq Y) : ((Q2a ((ints X).map fun x => x)).toList == (Q2a ((ints Y).map fun x => x)).toList) = decide (X = Y) := by
 have key : ∀ Z : List Nat, (Q2a ((ints Z).map fun x => x)).toList = Z.map UInt8.ofNat := by
  intro Z
  rw [ByteArray.toList_eq]
  simp [Q2a, Z23, Function.comp]
 rw [key, key, Z67]
 simp only [beq_iff_eq, decide_eq_true_eq]
 constructor
 ·intro h
  have := congrArg (List.map UInt8.toNat) h
  rw [Z23, Z23] at this
  have e : ∀ Z : List Nat, Qq Z → Z.map (UInt8.toNat ∘ UInt8.ofNat) = Z := by
   intro Z hZ
   refine (Z45 fun x hx => ?_).trans (Z86 Z)
   have := hZ x hx
   simp only [Function.comp, id]
   exact UInt8.toNat_ofNat_of_lt' this
  rwa [e X hX, e Y hY] at this
 ·intro h; rw [h]
theorem Qq.drop {D : List Nat} (h : Qq D) (i : Nat) : Qq (D.drop i) := fun x hx => h x (List.mem_of_mem_drop hx)
theorem Qq.take {D : List Nat} (h : Qq D) (i : Nat) : Qq (D.take i) := fun x hx => h x (Z109 hx)
end Go.Ev.W
/- Heads of rows: sorted, without doubles; spans. -/
set_option linter.unusedVariables false
set_option linter.unusedSimpArgs false
namespace Go.Ev.W
open Go.Ev
abbrev Ls := List (List Nat)
def ltN (x y : List Nat) : Prop := cmpN x y < 0
def leN (x y : List Nat) : Prop := cmpN x y ≤ 0
theorem ltN_irrefl (x : List Nat) : ¬ ltN x x := by unfold ltN; rw [Q36]; omega
theorem le_lt {x y z : List Nat} (h1 : leN x y) (h2 : ltN y z) : ltN x z := by
 unfold leN ltN at *
 rcases Int.lt_or_eq_of_le h1 with h | h
 ·exact Q3L h h2
 ·rw [Q3k x y h]; exact h2
theorem le_ne {x y : List Nat} (h : leN x y) (h' : x ≠ y) : ltN x y := by
 unfold leN ltN at *
 rcases Int.lt_or_eq_of_le h with h | h
 ·exact h
 ·exact absurd (Q3k x y h) h'
theorem lt_le' {x y : List Nat} (h : ltN x y) : leN x y := by unfold leN ltN at *; omega
theorem strict_unique : ∀ {S T : Ls}, S.Pairwise ltN → T.Pairwise ltN → (∀ x, x ∈ S ↔ x ∈ T) → S = T
 | [], [], _, _, _ => rfl
 | [], b :: T, _, _, h => by have := (h b).2 Z43; cases this
 | a :: S, [], _, _, h => by have := (h a).1 Z43; cases this
 | a :: S, b :: T, h1, h2, h => by
  obtain ⟨p1, q1⟩ := Z81.1 h1
  obtain ⟨p2, q2⟩ := Z81.1 h2
  have hab : a = b := by
   rcases Z13.1 ((h a).1 Z43) with h3 | h3
   ·exact h3
   ·rcases Z13.1 ((h b).2 Z43) with h4 | h4
    ·exact h4.symm
    ·exact absurd (Q3L (p1 b h4) (p2 a h3)) (ltN_irrefl a)
  subst hab
  rw [strict_unique q1 q2 fun x => ⟨fun hx => ?_, fun hx => ?_⟩]
  ·rcases Z13.1 ((h x).1 (Z57 _ hx)) with h3 | h3
   ·subst h3; exact absurd (p1 x hx) (ltN_irrefl x)
   ·exact h3
  ·rcases Z13.1 ((h x).2 (Z57 _ hx)) with h3 | h3
   ·subst h3; exact absurd (p2 x hx) (ltN_irrefl x)
   ·exact h3
def ins (x : List Nat) : Ls → Ls
 | [] => [x]
 | v :: V => if cmpN v x < 0 then v :: ins x V else if cmpN v x = 0 then v :: V else x :: v :: V
theorem ins_mem (x y : List Nat) : ∀ V : Ls, y ∈ ins x V ↔ y = x ∨ y ∈ V
 | [] => by simp [ins]
 | v :: V => by
  unfold ins
  by_cases h1 : cmpN v x < 0
  ·rw [if_pos h1, Z13, ins_mem x y V, Z13]
   exact or_left_comm
  ·by_cases h2 : cmpN v x = 0
   ·rw [if_neg h1, if_pos h2, Z13]
    have := Q3k v x h2
    subst this
    exact ⟨fun h => .inr h, fun h => h.elim (fun h => .inl h) id⟩
   ·rw [if_neg h1, if_neg h2, Z13]
theorem ins_sorted (x : List Nat) : ∀ V : Ls, V.Pairwise ltN → (ins x V).Pairwise ltN
 | [], _ => by simp [ins]
 | v :: V, h => by
  obtain ⟨p, q⟩ := Z81.1 h
  unfold ins
  by_cases h1 : cmpN v x < 0
  ·rw [if_pos h1]
   refine Z81.2 ⟨fun y hy => ?_, ins_sorted x V q⟩
   rcases (ins_mem x y V).1 hy with h3 | h3
   ·rw [h3]; exact h1
   ·exact p y h3
  ·by_cases h2 : cmpN v x = 0
   ·rw [if_neg h1, if_pos h2]; exact h
   ·rw [if_neg h1, if_neg h2]
    have hx : ltN x v := by have := Q2y v x; unfold ltN; omega
    refine Z81.2 ⟨fun y hy => ?_, h⟩
    rcases Z13.1 hy with h3 | h3
    ·rw [h3]; exact hx
    ·exact Q3L hx (p y h3)
theorem ins_len (x : List Nat) : ∀ V : Ls, (ins x V).length ≤ V.length + 1
 | [] => by simp [ins]
 | v :: V => by
  have := ins_len x V
  unfold ins
  split
  ·simp only [Z2]; omega
  ·split <;> simp
def words (L : Ls) : Ls := L.foldl (fun V x => ins x V) []
theorem words_aux : ∀ (L V : Ls), V.Pairwise ltN → (L.foldl (fun V x => ins x V) V).Pairwise ltN ∧ ∀ y, y ∈ L.foldl (fun V x => ins x V) V ↔ y ∈ L ∨ y ∈ V
 | [], V, h => ⟨h, fun y => by simp⟩
 | x :: L, V, h => by
  obtain ⟨h1, h2⟩ := words_aux L (ins x V) (ins_sorted x V h)
  refine ⟨h1, fun y => (h2 y).trans ?_⟩
  rw [ins_mem, Z13]
  constructor
  ·rintro (h | h | h)
   ·exact .inl (.inr h)
   ·exact .inl (.inl h)
   ·exact .inr h
  ·rintro ((h | h) | h)
   ·exact .inr (.inl h)
   ·exact .inl h
   ·exact .inr (.inr h)
theorem words_sorted (L : Ls) : (words L).Pairwise ltN := (words_aux L [] .nil).1
theorem words_mem (L : Ls) (y : List Nat) : y ∈ words L ↔ y ∈ L := ((words_aux L [] .nil).2 y).trans (by simp)
theorem words_len (L : Ls) : (words L).length ≤ L.length := by
 have key : ∀ (L V : Ls), (L.foldl (fun V x => ins x V) V).length ≤ V.length + L.length := by
  intro L
  induction L with
  | nil => intro V; simp
  | cons x L ih =>
   intro V
   have := ih (ins x V)
   have := ins_len x V
   simp only [List.foldl_cons, Z2]; omega
 have := key L []
 rw [Z6, Z25] at this
 exact this
def sortN (L : Ls) : Ls := L.mergeSort fun a b => decide (cmpN a b ≤ 0)
theorem sortN_sorted (L : Ls) : (sortN L).Pairwise leN := by
 have := List.pairwise_mergeSort (le := fun a b : List Nat => decide (cmpN a b ≤ 0)) (fun a b c h1 h2 => by
  simp only [decide_eq_true_eq] at h1 h2 ⊢
  exact cmpN_le a b c h1 h2) (fun a b => by
  have := Q2y a b
  by_cases h : cmpN a b ≤ 0
  ·simp [h]
  ·simp only [Bool.or_eq_true, decide_eq_true_eq]; exact .inr (by omega)) L
 exact this.imp fun h => by simpa [leN] using h
theorem sortN_mem (L : Ls) (x : List Nat) : x ∈ sortN L ↔ x ∈ L := List.mem_mergeSort
def keepN (M : Ls) (j : Nat) : Bool := decide (j = 0 ∨ M[j]! ≠ M[j - 1]!)
def dd (M : Ls) : Ls := ((List.range M.length).filter (keepN M)).map (M[·]!)
theorem dd_sorted (M : Ls) (h : M.Pairwise leN) : (dd M).Pairwise ltN := by
 unfold dd
 rw [List.pairwise_map]
 have hr : (List.range M.length).Pairwise (· < ·) := List.pairwise_lt_range
 refine List.Pairwise.imp_of_mem (fun {a b} ha hb hab => ?_) (hr.filter _)
 obtain ⟨hb1, hb2⟩ := Z73.1 hb
 have hbl := Z50.1 hb1
 simp only [keepN, decide_eq_true_eq] at hb2
 have e : ∀ j, j < M.length → M[j]! = M[j]! := fun _ _ => rfl
 have hle : ∀ i j, i ≤ j → j < M.length → leN M[i]! M[j]! := fun i j hij hj => by
  rw [getElem!_pos M i (by omega), getElem!_pos M j hj]
  by_cases e : i = j
  ·subst e; unfold leN; rw [Q36]; omega
  ·exact List.pairwise_iff_getElem.1 h i j (by omega) hj (by omega)
 rcases hb2 with h0 | h0
 ·omega
 ·exact lt_of_le (hle a (b - 1) (by omega) (by omega)) (hle (b - 1) b (by omega) hbl) h0
where lt_of_le {x y z : List Nat} (h1 : leN x y) (h2 : leN y z) (h3 : z ≠ y) : ltN x z := le_lt h1 (le_ne h2 fun e => h3 e.symm)
theorem dd_mem (M : Ls) (x : List Nat) : x ∈ dd M ↔ x ∈ M := by
 unfold dd
 constructor
 ·intro h
  obtain ⟨j, hj, rfl⟩ := Z18.1 h
  have := Z50.1 (Z73.1 hj).1
  rw [getElem!_pos M j this]
  exact Z14 _
 ·intro h
  obtain ⟨j0, hj0, e0⟩ := List.mem_iff_getElem.1 h
  have key : ∀ n, ∀ j, j ≤ n → (hj : j < M.length) → M[j] = x → ∃ i, ∃ hi : i < M.length, M[i] = x ∧ keepN M i = true := by
   intro n
   induction n with
   | zero => intro j hn hj e; exact ⟨j, hj, e, by simp [keepN, show j = 0 by omega]⟩
   | succ n ih =>
    intro j hn hj e
    by_cases h0 : j = 0
    ·exact ⟨j, hj, e, by simp [keepN, h0]⟩
    ·by_cases h1 : M[j - 1]'(by omega) = x
     ·exact ih (j - 1) (by omega) (by omega) h1
     ·refine ⟨j, hj, e, ?_⟩
      simp only [keepN, decide_eq_true_eq]
      refine .inr ?_
      rw [getElem!_pos M j hj, getElem!_pos M (j - 1) (by omega), e]
      exact fun e' => h1 e'.symm
  obtain ⟨i, hi, e1, e2⟩ := key j0 j0 (Z7 _) hj0 e0
  refine Z18.2 ⟨i, Z73.2 ⟨Z50.2 hi, e2⟩, ?_⟩
  rw [getElem!_pos M i hi]; exact e1
theorem dd_words (L : Ls) : dd (sortN L) = words L :=
 strict_unique (dd_sorted _ (sortN_sorted L)) (words_sorted L) fun x => by rw [dd_mem, sortN_mem, words_mem]
def hd (D : List Nat) (d : Nat) : Ls := (srt D).map fun i => (D.drop i).take d
theorem take_le : ∀ (d : Nat) (x y : List Nat), leN x y → leN (x.take d) (y.take d)
 | 0, x, y, _ => by simp [leN, cmpN]
 | d + 1, [], [], h => h
 | d + 1, [], _ :: _, h => by simp [leN, cmpN]
 | d + 1, _ :: _, [], h => by simp [leN, cmpN] at h
 | d + 1, a :: x, b :: y, h => by
  have ih := take_le d x y
  unfold leN at ih h ⊢
  rw [Z100, Z100]
  rw [cmpN] at h ⊢
  by_cases h1 : a < b
  ·rw [if_pos h1]; omega
  ·by_cases h2 : b < a
   ·rw [if_neg h1, if_pos h2] at h; omega
   ·rw [if_neg h1, if_neg h2] at h ⊢; exact ih h
theorem hd_sorted (D : List Nat) (d : Nat) : (hd D d).Pairwise leN := by
 unfold hd
 rw [List.pairwise_map]
 exact (Q2q D).pw.imp fun h => take_le d _ _ (lt_le' h)
theorem hd_len (D : List Nat) (d : Nat) : (hd D d).length = D.length + 1 := by
 unfold hd
 rw [Z1, (Q2q D).length (by omega), Nat.sub_zero]
theorem hd_byte (D : List Nat) (hD : Qq D) (d : Nat) : ∀ w ∈ hd D d, Qq w ∧ w.length ≤ d := fun w hw => by
 unfold hd at hw
 obtain ⟨i, _, rfl⟩ := Z18.1 hw
 exact ⟨(hD.drop i).take d, by rw [Z8]; omega⟩
def spLo (H : Ls) (w : List Nat) : Nat := (H.filter fun x => decide (cmpN x w < 0)).length
def spHi (H : Ls) (w : List Nat) : Nat := (H.filter fun x => decide (cmpN x w ≤ 0)).length
theorem Q4e {P : List Nat → Bool} : ∀ (H : Ls) (p : Nat), p ≤ H.length → (∀ j, (h : j < H.length) → j < p → P H[j] = true) → (∀ j, (h : j < H.length) → p ≤ j → P H[j] = false) → (H.filter P).length = p
 | [], p, hp, _, _ => by simp at hp; simp [hp]
 | x :: H, 0, hp, _, h2 => by
  have ih := Q4e (P := P) H 0 (Z20 _) (fun j h hj => absurd hj (Z93 _)) (fun j h _ => h2 (j + 1) (by simpa using h) (Z20 _))
  have := h2 0 (by simp) (Z20 _)
  simp only [List.getElem_cons_zero] at this
  rw [Z32, this, if_neg (by simp), ih]
 | x :: H, p + 1, hp, h1, h2 => by
  have ih := Q4e (P := P) H p (by simpa using hp) (fun j h hj => h1 (j + 1) (by simpa using h) (by omega)) (fun j h hj => h2 (j + 1) (by simpa using h) (by omega))
  have := h1 0 (by simp) (by omega)
  simp only [List.getElem_cons_zero] at this
  rw [Z32, this, if_pos rfl, Z2, ih]
theorem filt_le {P Q : List Nat → Bool} (h : ∀ x, P x = true → Q x = true) : ∀ H : Ls, (H.filter P).length ≤ (H.filter Q).length
 | [] => by simp
 | x :: H => by
  have ih := filt_le h H
  rw [Z32, Z32]
  by_cases hp : P x = true
  ·rw [if_pos hp, if_pos (h x hp), Z2, Z2]; omega
  ·rw [if_neg hp]
   split
   ·rw [Z2]; omega
   ·exact ih
theorem sp_le (H : Ls) (w : List Nat) : spLo H w ≤ spHi H w := filt_le (fun x h => by simp only [decide_eq_true_eq] at h ⊢; omega) H
theorem sp_len (H : Ls) (w : List Nat) : spHi H w ≤ H.length := Z102 _ _
theorem sp_next (H : Ls) {v w : List Nat} (h : ltN v w) : spHi H v ≤ spLo H w := filt_le (fun x hx => by simp only [decide_eq_true_eq] at hx ⊢; exact le_lt hx h) H
def wst (Z : List Nat) : ByteArray := Q2a ((ints Z).map fun x => x)
theorem wst_data (Z : List Nat) : (wst Z).data.toList = Z.map UInt8.ofNat := by
 simp [wst, Q2a, Z23, Function.comp]
theorem wst_toList (Z : List Nat) : (wst Z).toList = Z.map UInt8.ofNat := by rw [ByteArray.toList_eq, wst_data]
theorem wst_ints (Z : List Nat) (hZ : Qq Z) : ((wst Z).data.toList.map fun b => (b.toNat : Int)) = ints Z := by
 rw [wst_data, Z23]
 refine Z45 fun x hx => ?_
 have := hZ x hx
 simp only [Function.comp]
 rw [UInt8.toNat_ofNat_of_lt' this]
theorem wst_eq (X Y : List Nat) (hX : Qq X) (hY : Qq Y) : ((wst X).toList == (wst Y).toList) = decide (X = Y) := strOf_eq X Y hX hY
theorem wst_inj {X Y : List Nat} (hX : Qq X) (hY : Qq Y) (h : wst X = wst Y) : X = Y := by
 have := wst_eq X Y hX hY
 rw [h, beq_self_eq_true] at this
 simpa using this.symm
theorem less_eq : ∀ (X Y : List Nat), Qq X → Qq Y → Op.bytesLess (X.map UInt8.ofNat) (Y.map UInt8.ofNat) = decide (cmpN X Y < 0)
 | [], [], _, _ => by simp [Op.bytesLess, cmpN]
 | [], _ :: _, _, _ => by simp [Op.bytesLess, cmpN]
 | _ :: _, [], _, _ => by simp [Op.bytesLess, cmpN]
 | a :: X, b :: Y, hx, hy => by
  have ih := less_eq X Y (fun x h => hx x (Z57 _ h)) (fun y h => hy y (Z57 _ h))
  have ha := hx a Z43
  have hb := hy b Z43
  have lt : (UInt8.ofNat a < UInt8.ofNat b) ↔ a < b := by
   rw [UInt8.lt_iff_toNat_lt, UInt8.toNat_ofNat_of_lt' ha, UInt8.toNat_ofNat_of_lt' hb]
  have eq : (UInt8.ofNat a == UInt8.ofNat b) = decide (a = b) := by
   rw [Z67, beq_iff_eq, decide_eq_true_eq]
   exact ⟨fun h => by have := congrArg UInt8.toNat h; rwa [UInt8.toNat_ofNat_of_lt' ha, UInt8.toNat_ofNat_of_lt' hb] at this, fun h => by rw [h]⟩
  rw [Z16, Z16, Op.bytesLess, ih, eq, cmpN]
  by_cases h1 : a < b
  ·rw [if_pos h1, decide_eq_true (lt.2 h1)]; rfl
  ·rw [if_neg h1, decide_eq_false (fun h => h1 (lt.1 h))]
   by_cases h2 : b < a
   ·rw [if_pos h2, decide_eq_false (show ¬ a = b by omega)]; rfl
   ·rw [if_neg h2, decide_eq_true (show a = b by omega)]; simp
theorem wst_less (X Y : List Nat) (hX : Qq X) (hY : Qq Y) : Op.bytesLess (wst X).toList (wst Y).toList = decide (cmpN X Y < 0) := by
 rw [wst_toList, wst_toList]; exact less_eq X Y hX hY
theorem bytesLess_lt : ∀ (x y : List UInt8), Op.bytesLess x y = decide (x < y)
 | _, [] => by simp [Op.bytesLess]
 | [], _ :: _ => by simp [Op.bytesLess]
 | a :: x, b :: y => by
  rw [Op.bytesLess, bytesLess_lt x y]
  simp only [List.cons_lt_cons_iff]
  by_cases h1 : a < b <;> by_cases h2 : a = b <;> by_cases h3 : x < y <;> simp [h1, h2, h3]
theorem wst_le (X Y : List Nat) (hX : Qq X) (hY : Qq Y) : decide ((wst X).data.toList ≤ (wst Y).data.toList) = decide (cmpN X Y ≤ 0) := by
 have h := less_eq Y X hY hX
 rw [bytesLess_lt] at h
 rw [wst_data, wst_data]
 have h' : (Y.map UInt8.ofNat < X.map UInt8.ofNat) ↔ cmpN Y X < 0 := by simpa using h
 have e : (X.map UInt8.ofNat ≤ Y.map UInt8.ofNat) ↔ ¬ (Y.map UInt8.ofNat < X.map UInt8.ofNat) := Iff.rfl
 have := Q2y X Y
 refine decide_eq_decide.2 (e.trans ((not_congr h').trans ?_))
 omega
end Go.Ev.W
/- The transform of a text. -/
set_option linter.unusedVariables false
set_option linter.unusedSimpArgs false
namespace Go.Ev.W
open Go.Ev
def bwS (D : List Nat) (s : Nat) : Nat := if s = 0 then 0 else D.getD (s - 1) 0 + 1
def bwt (D : List Nat) : List Nat := (srt D).map (bwS D)
theorem Q27 (D : List Nat) : (srt D).length = D.length + 1 := by have := (Q2q D).length (by omega); omega
theorem Q10 (D : List Nat) : (bwt D).length = D.length + 1 := by unfold bwt; rw [Z1, Q27]
theorem bwt_step (D : List Nat) (i : Nat) (hi : i < (srt D).length) : ints ((bwt D).take i) ++ [((bwS D (srt D)[i] : Nat) : Int)] = ints ((bwt D).take (i + 1)) := by
 have hi2 : i < (bwt D).length := by unfold bwt; rw [Z1]; exact hi
 rw [Z48, Z3 hi2]
 have e : (bwt D)[i] = bwS D (srt D)[i] := by simp only [bwt, Z87]
 rw [e]
 exact (Z15 (f := fun (x : Nat) => (x : Int)) (l₁ := (bwt D).take i) (l₂ := [bwS D (srt D)[i]])).symm
theorem bwS_pos (D : List Nat) (hD : ∀ x ∈ D, x < 256) (s : Nat) (h0 : s ≠ 0) (hs : s ≤ D.length) : at? (ints D) (IntKind.i64.wrap ((s : Int) - 1)) = some ((D.getD (s - 1) 0 : Nat) : Int) ∧ IntKind.i64.wrap ((IntKind.i64.wrap ((D.getD (s - 1) 0 : Nat) : Int)) + 1) = ((bwS D s : Nat) : Int) ∨ D.length > 1000000 := by
 by_cases hl : D.length > 1000000
 ·exact .inr hl
 refine .inl ⟨?_, ?_⟩
 ·rw [Qa (by omega) (by omega), show (s : Int) - 1 = ((s - 1 : Nat) : Int) by omega, Q0M D (s - 1) (by omega), Z9, Z3 (show s - 1 < D.length by omega)]; rfl
 ·have hx : D.getD (s - 1) 0 < 256 := by
   rw [Z9, Z3 (show s - 1 < D.length by omega)]
   exact hD _ (Z14 _)
  rw [Qa (x := ((D.getD (s - 1) 0 : Nat) : Int)) (by omega) (by omega), Qa (by omega) (by omega)]
  unfold bwS
  rw [if_neg h0]; rfl
theorem specBwt_l0 (D : List Nat) (hl : D.length ≤ 300) (hD : ∀ x ∈ D, x < 256) : ∀ (d i : Nat), D.length + 1 - i = d → i ≤ D.length + 1 → Qx_l0 (ints D) i (ints (srt D)) (ints ((bwt D).take i)) = some (ints (bwt D)) := by
 have hsl := Q27 D
 have hll : (ints (srt D)).length = D.length + 1 := by rw [Z1, hsl]
 intro d
 induction d with
 | zero =>
  intro i h1 h2
  obtain rfl : i = D.length + 1 := by omega
  rw [Qx_l0.eq, hll, Q3 (by omega), Z37 (by rw [Q10]; omega)]
 | succ d ih =>
  intro i h1 h2
  have hi : i < (srt D).length := by omega
  have hm := ((Q2q D).mem _).1 (Z14 hi)
  have hout : (ints ((bwt D).take i)).length = i := by rw [Z1, Z8, Q10]; omega
  rw [Qx_l0.eq, hll, Q2 (by omega), Q0M _ _ hi, Z0, Z5, Q2p _ _ hi, Z0]
  by_cases h0 : (srt D)[i] = 0
  ·rw [Q0w (by omega), Q2 (by rw [hout]; simp only [Z2, Z6]; omega), Q6 i (by omega)]
   have := bwt_step D i hi
   rw [show bwS D (srt D)[i] = 0 by unfold bwS; rw [if_pos h0]] at this
   have e : ints ((bwt D).take i) ++ [(0 : Int)] = ints ((bwt D).take (i + 1)) := this
   rw [e]
   exact ih (i + 1) (by omega) (by omega)
  ·rcases bwS_pos D hD _ h0 hm.2 with ⟨e1, e2⟩ | h
   ·rw [Q0I (by omega), Z0, Z0, e1, Z0, Q2 (by rw [hout]; simp only [Z2, Z6]; omega), Q6 i (by omega), e2, bwt_step D i hi]
    exact ih (i + 1) (by omega) (by omega)
   ·omega
theorem Q3n (D : List Nat) (hl : D.length ≤ 300) (hD : ∀ x ∈ D, x < 256) : Qx (ints D) = some (ints (bwt D)) := by
 rw [Qx.eq, specSuf_eq D hl, Z0]
 exact specBwt_l0 D hl hD _ 0 rfl (by omega)
theorem implBwt_l0 (D : List Nat) (hl : D.length ≤ 300) (hD : ∀ x ∈ D, x < 256) : ∀ (d i : Nat), D.length + 1 - i = d → i ≤ D.length + 1 → Qt_l0 (ints D) ((D.length + 1 : Nat) : Int) i (ints ((bwt D).take i)) (ints (srt D)) = some (ints (bwt D)) := by
 have hsl := Q27 D
 intro d
 induction d with
 | zero =>
  intro i h1 h2
  obtain rfl : i = D.length + 1 := by omega
  rw [Qt_l0.eq, Q3 (by omega), Z37 (by rw [Q10]; omega)]
 | succ d ih =>
  intro i h1 h2
  have hi : i < (srt D).length := by omega
  have hm := ((Q2q D).mem _).1 (Z14 hi)
  have hout : (ints ((bwt D).take i)).length = i := by rw [Z1, Z8, Q10]; omega
  rw [Qt_l0.eq, Q2 (by omega), Q0M _ _ hi, Z0, Z5, Q2p _ _ hi, Z0]
  by_cases h0 : (srt D)[i] = 0
  ·rw [Q0w (by omega), Q2 (by rw [hout]; simp only [Z2, Z6]; omega), Q6 i (by omega)]
   have := bwt_step D i hi
   rw [show bwS D (srt D)[i] = 0 by unfold bwS; rw [if_pos h0]] at this
   have e : ints ((bwt D).take i) ++ [(0 : Int)] = ints ((bwt D).take (i + 1)) := this
   rw [e]
   exact ih (i + 1) (by omega) (by omega)
  ·rcases bwS_pos D hD _ h0 hm.2 with ⟨e1, e2⟩ | h
   ·rw [Q0I (by omega), e1, Z0, Q2 (by rw [hout]; simp only [Z2, Z6]; omega), Q6 i (by omega), e2, bwt_step D i hi]
    exact ih (i + 1) (by omega) (by omega)
   ·omega
theorem Q2X (D : List Nat) (hl : D.length ≤ 300) (hD : ∀ x ∈ D, x < 256) : Qt (ints D) = some (ints (bwt D)) := by
 rw [Qt.eq, implSuf_eq D hl hD, Z0, Z1, Q27]
 exact implBwt_l0 D hl hD _ 0 rfl (by omega)
end Go.Ev.W
/- Symbols: which lists are valid; how many are less than each. -/
set_option linter.unusedVariables false
set_option linter.unusedSimpArgs false
namespace Go.Ev.W
open Go.Ev
def sOk (X : List Int) : Bool := decide (X.length ≤ 301) && X.all fun x => decide (0 ≤ x) && decide (x ≤ 256)
theorem withinS_eq (n a b : Int) : QM n a b = some (decide (a ≤ n) && decide (n ≤ b)) := by
 rw [QM.eq, Bool.cond_decide]
 by_cases h : a ≤ n <;> simp [h]
theorem syms1_eq (n : Int) : Q13 n () = some (!(decide (0 ≤ n) && decide (n ≤ 256))) := by
 rw [Q13.eq, Q1A.eq, withinS_eq]; rfl
theorem implSymsOk_eq (xs : List Int) (h : xs.length < 4611686018427387904) : Q1k xs = some (sOk xs) := by
 rw [Q1k.eq, Bool.cond_decide]
 have e : Q1j xs () = some (xs.all fun x => decide (0 ≤ x) && decide (x ≤ 256)) := by
  rw [Q1j.eq, Q1B.eq, Q0C.eq]
  obtain ⟨r, h1, h2⟩ := find_loop (fun n : Int => !(decide (0 ≤ n) && decide (n ≤ 256))) (fun n => Q13 n ()) xs h (fun x _ => syms1_eq x) (Q0C_l0 xs xs.length) (Q0C_l0.eq xs xs.length)
  rw [h1]
  simp only [Z0, h2, List.any_eq_not_all_not, Z89]
 rw [e]
 unfold sOk
 by_cases hl : xs.length ≤ 301
 ·rw [if_pos (by omega)]; simp [hl]
 ·rw [if_neg (by omega)]; simp [hl]
theorem Q4f (xs : List Int) (h : xs.length < 4611686018427387904) : Q04 xs = some (sOk xs) := by
 rw [Q04.eq, Bool.cond_decide]
 unfold sOk
 by_cases hl : xs.length ≤ 301
 ·rw [if_neg (by omega)]
  rw [all_loop (fun x : Int => decide (0 ≤ x) && decide (x ≤ 256)) xs (Q04_l0 xs)]
  ·simp [hl]
  ·intro i hi
   rw [Q04_l0.eq]
   simp only [Q2o, hi, Int.ofNat_lt, decide_true, cond_true, Z0, Q6 i (by omega), Bool.cond_decide]
   by_cases h1 : xs[i] < 0
   ·rw [if_pos h1, decide_eq_false (by omega)]; rfl
   ·rw [if_neg h1, decide_eq_true (show 0 ≤ xs[i] by omega)]
    by_cases h2 : xs[i] > 256
    ·rw [if_pos h2, decide_eq_false (by omega)]; rfl
    ·rw [if_neg h2, decide_eq_true (by omega)]; rfl
  ·rw [Q04_l0.eq]; simp
 ·rw [if_pos (by omega)]; simp [hl]
def ltc (X : List Nat) (c : Nat) : Nat := (X.filter fun x => decide (x < c)).length
def hst (X : List Nat) (c : Nat) : Nat := (X.filter fun x => decide (x + 1 = c)).length
theorem ltc_le (X : List Nat) (c : Nat) : ltc X c ≤ X.length := Z102 ..
theorem hst_le (X : List Nat) (c : Nat) : hst X c ≤ X.length := Z102 ..
theorem ltc_succ : ∀ (X : List Nat) (c : Nat), ltc X (c + 1) = hst X (c + 1) + ltc X c
 | [], _ => rfl
 | x :: X, c => by
  have ih := ltc_succ X c
  unfold ltc hst at ih ⊢
  rw [Z32, Z32, Z32]
  by_cases h1 : x < c
  ·rw [if_pos (by simp; omega), if_neg (by simp; omega), if_pos (by simpa using h1), Z2, Z2, ih]; omega
  ·by_cases h2 : x = c
   ·rw [if_pos (by simp; omega), if_pos (by simp; omega), if_neg (by simp; omega), Z2, Z2, ih]; omega
   ·rw [if_neg (by simp; omega), if_neg (by simp; omega), if_neg (by simp; omega), ih]
theorem ltc_zero (X : List Nat) : ltc X 0 = 0 := by unfold ltc; simp
theorem hst_snoc (X : List Nat) (x c : Nat) : hst (X ++ [x]) c = hst X c + (if x + 1 = c then 1 else 0) := by
 unfold hst
 rw [Z63, Z10]
 by_cases h : x + 1 = c <;> simp [h]
theorem Q3z {α : Type} (f : Nat → α) (n i : Nat) (h : i < n) : ((List.range n).map f)[i]? = some (f i) := by simp [h]
theorem mapr_set {α : Type} (f : Nat → α) (n i : Nat) (v : α) : ((List.range n).map f).set i v = (List.range n).map fun c => if c = i then v else f c := by
 apply Z75 (by simp)
 intro j h1 h2
 rw [List.getElem_set]
 by_cases h : i = j
 ·subst h; simp
 ·rw [if_neg h]; simp [Ne.symm h]
theorem counts_l1 (X : List Nat) (hX : X.length ≤ 301) : ∀ (d k : Nat), 258 - k = d → 1 ≤ k → k ≤ 258 → QC_l1 k ((List.range 258).map fun c => (((if c < k then ltc X c else hst X c) : Nat) : Int)) = some (ints ((List.range 258).map (ltc X))) := by
 intro d
 induction d with
 | zero =>
  intro k h1 h2 h3
  obtain rfl : k = 258 := by omega
  rw [QC_l1.eq, Q3 (by omega)]
  refine congrArg some ?_
  show _ = List.map (fun (x : Nat) => (x : Int)) (List.map (ltc X) (List.range 258))
  rw [Z23]
  refine Z45 fun c hc => ?_
  rw [if_pos (Z50.1 hc)]; rfl
 | succ d ih =>
  intro k h1 h2 h3
  have hk : k < 258 := by omega
  have hl1 := ltc_le X (k - 1)
  have hl2 := hst_le X k
  rw [QC_l1.eq, Q2 (by omega), Qa (x := (k : Int) - 1) (by omega) (by omega), show (k : Int) - 1 = ((k - 1 : Nat) : Int) by omega]
  simp only [Q02, Z5, Q3z _ 258 k hk, Q3z _ 258 (k - 1) (show k - 1 < 258 by omega), Z0]
  rw [if_neg (show ¬ k < k by omega), if_pos (show k - 1 < k by omega), Q6 k (by omega), Qa (by omega) (by omega), mapr_set]
  have e := ltc_succ X (k - 1)
  rw [show k - 1 + 1 = k by omega] at e
  have e2 : (List.range 258).map (fun c => if c = k then ((hst X k : Nat) : Int) + ((ltc X (k - 1) : Nat) : Int) else (((if c < k then ltc X c else hst X c) : Nat) : Int)) = (List.range 258).map fun c => (((if c < k + 1 then ltc X c else hst X c) : Nat) : Int) := by
   apply Z45
   intro c _
   by_cases h4 : c = k
   ·subst h4; rw [if_pos rfl, if_pos (by omega), e]; omega
   ·rw [if_neg h4]
    by_cases h5 : c < k
    ·rw [if_pos h5, if_pos (by omega)]
    ·rw [if_neg h5, if_neg (by omega)]
  rw [e2]
  exact ih (k + 1) (by omega) (by omega) (by omega)
theorem counts_l0 (X : List Nat) (hX : X.length ≤ 301) (hx : ∀ x ∈ X, x ≤ 256) : ∀ (d i : Nat), X.length - i = d → i ≤ X.length → QC_l0 (ints X) X.length i ((List.range 258).map fun c => ((hst (X.take i) c : Nat) : Int)) = some (ints ((List.range 258).map (ltc X))) := by
 intro d
 induction d with
 | zero =>
  intro i h1 h2
  obtain rfl : i = X.length := by omega
  rw [QC_l0.eq, Q3 (by omega), Z22]
  have := counts_l1 X hX 257 1 (by omega) (by omega) (by omega)
  have e0 : (List.range 258).map (fun c => ((hst X c : Nat) : Int)) = (List.range 258).map fun c => (((if c < 1 then ltc X c else hst X c) : Nat) : Int) := by
   refine Z45 fun c _ => ?_
   by_cases h : c < 1
   ·obtain rfl : c = 0 := by omega
    rw [if_pos h, ltc_zero]
    have : hst X 0 = 0 := by unfold hst; simp
    rw [this]
   ·rw [if_neg h]
  rw [e0]
  exact this
 | succ d ih =>
  intro i h1 h2
  have hi : i < X.length := by omega
  have hxi := hx _ (Z14 hi)
  have hle := hst_le (X.take i) (X[i] + 1)
  rw [Z8] at hle
  rw [QC_l0.eq, Q2 (by omega), Q0M _ _ hi, Z0, Q6 X[i] (by omega)]
  simp only [Q02, Z5, Q3z _ 258 (X[i] + 1) (show X[i] + 1 < 258 by omega), Z0]
  rw [Q6 i (by omega), Q6 (hst (X.take i) (X[i] + 1)) (by omega), mapr_set]
  have e2 : (List.range 258).map (fun c => if c = X[i] + 1 then ((hst (X.take i) (X[i] + 1) + 1 : Nat) : Int) else ((hst (X.take i) c : Nat) : Int)) = (List.range 258).map fun c => ((hst (X.take (i + 1)) c : Nat) : Int) := by
   apply Z45
   intro c _
   have et : X.take (i + 1) = X.take i ++ [X[i]] := by rw [Z48, Z3 hi]; rfl
   rw [et, hst_snoc]
   by_cases h4 : c = X[i] + 1
   ·subst h4; rw [if_pos rfl, if_pos rfl]
   ·rw [if_neg h4, if_neg (Ne.symm h4)]; rfl
  rw [e2]
  exact ih (i + 1) (by omega) (by omega)
theorem counts_eq (X : List Nat) (hX : X.length ≤ 301) (hx : ∀ x ∈ X, x ≤ 256) : QC (ints X) = some (ints ((List.range 258).map (ltc X))) := by
 rw [QC.eq, Z1]
 have := counts_l0 X hX hx _ 0 rfl (by omega)
 rw [Z39] at this
 have e0 : List.replicate 258 (0 : Int) = (List.range 258).map (fun c => ((hst [] c : Nat) : Int)) := by
  refine Z75 (by rw [Z84, Z1, Z42]) fun j h1 h2 => ?_
  rw [List.getElem_replicate, Z87]; rfl
 rw [e0]
 exact this
end Go.Ev.W
/- The longest common subsequence: its length, the first one; both functions give it. -/
set_option linter.unusedVariables false
set_option linter.unusedSimpArgs false
namespace Go.Ev.W
open Go.Ev
def lc : List Int → List Int → Nat
 | [], _ => 0
 | _ :: _, [] => 0
 | x :: xs, y :: ys => if x = y then lc xs ys + 1 else max (lc xs (y :: ys)) (lc (x :: xs) ys)
termination_by xs ys => xs.length + ys.length
theorem lc_nil (X : List Int) : lc X [] = 0 := by cases X <;> simp [lc]
theorem lc_cons (x y : Int) (xs ys : List Int) : lc (x :: xs) (y :: ys) = if x = y then lc xs ys + 1 else max (lc xs (y :: ys)) (lc (x :: xs) ys) := by rw [lc]
theorem mx {a b m : Nat} (h : m = max a b) : a ≤ m ∧ b ≤ m ∧ (m = a ∨ m = b) := by
 rw [Nat.max_def] at h
 split at h <;> omega
theorem lc_step : ∀ (n : Nat) (X Y : List Int), X.length + Y.length ≤ n → (∀ x xs, X = x :: xs → lc xs Y ≤ lc X Y ∧ lc X Y ≤ lc xs Y + 1) ∧ (∀ y ys, Y = y :: ys → lc X ys ≤ lc X Y ∧ lc X Y ≤ lc X ys + 1) := by
 intro n
 induction n with
 | zero =>
  intro X Y h
  exact ⟨fun x xs e => by subst e; simp at h, fun y ys e => by subst e; simp at h⟩
 | succ n ih =>
  intro X Y h
  cases X with
  | nil => exact ⟨fun x xs e => (by cases e), fun y ys e => by simp [lc]⟩
  | cons x xs =>
   cases Y with
   | nil => exact ⟨fun a bs e => by cases e; simp [lc_nil], fun y ys e => by cases e⟩
   | cons y ys =>
    simp only [Z2] at h
    have i1 := (ih xs (y :: ys) (by simp only [Z2]; omega)).2 y ys rfl
    have i2 := (ih (x :: xs) ys (by simp only [Z2]; omega)).1 x xs rfl
    have e := lc_cons x y xs ys
    constructor
    ·intro a bs ea
     cases ea
     by_cases hx : x = y
     ·rw [if_pos hx] at e; omega
     ·rw [if_neg hx] at e; have := mx e; omega
    ·intro a bs ea
     cases ea
     by_cases hx : x = y
     ·rw [if_pos hx] at e; omega
     ·rw [if_neg hx] at e; have := mx e; omega
theorem lc_left (x : Int) (xs Y : List Int) : lc xs Y ≤ lc (x :: xs) Y ∧ lc (x :: xs) Y ≤ lc xs Y + 1 := (lc_step _ (x :: xs) Y (Z7 _)).1 x xs rfl
theorem lc_right (X : List Int) (y : Int) (ys : List Int) : lc X ys ≤ lc X (y :: ys) ∧ lc X (y :: ys) ≤ lc X ys + 1 := (lc_step _ X (y :: ys) (Z7 _)).2 y ys rfl
theorem lc_le (X Y : List Int) : lc X Y ≤ X.length := by
 induction X with
 | nil => simp [lc]
 | cons x xs ih => have := lc_left x xs Y; simp only [Z2]; omega
theorem lc_drop (X : List Int) : ∀ (k : Nat) (Y : List Int), lc X (Y.drop k) ≤ lc X Y
 | 0, Y => by simp
 | k + 1, [] => by simp
 | k + 1, y :: ys => by
  have := lc_drop X k ys
  have := lc_right X y ys
  simp only [List.drop_succ_cons]; omega
theorem lc_drop2 (X Y : List Int) (a b : Nat) (h : a ≤ b) : lc X (Y.drop b) ≤ lc X (Y.drop a) := by
 obtain ⟨c, rfl⟩ := Nat.exists_eq_add_of_le h
 rw [← Z96]
 exact lc_drop X c (Y.drop a)
theorem w64_small {x : Int} (h0 : -9223372036854775808 ≤ x) (h1 : x < 9223372036854775808) : w64 x = x := by
 unfold w64 Go.RowKit.wrap64; omega
def StepOk (f : Bool → Int → Int → Int → Int) : Prop := ∀ (e : Bool) (d u r : Nat), d ≤ u → d ≤ r → u ≤ d + 1 → r ≤ d + 1 → d ≤ 1000000 → f e d u r = ((if e then d + 1 else max u r : Nat) : Int)
theorem fS_ok : StepOk fS := by
 intro e d u r h1 h2 h3 h4 h5
 unfold fS
 rw [w64_small (by omega) (by omega)]
 have hm := mx (rfl : max u r = max u r)
 cases e with
 | false => simp only [Z77, if_false]; split <;> omega
 | true =>
  simp only [if_true]
  by_cases h : (u : Int) < r
  ·simp only [h, if_true]; split <;> omega
  ·simp only [h, if_false]; split <;> omega
theorem fI_ok : StepOk fI := by
 intro e d u r h1 h2 h3 h4 h5
 unfold fI
 rw [w64_small (by omega) (by omega)]
 have hm := mx (rfl : max u r = max u r)
 cases e with
 | false => simp only [Z77, if_false]; split <;> omega
 | true => simp only [if_true]; omega
theorem tabZ_lc {f : Bool → Int → Int → Int → Int} (hf : StepOk f) (X Y : List Int) (hX : X.length ≤ 1000000) : ∀ (s i j : Nat), (X.length - i) + (Y.length - j) = s → i ≤ X.length → j ≤ Y.length → tabZ f X Y i j = (lc (X.drop i) (Y.drop j) : Nat) := by
 intro s
 induction s using Nat.strongRecOn with
 | _ s ih =>
  intro i j hs hi hj
  by_cases h1 : i = X.length
  ·subst h1
   rw [tabZ_row f X Y j hj, Z74]; simp [lc]
  ·by_cases h2 : j = Y.length
   ·subst h2
    rw [tabZ_col f X Y i hi, Z74, lc_nil]; rfl
   ·have hi' : i < X.length := by omega
    have hj' : j < Y.length := by omega
    rw [tabZ_at f X Y i j hi' hj', ih _ (by omega) (i + 1) (j + 1) rfl (by omega) (by omega), ih _ (by omega) (i + 1) j rfl (by omega) (by omega), ih _ (by omega) i (j + 1) rfl (by omega) (by omega)]
    rw [Z27 hi', Z27 hj', lc_cons]
    have gx : X.getD i 0 = X[i] := by rw [Z9, Z3 hi']; rfl
    have gy : Y.getD j 0 = Y[j] := by rw [Z9, Z3 hj']; rfl
    rw [gx, gy]
    have a1 := lc_right (X.drop (i + 1)) Y[j] (Y.drop (j + 1))
    have a2 := lc_left X[i] (X.drop (i + 1)) (Y.drop (j + 1))
    have a3 := lc_le (X.drop (i + 1)) (Y.drop (j + 1))
    rw [Z19] at a3
    rw [hf _ _ _ _ a1.1 a2.1 a1.2 a2.2 (by omega)]
    by_cases e : X[i] = Y[j]
    ·rw [if_pos (by simpa using e), if_pos e]
    ·rw [if_neg (by simpa using e), if_neg e]
theorem tab_at {f : Bool → Int → Int → Int → Int} (hf : StepOk f) (X Y : List Int) (hX : X.length ≤ 1000000) (i j : Nat) (hi : i ≤ X.length) (hj : j ≤ Y.length) :
  ∃ row, at? (Q0x f X Y) (i : Int) = some row ∧ at? row (j : Int) = some ((lc (X.drop i) (Y.drop j) : Nat) : Int) := by
 have hl := Q47 f X Y
 have hr := Q4Q f X Y i hi
 have hz := tabZ_lc hf X Y hX _ i j rfl hi hj
 unfold tabZ at hz
 have e : (Q0x f X Y)[i]? = some ((Q0x f X Y).getD i []) := by
  rw [Z9, Z3 (by omega)]; rfl
 refine ⟨(Q0x f X Y).getD i [], by rw [Q02, e], ?_⟩
 have e2 : ((Q0x f X Y).getD i [])[j]? = some (((Q0x f X Y).getD i []).getD j 0) := by
  generalize (Q0x f X Y).getD i [] = r at hr
  rw [Z9, Z3 (by omega)]; rfl
 rw [Q02, e2, hz]
def fst1 (x : Int) : List Int → Option Nat
 | [] => none
 | y :: ys => if x = y then some 0 else (fst1 x ys).map (· + 1)
theorem fst1_some (x : Int) : ∀ (Y : List Int) (p : Nat), fst1 x Y = some p → ∃ h : p < Y.length, Y[p] = x ∧ ∀ k (hk : k < Y.length), k < p → Y[k] ≠ x
 | [], p, h => by cases h
 | y :: ys, p, h => by
  unfold fst1 at h
  by_cases e : x = y
  ·rw [if_pos e] at h; cases h
   exact ⟨by simp, e.symm, fun k _ hk => absurd hk (Z93 _)⟩
  ·rw [if_neg e] at h
   obtain ⟨q, hq, rfl⟩ := Option.map_eq_some_iff.1 h
   obtain ⟨h1, h2, h3⟩ := fst1_some x ys q hq
   refine ⟨by simp; omega, by simpa using h2, fun k hk hlt => ?_⟩
   cases k with
   | zero => simpa using fun e' => e e'.symm
   | succ k => simpa using h3 k (by simpa using hk) (by omega)
theorem fst1_none (x : Int) : ∀ (Y : List Int), fst1 x Y = none → ∀ k (hk : k < Y.length), Y[k] ≠ x
 | [], _, k, hk => absurd hk (Z93 _)
 | y :: ys, h, k, hk => by
  unfold fst1 at h
  by_cases e : x = y
  ·rw [if_pos e] at h; cases h
  ·rw [if_neg e] at h
   have h := Option.map_eq_none_iff.1 h
   cases k with
   | zero => simpa using fun e' => e e'.symm
   | succ k => simpa using fst1_none x ys h k (by simpa using hk)
theorem lc_fst (x : Int) (xs : List Int) : ∀ Y : List Int, lc (x :: xs) Y = match fst1 x Y with | some p => max (lc xs Y) (lc xs (Y.drop (p + 1)) + 1) | none => lc xs Y
 | [] => by simp [fst1, lc_nil]
 | y :: ys => by
  have ih := lc_fst x xs ys
  rw [lc_cons]
  have r := lc_right xs y ys
  by_cases e : x = y
  ·rw [if_pos e]
   simp only [fst1, if_pos e, Z25, List.drop_succ_cons, Z58]
   rw [Nat.max_eq_right r.2]
  ·rw [if_neg e]
   simp only [fst1, if_neg e]
   cases hf : fst1 x ys with
   | none => rw [hf] at ih; simp only at ih; simp only [Option.map_none]; rw [ih]; exact Nat.max_eq_left r.1
   | some p => rw [hf] at ih; simp only at ih; simp only [Z47, List.drop_succ_cons]; rw [ih, ← Nat.max_assoc, Nat.max_eq_left r.1]
def grd : List Int → List Int → Nat → Nat → List (Nat × Nat)
 | [], _, _, _ => []
 | x :: xs, Y, i, k => match fst1 x Y with
  | some p => if lc xs (Y.drop (p + 1)) + 1 = lc (x :: xs) Y then (i, k + p) :: grd xs (Y.drop (p + 1)) (i + 1) (k + p + 1) else grd xs Y (i + 1) k
  | none => grd xs Y (i + 1) k
theorem grd_len : ∀ (X Y : List Int) (i k : Nat), (grd X Y i k).length = lc X Y
 | [], Y, i, k => by simp [grd, lc]
 | x :: xs, Y, i, k => by
  have h := lc_fst x xs Y
  unfold grd
  cases hf : fst1 x Y with
  | none => rw [hf] at h; simp only at h ⊢; rw [grd_len xs, h]
  | some p =>
   rw [hf] at h; simp only at h ⊢
   by_cases e : lc xs (Y.drop (p + 1)) + 1 = lc (x :: xs) Y
   ·rw [if_pos e, Z2, grd_len xs, e]
   ·rw [if_neg e, grd_len xs]; omega
theorem grd_nil {X Y : List Int} (h : lc X Y = 0) (i k : Nat) : grd X Y i k = [] := Z69 (by rw [grd_len, h])
def ipr (p : Nat × Nat) : Int × Int := ((p.1 : Int), (p.2 : Int))
theorem index_eq (X : List Int) (hX : X.length ≤ 1000000) (x : Int) : Q0u X x = some (match fst1 x X with | some p => (p : Int) | none => -1) := by
 have key : ∀ (d i : Nat), X.length - i = d → i ≤ X.length → Q0u_l0 X x X.length i = some (match fst1 x (X.drop i) with | some p => ((i + p : Nat) : Int) | none => -1) := by
  intro d
  induction d with
  | zero =>
   intro i h1 h2
   obtain rfl : i = X.length := by omega
   rw [Q0u_l0.eq, Q3 (by omega), Z74]; rfl
  | succ d ih =>
   intro i h1 h2
   have hi : i < X.length := by omega
   rw [Q0u_l0.eq, Q2 (by omega), Q02, Z3 hi, Z0, Q6 i (by omega), Z27 hi]
   by_cases e : x = X[i]
   ·rw [Q0w e]; simp [fst1, e]
   ·rw [Q0I e, ih (i + 1) (by omega) (by omega)]
    simp only [fst1, if_neg e]
    cases fst1 x (X.drop (i + 1)) with
    | none => rfl
    | some p => simp only [Z47]; congr 2; omega
 rw [Q0u.eq]
 have := key _ 0 rfl (Z20 _)
 simp only [Z25, Z58] at this
 exact this
theorem tableC_eq (f : Bool → Int → Int → Int → Int) (X Y : List Int) (hX : X.length ≤ 1000000) (hY : Y.length ≤ 1000000) : (tableC f (List.map (fun x => x) X) (List.map (fun x => x) Y)).map (List.map fun x => x) = some (Q0x f X Y) := by
 have e1 : ∀ Z : List Int, List.map (fun x => x) Z = Z := fun Z => List.map_id' Z
 rw [e1, e1]
 unfold tableC
 rw [decide_eq_true hX, decide_eq_true hY]
 show some (List.map (fun x => x) (Q0x f X Y)) = _
 rw [List.map_id']
theorem implCommon_l0 (X Y : List Int) (hX : X.length ≤ 100000) (hY : Y.length ≤ 100000) : ∀ (d i k : Nat) (out : List (Int × Int)), X.length - i = d → i ≤ X.length → k ≤ Y.length → out.length ≤ i →
  Q0f_l0 X Y (Q0x fI X Y) i k out = some (out ++ (grd (X.drop i) (Y.drop k) i k).map ipr) := by
 intro d
 induction d with
 | zero =>
  intro i k out h1 h2 h3 h4
  obtain rfl : i = X.length := by omega
  obtain ⟨row, e1, e2⟩ := tab_at fI_ok X Y (by omega) X.length k h2 h3
  rw [Q0f_l0.eq, e1, Z0, e2, Z0, Z74]
  simp [lc, grd]
 | succ d ih =>
  intro i k out h1 h2 h3 h4
  have hi : i < X.length := by omega
  obtain ⟨row, e1, e2⟩ := tab_at fI_ok X Y (by omega) i k h2 h3
  rw [Q0f_l0.eq, e1, Z0, e2, Z0]
  by_cases hz : lc (X.drop i) (Y.drop k) = 0
  ·rw [Q3 (by omega), grd_nil hz]; simp
  ·rw [Q2 (by omega), Q2 (by omega), Q02, Z3 hi, Z0, Z22, Z5, index_eq _ (by rw [Z19]; omega), Z0]
   have hd : X.drop i = X[i] :: X.drop (i + 1) := Z27 hi
   rw [hd]
   unfold grd
   cases hf : fst1 X[i] (Y.drop k) with
   | none =>
    simp only
    rw [Q3 (by omega), Q6 i (by omega)]
    exact ih (i + 1) k out (by omega) (by omega) h3 (by omega)
   | some p =>
    simp only
    obtain ⟨hp, _⟩ := fst1_some _ _ _ hf
    rw [Z19] at hp
    obtain ⟨row2, f1, f2⟩ := tab_at fI_ok X Y (by omega) (i + 1) (k + p + 1) (by omega) (by omega)
    rw [Q2 (by omega), Q6 i (by omega), f1, Z0, Qa (x := (k : Int) + p) (by omega) (by omega), show (k : Int) + p = ((k + p : Nat) : Int) by omega, Q6 (k + p) (by omega), f2, Z0, Z0, e2, Z0]
    have hb := lc_le (X.drop (i + 1)) (Y.drop (k + p + 1))
    rw [Z19] at hb
    rw [Q6 _ (by omega), Z96, ← Z65]
    by_cases e : lc (X.drop (i + 1)) (Y.drop (k + p + 1)) + 1 = lc (X.drop i) (Y.drop k)
    ·rw [Q0w (by omega), if_pos (by rw [← hd]; exact e), Q2 (by simp only [Z2, Z6]; omega)]
     rw [Q6 p (by omega), Qa (x := (k : Int) + ((p + 1 : Nat) : Int)) (by omega) (by omega), show (k : Int) + ((p + 1 : Nat) : Int) = ((k + p + 1 : Nat) : Int) by omega]
     rw [ih (i + 1) (k + p + 1) _ (by omega) (by omega) (by omega) (by rw [Z10]; simp; omega), Z28]
     rfl
    ·rw [Q0I (by omega), if_neg (by rw [← hd]; exact e)]
     exact ih (i + 1) k out (by omega) (by omega) h3 (by omega)
theorem implCommonOf_eq (X Y : List Int) (hX : X.length ≤ 100000) (hY : Y.length ≤ 100000) : Q0f X Y = some ((grd X Y 0 0).map ipr) := by
 have ht : Q26 X Y = some (Q0x fI X Y) := tableC_eq fI X Y (by omega) (by omega)
 rw [Q0f.eq, ht, Z0]
 have := implCommon_l0 X Y hX hY _ 0 0 [] rfl (Z20 _) (Z20 _) (Z7 _)
 simp only [Z58, Z40] at this
 exact this
end Go.Ev.W
/- Joining byte slices. -/
set_option linter.unusedVariables false
set_option linter.unusedSimpArgs false
namespace Go.Ev.W
open Go.Ev
theorem Q2z {α : Type} (l : List α) (i : Nat) (h : i < l.length) : l.take (i + 1) = l.take i ++ [l[i]] := by
 rw [Z48, Z3 h]; rfl
end Go.Ev.W
/- From each row to the row before it. -/
set_option linter.unusedVariables false
set_option linter.unusedSimpArgs false
namespace Go.Ev.W
open Go.Ev
def eqc (X : List Nat) (c : Nat) : Nat := (X.filter fun x => decide (x = c)).length
theorem eqc_le (X : List Nat) (c : Nat) : eqc X c ≤ X.length := Z102 ..
theorem eqc_snoc (X : List Nat) (x c : Nat) : eqc (X ++ [x]) c = eqc X c + (if x = c then 1 else 0) := by
 unfold eqc
 rw [Z63, Z10]
 by_cases h : x = c <;> simp [h]
theorem ltc_snoc (X : List Nat) (x c : Nat) : ltc (X ++ [x]) c = ltc X c + (if x < c then 1 else 0) := by
 unfold ltc
 rw [Z63, Z10]
 by_cases h : x < c <;> simp [h]
def lfV (X : List Nat) (i : Nat) : Nat := ltc X (X.getD i 0) + eqc (X.take i) (X.getD i 0)
def lfs (X : List Nat) : List Nat := (List.range X.length).map (lfV X)
theorem lfs_len (X : List Nat) : (lfs X).length = X.length := by unfold lfs; rw [Z1, Z42]
theorem lfs_step (X : List Nat) (i : Nat) : ints ((List.range i).map (lfV X)) ++ [((lfV X i : Nat) : Int)] = ints ((List.range (i + 1)).map (lfV X)) := by
 rw [Z88, Z15]
 exact (Z15 (f := fun (x : Nat) => (x : Int)) (l₁ := (List.range i).map (lfV X)) (l₂ := [lfV X i])).symm
theorem lfV_at (X : List Nat) (i : Nat) (hi : i < X.length) : lfV X i = ltc X X[i] + eqc (X.take i) X[i] := by
 unfold lfV
 rw [Z9, Z3 hi]; rfl
theorem implLf_l0 (X : List Nat) (hX : X.length ≤ 301) (hx : ∀ x ∈ X, x ≤ 256) : ∀ (d i : Nat), X.length - i = d → i ≤ X.length → Q0o_l0 (ints X) X.length i ((List.range 258).map fun c => ((ltc X c + eqc (X.take i) c : Nat) : Int)) (ints ((List.range i).map (lfV X))) = some (ints (lfs X)) := by
 intro d
 induction d with
 | zero =>
  intro i h1 h2
  obtain rfl : i = X.length := by omega
  rw [Q0o_l0.eq, Q3 (by omega)]; rfl
 | succ d ih =>
  intro i h1 h2
  have hi : i < X.length := by omega
  have hxi := hx _ (Z14 hi)
  have hle := eqc_le (X.take i) X[i]
  have hle2 := ltc_le X X[i]
  rw [Z8] at hle
  rw [Q0o_l0.eq, Q2 (by omega), Q0M _ _ hi, Z0]
  simp only [Q02, Z5, Q3z _ 258 X[i] (show X[i] < 258 by omega), Z0]
  rw [Q2 (by simp only [Z2, Z6, Z1, Z42]; omega), Q6 i (by omega), Q6 (ltc X X[i] + eqc (X.take i) X[i]) (by omega), mapr_set, ← lfV_at X i hi, lfs_step]
  have e2 : (List.range 258).map (fun c => if c = X[i] then ((lfV X i + 1 : Nat) : Int) else ((ltc X c + eqc (X.take i) c : Nat) : Int)) = (List.range 258).map fun c => ((ltc X c + eqc (X.take (i + 1)) c : Nat) : Int) := by
   refine Z45 fun c _ => ?_
   have et : X.take (i + 1) = X.take i ++ [X[i]] := by rw [Z48, Z3 hi]; rfl
   rw [et, eqc_snoc]
   by_cases h4 : c = X[i]
   ·subst h4; rw [if_pos rfl, if_pos rfl, lfV_at X i hi]; rfl
   ·rw [if_neg h4, if_neg (Ne.symm h4)]; rfl
  rw [e2]
  exact ih (i + 1) (by omega) (by omega)
theorem implLf_eq (X : List Nat) (hX : X.length ≤ 301) (hx : ∀ x ∈ X, x ≤ 256) : Q0o (ints X) = some (ints (lfs X)) := by
 rw [Q0o.eq, counts_eq X hX hx, Z0, Z1]
 have := implLf_l0 X hX hx _ 0 rfl (by omega)
 have e0 : ints ((List.range 258).map (ltc X)) = (List.range 258).map (fun c => ((ltc X c + eqc (X.take 0) c : Nat) : Int)) := by
  show List.map (fun (x : Nat) => (x : Int)) (List.map (ltc X) (List.range 258)) = _
  rw [Z23]
  refine Z45 fun c _ => ?_
  rw [Z39]; rfl
 rw [e0]
 exact this
theorem specLf_l1 (X : List Nat) (hX : X.length ≤ 301) (i : Nat) (hi : i < X.length) (out : List Int) : ∀ (d j : Nat), X.length - j = d → j ≤ X.length →
  QA_l1 (ints X) i (ltc (X.take j) X[i] + eqc (X.take (min j i)) X[i] : Nat) j out = (bif decide ((out.length + ([((lfV X i : Nat) : Int)] : List Int).length) * 8 ≤ 140737488355328) then QA_l0 (ints X) (IntKind.i64.wrap (i + 1)) (out ++ [((lfV X i : Nat) : Int)]) else none) := by
 intro d
 induction d with
 | zero =>
  intro j h1 h2
  obtain rfl : j = X.length := by omega
  rw [QA_l1.eq, Q3 (by rw [Z1]; omega), Z22, Nat.min_eq_right (by omega), ← lfV_at X i hi]
 | succ d ih =>
  intro j h1 h2
  have hj : j < X.length := by omega
  have et : X.take (j + 1) = X.take j ++ [X[j]] := by rw [Z48, Z3 hj]; rfl
  have hl1 := ltc_le (X.take j) X[i]
  have hl2 := eqc_le (X.take (min j i)) X[i]
  rw [Z8] at hl1 hl2
  have ih' := ih (j + 1) (by omega) (by omega)
  rw [et, ltc_snoc] at ih'
  rw [QA_l1.eq, Q2 (by rw [Z1]; omega), Q0M _ _ hj, Z0, Q0M _ _ hi, Z0, Q6 j (by omega), Q6 (ltc (X.take j) X[i] + eqc (X.take (min j i)) X[i]) (by omega)]
  by_cases p1 : X[j] < X[i]
  ·rw [Q2 (show ((X[j] : Nat) : Int) < ((X[i] : Nat) : Int) by omega)]
   rw [if_pos p1] at ih'
   have e : eqc (X.take (min (j + 1) i)) X[i] = eqc (X.take (min j i)) X[i] := by
    by_cases p2 : j < i
    ·rw [show min (j + 1) i = j + 1 by omega, show min j i = j by omega, et, eqc_snoc, if_neg (by omega), Z31]
    ·rw [show min (j + 1) i = i by omega, show min j i = i by omega]
   rw [e, show ltc (X.take j) X[i] + 1 + eqc (X.take (min j i)) X[i] = ltc (X.take j) X[i] + eqc (X.take (min j i)) X[i] + 1 by omega] at ih'
   exact ih'
  ·rw [Q3 (show ¬ ((X[j] : Nat) : Int) < ((X[i] : Nat) : Int) by omega)]
   rw [if_neg p1, Z31] at ih'
   by_cases p2 : j < i
   ·rw [Q2 (show (j : Int) < (i : Int) by omega), Z0, Z0]
    rw [show min (j + 1) i = j + 1 by omega, et, eqc_snoc] at ih'
    rw [show min j i = j by omega]
    by_cases p3 : X[j] = X[i]
    ·rw [Q0w (by omega)]
     rw [if_pos p3, ← Z65] at ih'
     exact ih'
    ·rw [Q0I (by omega)]
     rw [if_neg p3, Z31] at ih'
     exact ih'
   ·rw [Q3 (show ¬ (j : Int) < (i : Int) by omega)]
    rw [show min (j + 1) i = min j i by omega] at ih'
    exact ih'
theorem specLf_l0 (X : List Nat) (hX : X.length ≤ 301) : ∀ (d i : Nat), X.length - i = d → i ≤ X.length → QA_l0 (ints X) i (ints ((List.range i).map (lfV X))) = some (ints (lfs X)) := by
 intro d
 induction d with
 | zero =>
  intro i h1 h2
  obtain rfl : i = X.length := by omega
  rw [QA_l0.eq, Q3 (by rw [Z1]; omega)]; rfl
 | succ d ih =>
  intro i h1 h2
  have hi : i < X.length := by omega
  rw [QA_l0.eq, Q2 (by rw [Z1]; omega)]
  have h3 := specLf_l1 X hX i hi (ints ((List.range i).map (lfV X))) _ 0 rfl (by omega)
  rw [Z39, Nat.zero_min, Z39] at h3
  refine h3.trans ?_
  rw [Q2 (by simp only [Z2, Z6, Z1, Z42]; omega), Q6 i (by omega), lfs_step]
  exact ih (i + 1) (by omega) (by omega)
theorem specLf_eq (X : List Nat) (hX : X.length ≤ 301) (hx : ∀ x ∈ X, x ≤ 256) : QA (ints X) = some (ints (lfs X)) := by
 have hs : sOk (ints X) = true := by
  simp only [sOk, Z4, decide_eq_true_eq, Z49, Z1]
  refine ⟨hX, fun x h => ?_⟩
  obtain ⟨y, hy, rfl⟩ := Z18.1 h
  have := hx y hy
  omega
 rw [QA.eq, Q4f _ (by rw [Z1]; omega), Z0, hs, Z12, Qg]
 exact specLf_l0 X hX _ 0 rfl (by omega)
end Go.Ev.W
/- The text of a transform. -/
set_option linter.unusedVariables false
set_option linter.unusedSimpArgs false
namespace Go.Ev.W
open Go.Ev
theorem ltc_eqc : ∀ (X : List Nat) (c : Nat), ltc X c + eqc X c ≤ X.length
 | [], _ => Z7 _
 | x :: X, c => by
  have ih := ltc_eqc X c
  unfold ltc eqc at ih ⊢
  rw [Z32, Z32, Z2]
  by_cases h1 : x < c
  ·rw [if_pos (by simpa using h1), if_neg (by simp; omega), Z2]; omega
  ·by_cases h2 : x = c
   ·rw [if_neg (by simp; omega), if_pos (by simpa using h2), Z2]; omega
   ·rw [if_neg (by simp; omega), if_neg (by simp; omega)]; omega
theorem eqc_app (X Y : List Nat) (c : Nat) : eqc (X ++ Y) c = eqc X c + eqc Y c := by unfold eqc; rw [Z63, Z10]
theorem lfV_lt (X : List Nat) (i : Nat) (hi : i < X.length) : lfV X i < X.length := by
 rw [lfV_at X i hi]
 have h1 := ltc_eqc X X[i]
 have h2 : eqc X X[i] = eqc (X.take i) X[i] + eqc (X.drop i) X[i] := by rw [← eqc_app, Z82]
 have h3 : 0 < eqc (X.drop i) X[i] := by
  rw [Z27 hi]
  unfold eqc
  rw [Z32, if_pos (by simp), Z2]; omega
 omega
theorem lfs_at (X : List Nat) (i : Nat) (hi : i < X.length) : (ints (lfs X))[i]? = some ((lfV X i : Nat) : Int) := by
 have hi2 : i < (lfs X).length := by rw [lfs_len]; exact hi
 rw [Q2p _ _ hi2]
 simp [lfs]
def wk (X : List Nat) : Nat → Nat → List Nat → List Nat × Bool
 | 0, _, acc => (acc, true)
 | k + 1, r, acc => if X.getD r 0 = 0 then (acc, false) else wk X k (lfV X r) ((X.getD r 0 - 1) :: acc)
theorem wk_len (X : List Nat) : ∀ (k r : Nat) (acc : List Nat), (wk X k r acc).1.length ≤ acc.length + k ∧ ((wk X k r acc).2 = true → (wk X k r acc).1.length = acc.length + k) ∧ ((wk X k r acc).2 = false → (wk X k r acc).1.length < acc.length + k)
 | 0, _, acc => by simp [wk]
 | k + 1, r, acc => by
  rw [wk]
  split
  ·simp
  ·have := wk_len X k (lfV X r) ((X.getD r 0 - 1) :: acc)
   rw [Z2] at this
   refine ⟨by omega, fun h => by have := this.2.1 h; omega, fun h => by have := this.2.2 h; omega⟩
theorem wk_bytes (X : List Nat) (hx : ∀ x ∈ X, x ≤ 256) : ∀ (k r : Nat) (acc : List Nat), (∀ x ∈ acc, x < 256) → ∀ x ∈ (wk X k r acc).1, x < 256
 | 0, _, acc, h => h
 | k + 1, r, acc, h => by
  rw [wk]
  split
  ·exact h
  ·refine wk_bytes X hx k _ _ fun x h2 => ?_
   rcases Z13.1 h2 with rfl | h2
   ·have : X.getD r 0 ≤ 256 := by
     rw [Z9]
     cases h3 : X[r]? with
     | none => simp
     | some y => exact hx y (List.mem_of_getElem? h3)
    omega
   ·exact h x h2
theorem same_eq (X Y : List Int) (h : X.length < 4611686018427387904) : Q0b X Y = some (decide (X = Y)) := by
 rw [Q0b.eq]
 exact eq_list X Y _ fun hl => eq_loop (fun x y => some (!(x != y))) X Y hl h (fun x _ y _ => by rw [bne, Z89]; exact congrArg some (by rw [Z67]; simp)) (Q0b_l0 X Y) (fun i => by rw [Q0b_l0.eq]; simp only [Z0, Z89])
theorem equalI_eq (X Y : List Int) (h : X.length < 4611686018427387904) : QY X Y = some (decide (X = Y)) := by
 rw [QY.eq]
 exact eq_list X Y _ fun hl => eq_loop (fun x y => some (!(x != y))) X Y hl h (fun x _ y _ => by rw [bne, Z89]; exact congrArg some (by rw [Z67]; simp)) (QY_l0 X Y X.length) (fun i => by rw [QY_l0.eq]; simp only [Z0, Z89])
end Go.Ev.W
/- The text of a transform: both walks. -/
set_option linter.unusedVariables false
set_option linter.unusedSimpArgs false
namespace Go.Ev.W
open Go.Ev
def tFin (X t : List Nat) : List Int × Bool := bif decide (bwt t = X) then (ints t, true) else ([], false)
theorem ints_inj' {X Y : List Nat} (h : ints X = ints Y) : X = Y := by
 have := congrArg (List.map Int.toNat) h
 unfold ints at this
 rw [Z23, Z23] at this
 have e : (Int.toNat ∘ fun (x : Nat) => (x : Int)) = id := by funext x; simp
 rw [e, Z86, Z86] at this
 exact this
theorem dec_ints (X Y : List Nat) : decide (ints X = ints Y) = decide (X = Y) := by
 by_cases h : X = Y
 ·rw [h]; simp
 ·rw [decide_eq_false h, decide_eq_false fun h2 => h (ints_inj' h2)]
theorem specTail (X t : List Nat) (ht : t.length ≤ 300) (hb : ∀ x ∈ t, x < 256) : ((Qx (ints t)).bind fun y2 => (Q0b y2 (ints X)).bind fun y3 => bif !y3 then some (([] : List Int), false) else some (ints t, true)) = some (tFin X t) := by
 rw [Q3n t ht hb, Z0, same_eq _ _ (by rw [Z1, Q10]; omega), Z0, dec_ints]
 unfold tFin
 cases decide (bwt t = X) <;> rfl
theorem specWalk (X : List Nat) (hX : X.length ≤ 301) (hx : ∀ x ∈ X, x ≤ 256) : ∀ (k r : Nat) (acc : List Nat), r < X.length → acc.length + k + 1 = X.length → (∀ x ∈ acc, x < 256) →
  Qv_l1 (ints X) r acc.length (ints (lfs X)) (ints acc) = some (tFin X (wk X k r acc).1) := by
 have hXl : (ints X).length = X.length := Z1 ..
 intro k
 induction k with
 | zero =>
  intro r acc hr hl hb
  rw [Qv_l1.eq, hXl, Qa (by omega) (by omega), Q3 (by omega)]
  exact specTail X acc (by omega) hb
 | succ k ih =>
  intro r acc hr hl hb
  have hg : X.getD r 0 = X[r] := by rw [Z9, Z3 hr]; rfl
  have hxr := hx _ (Z14 hr)
  rw [Qv_l1.eq, hXl, Qa (by omega) (by omega), Q2 (by omega), Q0M _ _ hr, Z0, wk]
  by_cases h0 : X[r] = 0
  ·rw [Q3 (by omega), if_pos (by rw [hg]; exact h0)]
   exact specTail X acc (by omega) hb
  ·have hal : (ints acc).length = acc.length := Z1 ..
   rw [Q2 (by omega), if_neg (by rw [hg]; exact h0), Qv_l2.eq, Q0M _ _ hr, Z0, Q2 (by rw [hal]; simp only [Z2, Z6]; omega), Q02, lfs_at X r hr, Z0, Z5, lfs_at X r hr, Z0, Q6 _ (by omega)]
   have e : IntKind.u8.wrap (IntKind.i64.wrap ((X[r] : Int) - 1)) = ((X.getD r 0 - 1 : Nat) : Int) := by
    rw [hg, Qa (by omega) (by omega), wrapB (by omega) (by omega)]; omega
   have ih' := ih (lfV X r) ((X.getD r 0 - 1) :: acc) (lfV_lt X r hr) (by rw [Z2]; omega) (fun x h2 => by
    rcases Z13.1 h2 with rfl | h2
    ·rw [hg]; omega
    ·exact hb x h2)
   rw [Z2] at ih'
   rw [e]
   exact ih'
theorem implTail (X t : List Nat) (ht : t.length ≤ 300) (hb : ∀ x ∈ t, x < 256) : ((Qt (ints t)).bind fun y7 => (QY y7 (ints X)).bind fun y8 => bif !y8 then some (([] : List Int), false) else some (ints t, true)) = some (tFin X t) := by
 rw [Q2X t ht hb, Z0, equalI_eq _ _ (by rw [Z1, Q10]; omega), Z0, dec_ints]
 unfold tFin
 cases decide (bwt t = X) <;> rfl
theorem implWalk (X : List Nat) (hX : X.length ≤ 301) (hx : ∀ x ∈ X, x ≤ 256) : ∀ (k r : Nat) (acc : List Nat), r < X.length → acc.length + k + 1 = X.length → (∀ x ∈ acc, x < 256) →
  QG_l1 (ints X) r ((k : Int) - 1) (ints (lfs X)) (List.replicate k (0 : Int) ++ ints acc) = some (bif (wk X k r acc).2 then tFin X (wk X k r acc).1 else ([], false)) := by
 intro k
 induction k with
 | zero =>
  intro r acc hr hl hb
  rw [QG_l1.eq, Q3 (by omega)]
  exact implTail X acc (by omega) hb
 | succ k ih =>
  intro r acc hr hl hb
  have hg : X.getD r 0 = X[r] := by rw [Z9, Z3 hr]; rfl
  have hxr := hx _ (Z14 hr)
  rw [QG_l1.eq, show ((k + 1 : Nat) : Int) - 1 = (k : Int) by omega, Q2 (show (k : Int) ≥ 0 by omega), Q0M _ _ hr, Z0, wk]
  by_cases h0 : X[r] = 0
  ·rw [Q0w (by omega), if_pos (by rw [hg]; exact h0)]; rfl
  ·have hk : k < (List.replicate (k + 1) (0 : Int) ++ ints acc).length := by rw [Z10, Z84]; omega
   have e : IntKind.u8.wrap (IntKind.i64.wrap ((X[r] : Int) - 1)) = ((X.getD r 0 - 1 : Nat) : Int) := by
    rw [hg, Qa (by omega) (by omega), wrapB (by omega) (by omega)]; omega
   have hset : ∀ v : Int, (List.replicate (k + 1) (0 : Int) ++ ints acc).set k v = List.replicate k (0 : Int) ++ v :: ints acc := by
    intro v
    rw [List.replicate_succ', Z28, List.set_append_right _ _ (by rw [Z84]; omega), Z84, Nat.sub_self]; rfl
   rw [Q0I (by omega), if_neg (by rw [hg]; exact h0), Z0, Q2o _ k hk, Z0, Z5, Z3 hk, Z0, Q02, lfs_at X r hr, Z0, Z5, lfs_at X r hr, Z0, Qa (x := (k : Int) - 1) (by omega) (by omega), hset, e]
   exact ih (lfV X r) ((X.getD r 0 - 1) :: acc) (lfV_lt X r hr) (by rw [Z2]; omega) (fun x h2 => by
    rcases Z13.1 h2 with rfl | h2
    ·rw [hg]; omega
    ·exact hb x h2)
end Go.Ev.W
/- The text of a transform: both alike. -/
set_option linter.unusedVariables false
set_option linter.unusedSimpArgs false
namespace Go.Ev.W
open Go.Ev
theorem countN_l0 (X : List Nat) (hX : X.length ≤ 301) : ∀ (d i : Nat), X.length - i = d → i ≤ X.length → Qs_l0 0 (eqc (X.take i) 0 : Nat) (ints X) X.length i = some ((eqc X 0 : Nat) : Int) := by
 intro d
 induction d with
 | zero =>
  intro i h1 h2
  obtain rfl : i = X.length := by omega
  rw [Qs_l0.eq, Q3 (by omega), Z22]
 | succ d ih =>
  intro i h1 h2
  have hi : i < X.length := by omega
  have hle := eqc_le (X.take i) 0
  rw [Z8] at hle
  have et : X.take (i + 1) = X.take i ++ [X[i]] := by rw [Z48, Z3 hi]; rfl
  have ih' := ih (i + 1) (by omega) (by omega)
  rw [et, eqc_snoc] at ih'
  rw [Qs_l0.eq, Q2 (by omega), Q0M _ _ hi, Z0]
  by_cases h0 : X[i] = 0
  ·rw [if_pos h0] at ih'
   rw [Q0w (by omega), Q6 i (by omega), Q6 _ (by omega)]
   exact ih'
  ·rw [if_neg h0, Z31] at ih'
   rw [Q0I (by omega), Q6 i (by omega)]
   exact ih'
theorem countN_eq (X : List Nat) (hX : X.length ≤ 301) : Qs (ints X) 0 = some ((eqc X 0 : Nat) : Int) := by
 rw [Qs.eq, Z1]
 exact countN_l0 X hX _ 0 rfl (by omega)
theorem eqc_map (D l : List Nat) : eqc (l.map (bwS D)) 0 = eqc l 0 := by
 induction l with
 | nil => rfl
 | cons s l ih =>
  unfold eqc at ih ⊢
  rw [Z16, Z32, Z32]
  by_cases h : s = 0
  ·rw [if_pos (by simp [bwS, h]), if_pos (by simpa using h), Z2, Z2, ih]
  ·rw [if_neg (by simp [bwS, h]), if_neg (by simpa using h), ih]
theorem eqc_range : ∀ n : Nat, eqc (List.range (n + 1)) 0 = 1
 | 0 => rfl
 | n + 1 => by rw [Z88, eqc_snoc, eqc_range n, if_neg (by omega)]
theorem eqc_bwt (D : List Nat) : eqc (bwt D) 0 = 1 := by
 unfold bwt
 rw [eqc_map]
 have hp : (srt D).Perm (List.range (D.length + 1)) := List.mergeSort_perm ..
 have := (hp.filter fun x => decide (x = 0)).length_eq
 have h2 := eqc_range D.length
 unfold eqc at h2 ⊢
 rw [this, h2]
def bT (X : List Nat) : List Int × Bool := bif decide (X.length = 0) then ([], false) else tFin X (wk X (X.length - 1) 0 []).1
theorem Q4R (X : List Nat) (hX : X.length ≤ 301) (hx : ∀ x ∈ X, x ≤ 256) : Qv (ints X) = some (bT X) := by
 have hs : sOk (ints X) = true := by
  simp only [sOk, Z4, decide_eq_true_eq, Z49, Z1]
  refine ⟨hX, fun x h => ?_⟩
  obtain ⟨y, hy, rfl⟩ := Z18.1 h
  have := hx y hy
  omega
 rw [Qv.eq, Q4f _ (by rw [Z1]; omega), Z0, hs, Z12, Qg, Z1]
 unfold bT
 by_cases h0 : X.length = 0
 ·rw [Q0w (by omega), decide_eq_true h0]; rfl
 ·rw [Q0I (by omega), decide_eq_false h0, Qg, Qv_l0.eq, specLf_eq X hX hx, Z0]
  exact specWalk X hX hx (X.length - 1) 0 [] (by omega) (by simp; omega) (by simp)
theorem Q4S (X : List Nat) (hX : X.length ≤ 301) (hx : ∀ x ∈ X, x ≤ 256) : QG (ints X) = some (bT X) := by
 have hs : sOk (ints X) = true := by
  simp only [sOk, Z4, decide_eq_true_eq, Z49, Z1]
  refine ⟨hX, fun x h => ?_⟩
  obtain ⟨y, hy, rfl⟩ := Z18.1 h
  have := hx y hy
  omega
 rw [QG.eq, implSymsOk_eq _ (by rw [Z1]; omega), Z0, hs, Z12, Qg, countN_eq X hX, Z0]
 unfold bT
 by_cases h1 : eqc X 0 = 1
 ·have hn : X.length ≠ 0 := fun h => by
   have := Z69 h
   subst this
   cases h1
  have hw := wk_len X (X.length - 1) 0 []
  rw [Z6, Z25] at hw
  rw [Q20 (by omega), decide_eq_false hn, Qg, QG_l0.eq, implLf_eq X hX hx, Z0, Z1, Qa (by omega) (by omega), show (X.length : Int) - 1 = ((X.length - 1 : Nat) : Int) by omega, Z5, Z84, Qa (by omega) (by omega)]
  have e1 : (decide ((0 : Int) ≤ ((X.length - 1 : Nat) : Int)) && decide ((X.length - 1) * 1 ≤ 140737488355328)) = true := by
   rw [Z4, decide_eq_true_eq, decide_eq_true_eq]; omega
  rw [e1, QW]
  have h2 := implWalk X hX hx (X.length - 1) 0 [] (by omega) (by simp; omega) (by simp)
  rw [show ints [] = [] from rfl, Z30] at h2
  refine h2.trans ?_
  cases hc : (wk X (X.length - 1) 0 []).2 with
  | true => rfl
  | false =>
   rw [Qg]
   unfold tFin
   have := hw.2.2 hc
   have hne : bwt (wk X (X.length - 1) 0 []).1 ≠ X := fun h => by
    have := congrArg List.length h
    rw [Q10] at this
    omega
   rw [decide_eq_false hne]; rfl
 ·rw [Q2j (by omega)]
  by_cases hn : X.length = 0
  ·rw [decide_eq_true hn]; rfl
  ·rw [decide_eq_false hn, Qg]
   unfold tFin
   have hne : bwt (wk X (X.length - 1) 0 []).1 ≠ X := fun h => h1 (by rw [← h, eqc_bwt])
   rw [decide_eq_false hne]; rfl
end Go.Ev.W
/- Indexes: plain facts. -/
set_option linter.unusedVariables false
set_option linter.unusedSimpArgs false
namespace Go.Ev.W
open Go.Ev
def wdF : Nat → Nat → Nat
 | 0, _ => 0
 | k + 1, n => if n = 0 then 0 else wdF k (n / 2) + 1
def wd (n : Nat) : Nat := wdF 64 n
theorem wdF_lt : ∀ (k n : Nat), n < 2 ^ k → n < 2 ^ wdF k n
 | 0, n, h => by simpa [wdF] using h
 | k + 1, n, h => by
  rw [wdF]
  by_cases h0 : n = 0
  ·rw [if_pos h0]; subst h0; decide
  ·rw [if_neg h0]
   have := wdF_lt k (n / 2) (by rw [Z60] at h; omega)
   rw [Z60]; omega
theorem wd_lt (n : Nat) (h : n < 2 ^ 64) : n < 2 ^ wd n := wdF_lt 64 n h
theorem wdF_le : ∀ (k n j : Nat), n < 2 ^ j → wdF k n ≤ j
 | 0, _, _, _ => Z20 _
 | k + 1, n, 0, h => by
  obtain rfl : n = 0 := by simpa using h
  rw [wdF, if_pos rfl]; omega
 | k + 1, n, j + 1, h => by
  rw [wdF]
  by_cases h0 : n = 0
  ·rw [if_pos h0]; omega
  ·rw [if_neg h0]
   have := wdF_le k (n / 2) j (by rw [Z60] at h; omega)
   omega
def dg (w n : Nat) : List Bool := (List.range w).map fun k => n.testBit k
def dgs (w : Nat) (X : List Nat) : List Bool := (X.map (dg w)).flatten
theorem dg_len (w n : Nat) : (dg w n).length = w := by unfold dg; rw [Z1, Z42]
theorem Q2Y (w : Nat) : ∀ X : List Nat, (dgs w X).length = X.length * w
 | [] => by simp [dgs]
 | x :: X => by
  have := Q2Y w X
  unfold dgs at this ⊢
  rw [Z16, Z44, Z10, this, dg_len, Z2, Z66]; omega
theorem dg_succ (w n : Nat) : dg (w + 1) n = (n.testBit 0) :: dg w (n / 2) := by
 unfold dg
 rw [List.range_succ_eq_map, Z16, Z23]
 refine congrArg _ (Z45 fun k _ => ?_)
 show n.testBit (k + 1) = (n / 2).testBit k
 rw [Nat.testBit_succ]
theorem dgs_snoc (w : Nat) (X : List Nat) (x : Nat) : dgs w (X ++ [x]) = dgs w X ++ dg w x := by
 unfold dgs
 rw [Z15, List.flatten_append]; simp
theorem bit0 (n : Nat) : ((n % 2 : Nat) : Int) = bint (n.testBit 0) := by
 unfold bint
 rw [Nat.testBit_zero]
 rcases Nat.mod_two_eq_zero_or_one n with h | h <;> rw [h] <;> rfl
abbrev PkV := Int × Int × Int × List Int
def pk (w : Nat) (X : List Nat) : PkV := ((w : Int), (X.length : Int), ((X.length * w : Nat) : Int), ints (wrds (dgs w X)))
theorem idx_iff {S : List Nat} (hn : S.Nodup) {i : Nat} (hi : i < S.length) (x : Nat) : S[i] = x ↔ S.idxOf x = i := by
 constructor
 ·intro h
  rw [← h]
  exact hn.idxOf_getElem i hi
 ·intro h
  subst h
  exact List.getElem_idxOf hi
def inv (S : List Nat) : List Nat := (List.range S.length).map fun x => S.idxOf x
theorem inv_at (S : List Nat) (x : Nat) (h : x < S.length) : (inv S)[x]? = some (S.idxOf x) := by
 unfold inv
 rw [Z11, List.getElem?_range h]; rfl
def isM (r s : Nat) : Bool := decide (s % r = 0)
def mkB (r : Nat) (S : List Nat) : List Bool := S.map (isM r)
def saL (r : Nat) (S : List Nat) : List Nat := (S.filter (isM r)).map fun s => s / r
def isaL (r n : Nat) (S : List Nat) : List Nat := (List.range (n / r + 1)).map fun j => S.idxOf (j * r)
theorem mkB_len (r : Nat) (S : List Nat) : (mkB r S).length = S.length := Z1 ..
theorem saL_len (r : Nat) (S : List Nat) : (saL r S).length ≤ S.length := by
 unfold saL; rw [Z1]; exact Z102 ..
theorem isaL_len (r n : Nat) (S : List Nat) : (isaL r n S).length = n / r + 1 := by unfold isaL; rw [Z1, Z42]
end Go.Ev.W
/- Waves: what decoding comes to. -/
set_option linter.unusedVariables false
set_option linter.unusedSimpArgs false
namespace Go.Ev.W
open Go.Ev
def zer (bs : List Bool) (k : Nat) : Nat := ((bs.take k).filter (!·)).length
def one (bs : List Bool) (k : Nat) : Nat := ((bs.take k).filter id).length
theorem Q3o (bs : List Bool) : zer bs 0 = 0 := by simp [zer]
theorem one_zero (bs : List Bool) : one bs 0 = 0 := by simp [one]
theorem Q2Z (bs : List Bool) (k : Nat) (h : k < bs.length) : zer bs (k + 1) = zer bs k + (if bs[k] then 0 else 1) := by
 unfold zer
 rw [Z48, Z3 h, Z63, Z10]
 cases bs[k] <;> simp
theorem Q3A (bs : List Bool) (k : Nat) (h : k < bs.length) : one bs (k + 1) = one bs k + (if bs[k] then 1 else 0) := by
 unfold one
 rw [Z48, Z3 h, Z63, Z10]
 cases bs[k] <;> simp
theorem Q2F (bs : List Bool) : ∀ k, k ≤ bs.length → zer bs k + one bs k = k
 | 0, _ => by rw [Q3o, one_zero]
 | k + 1, h => by
  have := Q2F bs k (by omega)
  rw [Q2Z bs k (by omega), Q3A bs k (by omega)]
  cases bs[k] <;> simp <;> omega
theorem zer_mono (bs : List Bool) (k : Nat) : ∀ d, k + d ≤ bs.length → zer bs k ≤ zer bs (k + d)
 | 0, _ => Z7 _
 | d + 1, h => by
  have := zer_mono bs k d (by omega)
  rw [← Z65, Q2Z bs (k + d) (by omega)]; omega
theorem one_mono (bs : List Bool) (k : Nat) : ∀ d, k + d ≤ bs.length → one bs k ≤ one bs (k + d)
 | 0, _ => Z7 _
 | d + 1, h => by
  have := one_mono bs k d (by omega)
  rw [← Z65, Q3A bs (k + d) (by omega)]; omega
def nxt (bs : List Bool) (j : Nat) : Nat := if bs.getD j false then zer bs bs.length + one bs j else zer bs j
theorem nxt_lt (bs : List Bool) (j : Nat) (h : j < bs.length) : nxt bs j < bs.length := by
 unfold nxt
 have h1 := Q2F bs bs.length (Z7 _)
 have h2 := zer_mono bs (j + 1) (bs.length - (j + 1)) (by omega)
 have h3 := one_mono bs (j + 1) (bs.length - (j + 1)) (by omega)
 have h4 := Q2Z bs j h
 have h5 := Q3A bs j h
 have e : j + 1 + (bs.length - (j + 1)) = bs.length := by omega
 rw [e] at h2 h3
 rw [Z9, Z3 h, Z41]
 cases hb : bs[j] with
 | true => rw [hb] at h5; simp at h5 ⊢; omega
 | false => rw [hb] at h4; simp at h4 ⊢; omega
def stp (bs : List Bool) (s : Nat × Nat) : Nat × Nat := (nxt bs s.1, 2 * s.2 + (bs.getD s.1 false).toNat)
theorem Q2K (bs : List Bool) (i : Nat) (h : i < bs.length) : at? (Qe bs) (i : Int) = some (bint bs[i]) := by
 rw [Q02, Z11, Z3 h]; rfl
theorem Q37 (bs : List Bool) (i : Nat) (h : i < bs.length) : (Qe bs)[i]? = some (bint bs[i]) := by
 rw [Z11, Z3 h]; rfl
theorem Q2P (b : Bool) : (bint b == (0 : Int)) = !b := by cases b <;> rfl
theorem count_l0 (bs : List Bool) (hn : bs.length ≤ 5000) : ∀ (d i : Nat), bs.length - i = d → i ≤ bs.length → Qs_l0 0 (zer bs i : Nat) (Qe bs) bs.length i = some ((zer bs bs.length : Nat) : Int) := by
 intro d
 induction d with
 | zero =>
  intro i h1 h2
  obtain rfl : i = bs.length := by omega
  rw [Qs_l0.eq, Q3 (by omega)]
 | succ d ih =>
  intro i h1 h2
  have hi : i < bs.length := by omega
  have hz := Q2F bs i h2
  rw [Qs_l0.eq, Q2 (by omega), Q2K bs i hi, Z0, Q2P]
  have := ih (i + 1) (by omega) (by omega)
  rw [Q2Z bs i hi] at this
  cases hb : bs[i] with
  | true =>
   rw [hb] at this
   simp only [if_true, Z31] at this
   rw [Z12, Qg, Q6 i (by omega)]; exact this
  | false =>
   rw [hb] at this
   simp only [Z77, if_false] at this
   rw [Z62, QW, Q6 i (by omega), Q6 _ (by omega)]; exact this
theorem count_eq (bs : List Bool) (hn : bs.length ≤ 5000) : Qs (Qe bs) 0 = some ((zer bs bs.length : Nat) : Int) := by
 rw [Qs.eq, Z1]
 have := count_l0 bs hn _ 0 rfl (by omega)
 rw [Q3o] at this
 exact this
theorem rank_l1 (bs : List Bool) (hn : bs.length ≤ 5000) : ∀ (d i : Nat), bs.length - i = d → i ≤ bs.length → QX_l1 0 bs.length (zer bs i : Nat) i (Qe bs) = some ((zer bs bs.length : Nat) : Int) := by
 intro d
 induction d with
 | zero =>
  intro i h1 h2
  obtain rfl : i = bs.length := by omega
  rw [QX_l1.eq, Q3 (by omega)]
 | succ d ih =>
  intro i h1 h2
  have hi : i < bs.length := by omega
  have hz := Q2F bs i h2
  rw [QX_l1.eq, Q2 (by omega), Q2K bs i hi, Z0, Z5, Q37 bs i hi, Z0, Q2P]
  have := ih (i + 1) (by omega) (by omega)
  rw [Q2Z bs i hi] at this
  cases hb : bs[i] with
  | true =>
   rw [hb] at this
   simp only [if_true, Z31] at this
   rw [Z12, Qg, Q6 i (by omega)]; exact this
  | false =>
   rw [hb] at this
   simp only [Z77, if_false] at this
   rw [Z62, QW, Q6 i (by omega), Q6 _ (by omega)]; exact this
theorem rank_eq (m : Nat) (W : List Nat) (hm : m ≤ 5000) (hl : W.length ≤ 1048576) (hx : ∀ x ∈ W, x < 2 ^ 64) (hv : vOk m W = true) : QX ((m : Int), ints W) 0 m = some ((zer (bts m W) m : Nat) : Int) := by
 rw [QX.eq]
 try simp only
 have ht := (Q2O m W hx).1 (by simp only [vOk, Z4] at hv; simpa using hv.2)
 have hb := Q2c m W
 rw [specBitsOk_eq _ W hl hx, Z0, hv, Z12, Qg, Q1z.eq, Q0w rfl, Z0, Z12, Qg, Q3 (by omega), Q3 (by omega), QX_l0.eq,
  Q4d m W hm (by have := ht.1; unfold nw at this; omega) hx, Z0]
 have := rank_l1 (bts m W) (by omega) _ 0 rfl (by omega)
 rw [Q3o, hb] at this
 exact this
theorem bitsAt_eq (m : Int) (W : List Nat) (hx : ∀ x ∈ W, x < 2 ^ 64) (i : Nat) (hi : i ≤ 5000) (hj : i / 64 < W.length) : Q0X (m, ints W) i = some (bint (bit W i)) := by
 rw [Q0X.eq]
 have e1 : (i : Int).tdiv 64 = ((i / 64 : Nat) : Int) := rfl
 have e2 : (i : Int).tmod 64 = ((i % 64 : Nat) : Int) := rfl
 have e3 : min (i % 64) 64 = i % 64 := by omega
 have hw : W[i / 64] < 2 ^ 64 := hx _ (Z14 hj)
 try simp only
 rw [e1, e2, Qa (by omega) (by omega), Q0M _ _ hj, Z0, Q3 (by omega), Z5, e3, fdiv_nat]
 have h1 := bv_and 64 (W[i / 64] / 2 ^ (i % 64)) 1 (Nat.lt_of_le_of_lt (Z90 _ _) hw) (by omega)
 rw [show ((1 : Nat) : Int) = 1 from rfl] at h1
 rw [h1, Nat.and_one_is_mod, wrapUn (by omega), Q2J (by omega)]
 simp only [bint, bit, Z9, Z3 hj, Z41, testBit_div]
theorem bitsList_l0 (m : Nat) (W : List Nat) (hm : m ≤ 5000) (hW : m ≤ 64 * W.length) (hx : ∀ x ∈ W, x < 2 ^ 64) : ∀ (d i : Nat), m - i = d → i ≤ m → ∀ out : List Int, out.length ≤ i → QN_l0 m i m (ints W) out = some (out ++ (Qe (bts m W)).drop i) := by
 intro d
 induction d with
 | zero =>
  intro i h1 h2 out ho
  rw [QN_l0.eq, Q3 (by omega), drop_nil _ (by simp only [Z1, Q2c]; omega), Z30]
 | succ d ih =>
  intro i h1 h2 out ho
  have hb : (Qe (bts m W))[i]? = some (bint (bit W i)) := by rw [Z11, bts_get _ _ _ (by omega)]; rfl
  rw [QN_l0.eq, Q2 (by omega), bitsAt_eq _ _ hx _ (by omega) (by omega), Z0, Q2 (by simp only [Z2, Z6]; omega), Q6 i (by omega), ih (i + 1) (by omega) (by omega) _ (by simp; omega), drop_eq hb, Z28, Z106]
theorem Q3B (m : Nat) (W : List Nat) (hm : m ≤ 5000) (hx : ∀ x ∈ W, x < 2 ^ 64) (ht : tight m W) : QN ((m : Int), ints W) = some (Qe (bts m W)) := by
 rw [QN.eq]
 have := bitsList_l0 m W hm (by have := ht.1; unfold nw at this; omega) hx _ 0 rfl (by omega) [] (by simp)
 simpa using this
theorem implBitsList_eq (n : Int) (W : List Nat) (hl : W.length ≤ 1048576) (hx : ∀ x ∈ W, x < 2 ^ 64) : Q1i (n, ints W) = some (bif vOk n W then Qe (bts n.toNat W) else []) := by
 rw [Q1i.eq]
 try simp only
 rw [Q3M _ _ hl hx, Z0]
 cases hv : vOk n W with
 | false => rfl
 | true =>
  have hv' := hv
  simp only [vOk, Z4, decide_eq_true_eq] at hv'
  obtain ⟨m, rfl⟩ : ∃ m : Nat, n = m := ⟨n.toNat, by omega⟩
  rw [Z12, Qg, Q3B m W (by omega) hx ((Q2O m W hx).1 (by simpa using hv'.2)), Z0, QW, Z5]
end Go.Ev.W
/- Waves: the program's decoding and the two validity checks. -/
set_option linter.unusedVariables false
set_option linter.unusedSimpArgs false
namespace Go.Ev.W
open Go.Ev
abbrev LI (L : List (Int × List Nat)) : List (Int × List Int) := L.map fun p => (p.1, ints p.2)
theorem at?_LI (L : List (Int × List Nat)) (i : Nat) (h : i < L.length) : at? (LI L) (i : Int) = some (L[i].1, ints L[i].2) := by
 rw [Q02, Z11, Z3 h]; rfl
abbrev fsts (S : List (Nat × Nat)) : List Nat := S.map (·.1)
abbrev snds (S : List (Nat × Nat)) : List Nat := S.map (·.2)
theorem ints_app (a b : List Nat) : ints (a ++ b) = ints a ++ ints b := Z15
theorem or_bit (v : Nat) (b : Bool) (hv : v ≤ 100000) : IntKind.i64.wrap (((BitVec.ofInt 64 (IntKind.i64.wrap ((v : Int) * 2 ^ 1))) ||| (BitVec.ofInt 64 (bint b))).toNat : Int) = ((2 * v + b.toNat : Nat) : Int) := by
 have e1 : (v : Int) * 2 ^ 1 = ((2 * v : Nat) : Int) := by simp; omega
 have hb : b.toNat ≤ 1 := by cases b <;> simp
 have e3 : IntKind.i64.wrap ((2 * v : Nat) : Int) = ((2 * v : Nat) : Int) := Q2J (by omega)
 rw [e1, e3]
 have h1 := bv_or 64 (2 * v) b.toNat (by omega) (by omega)
 unfold bint
 have e2 : 2 * v ||| b.toNat = 2 * v + b.toNat := by
  have := Nat.two_pow_add_eq_or_of_lt (i := 1) (b := b.toNat) (by omega) v
  simpa using this.symm
 rw [h1, e2, Q2J (by omega)]
section
variable (N : Nat) (hN : N ≤ 1000) (Z : List Int) (Y : List (Int × List Int))
include hN
theorem read_l1 (out : List Int) : ∀ (d i : Nat), N - i = d → i ≤ N → ∀ acc : List Int, acc.length = N → acc.take i = ints (List.range i) →
  Qc_l1 N i N Z Y out acc = Qc_l2 Y Y.length 0 N Z Y out (ints (List.range N)) := by
 intro d
 induction d with
 | zero =>
  intro i h1 h2 acc ha ht
  obtain rfl : i = N := by omega
  rw [Qc_l1.eq, Q3 (by omega)]
  rw [Z37 (by omega)] at ht
  rw [ht]
 | succ d ih =>
  intro i h1 h2 acc ha ht
  have hi : i < acc.length := by omega
  rw [Qc_l1.eq, Q2 (by omega), Q2o acc i hi, Z0, Z5, Z3 hi, Z0, Q6 i (by omega)]
  refine ih (i + 1) (by omega) (by omega) _ (by simpa using ha) ?_
  rw [take_set acc i hi, ht, Z88, ints_app]; rfl
theorem read_l4 (bs : List Bool) (hb : bs.length = N) (V : List (Int × List Int)) (a t : Int) (out pos : List Int) : ∀ (d i : Nat), N - i = d → i ≤ N → ∀ acc : List Int, acc.length = N → acc.take i = ints ((List.range i).map (nxt bs)) →
  Qc_l4 (zer bs i : Nat) ((zer bs N + one bs i : Nat) : Int) V a t N i N Z Y out pos (Qe bs) acc = Qc_l5 V a t pos.length 0 N Z Y out pos (Qe bs) (ints ((List.range N).map (nxt bs))) := by
 intro d
 induction d with
 | zero =>
  intro i h1 h2 acc ha ht
  obtain rfl : i = N := by omega
  rw [Qc_l4.eq, Q3 (by omega)]
  rw [Z37 (by omega)] at ht
  rw [ht]
 | succ d ih =>
  intro i h1 h2 acc ha ht
  have hi : i < acc.length := by omega
  have hib : i < bs.length := by omega
  have hz := Q2F bs i (by omega)
  have hz2 := Q2F bs N (by omega)
  rw [Qc_l4.eq, Q2 (by omega), Q2K bs i hib, Z0, Z5, Q37 bs i hib, Z0, Q2P]
  have ih' := ih (i + 1) (by omega) (by omega)
  rw [Q2Z bs i hib, Q3A bs i hib] at ih'
  have e : ∀ x : Nat, x = nxt bs i → (acc.set i (x : Int)).take (i + 1) = ints ((List.range (i + 1)).map (nxt bs)) := by
   intro x hx
   rw [take_set acc i hi, ht, Z88, Z15, ints_app, hx]; rfl
  cases hbi : bs[i] with
  | true =>
   rw [hbi] at ih'
   simp only [if_true, Z31] at ih'
   rw [Z12, Qg, Q2o acc i hi, Z0, Z3 hi, Z0, Q6 i (by omega), Q6 _ (by omega), Z65]
   refine ih' _ (by simpa using ha) (e _ ?_)
   unfold nxt
   rw [Z9, Z3 hib, Z41, hbi, if_pos rfl, hb]
  | false =>
   rw [hbi] at ih'
   simp only [Z77, if_false, Z31] at ih'
   rw [Z62, QW, Q2o acc i hi, Z0, Z3 hi, Z0, Q6 i (by omega), Q6 _ (by omega)]
   refine ih' _ (by simpa using ha) (e _ ?_)
   unfold nxt
   rw [Z9, Z3 hib, Z41, hbi]; rfl
theorem read_l5 (bs : List Bool) (hb : bs.length = N) (V : List (Int × List Int)) (a t : Int) (S : List (Nat × Nat)) (hS : S.length = N) (hp : ∀ s ∈ S, s.1 < N) (hv : ∀ s ∈ S, s.2 ≤ 100000) : ∀ (d i : Nat), N - i = d → i ≤ N →
  Qc_l5 V a t N i N Z Y (ints (snds ((S.take i).map (stp bs) ++ S.drop i))) (ints (fsts ((S.take i).map (stp bs) ++ S.drop i))) (Qe bs) (ints ((List.range N).map (nxt bs))) =
   Qc_l2 V a (IntKind.i64.wrap (t + 1)) N Z Y (ints (snds (S.map (stp bs)))) (ints (fsts (S.map (stp bs)))) := by
 intro d
 induction d with
 | zero =>
  intro i h1 h2
  obtain rfl : i = N := by omega
  rw [Qc_l5.eq, Q3 (by omega), Z37 (by omega), Z53 (by omega), Z30]
 | succ d ih =>
  intro i h1 h2
  have hiS : i < S.length := by omega
  obtain ⟨T, hT⟩ : ∃ T, T = (S.take i).map (stp bs) ++ S.drop i := ⟨_, rfl⟩
  have hTl : T.length = N := by rw [hT, Z10, Z1, Z8, Z19]; omega
  have hTi : T[i]? = some S[i] := by
   rw [hT, Z76 (by rw [Z1, Z8]; omega), Z1, Z8, Z68 (by omega), Nat.sub_self, Z61, Z31, Z3 hiS]
  have hTs : T.set i (stp bs S[i]) = (S.take (i + 1)).map (stp bs) ++ S.drop (i + 1) := by
   rw [hT, List.set_append_right _ _ (by rw [Z1, Z8]; omega), Z1, Z8, Z68 (by omega), Nat.sub_self, Z27 hiS, List.set_cons_zero, Z48, Z3 hiS, Z15, Z28]; rfl
  rw [← hT]
  have hp' := hp _ (Z14 hiS)
  have hv' := hv _ (Z14 hiS)
  have g1 : ∀ j : Nat, (ints (fsts T))[j]? = (T[j]?).map fun s => ((s.1 : Nat) : Int) := fun j => by rw [Z11, Z11, Option.map_map]; rfl
  have g2 : ∀ j : Nat, (ints (snds T))[j]? = (T[j]?).map fun s => ((s.2 : Nat) : Int) := fun j => by rw [Z11, Z11, Option.map_map]; rfl
  have g3 : (ints ((List.range N).map (nxt bs)))[S[i].1]? = some ((nxt bs S[i].1 : Nat) : Int) := by
   rw [Z11, Z11, List.getElem?_range hp']; rfl
  have g4 : (Qe bs)[S[i].1]? = some (bint (bs.getD S[i].1 false)) := by
   rw [Q37 bs _ (by omega), Z9, Z3 (by omega), Z41]
  rw [Qc_l5.eq, Q2 (by omega)]
  simp only [Q02, Z5, g1, g2, g3, g4, hTi, Z47, Z0]
  rw [or_bit _ _ hv', Q6 i (by omega), ints_set, ints_set]
  have e1 : (snds T).set i (2 * S[i].2 + (bs.getD S[i].1 false).toNat) = snds (T.set i (stp bs S[i])) := (List.map_set (f := fun s : Nat × Nat => s.2) (l := T) (i := i) (a := stp bs S[i])).symm
  have e2 : (fsts T).set i (nxt bs S[i].1) = fsts (T.set i (stp bs S[i])) := (List.map_set (f := fun s : Nat × Nat => s.1) (l := T) (i := i) (a := stp bs S[i])).symm
  rw [e1, e2, hTs]
  exact ih (i + 1) (by omega) (by omega)
end
def lvb (p : Int × List Nat) : List Bool := bts p.1.toNat p.2
def lOk (n : Int) (p : Int × List Nat) (z : Int) : Bool := vOk p.1 p.2 && decide (p.1 = n) && decide (((zer (lvb p) (lvb p).length : Nat) : Int) = z)
def wOk (n : Int) (Z : List Int) (L : List (Int × List Nat)) : Bool :=
 decide (0 ≤ n) && decide (n ≤ 1000) && decide (Z.length = 9) && decide (L.length = 9) && (L.zip Z).all fun q => lOk n q.1 q.2
def rows (bss : List (List Bool)) (S : List (Nat × Nat)) : List (Nat × Nat) := bss.foldl (fun S bs => S.map (stp bs)) S
def start (N : Nat) : List (Nat × Nat) := (List.range N).map fun i => (i, 0)
theorem read_l2 (N : Nat) (hN : N ≤ 1000) (Z : List Int) (L : List (Int × List Nat)) (hz : Z.length = L.length) (hll : L.length = 9) (hl : ∀ p ∈ L, p.2.length ≤ 1048576) (hx : ∀ p ∈ L, ∀ x ∈ p.2, x < 2 ^ 64) : ∀ (d i : Nat), L.length - i = d → i ≤ L.length → ∀ S : List (Nat × Nat), S.length = N → (∀ s ∈ S, s.1 < N) → (∀ s ∈ S, s.2 < 2 ^ i) →
  Qc_l2 (LI L) L.length i N Z (LI L) (ints (snds S)) (ints (fsts S)) = some (bif ((L.zip Z).drop i).all (fun q => lOk N q.1 q.2) then (ints (snds (rows ((L.drop i).map lvb) S)), true) else ([], false)) := by
 intro d
 induction d with
 | zero =>
  intro i h1 h2 S hS hp hv
  rw [Qc_l2.eq, Q3 (by omega), Z53 (show (L.zip Z).length ≤ i by rw [List.length_zip]; omega), Z53 (show L.length ≤ i by omega)]
  rfl
 | succ d ih =>
  intro i h1 h2 S hS hp hv
  have hi : i < L.length := by omega
  have hiz : i < Z.length := by omega
  have hzi : i < (L.zip Z).length := by rw [List.length_zip]; omega
  have hm := Z14 hi
  rw [Qc_l2.eq, Q2 (by omega), at?_LI L i hi, Z0]
  try simp only
  rw [implBitsList_eq _ _ (hl _ hm) (hx _ hm), Z0, Q3M _ _ (hl _ hm) (hx _ hm), Z0, Z27 hzi, Z97, List.getElem_zip]
  have hk : lOk (N : Int) (L[i], Z[i]).1 (L[i], Z[i]).2 = (vOk L[i].1 L[i].2 && decide (L[i].1 = (N : Int)) && decide (((zer (lvb L[i]) (lvb L[i]).length : Nat) : Int) = Z[i])) := rfl
  rw [hk]
  cases hvo : vOk L[i].1 L[i].2 with
  | false => rfl
  | true =>
   rw [Z12, Qg, QW, Z29]
   by_cases hn : L[i].1 = (N : Int)
   ·rw [Q20 hn, decide_eq_true hn, Z29]
    have hbl : (lvb L[i]).length = N := by unfold lvb; rw [Q2c, hn, Z5]
    have e : bts L[i].1.toNat L[i].2 = lvb L[i] := rfl
    rw [e, count_eq _ (by omega), Z0, Q2o Z i hiz, Z0]
    by_cases hc : ((zer (lvb L[i]) (lvb L[i]).length : Nat) : Int) = Z[i]
    ·rw [Q20 hc, decide_eq_true hc, Z29]
     have e0 : (decide ((0 : Int) ≤ (N : Int)) && decide ((N : Int).toNat * 8 ≤ 140737488355328)) = true := by simp; omega
     rw [Qc_l3.eq, e0, QW, Q2o Z i hiz, Z0, ← hc, Z5]
     have h4 := read_l4 N hN Z (LI L) (lvb L[i]) hbl (LI L) L.length i (ints (snds S)) (ints (fsts S)) _ 0 rfl (by omega) (List.replicate N 0) (by simp) (by simp)
     rw [Q3o, one_zero, Z31] at h4
     rw [show (Qe (lvb L[i])).length = N by rw [Z1, hbl], hbl]
     refine h4.trans ?_
     have h5 := read_l5 N hN Z (LI L) (lvb L[i]) hbl (LI L) L.length i S hS hp (fun s hs => by
      have h1 := hv s hs
      have h2 : 2 ^ i ≤ 2 ^ 9 := Z80 (by omega) (by omega)
      omega) _ 0 rfl (by omega)
     rw [Z39, Z59, Z40, Z58] at h5
     rw [Z1, Z1, hS]
     refine h5.trans ?_
     rw [Q6 i (by omega), ih (i + 1) (by omega) (by omega) (S.map (stp (lvb L[i]))) (by simpa using hS) ?_ ?_, Z27 hi, Z16]
     ·rfl
     ·intro s hs
      obtain ⟨s', hs', rfl⟩ := Z18.1 hs
      have := nxt_lt (lvb L[i]) s'.1 (by rw [hbl]; exact hp _ hs')
      rw [hbl] at this; exact this
     ·intro s hs
      obtain ⟨s', hs', rfl⟩ := Z18.1 hs
      have h1 := hv _ hs'
      have h2 : ((lvb L[i]).getD s'.1 false).toNat ≤ 1 := by cases (lvb L[i]).getD s'.1 false <;> simp
      show 2 * s'.2 + ((lvb L[i]).getD s'.1 false).toNat < 2 ^ (i + 1)
      rw [Z60]; omega
    ·rw [Q2j hc, decide_eq_false hc]; rfl
   ·rw [Q2j hn, decide_eq_false hn]; rfl
theorem start_fst (N : Nat) : fsts (start N) = List.range N := by
 show List.map (fun s : Nat × Nat => s.1) (List.map (fun i => (i, 0)) (List.range N)) = _
 rw [Z23]; exact (Z45 fun _ _ => rfl).trans (Z86 _)
theorem start_snd (N : Nat) : snds (start N) = List.replicate N 0 := by
 show List.map (fun s : Nat × Nat => s.2) (List.map (fun i => (i, 0)) (List.range N)) = _
 rw [Z23]
 apply Z75 (by simp)
 intro i h1 h2
 simp
theorem waveRead_eq (n : Int) (Z : List Int) (L : List (Int × List Nat)) (hl : ∀ p ∈ L, p.2.length ≤ 1048576) (hx : ∀ p ∈ L, ∀ x ∈ p.2, x < 2 ^ 64) :
  Qc (n, Z, LI L) = some (bif wOk n Z L then (ints (snds (rows (L.map lvb) (start n.toNat))), true) else ([], false)) := by
 rw [Qc.eq, Q3l, Z0]
 unfold wOk
 cases hn : decide (0 ≤ n) && decide (n ≤ 1000) with
 | false => rfl
 | true =>
  rw [Z12, Qg, Z29]
  simp only [Z4, decide_eq_true_eq] at hn
  obtain ⟨N, rfl⟩ : ∃ m : Nat, n = m := ⟨n.toNat, by omega⟩
  simp only [Z1]
  by_cases h1 : Z.length = 9
  ·rw [Q20 (by omega), decide_eq_true h1, Z29]
   by_cases h2 : L.length = 9
   ·rw [Q20 (by omega), decide_eq_true h2, Z29]
    have e0 : (decide ((0 : Int) ≤ (N : Int)) && decide ((N : Int).toNat * 8 ≤ 140737488355328)) = true := by simp; omega
    rw [Qc_l0.eq, e0, QW, QW, Z5, Z84]
    have h3 := read_l1 N (by omega) Z (LI L) (List.replicate N 0) _ 0 rfl (by omega) (List.replicate N 0) (by simp) (by simp)
    refine h3.trans ?_
    have h4 := read_l2 N (by omega) Z L (by omega) h2 hl hx _ 0 rfl (by omega) (start N) (by simp [start]) (by simp [start]) (by simp [start])
    rw [start_fst, start_snd] at h4
    have e1 : ints (List.replicate N 0) = List.replicate N 0 := by simp
    rw [e1] at h4
    rw [Z1]
    refine h4.trans ?_
    rw [Z58, Z58]
   ·rw [Q2j (by omega), decide_eq_false h2]; rfl
  ·rw [Q2j (by omega), decide_eq_false h1]; rfl
theorem specWaveOk_l1 (N : Nat) (hN : N ≤ 1000) (Z : List Int) (L : List (Int × List Nat)) (hz : Z.length = L.length) (hll : L.length = 9) (hl : ∀ p ∈ L, p.2.length ≤ 1048576) (hx : ∀ p ∈ L, ∀ x ∈ p.2, x < 2 ^ 64) : ∀ (d i : Nat), L.length - i = d → i ≤ L.length →
  Q00_l1 i N Z (LI L) = some (((L.zip Z).drop i).all (fun q => lOk N q.1 q.2)) := by
 intro d
 induction d with
 | zero =>
  intro i h1 h2
  rw [Q00_l1.eq, Q3 (by omega), Z53 (show (L.zip Z).length ≤ i by rw [List.length_zip]; omega)]
  rfl
 | succ d ih =>
  intro i h1 h2
  have hi : i < L.length := by omega
  have hiz : i < Z.length := by omega
  have hzi : i < (L.zip Z).length := by rw [List.length_zip]; omega
  have hm := Z14 hi
  rw [Q00_l1.eq, Q2 (by omega), at?_LI L i hi, Z0, Z27 hzi, Z97, List.getElem_zip]
  have hk : lOk (N : Int) (L[i], Z[i]).1 (L[i], Z[i]).2 = (vOk L[i].1 L[i].2 && decide (L[i].1 = (N : Int)) && decide (((zer (lvb L[i]) (lvb L[i]).length : Nat) : Int) = Z[i])) := rfl
  rw [hk]
  by_cases hn : L[i].1 = (N : Int)
  ·rw [Q20 hn, Z0]
   try simp only
   rw [specBitsOk_eq _ _ (hl _ hm) (hx _ hm), Z0]
   cases hvo : vOk L[i].1 L[i].2 with
   | false => rfl
   | true =>
    rw [Z12, Qg, Z0, decide_eq_true hn, Z29, Z29]
    have hbl : (lvb L[i]).length = N := by unfold lvb; rw [Q2c, hn, Z5]
    have hr := rank_eq N L[i].2 (by omega) (hl _ hm) (hx _ hm) (by rw [← hn]; exact hvo)
    have e : bts N L[i].2 = lvb L[i] := by unfold lvb; rw [hn, Z5]
    rw [hn, hr, Z0, Q2o Z i hiz, Z0, e, hbl]
    by_cases hc : ((zer (lvb L[i]) N : Nat) : Int) = Z[i]
    ·rw [Q20 hc, decide_eq_true hc, Z29, Q6 i (by omega)]
     exact ih (i + 1) (by omega) (by omega)
    ·rw [Q2j hc, decide_eq_false hc]; rfl
  ·rw [Q2j hn, decide_eq_false hn, Z98]; rfl
theorem specWaveOk_eq (n : Int) (Z : List Int) (L : List (Int × List Nat)) (hl : ∀ p ∈ L, p.2.length ≤ 1048576) (hx : ∀ p ∈ L, ∀ x ∈ p.2, x < 2 ^ 64) : Q00 (n, Z, LI L) = some (wOk n Z L) := by
 rw [Q00.eq]
 unfold wOk
 by_cases h1 : n < 0
 ·rw [Q2 h1, decide_eq_false (show ¬ 0 ≤ n by omega)]; rfl
 rw [Q3 h1, decide_eq_true (show 0 ≤ n by omega)]
 by_cases h2 : n > 1000
 ·rw [Q2 h2, decide_eq_false (show ¬ n ≤ 1000 by omega)]; rfl
 rw [Q3 h2, decide_eq_true (show n ≤ 1000 by omega)]
 obtain ⟨N, rfl⟩ : ∃ m : Nat, n = m := ⟨n.toNat, by omega⟩
 simp only [Z1, Z29]
 by_cases h3 : L.length = 9
 ·rw [Q20 (by omega), decide_eq_true h3]
  by_cases h4 : Z.length = 9
  ·rw [Q20 (by omega), decide_eq_true h4, Z29, Z29, Q00_l0.eq]
   have := specWaveOk_l1 N (by omega) Z L (by omega) h3 hl hx _ 0 rfl (by omega)
   rw [Z58] at this
   exact this
  ·rw [Q2j (by omega), decide_eq_false h4]; rfl
 ·rw [Q2j (by omega), decide_eq_false h3, Z98]; rfl
end Go.Ev.W
/- What the laws' own helpers come to: lists of bit vectors, waves. -/
set_option linter.unusedVariables false
set_option linter.unusedSimpArgs false
namespace Go.Ev.W
open Go.Ev
abbrev Lv := List (Int × List Int)
structure Small (Z : List Int) (L : Lv) : Prop where
 z : Z.length ≤ 1048576
 l : L.length ≤ 1048576
 w : ∀ p ∈ L, p.2.length ≤ 1048576
 s : Z.length + L.length + (L.map fun p => p.2.length).sum ≤ 1048576
end Go.Ev.W
/- Waves: arguments; bytes. -/
set_option linter.unusedVariables false
set_option linter.unusedSimpArgs false
namespace Go.Ev.W
open Go.Ev
theorem lv_of (X : List (Int × List Int)) (h : ∀ p ∈ X, ∀ x ∈ p.2, 0 ≤ x ∧ x < ((2 ^ 64 : Nat) : Int)) : ∃ L : List (Int × List Nat), X = LI L ∧ ∀ p ∈ L, ∀ x ∈ p.2, x < 2 ^ 64 := by
 refine ⟨X.map fun p => (p.1, p.2.map Int.toNat), ?_, fun p hp x hx => ?_⟩
 ·unfold LI
  rw [Z23]
  refine (Z86 X).symm.trans (Z45 fun p hp => ?_)
  obtain ⟨n, xs⟩ := p
  refine Prod.ext rfl ?_
  show xs = ints (xs.map Int.toNat)
  unfold ints
  rw [Z23]
  refine (Z86 xs).symm.trans (Z45 fun x hx => ?_)
  have := h _ hp x hx
  simp only [Function.comp, id]
  omega
 ·obtain ⟨q, hq, rfl⟩ := Z18.1 hp
  obtain ⟨y, hy, rfl⟩ := Z18.1 hx
  have := h q hq y hy
  omega
theorem LI_len {L : List (Int × List Nat)} {k : Nat} (h : ∀ p ∈ LI L, p.2.length ≤ k) : ∀ p ∈ L, p.2.length ≤ k := by
 intro p hp
 have := h (p.1, ints p.2) (Z18.2 ⟨p, hp, rfl⟩)
 simpa using this
theorem wOk_at {n : Int} {Z : List Int} {L : List (Int × List Nat)} (h : wOk n Z L = true) : 0 ≤ n ∧ n ≤ 1000 ∧ Z.length = 9 ∧ L.length = 9 ∧ ∀ p ∈ L, vOk p.1 p.2 = true ∧ p.1 = n := by
 unfold wOk at h
 simp only [Z4, decide_eq_true_eq] at h
 obtain ⟨⟨⟨⟨h1, h2⟩, h3⟩, h4⟩, h5⟩ := h
 refine ⟨h1, h2, h3, h4, fun p hp => ?_⟩
 obtain ⟨i, hi, rfl⟩ := List.getElem_of_mem hp
 have hz : i < (L.zip Z).length := by rw [List.length_zip]; omega
 have := Z49.1 h5 _ (Z14 hz)
 rw [List.getElem_zip] at this
 simp only [lOk, Z4, decide_eq_true_eq] at this
 exact this.1
end Go.Ev.W
/- Waves: the numbers that the reference reads. -/
set_option linter.unusedVariables false
set_option linter.unusedSimpArgs false
namespace Go.Ev.W
open Go.Ev
def bef (bs : List Bool) (i : Nat) (b : Bool) : Nat := ((bs.take i).filter (· == b)).length
theorem bef_false (bs : List Bool) (i : Nat) : bef bs i false = zer bs i := by
 unfold bef zer; congr 1; apply List.filter_congr; intro x _; cases x <;> rfl
theorem bef_true (bs : List Bool) (i : Nat) : bef bs i true = one bs i := by
 unfold bef one; congr 1; apply List.filter_congr; intro x _; cases x <;> rfl
theorem bint_eq (a b : Bool) : (bint a == bint b) = (a == b) := by cases a <;> cases b <;> rfl
theorem bef_succ (bs : List Bool) (k : Nat) (b : Bool) (h : k < bs.length) : bef bs (k + 1) b = bef bs k b + (if bs[k] == b then 1 else 0) := by
 unfold bef
 rw [Z48, Z3 h, Z63, Z10]
 cases bs[k] <;> cases b <;> rfl
theorem bef_le (bs : List Bool) (k : Nat) (b : Bool) : bef bs k b ≤ k := by
 unfold bef
 have := Z102 (· == b) (bs.take k)
 rw [Z8] at this
 omega
abbrev bitsL (L : List (Int × List Nat)) : List (List Int) := L.map fun p => Qe (lvb p)
theorem at?_bitsL (L : List (Int × List Nat)) (i : Nat) (h : i < L.length) : at? (bitsL L) (i : Int) = some (Qe (lvb L[i])) := by
 rw [Q02, Z11, Z3 h]; rfl
theorem Q4g (L : List (Int × List Nat)) (i : Nat) (h : i < L.length) : (bitsL L)[i]? = some (Qe (lvb L[i])) := by
 rw [Z11, Z3 h]; rfl
theorem set_bitsL (L : List (Int × List Nat)) (i : Nat) (h : i < L.length) : (bitsL L).set i (Qe (lvb L[i])) = bitsL L := by
 apply Z95
 intro j
 rw [List.getElem?_set]
 by_cases hj : i = j
 ·subst hj
  rw [if_pos rfl, if_pos (by rw [Z1]; exact h), Q4g L i h]
 ·rw [if_neg hj]
theorem list_l3 (N : Nat) (hN : N ≤ 1000) (L : List (Int × List Nat)) (h9 : L.length = 9) (hb : ∀ p ∈ L, (lvb p).length = N) (i : Int) (at_ t : Nat) (ht : t < 9) (hat : at_ < N) (n : Int) (b : Bool) (Z : List Int) (W : List (Int × List Int)) (out : List Int) :
  ∀ (d j : Nat), N - j = d → j ≤ N → Qf_l3 i at_ n t (bint b) (bef (lvb (L[t]'(by omega))) (min j at_) b : Nat) (zer (lvb (L[t]'(by omega))) j : Nat) j N Z W out (bitsL L) =
   (bif bint b == (1 : Int) then Qf_l2 i (IntKind.i64.wrap ((zer (lvb (L[t]'(by omega))) N : Nat) + (bef (lvb (L[t]'(by omega))) at_ b : Nat))) (IntKind.i64.wrap ((IntKind.i64.wrap ((2 : Int) * n)) + bint b)) (IntKind.i64.wrap (t + 1)) N Z W out (bitsL L)
    else Qf_l2 i (bef (lvb (L[t]'(by omega))) at_ b : Nat) (IntKind.i64.wrap ((IntKind.i64.wrap ((2 : Int) * n)) + bint b)) (IntKind.i64.wrap (t + 1)) N Z W out (bitsL L)) := by
 have htL : t < L.length := by omega
 have hbl := hb _ (Z14 htL)
 intro d
 induction d with
 | zero =>
  intro j h1 h2
  obtain rfl : j = N := by omega
  rw [Qf_l3.eq, Q3 (by omega), Nat.min_eq_right (by omega)]
 | succ d ih =>
  intro j h1 h2
  have hj : j < (lvb L[t]).length := by omega
  have hz := Q2F (lvb L[t]) j (by omega)
  have hbe := bef_le (lvb L[t]) (min j at_) b
  rw [Qf_l3.eq, Q2 (by omega)]
  simp only [at?_bitsL L t htL, Q4g L t htL, Z5, Z0, set_bitsL L t htL, Q2K _ j hj, Q37 _ j hj, Q2P, bint_eq]
  have ih' := ih (j + 1) (by omega) (by omega)
  rw [Q2Z _ j hj] at ih'
  rw [Q6 j (by omega), Q6 (zer (lvb L[t]) j) (by omega), Q6 (bef (lvb L[t]) (min j at_) b) (by omega)]
  by_cases hlt : j < at_
  ·have hm : min (j + 1) at_ = min j at_ + 1 := by omega
   have hm2 : min j at_ = j := by omega
   rw [hm, bef_succ _ _ b (by omega)] at ih'
   simp only [hm2] at ih' ⊢
   rw [Q2 (show (j : Int) < (at_ : Int) by omega), Q2 (show (j : Int) < (at_ : Int) by omega)]
   cases hbj : (lvb L[t])[j] <;> cases b <;> simp only [hbj, Z12, Z62, QW, Qg, beq_self_eq_true, if_true, Z77, if_false, Z31, show (true == false) = false from rfl, show (false == true) = false from rfl] at ih' ⊢ <;> exact ih'
  ·have hm : min (j + 1) at_ = min j at_ := by omega
   rw [hm] at ih'
   rw [Q3 (show ¬ (j : Int) < (at_ : Int) by omega), Q3 (show ¬ (j : Int) < (at_ : Int) by omega)]
   cases hbj : (lvb L[t])[j] <;> simp only [hbj, Z12, Z62, QW, Qg, if_true, Z77, if_false, Z31] at ih' ⊢ <;> exact ih'
def path (bss : List (List Bool)) (s : Nat × Nat) : Nat × Nat := bss.foldl (fun s bs => stp bs s) s
theorem rows_path : ∀ (bss : List (List Bool)) (S : List (Nat × Nat)), rows bss S = S.map (path bss)
 | [], S => by unfold rows path; simp
 | bs :: bss, S => by
  have := rows_path bss (S.map (stp bs))
  unfold rows path at this ⊢
  rw [List.foldl_cons, this, Z23]
  rfl
theorem list_l2 (N : Nat) (hN : N ≤ 1000) (L : List (Int × List Nat)) (h9 : L.length = 9) (hb : ∀ p ∈ L, (lvb p).length = N) (i : Nat) (hi : i < N) (Z : List Int) (W : List (Int × List Int)) (out : List Int) (ho : out.length ≤ 1000) :
  ∀ (d t : Nat), 9 - t = d → t ≤ 9 → ∀ (s : Nat × Nat), s.1 < N → s.2 < 2 ^ t → Qf_l2 i s.1 s.2 t N Z W out (bitsL L) = Qf_l1 (i + 1 : Nat) N Z W (out ++ [(((path ((L.drop t).map lvb) s).2 : Nat) : Int)]) (bitsL L) := by
 intro d
 induction d with
 | zero =>
  intro t h1 h2 s hs1 hs2
  obtain rfl : t = 9 := by omega
  rw [Qf_l2.eq, Q3 (by omega), Q2 (by simp only [Z2, Z6]; omega), Q6 i (by omega), Z53 (by omega)]
  rfl
 | succ d ih =>
  intro t h1 h2 s hs1 hs2
  have htL : t < L.length := by omega
  have hbl := hb _ (Z14 htL)
  have hs : s.1 < (lvb L[t]).length := by omega
  have hgd : (lvb L[t]).getD s.1 false = (lvb L[t])[s.1] := by rw [Z9, Z3 hs]; rfl
  rw [Qf_l2.eq, Q2 (by omega)]
  simp only [at?_bitsL L t htL, Q4g L t htL, Z5, Z0, set_bitsL L t htL, Q2K _ s.1 hs, Q37 _ s.1 hs]
  have h3 := list_l3 N hN L h9 hb i s.1 t (by omega) hs1 s.2 (lvb L[t])[s.1] Z W out _ 0 rfl (by omega)
  rw [Nat.zero_min, show bef (lvb L[t]) 0 (lvb L[t])[s.1] = 0 from rfl, Q3o] at h3
  refine h3.trans ?_
  have hnx := nxt_lt (lvb L[t]) s.1 hs
  have hp9 : 2 ^ t ≤ 2 ^ 9 := Z80 (by omega) (by omega)
  have hz := Q2F (lvb L[t]) s.1 (by omega)
  have hz2 := Q2F (lvb L[t]) N (by omega)
  have hval : IntKind.i64.wrap ((IntKind.i64.wrap ((2 : Int) * (s.2 : Int))) + bint (lvb L[t])[s.1]) = (((stp (lvb L[t]) s).2 : Nat) : Int) := by
   have hb1 : ((lvb L[t])[s.1]).toNat ≤ 1 := by cases (lvb L[t])[s.1] <;> simp
   show _ = ((2 * s.2 + ((lvb L[t]).getD s.1 false).toNat : Nat) : Int)
   rw [hgd, Qa (x := (2 : Int) * (s.2 : Int)) (by omega) (by omega)]
   unfold bint
   rw [Qa (by omega) (by omega)]; omega
  have hdrop : (L.drop t).map lvb = lvb L[t] :: (L.drop (t + 1)).map lvb := by rw [Z27 htL, Z16]
  have hfin := ih (t + 1) (by omega) (by omega) (stp (lvb L[t]) s) (by rw [hbl] at hnx; exact hnx) (by
   have hb1 : ((lvb L[t]).getD s.1 false).toNat ≤ 1 := by cases (lvb L[t]).getD s.1 false <;> simp
   show 2 * s.2 + ((lvb L[t]).getD s.1 false).toNat < 2 ^ (t + 1)
   rw [Z60]; omega)
  rw [hval, hdrop, Q6 t (by omega)]
  have hpos : ((stp (lvb L[t]) s).1 : Nat) = nxt (lvb L[t]) s.1 := rfl
  rw [hpos] at hfin
  cases hbit : (lvb L[t])[s.1] with
  | true =>
   have e : nxt (lvb L[t]) s.1 = zer (lvb L[t]) N + bef (lvb L[t]) s.1 true := by unfold nxt; rw [hgd, hbit, if_pos rfl, hbl, bef_true]
   rw [show (bint true == (1 : Int)) = true from rfl, QW, Qa (by rw [bef_true]; omega) (by rw [bef_true]; omega), show ((zer (lvb L[t]) N : Nat) : Int) + ((bef (lvb L[t]) s.1 true : Nat) : Int) = ((nxt (lvb L[t]) s.1 : Nat) : Int) by rw [e]; omega]
   exact hfin
  | false =>
   have e : nxt (lvb L[t]) s.1 = bef (lvb L[t]) s.1 false := by unfold nxt; rw [hgd, hbit, bef_false]; rfl
   rw [show (bint false == (1 : Int)) = false from rfl, Qg, ← e]
   exact hfin
theorem list_l1 (N : Nat) (hN : N ≤ 1000) (L : List (Int × List Nat)) (h9 : L.length = 9) (hb : ∀ p ∈ L, (lvb p).length = N) (Z : List Int) (W : List (Int × List Int)) :
  ∀ (d i : Nat), N - i = d → i ≤ N → Qf_l1 i N Z W (ints ((List.range i).map fun j => (path (L.map lvb) (j, 0)).2)) (bitsL L) = some (ints ((List.range N).map fun j => (path (L.map lvb) (j, 0)).2)) := by
 intro d
 induction d with
 | zero =>
  intro i h1 h2
  obtain rfl : i = N := by omega
  rw [Qf_l1.eq, Q3 (by omega)]
 | succ d ih =>
  intro i h1 h2
  have h3 := list_l2 N hN L h9 hb i (by omega) Z W (ints ((List.range i).map fun j => (path (L.map lvb) (j, 0)).2)) (by rw [Z1, Z1, Z42]; omega) 9 0 rfl (by omega) (i, 0) (by show i < N; omega) (by simp)
  rw [Qf_l1.eq, Q2 (by omega)]
  refine h3.trans ?_
  have e : ints ((List.range i).map fun j => (path (L.map lvb) (j, 0)).2) ++ [(((path ((L.drop 0).map lvb) (i, 0)).2 : Nat) : Int)] = ints ((List.range (i + 1)).map fun j => (path (L.map lvb) (j, 0)).2) := by
   rw [Z88, Z15, Z58]
   exact (Z15 (f := fun (x : Nat) => (x : Int)) (l₁ := (List.range i).map fun j => (path (L.map lvb) (j, 0)).2) (l₂ := [(path (L.map lvb) (i, 0)).2])).symm
  rw [e]
  exact ih (i + 1) (by omega) (by omega)
def wList (N : Nat) (L : List (Int × List Nat)) : List Nat := snds (rows (L.map lvb) (start N))
theorem wList_eq (N : Nat) (L : List (Int × List Nat)) : wList N L = (List.range N).map fun j => (path (L.map lvb) (j, 0)).2 := by
 unfold wList start
 rw [rows_path]
 show List.map _ (List.map _ (List.map _ _)) = _
 rw [Z23, Z23]; rfl
theorem list_l0 (N : Nat) (hN : N ≤ 1000) (L : List (Int × List Nat)) (h9 : L.length = 9) (hv : ∀ p ∈ L, p.1 = (N : Int) ∧ vOk p.1 p.2 = true) (hx : ∀ p ∈ L, ∀ x ∈ p.2, x < 2 ^ 64) (Z : List Int) :
  ∀ (d t : Nat), 9 - t = d → t ≤ 9 → Qf_l0 t N Z (LI L) [] ((bitsL L).take t) = some (ints (wList N L)) := by
 have hb : ∀ p ∈ L, (lvb p).length = N := fun p hp => by unfold lvb; rw [Q2c, (hv p hp).1, Z5]
 intro d
 induction d with
 | zero =>
  intro t h1 h2
  obtain rfl : t = 9 := by omega
  rw [Qf_l0.eq, Q3 (by omega), Z37 (by rw [Z1]; omega), wList_eq]
  exact list_l1 N hN L h9 hb Z (LI L) _ 0 rfl (by omega)
 | succ d ih =>
  intro t h1 h2
  have htL : t < L.length := by omega
  have hvt := hv _ (Z14 htL)
  have hxt := hx _ (Z14 htL)
  have htight := (Q2O N L[t].2 hxt).1 (by have := hvt.2; rw [hvt.1] at this; simp only [vOk, Z4] at this; simpa using this.2)
  have hl01 : Qr (L[t].1, ints L[t].2) = some (Qe (lvb L[t])) := by
   rw [hvt.1, Q4d N L[t].2 (by omega) (by have := htight.1; unfold nw at this; omega) hxt]
   unfold lvb; rw [hvt.1, Z5]
  have htk : (bitsL L).take t ++ [Qe (lvb L[t])] = (bitsL L).take (t + 1) := by rw [Z48, Q4g L t htL]; rfl
  rw [Qf_l0.eq, Q2 (by omega), at?_LI L t htL, Z0]
  try simp only
  rw [hl01, Z0, Q2 (by simp only [Z2, Z6, Z8, Z1]; omega), Q6 t (by omega), htk]
  exact ih (t + 1) (by omega) (by omega)
theorem l07List_eq (n : Int) (Z : List Int) (L : List (Int × List Nat)) (hx : ∀ p ∈ L, ∀ x ∈ p.2, x < 2 ^ 64) (h : wOk n Z L = true) : Qf (n, Z, LI L) = some (ints (wList n.toNat L)) := by
 obtain ⟨h1, h2, _, h4, h5⟩ := wOk_at h
 obtain ⟨N, rfl⟩ : ∃ m : Nat, n = m := ⟨n.toNat, by omega⟩
 rw [Qf.eq]
 have := list_l0 N (by omega) L h4 (fun p hp => ⟨(h5 p hp).2, (h5 p hp).1⟩) hx Z 9 0 rfl (by omega)
 rw [Z39] at this
 rw [Z5]
 exact this
theorem wList_len (N : Nat) (L : List (Int × List Nat)) : (wList N L).length = N := by rw [wList_eq, Z1, Z42]
end Go.Ev.W
/- Bits of a list: the program's. -/
set_option linter.unusedVariables false
set_option linter.unusedSimpArgs false
namespace Go.Ev.W
open Go.Ev
theorem toNat_bit (b : Bool) (m : Nat) : (b.toNat).testBit m = (decide (m = 0) && b) := by
 cases b with
 | false => simp
 | true =>
  cases m with
  | zero => rfl
  | succ m => simp [Nat.testBit_succ]
theorem take_getD (l : List Bool) (i j : Nat) : (l.take i).getD j false = (decide (j < i) && l.getD j false) := by
 rw [Z9, Z9, Z55]
 by_cases h : j < i <;> simp [h]
theorem wrd_step (l : List Bool) (i : Nat) (hi : i < l.length) (j : Nat) : wrd (l.take (i + 1)) j = if j = i / 64 then wrd (l.take i) j ||| ((l[i]).toNat * 2 ^ (i % 64)) else wrd (l.take i) j := by
 apply Nat.eq_of_testBit_eq
 intro k
 have hg : l.getD i false = l[i] := by rw [Z9, Z3 hi]; rfl
 have hb : (l[i]).toNat * 2 ^ (i % 64) < 2 ^ 64 := by
  have h1 : (l[i]).toNat ≤ 1 := by cases l[i] <;> simp
  have h2 : 2 ^ (i % 64) ≤ 2 ^ 63 := Z80 (by omega) (by omega)
  have h3 : (l[i]).toNat * 2 ^ (i % 64) ≤ 1 * 2 ^ (i % 64) := Z64 _ h1
  omega
 by_cases hk : k < 64
 ·by_cases hj : j = i / 64
  ·rw [if_pos hj, Nat.testBit_or, wrd_bit _ _ _ hk, wrd_bit _ _ _ hk, take_getD, take_getD, Nat.testBit_mul_two_pow, toNat_bit]
   by_cases h1 : 64 * j + k = i
   ·rw [h1, hg, decide_eq_true (show i < i + 1 by omega), decide_eq_false (show ¬ i < i by omega), decide_eq_true (show i % 64 ≤ k by omega), decide_eq_true (show k - i % 64 = 0 by omega)]; simp
   ·by_cases h2 : 64 * j + k < i
    ·have h4 : ¬ (i % 64 ≤ k ∧ k - i % 64 = 0) := by omega
     rw [decide_eq_true (show 64 * j + k < i + 1 by omega), decide_eq_true h2]
     by_cases h5 : i % 64 ≤ k
     ·rw [decide_eq_false (show ¬ k - i % 64 = 0 by omega)]; simp
     ·rw [decide_eq_false h5]; simp
    ·rw [decide_eq_false (show ¬ 64 * j + k < i + 1 by omega), decide_eq_false h2, decide_eq_false (show ¬ k - i % 64 = 0 by omega)]; simp
  ·rw [if_neg hj, wrd_bit _ _ _ hk, wrd_bit _ _ _ hk, take_getD, take_getD]
   by_cases h2 : 64 * j + k < i
   ·rw [decide_eq_true (show 64 * j + k < i + 1 by omega), decide_eq_true h2]
   ·rw [decide_eq_false (show ¬ 64 * j + k < i + 1 by omega), decide_eq_false h2]
 ·have big : ∀ x : Nat, x < 2 ^ 64 → x.testBit k = false := fun x hx => Nat.testBit_lt_two_pow (Z54 hx (Z80 (by omega) (by omega)))
  rw [big _ (wrd_lt _ _)]
  split
  ·rw [Nat.testBit_or, big _ (wrd_lt _ _), big _ hb]; rfl
  ·rw [big _ (wrd_lt _ _)]
theorem implBitsOf_l0 (bs : List Bool) (hn : bs.length ≤ 5000) (a : Int) (b : List Int) : ∀ (d i : Nat), bs.length - i = d → i ≤ bs.length → QD_l0 (Qe bs) bs.length i a b bs.length ((List.range (nw bs.length)).map fun j => ((wrd (bs.take i) j : Nat) : Int)) = some ((bs.length : Int), ints (wrds bs)) := by
 intro d
 induction d with
 | zero =>
  intro i h1 h2
  obtain rfl : i = bs.length := by omega
  rw [QD_l0.eq, Q3 (by omega), Z22]
  unfold wrds
  show _ = some (_, List.map (fun (x : Nat) => (x : Int)) (List.map (wrd bs) _))
  rw [Z23]; rfl
 | succ d ih =>
  intro i h1 h2
  have hi : i < bs.length := by omega
  have hw : i / 64 < nw bs.length := by unfold nw; omega
  have e1 : (i : Int).tdiv 64 = ((i / 64 : Nat) : Int) := rfl
  have e2 : (i : Int).tmod 64 = ((i % 64 : Nat) : Int) := rfl
  have e3 : min (i % 64) 64 = i % 64 := by omega
  have hlt := wrd_lt (bs.take i) (i / 64)
  have hb1 : (bs[i]).toNat ≤ 1 := by cases bs[i] <;> simp
  have hpw : 2 ^ (i % 64) ≤ 2 ^ 63 := Z80 (by omega) (by omega)
  have hb2 : (bs[i]).toNat * 2 ^ (i % 64) ≤ 1 * 2 ^ (i % 64) := Z64 _ hb1
  rw [QD_l0.eq, Q2 (by omega), Q2K bs i hi, Z0, e1, e2, Qa (x := ((i / 64 : Nat) : Int)) (by omega) (by omega)]
  simp only [Q02, Z5, Q3z _ (nw bs.length) (i / 64) hw, Z0]
  rw [Q3 (by omega), e3, Q6 i (by omega), mapr_set]
  have ev : IntKind.u64.wrap (((BitVec.ofInt 64 ((wrd (bs.take i) (i / 64) : Nat) : Int)) ||| (BitVec.ofInt 64 (IntKind.u64.wrap ((IntKind.u64.wrap (bint bs[i])) * 2 ^ (i % 64))))).toNat : Int) = ((wrd (bs.take i) (i / 64) ||| ((bs[i]).toNat * 2 ^ (i % 64)) : Nat) : Int) := by
   have h3 : IntKind.u64.wrap (bint bs[i]) = (((bs[i]).toNat : Nat) : Int) := wrapUn (by omega)
   have h4 : (((bs[i]).toNat : Nat) : Int) * 2 ^ (i % 64) = (((bs[i]).toNat * 2 ^ (i % 64) : Nat) : Int) := by simp
   have h6 : IntKind.u64.wrap (((bs[i]).toNat * 2 ^ (i % 64) : Nat) : Int) = (((bs[i]).toNat * 2 ^ (i % 64) : Nat) : Int) := wrapUn (by omega)
   rw [h3, h4, h6]
   have h5 := bv_or 64 (wrd (bs.take i) (i / 64)) ((bs[i]).toNat * 2 ^ (i % 64)) hlt (by omega)
   rw [h5, wrapUn (Nat.or_lt_two_pow hlt (by omega))]
  rw [ev]
  have e4 : (List.range (nw bs.length)).map (fun c => if c = i / 64 then ((wrd (bs.take i) (i / 64) ||| ((bs[i]).toNat * 2 ^ (i % 64)) : Nat) : Int) else ((wrd (bs.take i) c : Nat) : Int)) = (List.range (nw bs.length)).map fun j => ((wrd (bs.take (i + 1)) j : Nat) : Int) := by
   refine Z45 fun c _ => ?_
   rw [wrd_step bs i hi c]
   by_cases h : c = i / 64
   ·subst h; rw [if_pos rfl, if_pos rfl]
   ·rw [if_neg h, if_neg h]
  rw [e4]
  exact ih (i + 1) (by omega) (by omega)
theorem Q3p (bs : List Bool) (hn : bs.length ≤ 5000) : QD (Qe bs) = some ((bs.length : Int), ints (wrds bs)) := by
 have e1 : ((bs.length : Int) + 63).tdiv 64 = ((nw bs.length : Nat) : Int) := rfl
 have hnw := nw_le hn
 rw [QD.eq, Z1, Qa (x := (bs.length : Int) + 64) (by omega) (by omega), Qa (x := (bs.length : Int) + 64 - 1) (by omega) (by omega), show (bs.length : Int) + 64 - 1 = bs.length + 63 by omega, e1, Qa (x := ((nw bs.length : Nat) : Int)) (by omega) (by omega), Z5]
 have e2 : (decide ((0 : Int) ≤ ((nw bs.length : Nat) : Int)) && decide (nw bs.length * 8 ≤ 140737488355328)) = true := by
  rw [Z4, decide_eq_true_eq, decide_eq_true_eq]; omega
 rw [e2, QW]
 have h := implBitsOf_l0 bs hn 0 [] _ 0 rfl (by omega)
 have e3 : List.replicate (nw bs.length) (0 : Int) = (List.range (nw bs.length)).map (fun j => ((wrd (bs.take 0) j : Nat) : Int)) := by
  refine Z75 (by rw [Z84, Z1, Z42]) fun j h1 h2 => ?_
  rw [List.getElem_replicate, Z87]
  simp [wrd, ofB]
 rw [e3]
 exact h
end Go.Ev.W
/- Bits out of bytes, whole. -/
set_option linter.unusedVariables false
set_option linter.unusedSimpArgs false
namespace Go.Ev.W
open Go.Ev
def bbit (B : List Nat) (i : Nat) : Bool := (B.getD (i / 8) 0).testBit (i % 8)
theorem l02Pow_l0 : ∀ (k : Nat) (x : Nat), k < 62 → x * 2 ^ k < 2 ^ 63 → Q05_l0 k x = some ((x * 2 ^ k : Nat) : Int) := by
 intro k
 induction k with
 | zero => intro x _ _; rw [Q05_l0.eq, Q3 (by omega)]; simp
 | succ k ih =>
  intro x hk hx
  have hx2 : 2 * x * 2 ^ k < 2 ^ 63 := by rw [Z60] at hx; rw [Z56 2 x, Nat.mul_assoc, Z56 2]; exact hx
  have hx3 : 2 * x < 2 ^ 63 := Nat.lt_of_le_of_lt (Nat.le_mul_of_pos_right _ (Nat.two_pow_pos k)) hx2
  rw [Q05_l0.eq, Q2 (by omega), Qa (by omega) (by omega), show ((k + 1 : Nat) : Int) - 1 = k by omega, show (2 : Int) * (x : Int) = ((2 * x : Nat) : Int) by omega, Q2J hx3, ih (2 * x) (by omega) hx2]
  rw [Z60, Z56 2 x, Nat.mul_assoc, Z56 2]
theorem l02Pow_eq (k : Nat) (hk : k < 62) : Q05 k = some ((2 ^ k : Nat) : Int) := by
 have h := l02Pow_l0 k 1 hk (by rw [Nat.one_mul]; exact Nat.pow_lt_pow_right (by omega) (by omega))
 rw [Nat.one_mul] at h
 rw [Q05.eq]; exact h
end Go.Ev.W
/- The wave of a list: the reference's. -/
set_option linter.unusedVariables false
set_option linter.unusedSimpArgs false
namespace Go.Ev.W
open Go.Ev
def wbit (l x : Nat) : Bool := x / 2 ^ (8 - l) % 2 == 1
def wlo (l : Nat) (X : List Nat) : List Nat := X.filter fun x => !wbit l x
def whi (l : Nat) (X : List Nat) : List Nat := X.filter fun x => wbit l x
def wbs (l : Nat) (X : List Nat) : List Bool := X.map (wbit l)
def wLv : Nat → Nat → List Nat → List Nat × List (Int × List Nat)
 | 0, _, _ => ([], [])
 | d + 1, l, X => ((wlo l X).length :: (wLv d (l + 1) (wlo l X ++ whi l X)).1, ((X.length : Int), wrds (wbs l X)) :: (wLv d (l + 1) (wlo l X ++ whi l X)).2)
theorem Q2r (l : Nat) : ∀ X : List Nat, (wlo l X).length + (whi l X).length = X.length
 | [] => rfl
 | x :: X => by
  have ih := Q2r l X
  unfold wlo whi at ih ⊢
  rw [Z32, Z32, Z2]
  cases wbit l x <;> simp <;> omega
theorem snocF {α : Type} (p : α → Bool) (X : List α) (i : Nat) (hi : i < X.length) : (X.take (i + 1)).filter p = (X.take i).filter p ++ (if p X[i] then [X[i]] else []) := by
 rw [Z48, Z3 hi, Z63]
 cases h : p X[i] <;> simp [h]
theorem wbit_val (l x : Nat) : (((x / 2 ^ (8 - l) % 2 : Nat) : Int)) = bint (wbit l x) := by
 unfold wbit bint
 rcases Nat.mod_two_eq_zero_or_one (x / 2 ^ (8 - l)) with h | h <;> rw [h] <;> rfl
theorem specWaveOf_l2 (l : Nat) (hl : l < 9) (X : List Nat) (hX : X.length ≤ 1000) (hx : ∀ x ∈ X, x ≤ 511) (a : Int) (b : List Int) (c : List (Int × List Int)) (n : Int) (Z : List Int) (L : List (Int × List Int)) (hZ : Z.length ≤ 100) (hL : L.length ≤ 100) : ∀ (d i : Nat), X.length - i = d → i ≤ X.length →
  Qk_l2 l i a b c n Z L (ints X) (Qe (wbs l (X.take i))) (ints (wlo l (X.take i))) (ints (whi l (X.take i))) = Qk_l1 (l + 1 : Nat) a b c n (Z ++ [((wlo l X).length : Int)]) (L ++ [((X.length : Int), ints (wrds (wbs l X)))]) (ints (wlo l X ++ whi l X)) := by
 have hll := Q2r l X
 intro d
 induction d with
 | zero =>
  intro i h1 h2
  obtain rfl : i = X.length := by omega
  have hbl : (wbs l X).length = X.length := Z1 ..
  rw [Qk_l2.eq, Z1, Q3 (by omega), Z22, Q3m _ (by omega), Z0]
  try simp only
  rw [Q2 (by simp only [Z2, Z6]; omega), Q2 (by simp only [Z2, Z6]; omega), Q2 (by rw [Z1, Z1]; omega), Q6 l (by omega), Z1, hbl]
  congr 1
  exact (Z15 (f := fun (x : Nat) => (x : Int)) (l₁ := wlo l X) (l₂ := whi l X)).symm
 | succ d ih =>
  intro i h1 h2
  have hi : i < X.length := by omega
  have hxi := hx _ (Z14 hi)
  have hp : 2 ^ (8 - l) ≤ 2 ^ 8 := Z80 (by omega) (by omega)
  have hp0 : 0 < 2 ^ (8 - l) := Nat.two_pow_pos _
  have hd : X[i] / 2 ^ (8 - l) ≤ X[i] := Z90 _ _
  have e1 : (X[i] : Int).tdiv ((2 ^ (8 - l) : Nat) : Int) = ((X[i] / 2 ^ (8 - l) : Nat) : Int) := rfl
  have e2 : ((X[i] / 2 ^ (8 - l) : Nat) : Int).tmod 2 = ((X[i] / 2 ^ (8 - l) % 2 : Nat) : Int) := rfl
  have l1 := Q2r l (X.take i)
  rw [Z8] at l1
  have hb0 : (Qe (wbs l (X.take i))).length = i := by rw [Z1]; unfold wbs; rw [Z1, Z8]; omega
  have ih' := ih (i + 1) (by omega) (by omega)
  have eb : Qe (wbs l (X.take i)) ++ [bint (wbit l X[i])] = Qe (wbs l (X.take (i + 1))) := by
   unfold wbs
   rw [Z48, Z3 hi, Z15]
   exact (Z15 (f := bint) (l₁ := (X.take i).map (wbit l)) (l₂ := [wbit l X[i]])).symm
  have elo := snocF (fun x => !wbit l x) X i hi
  have ehi := snocF (fun x => wbit l x) X i hi
  rw [Qk_l2.eq, Z1, Q2 (by omega), Q0M _ _ hi, Z0, Z5, Q2p _ _ hi, Z0, Qa (by omega) (by omega), show (8 : Int) - (l : Int) = ((8 - l : Nat) : Int) by omega, l02Pow_eq _ (by omega), Z0, Q3 (by omega), e1, Q2J (by omega), e2, wbit_val,
   Q2 (by rw [hb0]; simp only [Z2, Z6]; omega), Q6 i (by omega), eb]
  rw [Z0, Z0, Q2P]
  cases hb : wbit l X[i] with
  | true =>
   rw [hb] at elo ehi
   rw [Z12, Qg, Z0, Z0, Q2 (by simp only [Z2, Z6, Z1]; omega)]
   rw [show wlo l (X.take i) = wlo l (X.take (i + 1)) by unfold wlo; rw [elo]; simp,
    show ints (whi l (X.take i)) ++ [((X[i] : Nat) : Int)] = ints (whi l (X.take (i + 1))) by
     unfold whi; rw [ehi]; exact (Z15 (f := fun (x : Nat) => (x : Int)) (l₁ := (X.take i).filter _) (l₂ := [X[i]])).symm]
   exact ih'
  | false =>
   rw [hb] at elo ehi
   rw [Z62, QW, Q2 (by simp only [Z2, Z6, Z1]; omega)]
   rw [show whi l (X.take i) = whi l (X.take (i + 1)) by unfold whi; rw [ehi]; simp,
    show ints (wlo l (X.take i)) ++ [((X[i] : Nat) : Int)] = ints (wlo l (X.take (i + 1))) by
     unfold wlo; rw [elo]; exact (Z15 (f := fun (x : Nat) => (x : Int)) (l₁ := (X.take i).filter _) (l₂ := [X[i]])).symm]
   exact ih'
theorem specWaveOf_l1 (a : Int) (b : List Int) (c : List (Int × List Int)) (n : Int) : ∀ (d l : Nat), 9 - l = d → l ≤ 9 → ∀ (X : List Nat) (Z : List Int) (L : List (Int × List Int)), X.length ≤ 1000 → (∀ x ∈ X, x ≤ 511) → Z.length = l → L.length = l →
  Qk_l1 l a b c n Z L (ints X) = some ((n, Z ++ ints (wLv d l X).1, L ++ LI (wLv d l X).2), true) := by
 intro d
 induction d with
 | zero =>
  intro l h1 h2 X Z L hX hx hZ hL
  rw [Qk_l1.eq, Q3 (by omega)]
  simp [wLv]
 | succ d ih =>
  intro l h1 h2 X Z L hX hx hZ hL
  have hll := Q2r l X
  have hmem : ∀ x ∈ wlo l X ++ whi l X, x ≤ 511 := fun x h => by
   rcases Z26.1 h with h | h
   ·exact hx x (Z73.1 h).1
   ·exact hx x (Z73.1 h).1
  have h3 := specWaveOf_l2 l (by omega) X hX hx a b c n Z L (by omega) (by omega) _ 0 rfl (by omega)
  rw [Qk_l1.eq, Q2 (by omega)]
  refine h3.trans ?_
  rw [ih (l + 1) (by omega) (by omega) (wlo l X ++ whi l X) _ _ (by rw [Z10]; omega) hmem (by rw [Z10, hZ]; rfl) (by rw [Z10, hL]; rfl), wLv]
  simp only [Z28]
  rfl
theorem specWaveOf_l0 (X : List Nat) (hX : X.length ≤ 1000) (hx : ∀ x ∈ X, x ≤ 511) (a : Int) (b : List Int) (c : List (Int × List Int)) : ∀ (d i : Nat), X.length - i = d → i ≤ X.length → Qk_l0 (ints X) i a b c = some (((X.length : Int), ints (wLv 9 0 X).1, LI (wLv 9 0 X).2), true) := by
 intro d
 induction d with
 | zero =>
  intro i h1 h2
  rw [Qk_l0.eq, Z1, Q3 (by omega), Q2 (by simp only [Z6]; omega), Z40]
  have := specWaveOf_l1 a b c X.length 9 0 rfl (by omega) X [] [] hX hx rfl rfl
  rw [Z40, Z40] at this
  exact this
 | succ d ih =>
  intro i h1 h2
  have hi : i < X.length := by omega
  have hxi := hx _ (Z14 hi)
  rw [Qk_l0.eq, Z1, Q2 (by omega), Q0M _ _ hi, Z0, Q3 (by omega), Z0, Q3 (by omega), Q6 i (by omega)]
  exact ih (i + 1) (by omega) (by omega)
theorem Q4h (X : List Nat) (hX : X.length ≤ 1000) (hx : ∀ x ∈ X, x ≤ 511) : Qk (ints X) = some (((X.length : Int), ints (wLv 9 0 X).1, LI (wLv 9 0 X).2), true) := by
 rw [Qk.eq, Z1, Q3 (by omega)]
 exact specWaveOf_l0 X hX hx 0 [] [] _ 0 rfl (by omega)
end Go.Ev.W
/- Joining slices of numbers. -/
set_option linter.unusedVariables false
set_option linter.unusedSimpArgs false
namespace Go.Ev.W
open Go.Ev
theorem growI_eq (n : Int) (h0 : 0 ≤ n) (h : n ≤ 10000000000) : Q22 [] n = some [] := by
 unfold Q22 growF
 simp only [List.isEmpty_nil, Z29]
 rw [decide_eq_true h0, decide_eq_true (show n.toNat * 8 ≤ 140737488355328 by omega), decide_eq_true (show n.toNat ≤ 4611686018427387904 by omega)]
 rfl
theorem Q4i : ∀ (L : List Nat) (i : Nat), (L.take i).sum ≤ L.sum
 | [], i => by simp
 | x :: L, 0 => by simp
 | x :: L, i + 1 => by simp only [Z100, List.sum_cons]; have := Q4i L i; omega
theorem take_stepI {α : Type} (l : List α) (i : Nat) (h : i < l.length) : l.take (i + 1) = l.take i ++ [l[i]] := by
 rw [Z48, Z3 h]; rfl
theorem concatI_l1 (X : List (List Int)) (hn : X.length ≤ 1000000) (hs : (X.map List.length).sum ≤ 1000000000) : ∀ (d i : Nat), X.length - i = d → i ≤ X.length →
  QO_l1 X X.length i (X.take i).flatten = some X.flatten := by
 intro d
 induction d with
 | zero =>
  intro i h1 h2
  obtain rfl : i = X.length := by omega
  rw [QO_l1.eq, Q3 (by omega), Z22]
 | succ d ih =>
  intro i h1 h2
  rw [QO_l1.eq, Q2 (by omega), Q2o X i (by omega), Z0]
  have e : (X.take (i + 1)).flatten = (X.take i).flatten ++ X[i] := by rw [take_stepI _ _ (by omega), List.flatten_append, Z44, List.flatten_nil, Z30]
  have hb := Q4i (X.map List.length) (i + 1)
  rw [← Z91, ← List.length_flatten, e, Z10] at hb
  rw [Q2 (by omega), ← e, Qa (by omega) (by omega)]
  exact ih (i + 1) (by omega) (by omega)
theorem concatI_l0 (X : List (List Int)) (hn : X.length ≤ 1000000) (hs : (X.map List.length).sum ≤ 1000000000) : ∀ (d i : Nat), X.length - i = d → i ≤ X.length →
  QO_l0 X ((((X.map List.length).take i).sum : Nat) : Int) X X.length i = some X.flatten := by
 intro d
 induction d with
 | zero =>
  intro i h1 h2
  obtain rfl : i = X.length := by omega
  rw [QO_l0.eq, Q3 (by omega)]
  have hb := Q4i (X.map List.length) X.length
  rw [growI_eq _ (by omega) (by omega), Z0]
  exact concatI_l1 X hn hs _ 0 rfl (by omega)
 | succ d ih =>
  intro i h1 h2
  have hi : i < X.length := by omega
  rw [QO_l0.eq, Q2 (by omega), Q2o X i hi, Z0]
  have e : ((X.map List.length).take (i + 1)).sum = ((X.map List.length).take i).sum + X[i].length := by rw [take_stepI _ _ (by rw [Z1]; omega), List.sum_append, List.sum_cons, List.sum_nil, Z87, Z31]
  have hb := Q4i (X.map List.length) (i + 1)
  rw [e] at hb
  rw [Qa (by omega) (by omega), Q3 (by omega), Qa (by omega) (by omega)]
  have := ih (i + 1) (by omega) (by omega)
  rw [e] at this
  exact this
theorem concatI_eq (X : List (List Int)) (hn : X.length ≤ 1000000) (hs : (X.map List.length).sum ≤ 1000000000) : QO X = some X.flatten := by
 rw [QO.eq]
 exact concatI_l0 X hn hs _ 0 rfl (by omega)
end Go.Ev.W
/- The wave of a list: the program's. -/
set_option linter.unusedVariables false
set_option linter.unusedSimpArgs false
namespace Go.Ev.W
open Go.Ev
theorem ibit (l x : Nat) (hl : l < 9) (hx : x ≤ 511) : IntKind.i64.wrap (((BitVec.ofInt 64 ((x : Int).fdiv (2 ^ (min (IntKind.i64.wrap ((8 : Int) - (l : Int))).toNat 64)))) &&& (BitVec.ofInt 64 (1 : Int))).toNat : Int) = bint (wbit l x) := by
 have e0 : IntKind.i64.wrap ((8 : Int) - (l : Int)) = ((8 - l : Nat) : Int) := by rw [Qa (by omega) (by omega)]; omega
 have e1 : min (8 - l) 64 = 8 - l := by omega
 have hd : x / 2 ^ (8 - l) ≤ x := Z90 _ _
 have h1 := bv_and 64 (x / 2 ^ (8 - l)) 1 (by omega) (by omega)
 rw [show ((1 : Nat) : Int) = 1 from rfl] at h1
 rw [e0, Z5, e1, fdiv_nat, h1, Nat.and_one_is_mod, Q2J (by omega), wbit_val]
theorem implWaveOf_l4 (l : Nat) (hl : l < 9) (X : List Nat) (hX : X.length ≤ 1000) (hx : ∀ x ∈ X, x ≤ 511) (a : Int) (b : List Int) (c : List (Int × List Int)) (n : Int) (Z : List Int) (L : List (Int × List Int)) (hZ : Z.length ≤ 100) (hL : L.length ≤ 100) : ∀ (d i : Nat), X.length - i = d → i ≤ X.length →
  Qd_l4 l l X.length i a b c n Z L (ints (wlo l (X.take i))) (ints (whi l (X.take i))) (Qe (wbs l (X.take i))) (ints X) = Qd_l3 (l + 1 : Nat) (ints (wlo l X ++ whi l X)) a b c n (Z ++ [((wlo l X).length : Int)]) (L ++ [((X.length : Int), ints (wrds (wbs l X)))]) := by
 have hll := Q2r l X
 intro d
 induction d with
 | zero =>
  intro i h1 h2
  obtain rfl : i = X.length := by omega
  have hbl : (wbs l X).length = X.length := Z1 ..
  rw [Qd_l4.eq, Q3 (by omega), Z22, Q2 (by simp only [Z2, Z6]; omega), Q3p _ (by omega), Z0]
  try simp only
  rw [Q2 (by simp only [Z2, Z6]; omega), concatI_eq _ (by simp) (by simp only [Z16, Z59, List.sum_cons, List.sum_nil, Z1]; omega), Z0, Q6 l (by omega), Z1, hbl]
  congr 1
  simp only [Z44, List.flatten_nil, Z30]
  exact (Z15 (f := fun (x : Nat) => (x : Int)) (l₁ := wlo l X) (l₂ := whi l X)).symm
 | succ d ih =>
  intro i h1 h2
  have hi : i < X.length := by omega
  have hxi := hx _ (Z14 hi)
  have l1 := Q2r l (X.take i)
  rw [Z8] at l1
  have hb0 : (Qe (wbs l (X.take i))).length = i := by rw [Z1]; unfold wbs; rw [Z1, Z8]; omega
  have ih' := ih (i + 1) (by omega) (by omega)
  have eb : Qe (wbs l (X.take i)) ++ [bint (wbit l X[i])] = Qe (wbs l (X.take (i + 1))) := by
   unfold wbs
   rw [Z48, Z3 hi, Z15]
   exact (Z15 (f := bint) (l₁ := (X.take i).map (wbit l)) (l₂ := [wbit l X[i]])).symm
  have elo := snocF (fun x => !wbit l x) X i hi
  have ehi := snocF (fun x => wbit l x) X i hi
  rw [Qd_l4.eq, Q2 (by omega), Q0M _ _ hi, Z0, Z5, Q2p _ _ hi, Z0, ibit l X[i] hl hxi, Q3 (by rw [Qa (by omega) (by omega)]; omega), Q2 (by rw [hb0]; simp only [Z2, Z6]; omega), Q6 i (by omega), eb, Q2P]
  cases hb : wbit l X[i] with
  | true =>
   rw [hb] at elo ehi
   rw [Z12, Qg, Q2 (by simp only [Z2, Z6, Z1]; omega)]
   rw [show wlo l (X.take i) = wlo l (X.take (i + 1)) by unfold wlo; rw [elo]; simp,
    show ints (whi l (X.take i)) ++ [((X[i] : Nat) : Int)] = ints (whi l (X.take (i + 1))) by
     unfold whi; rw [ehi]; exact (Z15 (f := fun (x : Nat) => (x : Int)) (l₁ := (X.take i).filter _) (l₂ := [X[i]])).symm]
   exact ih'
  | false =>
   rw [hb] at elo ehi
   rw [Z62, QW, Q2 (by simp only [Z2, Z6, Z1]; omega)]
   rw [show whi l (X.take i) = whi l (X.take (i + 1)) by unfold whi; rw [ehi]; simp,
    show ints (wlo l (X.take i)) ++ [((X[i] : Nat) : Int)] = ints (wlo l (X.take (i + 1))) by
     unfold wlo; rw [elo]; exact (Z15 (f := fun (x : Nat) => (x : Int)) (l₁ := (X.take i).filter _) (l₂ := [X[i]])).symm]
   exact ih'
theorem implWaveOf_l2 (l : Nat) (hl : l < 9) (X : List Nat) (hX : X.length ≤ 1000) (hx : ∀ x ∈ X, x ≤ 511) (a : Int) (b : List Int) (c : List (Int × List Int)) (n : Int) (Z : List Int) (L : List (Int × List Int)) (hZ : Z.length ≤ 100) (hL : L.length ≤ 100) : ∀ (d i : Nat), X.length - i = d → i ≤ X.length →
  Qd_l2 l l (ints X) X.length i a b c n Z L (ints (wlo l (X.take i))) (ints (whi l (X.take i))) (Qe (wbs l (X.take i))) = Qd_l3 (l + 1 : Nat) (ints (wlo l X ++ whi l X)) a b c n (Z ++ [((wlo l X).length : Int)]) (L ++ [((X.length : Int), ints (wrds (wbs l X)))]) := by
 have hll := Q2r l X
 intro d
 induction d with
 | zero =>
  intro i h1 h2
  obtain rfl : i = X.length := by omega
  have hbl : (wbs l X).length = X.length := Z1 ..
  rw [Qd_l2.eq, Q3 (by omega), Z22, Q2 (by simp only [Z2, Z6]; omega), Q3p _ (by omega), Z0]
  try simp only
  rw [Q2 (by simp only [Z2, Z6]; omega), concatI_eq _ (by simp) (by simp only [Z16, Z59, List.sum_cons, List.sum_nil, Z1]; omega), Z0, Q6 l (by omega), Z1, hbl]
  congr 1
  simp only [Z44, List.flatten_nil, Z30]
  exact (Z15 (f := fun (x : Nat) => (x : Int)) (l₁ := wlo l X) (l₂ := whi l X)).symm
 | succ d ih =>
  intro i h1 h2
  have hi : i < X.length := by omega
  have hxi := hx _ (Z14 hi)
  have l1 := Q2r l (X.take i)
  rw [Z8] at l1
  have hb0 : (Qe (wbs l (X.take i))).length = i := by rw [Z1]; unfold wbs; rw [Z1, Z8]; omega
  have ih' := ih (i + 1) (by omega) (by omega)
  have eb : Qe (wbs l (X.take i)) ++ [bint (wbit l X[i])] = Qe (wbs l (X.take (i + 1))) := by
   unfold wbs
   rw [Z48, Z3 hi, Z15]
   exact (Z15 (f := bint) (l₁ := (X.take i).map (wbit l)) (l₂ := [wbit l X[i]])).symm
  have elo := snocF (fun x => !wbit l x) X i hi
  have ehi := snocF (fun x => wbit l x) X i hi
  rw [Qd_l2.eq, Q2 (by omega), Q0M _ _ hi, Z0, ibit l X[i] hl hxi, Q3 (by rw [Qa (by omega) (by omega)]; omega), Q2 (by rw [hb0]; simp only [Z2, Z6]; omega), Q6 i (by omega), eb, Q2P]
  cases hb : wbit l X[i] with
  | true =>
   rw [hb] at elo ehi
   rw [Z12, Qg, Q2 (by simp only [Z2, Z6, Z1]; omega)]
   rw [show wlo l (X.take i) = wlo l (X.take (i + 1)) by unfold wlo; rw [elo]; simp,
    show ints (whi l (X.take i)) ++ [((X[i] : Nat) : Int)] = ints (whi l (X.take (i + 1))) by
     unfold whi; rw [ehi]; exact (Z15 (f := fun (x : Nat) => (x : Int)) (l₁ := (X.take i).filter _) (l₂ := [X[i]])).symm]
   exact ih'
  | false =>
   rw [hb] at elo ehi
   rw [Z62, QW, Q2 (by simp only [Z2, Z6, Z1]; omega)]
   rw [show whi l (X.take i) = whi l (X.take (i + 1)) by unfold whi; rw [ehi]; simp,
    show ints (wlo l (X.take i)) ++ [((X[i] : Nat) : Int)] = ints (wlo l (X.take (i + 1))) by
     unfold wlo; rw [elo]; exact (Z15 (f := fun (x : Nat) => (x : Int)) (l₁ := (X.take i).filter _) (l₂ := [X[i]])).symm]
   exact ih'
theorem implWaveOf_l3 (a : Int) (b : List Int) (c : List (Int × List Int)) (n : Int) : ∀ (d l : Nat), 9 - l = d → l ≤ 9 → ∀ (X : List Nat) (Z : List Int) (L : List (Int × List Int)), X.length ≤ 1000 → (∀ x ∈ X, x ≤ 511) → Z.length = l → L.length = l →
  Qd_l3 l (ints X) a b c n Z L = some ((n, Z ++ ints (wLv d l X).1, L ++ LI (wLv d l X).2), true) := by
 intro d
 induction d with
 | zero =>
  intro l h1 h2 X Z L hX hx hZ hL
  rw [Qd_l3.eq, Q3 (by omega)]
  simp [wLv]
 | succ d ih =>
  intro l h1 h2 X Z L hX hx hZ hL
  have hll := Q2r l X
  have hmem : ∀ x ∈ wlo l X ++ whi l X, x ≤ 511 := fun x h => by
   rcases Z26.1 h with h | h
   ·exact hx x (Z73.1 h).1
   ·exact hx x (Z73.1 h).1
  have h3 := implWaveOf_l4 l (by omega) X hX hx a b c n Z L (by omega) (by omega) _ 0 rfl (by omega)
  rw [Qd_l3.eq, Q2 (by omega), Z1]
  refine h3.trans ?_
  rw [ih (l + 1) (by omega) (by omega) (wlo l X ++ whi l X) _ _ (by rw [Z10]; omega) hmem (by rw [Z10, hZ]; rfl) (by rw [Z10, hL]; rfl), wLv]
  simp only [Z28]
  rfl
theorem implWaveOf_l0 (X : List Nat) (hX : X.length ≤ 1000) (hx : ∀ x ∈ X, x ≤ 511) (a : Int) (b : List Int) (c : List (Int × List Int)) : Qd_l0 (ints X) a b c = some (((X.length : Int), ints (wLv 9 0 X).1, LI (wLv 9 0 X).2), true) := by
 have hll := Q2r 0 X
 have hmem : ∀ x ∈ wlo 0 X ++ whi 0 X, x ≤ 511 := fun x h => by
  rcases Z26.1 h with h | h
  ·exact hx x (Z73.1 h).1
  ·exact hx x (Z73.1 h).1
 have h3 := implWaveOf_l2 0 (by omega) X hX hx a b c X.length [] [] (by simp) (by simp) _ 0 rfl (by omega)
 rw [Qd_l0.eq, Qd_l1.eq, Q2 (by omega), Z1]
 refine h3.trans ?_
 rw [implWaveOf_l3 a b c X.length 8 1 rfl (by omega) (wlo 0 X ++ whi 0 X) _ _ (by rw [Z10]; omega) hmem rfl rfl]
 rfl
theorem wave1_eq (n : Int) : Q14 n () = some (!(decide (0 ≤ n) && decide (n ≤ 511))) := by
 rw [Q14.eq, Q1D.eq, withinS_eq]; rfl
theorem waveAll_eq (xs : List Int) (h : xs.length < 4611686018427387904) : Q1l xs () = some (xs.all fun x => decide (0 ≤ x) && decide (x ≤ 511)) := by
 rw [Q1l.eq, Q1E.eq, Q0D.eq]
 obtain ⟨r, h1, h2⟩ := find_loop (fun n : Int => !(decide (0 ≤ n) && decide (n ≤ 511))) (fun n => Q14 n ()) xs h (fun x _ => wave1_eq x) (Q0D_l0 xs xs.length) (Q0D_l0.eq xs xs.length)
 rw [h1]
 simp only [Z0, h2, List.any_eq_not_all_not, Z89]
theorem Q3N (X : List Nat) (hX : X.length ≤ 1000) (hx : ∀ x ∈ X, x ≤ 511) : Qd (ints X) = some (((X.length : Int), ints (wLv 9 0 X).1, LI (wLv 9 0 X).2), true) := by
 have hall : ((ints X).all fun x => decide (0 ≤ x) && decide (x ≤ 511)) = true := by
  refine Z49.2 fun x h => ?_
  obtain ⟨y, hy, rfl⟩ := Z18.1 h
  have := hx y hy
  rw [Z4, decide_eq_true_eq, decide_eq_true_eq]; omega
 rw [Qd.eq, Z1, Q3 (by omega), waveAll_eq _ (by rw [Z1]; omega), hall, Z0, Z12, Qg]
 exact implWaveOf_l0 X hX hx 0 [] []
end Go.Ev.W
/- Waves: a valid wave is the wave of its numbers. -/
set_option linter.unusedVariables false
set_option linter.unusedSimpArgs false
namespace Go.Ev.W
open Go.Ev
theorem path_val : ∀ (bss : List (List Bool)) (k v : Nat), (path bss (k, v)).2 = v * 2 ^ bss.length + (path bss (k, 0)).2
 | [], k, v => by show v = v * 2 ^ 0 + 0; omega
 | bs :: bss, k, v => by
  have h1 : path (bs :: bss) (k, v) = path bss (nxt bs k, 2 * v + (bs.getD k false).toNat) := rfl
  have h2 : path (bs :: bss) (k, 0) = path bss (nxt bs k, 2 * 0 + (bs.getD k false).toNat) := rfl
  rw [h1, h2, path_val bss _ (2 * v + _), path_val bss _ (2 * 0 + _), Z2, Z60]
  rw [Nat.mul_zero, Z25, Z66, Z65, Z56 2 v, Nat.mul_assoc, Z56 2]
theorem path_lt : ∀ (bss : List (List Bool)) (k : Nat), (path bss (k, 0)).2 < 2 ^ bss.length
 | [], k => by show 0 < 2 ^ 0; omega
 | bs :: bss, k => by
  have h2 : path (bs :: bss) (k, 0) = path bss (nxt bs k, 2 * 0 + (bs.getD k false).toNat) := rfl
  have h3 := path_lt bss (nxt bs k)
  have hb : (bs.getD k false).toNat ≤ 1 := by cases bs.getD k false <;> simp
  have h4 := Z64 (2 ^ bss.length) hb
  rw [h2, path_val, Z2, Z60, Nat.mul_zero, Z25]; omega
theorem filt_at {α : Type} (p : α → Bool) (X : List α) (k : Nat) (hk : k < X.length) (h : p X[k] = true) : (X.filter p)[((X.take k).filter p).length]? = some X[k] := by
 have e : X.filter p = (X.take k).filter p ++ X[k] :: (X.drop (k + 1)).filter p := by
  conv => lhs; rw [← Z82 k X, Z63, Z27 hk, Z32, if_pos h]
 rw [e, Z76 (Z7 _), Nat.sub_self]; rfl
theorem zer_at (bs : List Bool) (m : Nat) : ∀ n, n ≤ bs.length → m < zer bs n → ∃ k, ∃ h : k < bs.length, bs[k] = false ∧ zer bs k = m
 | 0, _, h => by rw [Q3o] at h; omega
 | n + 1, hn, h => by
  by_cases h1 : m < zer bs n
  ·exact zer_at bs m n (by omega) h1
  ·rw [Q2Z bs n (by omega)] at h
   refine ⟨n, by omega, ?_⟩
   cases hb : bs[n] with
   | false => rw [hb] at h; simp at h; exact ⟨rfl, by omega⟩
   | true => rw [hb] at h; simp at h; omega
theorem one_at (bs : List Bool) (m : Nat) : ∀ n, n ≤ bs.length → m < one bs n → ∃ k, ∃ h : k < bs.length, bs[k] = true ∧ one bs k = m
 | 0, _, h => by rw [one_zero] at h; omega
 | n + 1, hn, h => by
  by_cases h1 : m < one bs n
  ·exact one_at bs m n (by omega) h1
  ·rw [Q3A bs n (by omega)] at h
   refine ⟨n, by omega, ?_⟩
   cases hb : bs[n] with
   | true => rw [hb] at h; simp at h; exact ⟨rfl, by omega⟩
   | false => rw [hb] at h; simp at h; omega
theorem nxt_onto (bs : List Bool) (m : Nat) (hm : m < bs.length) : ∃ k, k < bs.length ∧ nxt bs k = m := by
 have h1 := Q2F bs bs.length (Z7 _)
 by_cases h : m < zer bs bs.length
 ·obtain ⟨k, hk, h2, h3⟩ := zer_at bs m _ (Z7 _) h
  refine ⟨k, hk, ?_⟩
  unfold nxt
  rw [Z9, Z3 hk, Z41, h2, if_neg (by simp), h3]
 ·obtain ⟨k, hk, h2, h3⟩ := one_at bs (m - zer bs bs.length) _ (Z7 _) (by omega)
  refine ⟨k, hk, ?_⟩
  unfold nxt
  rw [Z9, Z3 hk, Z41, h2, if_pos rfl, h3]; omega
theorem zer_wbs (l : Nat) (X : List Nat) (k : Nat) : zer (wbs l X) k = ((X.take k).filter fun x => !wbit l x).length := by
 unfold zer wbs
 rw [← Z91, List.filter_map, Z1]; rfl
theorem one_wbs (l : Nat) (X : List Nat) (k : Nat) : one (wbs l X) k = ((X.take k).filter fun x => wbit l x).length := by
 unfold one wbs
 rw [← Z91, List.filter_map, Z1]; rfl
theorem Q3q (l : Nat) (X : List Nat) : (wbs l X).length = X.length := Z1 ..
theorem part_at (l : Nat) (X : List Nat) (k : Nat) (hk : k < X.length) : (wlo l X ++ whi l X)[nxt (wbs l X) k]? = some X[k] := by
 have hz : zer (wbs l X) (wbs l X).length = (wlo l X).length := by rw [zer_wbs, Q3q, Z22]; rfl
 have hb : (wbs l X).getD k false = wbit l X[k] := by
  rw [Z9]; unfold wbs; rw [Z11, Z3 hk]; rfl
 unfold nxt
 rw [hb]
 cases h : wbit l X[k] with
 | true =>
  rw [if_pos rfl, hz, Z76 (by omega), Z101, one_wbs]
  exact filt_at (fun x => wbit l x) X k hk h
 | false =>
  have h2 := filt_at (fun x => !wbit l x) X k hk (by simp [h])
  rw [if_neg (by simp), zer_wbs]
  obtain ⟨h3, _⟩ := Z107.1 h2
  show (List.filter (fun x => !wbit l x) X ++ whi l X)[_]? = _
  rw [Z94 h3]
  exact h2
theorem wLv_inv (N : Nat) : ∀ (d l : Nat) (L : List (Int × List Nat)) (Z : List Int), L.length = d → Z.length = d → d + l = 9 → ((L.zip Z).all fun q => lOk N q.1 q.2) = true → (∀ p ∈ L, ∀ x ∈ p.2, x < 2 ^ 64) → ∀ X : List Nat, X.length = N →
  (∀ k (hk : k < X.length), X[k] % 2 ^ d = (path (L.map lvb) (k, 0)).2) → ints (wLv d l X).1 = Z ∧ (wLv d l X).2 = L
 | 0, l, L, Z, h1, h2, _, _, _, X, _, _ => by
  rw [List.length_eq_zero_iff.1 h1, List.length_eq_zero_iff.1 h2]; exact ⟨rfl, rfl⟩
 | d + 1, l, [], _, h1, _, _, _, _, X, _, _ => by cases h1
 | d + 1, l, p :: L, [], _, h2, _, _, _, X, _, _ => by cases h2
 | d + 1, l, p :: L, z :: Z, h1, h2, h3, h4, h5, X, h6, h7 => by
  rw [Z2] at h1 h2
  rw [List.zip_cons_cons, Z97, Z4] at h4
  obtain ⟨h8, h9⟩ := h4
  simp only [lOk, Z4, decide_eq_true_eq] at h8
  obtain ⟨⟨h10, h11⟩, h12⟩ := h8
  have hx := h5 p Z43
  have hbl : (lvb p).length = N := by unfold lvb; rw [Q2c, h11, Z5]
  have key : ∀ k (hk : k < X.length), X[k] / 2 ^ d % 2 = ((lvb p).getD k false).toNat ∧ X[k] % 2 ^ d = (path (L.map lvb) (nxt (lvb p) k, 0)).2 := by
   intro k hk
   have h := h7 k hk
   have e : path ((p :: L).map lvb) (k, 0) = path (L.map lvb) (nxt (lvb p) k, 2 * 0 + ((lvb p).getD k false).toNat) := rfl
   have hlt := path_lt (L.map lvb) (nxt (lvb p) k)
   rw [e, path_val, Nat.mul_zero, Z25, Z1] at h
   rw [Z1] at hlt
   have hd : L.length = d := by omega
   rw [hd] at h hlt
   have hb : ((lvb p).getD k false).toNat ≤ 1 := by cases (lvb p).getD k false <;> simp
   constructor
   ·have h13 := Nat.mod_mul_right_div_self X[k] (2 ^ d) 2
    rw [← Z60, h, Nat.add_comm, Nat.add_mul_div_right _ _ (Nat.two_pow_pos d), Nat.div_eq_of_lt hlt, Z25] at h13
    exact h13.symm
   ·have h13 : X[k] % 2 ^ (d + 1) % 2 ^ d = X[k] % 2 ^ d := Nat.mod_mod_of_dvd _ ⟨2, Z60 ..⟩
    rw [h, Nat.add_comm, Nat.add_mul_mod_self_right, Nat.mod_eq_of_lt hlt] at h13
    exact h13.symm
  have hw : wbs l X = lvb p := by
   apply Z75 (by rw [Q3q, hbl, h6])
   intro k hk1 hk2
   have hk : k < X.length := by rwa [Q3q] at hk1
   have h := (key k hk).1
   rw [Z9, Z3 hk2, Z41] at h
   have e : (wbs l X)[k] = wbit l X[k] := by simp [wbs]
   rw [e]
   unfold wbit
   rw [show 8 - l = d by omega, h]
   cases (lvb p)[k] <;> rfl
  have hlo := Q2r l X
  have htt := (Q2O N p.2 hx).1 (by have := h10; rw [h11] at this; simp only [vOk, Z4] at this; simpa using this.2)
  have hwr : wrds (wbs l X) = p.2 := by
   rw [hw]; unfold lvb; rw [h11, Z5]; exact wrds_bts N p.2 htt
  have hz : ((wlo l X).length : Int) = z := by
   rw [← h12, ← hw, zer_wbs, Q3q, Z22]; rfl
  have ih := wLv_inv N d (l + 1) L Z (by omega) (by omega) (by omega) h9 (fun q hq => h5 q (Z57 _ hq)) (wlo l X ++ whi l X) (by rw [Z10]; omega) (by
   intro m hm
   rw [Z10, hlo, h6] at hm
   obtain ⟨k, hk1, hk2⟩ := nxt_onto (lvb p) m (by omega)
   have hk : k < X.length := by omega
   have h := part_at l X k hk
   rw [hw, hk2, Z3 (by rw [Z10]; omega)] at h
   injection h with h
   rw [h, (key k hk).2, hk2])
  rw [wLv]
  refine ⟨?_, ?_⟩
  ·show ((wlo l X).length : Int) :: ints (wLv d (l + 1) (wlo l X ++ whi l X)).1 = _
   rw [ih.1, hz]
  ·show ((X.length : Int), wrds (wbs l X)) :: (wLv d (l + 1) (wlo l X ++ whi l X)).2 = _
   rw [ih.2, hwr, h6, ← h11]
theorem wLv_len' : ∀ (d l : Nat) (X : List Nat), (wLv d l X).1.length = d ∧ (wLv d l X).2.length = d
 | 0, l, X => ⟨rfl, rfl⟩
 | d + 1, l, X => by
  have := wLv_len' d (l + 1) (wlo l X ++ whi l X)
  rw [wLv]
  exact ⟨by rw [Z2, this.1], by rw [Z2, this.2]⟩
theorem wave_inv (n : Int) (Z : List Int) (L : List (Int × List Nat)) (hx : ∀ p ∈ L, ∀ x ∈ p.2, x < 2 ^ 64) (h : wOk n Z L = true) :
  ints (wLv 9 0 (wList n.toNat L)).1 = Z ∧ (wLv 9 0 (wList n.toNat L)).2 = L := by
 obtain ⟨h1, h2, h3, h4, _⟩ := wOk_at h
 have h5 := h
 unfold wOk at h5
 simp only [Z4] at h5
 refine wLv_inv n.toNat 9 0 L Z h4 h3 rfl ?_ hx _ (wList_len _ _) ?_
 ·rw [Int.toNat_of_nonneg h1]; exact h5.2
 ·intro k hk
  rw [wList_len] at hk
  have e : (wList n.toNat L)[k]'(by rw [wList_len]; exact hk) = (path (L.map lvb) (k, 0)).2 := by
   simp only [wList_eq, Z87, List.getElem_range]
  have hlt := path_lt (L.map lvb) k
  rw [Z1, h4] at hlt
  rw [e]
  exact Nat.mod_eq_of_lt hlt
end Go.Ev.W
/- Packed numbers: which are valid; the law's helpers. -/
set_option linter.unusedVariables false
set_option linter.unusedSimpArgs false
namespace Go.Ev.W
open Go.Ev
end Go.Ev.W
/- Widths, packed numbers, inverses, counts: the functions. -/
set_option linter.unusedVariables false
set_option linter.unusedSimpArgs false
namespace Go.Ev.W
open Go.Ev
theorem pw62 {k : Nat} (h : k ≤ 61) : 2 ^ k < 4611686018427387904 := by
 have : 2 ^ k ≤ 2 ^ 61 := Z80 (by omega) h
 omega
theorem specWidth_l0 : ∀ (k n w : Nat), n < 2 ^ k → n < 4611686018427387904 → w + k ≤ 1000 → Q0h_l0 n w = some ((w + wdF k n : Nat) : Int)
 | 0, n, w, h, _, _ => by
  obtain rfl : n = 0 := by simpa using h
  rw [Q0h_l0.eq, Q3 (by omega), wdF, Z31]
 | k + 1, n, w, h, h2, h3 => by
  rw [Q0h_l0.eq, wdF]
  by_cases h0 : n = 0
  ·subst h0
   rw [Q3 (by omega), if_pos rfl, Z31]
  ·have e1 : (n : Int).tdiv 2 = ((n / 2 : Nat) : Int) := rfl
   rw [Q2 (by omega), if_neg h0, e1, Qa (by omega) (by omega), Q6 w (by omega), specWidth_l0 k (n / 2) (w + 1) (by rw [Z60] at h; omega) (by omega) (by omega), Z65, Nat.add_comm 1]
theorem specWidth_eq (n : Nat) (h : n < 4611686018427387904) : Q0h n = some ((wd n : Nat) : Int) := by
 rw [Q0h.eq, Q3 (by omega)]
 have := specWidth_l0 64 n 0 (by omega) h (by omega)
 rw [Z25] at this
 exact this
theorem len64_l1 : ∀ n : Nat, n < 302 → Q03_l1 (n : Int) 0 = some ((wd n : Nat) : Int) := by
 intro n
 rw [Q03_l1.eq]
 revert n
 decide +kernel
theorem implWidth_eq (n : Nat) (h : n < 302) : Q15 n = some ((wd n : Nat) : Int) := by
 rw [Q15.eq, Q3 (by omega), wrapUn (by omega), Q1F.eq, Q03.eq, Q3 (by omega), Q03_l0.eq, Q3 (by omega), len64_l1 n h]; rfl
theorem wd_le9 {n : Nat} (h : n < 302) : wd n ≤ 9 := wdF_le 64 n 9 (by omega)
theorem ands1 (m : Nat) (h : m < 4611686018427387904) : IntKind.i64.wrap (((BitVec.ofInt 64 (m : Int)) &&& (BitVec.ofInt 64 (1 : Int))).toNat : Int) = bint (m.testBit 0) := by
 have h1 := bv_and 64 m 1 (by omega) (by omega)
 rw [show ((1 : Nat) : Int) = 1 from rfl] at h1
 rw [h1, Nat.and_one_is_mod, Q2J (by omega), bit0]
theorem implDigits_l0 (w : Nat) (hw : w ≤ 1000) : ∀ (d i m : Nat), w - i = d → i ≤ w → m < 4611686018427387904 → ∀ out : List Int, out.length ≤ 1000000 + i → Q0q_l0 m w i out = some (out ++ Qe (dg d m))
 | 0, i, m, h1, h2, h3, out, ho => by
  rw [Q0q_l0.eq, Q3 (by omega)]; simp [dg]
 | d + 1, i, m, h1, h2, h3, out, ho => by
  rw [Q0q_l0.eq, Q2 (by omega), ands1 m h3, Q2 (by simp only [Z2, Z6]; omega), fdiv_nat, Q6 i (by omega), implDigits_l0 w hw d (i + 1) (m / 2 ^ 1) (by omega) (by omega) (by omega) _ (by simp only [Z10, Z2, Z6]; omega), Z28, dg_succ]
  rfl
theorem implDigits_eq (w m : Nat) (hw : w ≤ 1000) (hm : m < 4611686018427387904) : Q0q m w = some (Qe (dg w m)) := by
 rw [Q0q.eq]
 exact implDigits_l0 w hw w 0 m rfl (by omega) hm [] (by simp)
theorem Q3O (a b : List Bool) : Qe a ++ Qe b = Qe (a ++ b) := Z15.symm
theorem Q2A (a : List Bool) : (Qe a).length = a.length := Z1 ..
theorem Q9 (a : List Nat) : (ints a).length = a.length := Z1 ..
theorem Q3C {α : Type} (X : List α) (i : Nat) (hi : i < X.length) : X.take (i + 1) = X.take i ++ [X[i]] := by rw [Z48, Z3 hi]; rfl
theorem implPack_l1 (w : Nat) (hw : w ≤ 32) (X : List Nat) (hl : X.length ≤ 5000) (hX : X.length * w ≤ 5000) (hx : ∀ x ∈ X, x < 2 ^ w) (xs : List Int) (hxs : xs.length = X.length) (a b c : Int) (e : List Int) : ∀ (d i : Nat), X.length - i = d → i ≤ X.length →
  QZ_l1 xs (ints X) X.length i w a b c e (Qe (dgs w (X.take i))) = some (pk w X, true)
 | 0, i, h1, h2 => by
  obtain rfl : i = X.length := by omega
  rw [QZ_l1.eq, Q3 (by omega), Z22, Q3p _ (by rw [Q2Y]; omega), Z0, hxs, Q2Y]; rfl
 | d + 1, i, h1, h2 => by
  have hi : i < X.length := by omega
  have h3 := hx _ (Z14 hi)
  have h4 := pw62 (k := w) (by omega)
  have h5 : (X.take i).length * w ≤ X.length * w := Z64 _ (by rw [Z8]; omega)
  rw [QZ_l1.eq, Q2 (by omega), Q0M _ _ hi, Z0, implDigits_eq w _ (by omega) (by omega), Z0, Q2 (by rw [Q2A, Q2A, Q2Y, dg_len]; omega), Q6 i (by omega), Q3O, ← dgs_snoc, ← Q3C X i hi]
  exact implPack_l1 w hw X hl hX hx xs hxs a b c e d (i + 1) (by omega) (by omega)
theorem pack1_eq (w : Nat) (hw : w ≤ 32) (n : Int) : Q16 n w = some (!(decide (0 ≤ n) && decide (n ≤ ((2 ^ w - 1 : Nat) : Int)))) := by
 have h4 := pw62 (k := w) (by omega)
 have h0 : 0 < 2 ^ w := Nat.two_pow_pos w
 have e : min w 64 = w := by omega
 have e1 : (1 : Int) * 2 ^ w = ((2 ^ w : Nat) : Int) := by simp
 rw [Q16.eq, Q1G.eq, Q3 (by omega), Z5, e, e1, Qa (x := ((2 ^ w : Nat) : Int)) (by omega) (by omega), Qa (x := ((2 ^ w : Nat) : Int) - 1) (by omega) (by omega), show ((2 ^ w : Nat) : Int) - 1 = ((2 ^ w - 1 : Nat) : Int) by omega, Q3l]; rfl
theorem packAll_eq (w : Nat) (hw : w ≤ 32) (xs : List Int) (h : xs.length < 4611686018427387904) : Q1m xs w = some (xs.all fun n => decide (0 ≤ n) && decide (n ≤ ((2 ^ w - 1 : Nat) : Int))) := by
 rw [Q1m.eq, Q1H.eq, Q0E.eq]
 obtain ⟨r, h1, h2⟩ := find_loop (fun n : Int => !(decide (0 ≤ n) && decide (n ≤ ((2 ^ w - 1 : Nat) : Int)))) (fun n => Q16 n w) xs h (fun x _ => pack1_eq w hw x) (Q0E_l0 xs w xs.length) (Q0E_l0.eq xs w xs.length)
 rw [h1]
 simp only [Z0, h2, List.any_eq_not_all_not, Z89]
theorem implPack_eq (w : Nat) (hw : w ≤ 32) (X : List Nat) (hl : X.length ≤ 5000) (hX : X.length * w ≤ 5000) (hx : ∀ x ∈ X, x < 2 ^ w) : QZ (ints X) w = some (pk w X, true) := by
 have hall : ((ints X).all fun n => decide (0 ≤ n) && decide (n ≤ ((2 ^ w - 1 : Nat) : Int))) = true := by
  refine Z49.2 fun x h => ?_
  obtain ⟨y, hy, rfl⟩ := Z18.1 h
  have := hx y hy
  rw [Z4, decide_eq_true_eq, decide_eq_true_eq]; omega
 have h6 : ((X.length : Nat) : Int) * (w : Int) = ((X.length * w : Nat) : Int) := by simp
 rw [QZ.eq, Q3l, Z0, decide_eq_true (show (0 : Int) ≤ w by omega), decide_eq_true (show (w : Int) ≤ 32 by omega), Q9, Q3 (show ¬ ((X.length : Nat) : Int) > 5000 by omega), h6, Qa (x := ((X.length * w : Nat) : Int)) (by omega) (by omega), Q3 (by omega), packAll_eq w hw _ (by rw [Q9]; omega), Z0, hall, QZ_l0.eq, Q9]
 have := implPack_l1 w hw X hl hX hx (ints X) (Q9 X) 0 0 0 [] _ 0 rfl (by omega)
 rw [Z39] at this
 exact this
theorem specPack_l3 (w : Nat) (hw : w ≤ 32) (xs : List Int) (i : Nat) (a b c : Int) (e : List Int) : ∀ (d k m : Nat), w - k = d → k ≤ w → m < 4611686018427387904 → ∀ out : List Int, out.length ≤ 1000000 + k →
  Ql_l3 xs w i m k a b c e out = Ql_l1 xs w (IntKind.i64.wrap ((i : Int) + 1)) a b c e (out ++ Qe (dg d m))
 | 0, k, m, h1, h2, h3, out, ho => by
  rw [Ql_l3.eq, Q3 (by omega)]; simp [dg]
 | d + 1, k, m, h1, h2, h3, out, ho => by
  have e1 : (m : Int).tmod 2 = ((m % 2 : Nat) : Int) := rfl
  have e2 : (m : Int).tdiv 2 = ((m / 2 : Nat) : Int) := rfl
  rw [Ql_l3.eq, Q2 (by omega), Q2 (by simp only [Z2, Z6]; omega), e1, e2, bit0, Qa (x := ((m / 2 : Nat) : Int)) (by omega) (by omega), Q6 k (by omega), specPack_l3 w hw xs i a b c e d (k + 1) (m / 2) (by omega) (by omega) (by omega) _ (by simp only [Z10, Z2, Z6]; omega), Z28, dg_succ]
  rfl
theorem specPack_l1 (w : Nat) (hw : w ≤ 32) (X : List Nat) (hl : X.length ≤ 5000) (hX : X.length * w ≤ 5000) (hx : ∀ x ∈ X, x < 2 ^ w) (a b c : Int) (e : List Int) : ∀ (d i : Nat), X.length - i = d → i ≤ X.length →
  Ql_l1 (ints X) w i a b c e (Qe (dgs w (X.take i))) = some (pk w X, true)
 | 0, i, h1, h2 => by
  obtain rfl : i = X.length := by omega
  rw [Ql_l1.eq, Q9, Q3 (by omega), Z22, Q3m _ (by rw [Q2Y]; omega), Z0, Q2Y]; rfl
 | d + 1, i, h1, h2 => by
  have hi : i < X.length := by omega
  have h3 := hx _ (Z14 hi)
  have h4 := pw62 (k := w) (by omega)
  have h5 : (X.take i).length * w ≤ X.length * w := Z64 _ (by rw [Z8]; omega)
  rw [Ql_l1.eq, Q9, Q2 (by omega), Q0M _ _ hi, Z0, Q3 (by omega), l02Pow_eq _ (by omega), Z0, Q3 (by omega), Ql_l2.eq]
  have h6 := specPack_l3 w hw (ints X) i a b c e w 0 X[i] rfl (by omega) (by omega) (Qe (dgs w (X.take i))) (by rw [Q2A, Q2Y]; omega)
  refine h6.trans ?_
  rw [Q6 i (by omega), Q3O, ← dgs_snoc, ← Q3C X i hi]
  exact specPack_l1 w hw X hl hX hx a b c e d (i + 1) (by omega) (by omega)
theorem Q4D (w : Nat) (hw : w ≤ 32) (X : List Nat) (hl : X.length ≤ 5000) (hX : X.length * w ≤ 5000) (hx : ∀ x ∈ X, x < 2 ^ w) : Ql (ints X) w = some (pk w X, true) := by
 have h6 : ((X.length : Nat) : Int) * (w : Int) = ((X.length * w : Nat) : Int) := by simp
 rw [Ql.eq, Q3 (by omega), Q3 (by omega), Q9, Q3 (by omega), h6, Qa (x := ((X.length * w : Nat) : Int)) (by omega) (by omega), Q3 (by omega), Ql_l0.eq]
 have := specPack_l1 w hw X hl hX hx 0 0 0 [] _ 0 rfl (by omega)
 rw [Z39] at this
 exact this
theorem implInv_l0 (S : List Nat) (hl : S.length ≤ 1000) (hn : S.Nodup) (hs : ∀ x ∈ S, x < S.length) : ∀ (d i : Nat), S.length - i = d → i ≤ S.length →
  Q0p_l0 (ints S) S.length i ((List.range S.length).map fun x => ((if S.idxOf x < i then S.idxOf x else 0 : Nat) : Int)) = some ((List.range S.length).map fun x => ((if S.idxOf x < S.length then S.idxOf x else 0 : Nat) : Int))
 | 0, i, h1, h2 => by
  obtain rfl : i = S.length := by omega
  rw [Q0p_l0.eq, Q3 (by omega)]
 | d + 1, i, h1, h2 => by
  have hi : i < S.length := by omega
  have h3 := hs _ (Z14 hi)
  rw [Q0p_l0.eq, Q2 (by omega), Q0M _ _ hi, Z0]
  simp only [Q02, Z5, Q3z _ S.length S[i] h3, Z0]
  rw [Q6 i (by omega), mapr_set, ← implInv_l0 S hl hn hs d (i + 1) (by omega) (by omega)]
  congr 1
  refine Z45 fun x hx => ?_
  by_cases h4 : x = S[i]
  ·have h5 := (idx_iff hn hi x).1 h4.symm
   rw [if_pos h4, h5, if_pos (by omega)]
  ·have h5 : S.idxOf x ≠ i := fun h => h4 ((idx_iff hn hi x).2 h).symm
   rw [if_neg h4]
   by_cases h6 : S.idxOf x < i
   ·rw [if_pos h6, if_pos (by omega)]
   ·rw [if_neg h6, if_neg (by omega)]
theorem inv_eq (S : List Nat) (hm : ∀ x, x < S.length → x ∈ S) : (List.range S.length).map (fun x => ((if S.idxOf x < S.length then S.idxOf x else 0 : Nat) : Int)) = ints (inv S) := by
 unfold inv
 show _ = List.map (fun (x : Nat) => (x : Int)) (List.map _ _)
 rw [Z23]
 refine Z45 fun x hx => ?_
 rw [if_pos (List.idxOf_lt_length_of_mem (hm x (Z50.1 hx)))]; rfl
theorem implInv_eq (S : List Nat) (hl : S.length ≤ 1000) (hn : S.Nodup) (hs : ∀ x ∈ S, x < S.length) (hm : ∀ x, x < S.length → x ∈ S) : Q0p (ints S) = some (ints (inv S)) := by
 rw [Q0p.eq, Q9, Z5]
 have e1 : (decide ((0 : Int) ≤ (S.length : Int)) && decide (S.length * 8 ≤ 140737488355328)) = true := by
  rw [Z4, decide_eq_true_eq, decide_eq_true_eq]; omega
 rw [e1, QW, ← inv_eq S hm, ← implInv_l0 S hl hn hs _ 0 rfl (by omega)]
 congr 1
 refine Z75 (by rw [Z84, Z1, Z42]) fun j h1 h2 => ?_
 rw [List.getElem_replicate, Z87, if_neg (by omega)]; rfl
theorem specInv_l1 (S : List Nat) (hl : S.length ≤ 1000) (hn : S.Nodup) (x : Nat) (hx : S.idxOf x < S.length) (hx2 : x ≤ 1000) (out : List Int) (ho : out.length ≤ 1000) : ∀ (d i : Nat), S.length - i = d → i ≤ S.length →
  QE_l1 (ints S) x (if S.idxOf x < i then ((S.idxOf x : Nat) : Int) else -1) i out = QE_l0 (ints S) (x + 1 : Nat) (out ++ [((S.idxOf x : Nat) : Int)])
 | 0, i, h1, h2 => by
  obtain rfl : i = S.length := by omega
  rw [QE_l1.eq, Q9, Q3 (by omega), if_pos hx, Q3 (by omega), Q2 (by simp only [Z2, Z6]; omega), Q6 x (by omega)]
 | d + 1, i, h1, h2 => by
  have hi : i < S.length := by omega
  rw [QE_l1.eq, Q9, Q2 (by omega), Q0M _ _ hi, Z0]
  rw [← specInv_l1 S hl hn x hx hx2 out ho d (i + 1) (by omega) (by omega)]
  by_cases h4 : S[i] = x
  ·have h5 := (idx_iff hn hi x).1 h4
   rw [h4, Q0w rfl, Q6 i (by omega), h5, if_pos (by omega)]
  ·have h5 : S.idxOf x ≠ i := fun h => h4 ((idx_iff hn hi x).2 h)
   rw [Q0I (by omega), Q6 i (by omega)]
   by_cases h6 : S.idxOf x < i
   ·rw [if_pos h6, if_pos (by omega)]
   ·rw [if_neg h6, if_neg (by omega)]
theorem Q2G (X : List Nat) (x : Nat) : ints X ++ [(x : Int)] = ints (X ++ [x]) :=
 (Z15 (f := fun (x : Nat) => (x : Int)) (l₁ := X) (l₂ := [x])).symm
theorem specInv_l0 (S : List Nat) (hl : S.length ≤ 301) (hn : S.Nodup) (hm : ∀ x, x < S.length → x ∈ S) : ∀ (d x : Nat), S.length - x = d → x ≤ S.length →
  QE_l0 (ints S) x (ints ((List.range x).map fun x => S.idxOf x)) = some (ints (inv S), true)
 | 0, x, h1, h2 => by
  obtain rfl : x = S.length := by omega
  rw [QE_l0.eq, Q9, Q3 (by omega)]; rfl
 | d + 1, x, h1, h2 => by
  have hx : S.idxOf x < S.length := List.idxOf_lt_length_of_mem (hm x (by omega))
  have h3 := specInv_l1 S (by omega) hn x hx (by omega) (ints ((List.range x).map fun x => S.idxOf x)) (by rw [Q9, Z1, Z42]; omega) _ 0 rfl (by omega)
  rw [if_neg (by omega)] at h3
  rw [QE_l0.eq, Q9, Q2 (by omega)]
  refine h3.trans ?_
  rw [Q2G]
  have e : (List.range x).map (fun x => S.idxOf x) ++ [S.idxOf x] = (List.range (x + 1)).map fun x => S.idxOf x := by rw [Z88, Z15]; rfl
  rw [e]
  exact specInv_l0 S hl hn hm d (x + 1) (by omega) (by omega)
theorem specInv_eq (S : List Nat) (hl : S.length ≤ 301) (hn : S.Nodup) (hm : ∀ x, x < S.length → x ∈ S) : QE (ints S) = some (ints (inv S), true) := by
 rw [QE.eq, Q9, Q3 (by omega)]
 exact specInv_l0 S hl hn hm _ 0 rfl (by omega)
theorem specCounts_l1 (X : List Nat) (hX : X.length ≤ 301) (c : Nat) (hc : c ≤ 257) (out : List Int) (ho : out.length ≤ 1000) : ∀ (d i : Nat), X.length - i = d → i ≤ X.length →
  QF_l1 (ints X) c (ltc (X.take i) c : Nat) i out = QF_l0 (ints X) (c + 1 : Nat) (out ++ [((ltc X c : Nat) : Int)])
 | 0, i, h1, h2 => by
  obtain rfl : i = X.length := by omega
  rw [QF_l1.eq, Q9, Q3 (by omega), Z22, Q2 (by simp only [Z2, Z6]; omega), Q6 c (by omega)]
 | d + 1, i, h1, h2 => by
  have hi : i < X.length := by omega
  have hle := ltc_le (X.take i) c
  rw [Z8] at hle
  have ih := specCounts_l1 X hX c hc out ho d (i + 1) (by omega) (by omega)
  rw [Q3C X i hi, ltc_snoc] at ih
  rw [QF_l1.eq, Q9, Q2 (by omega), Q0M _ _ hi, Z0]
  by_cases h4 : X[i] < c
  ·rw [if_pos h4] at ih
   rw [Q2 (by omega), Q6 _ (by omega), Q6 i (by omega)]
   exact ih
  ·rw [if_neg h4, Z31] at ih
   rw [Q3 (by omega), Q6 i (by omega)]
   exact ih
theorem specCounts_l0 (X : List Nat) (hX : X.length ≤ 301) : ∀ (d c : Nat), 258 - c = d → c ≤ 258 → QF_l0 (ints X) c (ints ((List.range c).map (ltc X))) = some (ints ((List.range 258).map (ltc X)))
 | 0, c, h1, h2 => by
  obtain rfl : c = 258 := by omega
  rw [QF_l0.eq, Q3 (by omega)]
 | d + 1, c, h1, h2 => by
  have h3 := specCounts_l1 X hX c (by omega) (ints ((List.range c).map (ltc X))) (by rw [Q9, Z1, Z42]; omega) _ 0 rfl (by omega)
  rw [Z39, show ltc [] c = 0 from rfl] at h3
  rw [QF_l0.eq, Q2 (by omega)]
  refine h3.trans ?_
  rw [Q2G]
  have e : (List.range c).map (ltc X) ++ [ltc X c] = (List.range (c + 1)).map (ltc X) := by rw [Z88, Z15]; rfl
  rw [e]
  exact specCounts_l0 X hX d (c + 1) (by omega) (by omega)
theorem specCounts_eq (X : List Nat) (hX : X.length ≤ 301) (hx : ∀ x ∈ X, x ≤ 256) : QF (ints X) = some (ints ((List.range 258).map (ltc X))) := by
 have hs : sOk (ints X) = true := by
  simp only [sOk, Z4, decide_eq_true_eq, Z49, Z1]
  refine ⟨hX, fun x h => ?_⟩
  obtain ⟨y, hy, rfl⟩ := Z18.1 h
  have := hx y hy
  omega
 rw [QF.eq, Q4f _ (by rw [Z1]; omega), Z0, hs, Z12, Qg]
 exact specCounts_l0 X hX _ 0 rfl (by omega)
end Go.Ev.W
/- The index of a text: both functions. -/
set_option linter.unusedVariables false
set_option linter.unusedSimpArgs false
namespace Go.Ev.W
open Go.Ev
abbrev FmT := Int × Int × Int × (List Int) × (List (Int × (List Int))) × (List Int) × Int × (List Int) × Int × Int × Int × (List Int) × Int × Int × Int × (List Int)
abbrev FmT4 := Int × Int × Int × (List Int)
abbrev FmT8 := Int × Int × Int × (List Int) × FmT4
abbrev FmT11 := (List Int) × Int × (List Int) × FmT8
instance decFm4 : DecidableEq FmT4 := inferInstance
instance decFm8 : DecidableEq FmT8 := inferInstance
instance decFm11 : DecidableEq FmT11 := inferInstance
instance decFm12 : DecidableEq ((List (Int × (List Int))) × FmT11) := @instDecidableEqProd _ _ inferInstance decFm11
instance decFm13 : DecidableEq ((List Int) × (List (Int × (List Int))) × FmT11) := @instDecidableEqProd _ _ inferInstance decFm12
instance decFm : DecidableEq FmT := @instDecidableEqProd Int _ inferInstance (@instDecidableEqProd Int _ inferInstance (@instDecidableEqProd Int _ inferInstance decFm13))
def fmV (D : List Nat) (r : Nat) : FmT :=
 ((D.length : Int), (r : Int), ((bwt D).length : Int), ints (wLv 9 0 (bwt D)).1, LI (wLv 9 0 (bwt D)).2, ints ((List.range 258).map (ltc (bwt D))), ((mkB r (srt D)).length : Int), ints (wrds (mkB r (srt D))),
  (pk (wd D.length) (saL r (srt D))).1, (pk (wd D.length) (saL r (srt D))).2.1, (pk (wd D.length) (saL r (srt D))).2.2.1, (pk (wd D.length) (saL r (srt D))).2.2.2, pk (wd D.length) (isaL r D.length (srt D)))
theorem Q2L (D : List Nat) (x : Nat) : x ∈ srt D ↔ x ≤ D.length := by
 have := (Q2q D).mem x
 simpa using this
theorem srt_nodup (D : List Nat) : (srt D).Nodup := (Q2q D).nodup
theorem Q2M (D : List Nat) (hD : ∀ x ∈ D, x < 256) : ∀ x ∈ bwt D, x ≤ 256 := by
 intro x hx
 unfold bwt at hx
 obtain ⟨s, _, rfl⟩ := Z18.1 hx
 unfold bwS
 split
 ·omega
 ·rw [Z9]
  cases h : D[s - 1]? with
  | none => simp
  | some y =>
   have := hD y (List.mem_of_getElem? h)
   simp; omega
theorem mk_snoc (r : Nat) (S : List Nat) (i : Nat) (hi : i < S.length) : mkB r (S.take (i + 1)) = mkB r (S.take i) ++ [isM r S[i]] := by
 unfold mkB; rw [Q3C S i hi, Z15]; rfl
theorem sa_snoc (r : Nat) (S : List Nat) (i : Nat) (hi : i < S.length) : saL r (S.take (i + 1)) = saL r (S.take i) ++ (if isM r S[i] then [S[i] / r] else []) := by
 unfold saL
 rw [Q3C S i hi, Z63, Z15]
 cases h : isM r S[i] <;> simp [h]
theorem isM_beq (r s : Nat) : (((s : Int).tmod (r : Int)) == (0 : Int)) = isM r s := by
 have e : (s : Int).tmod (r : Int) = ((s % r : Nat) : Int) := rfl
 rw [e, Q2E]
 unfold isM
 rw [Z67, decide_eq_true_eq, decide_eq_true_eq]; omega
theorem isa_snoc (r : Nat) (S : List Nat) (j : Nat) : (List.range (j + 1)).map (fun j => S.idxOf (j * r)) = (List.range j).map (fun j => S.idxOf (j * r)) ++ [S.idxOf (j * r)] := by
 rw [Z88, Z15]; rfl
theorem sa_lt (D : List Nat) (r : Nat) (h : D.length < 302) : ∀ x ∈ saL r (srt D), x < 2 ^ wd D.length := by
 intro x hx
 have h2 := wd_lt D.length (by omega)
 unfold saL at hx
 obtain ⟨s, hs, rfl⟩ := Z18.1 hx
 have h3 := (Q2L D s).1 (Z73.1 hs).1
 have h4 : s / r ≤ s := Z90 _ _
 omega
theorem isa_lt (D : List Nat) (r : Nat) (h : D.length < 302) (h1 : 0 < r) : ∀ x ∈ isaL r D.length (srt D), x < 2 ^ wd D.length := by
 intro x hx
 have h2 := wd_lt D.length (by omega)
 unfold isaL at hx
 obtain ⟨j, hj, rfl⟩ := Z18.1 hx
 have h3 : j * r ≤ D.length := (Nat.le_div_iff_mul_le h1).1 (by have := Z50.1 hj; omega)
 have h4 := List.idxOf_lt_length_of_mem ((Q2L D (j * r)).2 h3)
 rw [Q27] at h4
 omega
theorem pk_size {n w : Nat} (h : n ≤ 301) (h2 : w ≤ 9) : n * w ≤ 5000 := by
 have := Nat.mul_le_mul h h2
 omega
theorem implFm_l1 (D : List Nat) (hl : D.length ≤ 300) (r : Nat) (h1 : 0 < r) (h2 : r ≤ 64) (v3 : Int) (v4 : Int) (v5 : Int) (v6 : Int) (v7 : Int) (v8 : Int) (v9 : Int) (v10 : Int) (v11 : Int) (v12 : Int) (v13 : List Int) (v14 : List (Int × (List Int))) (v15 : List Int) (v16 : List Int) (v17 : List Int) (v18 : List Int) (v19 : Int) (v20 : Int) (v21 : Int) (v22 : Int) (v23 : Int) (v24 : Int) (v25 : Int) (v26 : Int) (v27 : Int) (v28 : Int) (v29 : List Int) (v30 : List (Int × (List Int))) (v31 : List Int) (v32 : List Int) (v33 : List Int) (v34 : List Int) : ∀ (d j : Nat), D.length / r + 1 - j = d → j ≤ D.length / r + 1 →
  Qw_l1 (ints D) ((r : Int)) (((j * r : Nat) : Int)) v3 v4 v5 v6 v7 v8 v9 v10 v11 v12 v13 v14 v15 v16 v17 v18 v19 v20 v21 v22 v23 v24 v25 v26 v27 v28 v29 v30 v31 v32 v33 v34 (Qe (mkB r (srt D))) (ints (saL r (srt D))) (ints ((List.range j).map fun j => (srt D).idxOf (j * r))) (ints (inv (srt D))) =
   some (v19, v20, v21, v29, v30, v31, ((mkB r (srt D)).length : Int), ints (wrds (mkB r (srt D))), (pk (wd D.length) (saL r (srt D))).1, (pk (wd D.length) (saL r (srt D))).2.1, (pk (wd D.length) (saL r (srt D))).2.2.1, (pk (wd D.length) (saL r (srt D))).2.2.2, pk (wd D.length) (isaL r D.length (srt D)))
 | 0, j, h3, h4 => by
  obtain rfl : j = D.length / r + 1 := by omega
  have h5 : D.length < (D.length / r + 1) * r := by
   have := Nat.div_add_mod D.length r
   have := Nat.mod_lt D.length h1
   rw [Z66, Z56 (D.length / r)]; omega
  have hd : D.length / r ≤ D.length := Z90 _ _
  have hs := Q27 D
  have hsa := saL_len r (srt D)
  have hw := wd_le9 (n := D.length) (by omega)
  rw [Qw_l1.eq, Q9, Q3 (by omega), Q3p _ (by rw [mkB_len]; omega), Z0, implWidth_eq _ (by omega), Z0, implPack_eq _ (by omega) _ (by omega) (pk_size (by omega) hw) (sa_lt D r (by omega)), Z0, Z0]
  have e : (List.range (D.length / r + 1)).map (fun j => (srt D).idxOf (j * r)) = isaL r D.length (srt D) := rfl
  rw [e, implPack_eq _ (by omega) _ (by rw [isaL_len]; omega) (pk_size (by rw [isaL_len]; omega) hw) (isa_lt D r (by omega) h1)]; rfl
 | d + 1, j, h3, h4 => by
  have h5 : j * r ≤ D.length := (Nat.le_div_iff_mul_le h1).1 (by omega)
  have hs := Q27 D
  have hd : D.length / r ≤ D.length := Z90 _ _
  have e2 : ((j * r : Nat) : Int) + (r : Int) = (((j + 1) * r : Nat) : Int) := by rw [Z66]; omega
  rw [Qw_l1.eq, Q9, Q2 (by omega)]
  simp only [Q02, Z5, Z11, inv_at (srt D) (j * r) (by omega), Z47, Z0]
  rw [Q2 (by simp only [Z2, Z6, Z1, Z42]; omega), e2, Qa (by omega) (by rw [Z66]; omega), Q2G, ← isa_snoc]
  exact implFm_l1 D hl r h1 h2 v3 v4 v5 v6 v7 v8 v9 v10 v11 v12 v13 v14 v15 v16 v17 v18 v19 v20 v21 v22 v23 v24 v25 v26 v27 v28 v29 v30 v31 v32 v33 v34 d (j + 1) (by omega) (by omega)
theorem implFm_l0 (D : List Nat) (hl : D.length ≤ 300) (r : Nat) (h1 : 0 < r) (h2 : r ≤ 64) (v4 : Int) (v5 : Int) (v6 : Int) (v7 : Int) (v8 : Int) (v9 : Int) (v10 : Int) (v11 : Int) (v12 : Int) (v13 : Int) (v14 : List Int) (v15 : List (Int × (List Int))) (v16 : List Int) (v17 : List Int) (v18 : List Int) (v19 : List Int) (v21 : Int) (v22 : Int) (v23 : Int) (v24 : Int) (v25 : Int) (v26 : Int) (v27 : Int) (v28 : Int) (v29 : Int) (v30 : Int) (v31 : List Int) (v32 : List (Int × (List Int))) (v33 : List Int) (v34 : List Int) (v35 : List Int) (v36 : List Int) : ∀ (d i : Nat), (srt D).length - i = d → i ≤ (srt D).length →
  Qw_l0 (ints D) ((r : Int)) (((srt D).length : Int)) ((i : Int)) v4 v5 v6 v7 v8 v9 v10 v11 v12 v13 v14 v15 v16 v17 v18 v19 (ints (srt D)) v21 v22 v23 v24 v25 v26 v27 v28 v29 v30 v31 v32 v33 v34 v35 v36 (Qe (mkB r ((srt D).take i))) (ints (saL r ((srt D).take i))) (([] : List Int)) =
   some (v21, v22, v23, v31, v32, v33, ((mkB r (srt D)).length : Int), ints (wrds (mkB r (srt D))), (pk (wd D.length) (saL r (srt D))).1, (pk (wd D.length) (saL r (srt D))).2.1, (pk (wd D.length) (saL r (srt D))).2.2.1, (pk (wd D.length) (saL r (srt D))).2.2.2, pk (wd D.length) (isaL r D.length (srt D)))
 | 0, i, h3, h4 => by
  obtain rfl : i = (srt D).length := by omega
  have hs := Q27 D
  rw [Qw_l0.eq, Q3 (by omega), Z22, implInv_eq _ (by omega) (srt_nodup D) (fun x hx => by have := (Q2L D x).1 hx; omega) (fun x hx => (Q2L D x).2 (by omega)), Z0]
  have := implFm_l1 D hl r h1 h2 v4 v5 v6 v7 v8 v9 v10 v11 v12 v13 v14 v15 v16 v17 v18 v19 v21 v22 v23 v24 v25 v26 v27 v28 v29 v30 v31 v32 v33 v34 v35 v36 _ 0 rfl (Z20 _)
  rw [Nat.zero_mul] at this
  exact this
 | d + 1, i, h3, h4 => by
  have hi : i < (srt D).length := by omega
  have hs := Q27 D
  have hx := (Q2L D _).1 (Z14 hi)
  have hsa := saL_len r ((srt D).take i)
  rw [Z8] at hsa
  have e3 : ((srt D)[i] : Int).tdiv (r : Int) = (((srt D)[i] / r : Nat) : Int) := rfl
  have hdv : (srt D)[i] / r ≤ (srt D)[i] := Z90 _ _
  have ih := implFm_l0 D hl r h1 h2 v4 v5 v6 v7 v8 v9 v10 v11 v12 v13 v14 v15 v16 v17 v18 v19 v21 v22 v23 v24 v25 v26 v27 v28 v29 v30 v31 v32 v33 v34 v35 v36 d (i + 1) (by omega) (by omega)
  rw [mk_snoc r _ i hi, sa_snoc r _ i hi, ← Q3O] at ih
  rw [Qw_l0.eq, Q2 (by omega), Q0M _ _ hi, Z0, Z5, Q2p _ _ hi, Z0, Q3 (by omega), isM_beq]
  cases hm : isM r (srt D)[i] with
  | true =>
   rw [hm, if_pos rfl, ← Q2G] at ih
   rw [QW, Q2 (by simp only [Z2, Z6, Q2A, mkB_len, Z8]; omega), Q3 (by omega), Q2 (by simp only [Z2, Z6, Q9]; omega), Q6 i (by omega), e3, Q2J (by omega)]
   exact ih
  | false =>
   rw [hm, if_neg (by simp), Z30] at ih
   rw [Qg, Q2 (by simp only [Z2, Z6, Q2A, mkB_len, Z8]; omega), Q6 i (by omega)]
   exact ih
theorem implFm_eq (D : List Nat) (hl : D.length ≤ 300) (hD : ∀ x ∈ D, x < 256) (r : Nat) (h1 : 0 < r) (h2 : r ≤ 64) : Qw (ints D) r = some (fmV D r) := by
 have hb := Q10 D
 have hble := Q2M D hD
 rw [Qw.eq, implSuf_eq D hl hD, Z0, Q2X D hl hD, Z0, counts_eq _ (by omega) hble, Z0, Q3N _ (by omega) (fun x hx => by have := hble x hx; omega), Z0, Q9, Q9]
 exact implFm_l0 D hl r h1 h2 _ _ _ _ _ _ _ _ _ _ _ _ _ _ _ _ _ _ _ _ _ _ _ _ _ _ _ _ _ _ _ _ _ 0 rfl (by omega)
theorem specFm_l2 (D : List Nat) (hl : D.length ≤ 300) (r : Nat) (h1 : 0 < r) (h2 : r ≤ 64) (v3 : Int) (v4 : Int) (v5 : Int) (v6 : Int) (v7 : Int) (v8 : Int) (v9 : Int) (v10 : Int) (v11 : Int) (v12 : Int) (v13 : List Int) (v14 : List (Int × (List Int))) (v15 : List Int) (v16 : List Int) (v17 : List Int) (v18 : List Int) (v20 : Int) (v21 : Int) (v22 : Int) (v23 : Int) (v24 : Int) (v25 : Int) (v26 : Int) (v27 : Int) (v28 : Int) (v29 : Int) (v30 : List Int) (v31 : List (Int × (List Int))) (v32 : List Int) (v33 : List Int) (v34 : List Int) (v35 : List Int) : ∀ (d j : Nat), D.length / r + 1 - j = d → j ≤ D.length / r + 1 →
  Qn_l2 (ints D) ((r : Int)) (((j * r : Nat) : Int)) v3 v4 v5 v6 v7 v8 v9 v10 v11 v12 v13 v14 v15 v16 v17 v18 (ints (inv (srt D))) v20 v21 v22 v23 v24 v25 v26 v27 v28 v29 v30 v31 v32 v33 v34 v35 (Qe (mkB r (srt D))) (ints (saL r (srt D))) (ints ((List.range j).map fun j => (srt D).idxOf (j * r))) =
   some ((v20, v21, v22, v30, v31, v32, ((mkB r (srt D)).length : Int), ints (wrds (mkB r (srt D))), (pk (wd D.length) (saL r (srt D))).1, (pk (wd D.length) (saL r (srt D))).2.1, (pk (wd D.length) (saL r (srt D))).2.2.1, (pk (wd D.length) (saL r (srt D))).2.2.2, pk (wd D.length) (isaL r D.length (srt D))), true)
 | 0, j, h3, h4 => by
  obtain rfl : j = D.length / r + 1 := by omega
  have h5 : D.length < (D.length / r + 1) * r := by
   have := Nat.div_add_mod D.length r
   have := Nat.mod_lt D.length h1
   rw [Z66, Z56 (D.length / r)]; omega
  have hd : D.length / r ≤ D.length := Z90 _ _
  have hs := Q27 D
  have hsa := saL_len r (srt D)
  have hw := wd_le9 (n := D.length) (by omega)
  rw [Qn_l2.eq, Q9, Q3 (by omega), Q3m _ (by rw [mkB_len]; omega), Z0, specWidth_eq _ (by omega), Z0, Q4D _ (by omega) _ (by omega) (pk_size (by omega) hw) (sa_lt D r (by omega)), Z0, Z0]
  have e : (List.range (D.length / r + 1)).map (fun j => (srt D).idxOf (j * r)) = isaL r D.length (srt D) := rfl
  rw [e, Q4D _ (by omega) _ (by rw [isaL_len]; omega) (pk_size (by rw [isaL_len]; omega) hw) (isa_lt D r (by omega) h1)]; rfl
 | d + 1, j, h3, h4 => by
  have h5 : j * r ≤ D.length := (Nat.le_div_iff_mul_le h1).1 (by omega)
  have hs := Q27 D
  have hd : D.length / r ≤ D.length := Z90 _ _
  have e2 : ((j * r : Nat) : Int) + (r : Int) = (((j + 1) * r : Nat) : Int) := by rw [Z66]; omega
  rw [Qn_l2.eq, Q9, Q2 (by omega)]
  simp only [Q02, Z5, Z11, inv_at (srt D) (j * r) (by omega), Z47, Z0]
  rw [Q2 (by simp only [Z2, Z6, Z1, Z42]; omega), e2, Qa (by omega) (by rw [Z66]; omega), Q2G, ← isa_snoc]
  exact specFm_l2 D hl r h1 h2 v3 v4 v5 v6 v7 v8 v9 v10 v11 v12 v13 v14 v15 v16 v17 v18 v20 v21 v22 v23 v24 v25 v26 v27 v28 v29 v30 v31 v32 v33 v34 v35 d (j + 1) (by omega) (by omega)
theorem specBool_eq (b : Bool) : Q0N b = some (bint b) := by rw [Q0N.eq]; cases b <;> rfl
theorem specFm_l1 (D : List Nat) (hl : D.length ≤ 300) (r : Nat) (h1 : 0 < r) (h2 : r ≤ 64) (v3 : Int) (v4 : Int) (v5 : Int) (v6 : Int) (v7 : Int) (v8 : Int) (v9 : Int) (v10 : Int) (v11 : Int) (v12 : Int) (v13 : List Int) (v14 : List (Int × (List Int))) (v15 : List Int) (v16 : List Int) (v17 : List Int) (v18 : List Int) (v21 : Int) (v22 : Int) (v23 : Int) (v24 : Int) (v25 : Int) (v26 : Int) (v27 : Int) (v28 : Int) (v29 : Int) (v30 : Int) (v31 : List Int) (v32 : List (Int × (List Int))) (v33 : List Int) (v34 : List Int) (v35 : List Int) (v36 : List Int) : ∀ (d i : Nat), (srt D).length - i = d → i ≤ (srt D).length →
  Qn_l1 (ints D) ((r : Int)) ((i : Int)) v3 v4 v5 v6 v7 v8 v9 v10 v11 v12 v13 v14 v15 v16 v17 v18 (ints (srt D)) (ints (inv (srt D))) v21 v22 v23 v24 v25 v26 v27 v28 v29 v30 v31 v32 v33 v34 v35 v36 (Qe (mkB r ((srt D).take i))) (ints (saL r ((srt D).take i))) =
   some ((v21, v22, v23, v31, v32, v33, ((mkB r (srt D)).length : Int), ints (wrds (mkB r (srt D))), (pk (wd D.length) (saL r (srt D))).1, (pk (wd D.length) (saL r (srt D))).2.1, (pk (wd D.length) (saL r (srt D))).2.2.1, (pk (wd D.length) (saL r (srt D))).2.2.2, pk (wd D.length) (isaL r D.length (srt D))), true)
 | 0, i, h3, h4 => by
  obtain rfl : i = (srt D).length := by omega
  have hs := Q27 D
  rw [Qn_l1.eq, Q9, Q3 (by omega), Z22]
  have := specFm_l2 D hl r h1 h2 v3 v4 v5 v6 v7 v8 v9 v10 v11 v12 v13 v14 v15 v16 v17 v18 v21 v22 v23 v24 v25 v26 v27 v28 v29 v30 v31 v32 v33 v34 v35 v36 _ 0 rfl (Z20 _)
  rw [Nat.zero_mul] at this
  exact this
 | d + 1, i, h3, h4 => by
  have hi : i < (srt D).length := by omega
  have hs := Q27 D
  have hx := (Q2L D _).1 (Z14 hi)
  have hsa := saL_len r ((srt D).take i)
  rw [Z8] at hsa
  have e3 : ((srt D)[i] : Int).tdiv (r : Int) = (((srt D)[i] / r : Nat) : Int) := rfl
  have hdv : (srt D)[i] / r ≤ (srt D)[i] := Z90 _ _
  have ih := specFm_l1 D hl r h1 h2 v3 v4 v5 v6 v7 v8 v9 v10 v11 v12 v13 v14 v15 v16 v17 v18 v21 v22 v23 v24 v25 v26 v27 v28 v29 v30 v31 v32 v33 v34 v35 v36 d (i + 1) (by omega) (by omega)
  rw [mk_snoc r _ i hi, sa_snoc r _ i hi, ← Q3O] at ih
  rw [Qn_l1.eq, Q9, Q2 (by omega)]
  simp only [Q0M _ _ hi, Z0, Z5, Q2p _ _ hi, isM_beq, specBool_eq]
  rw [Q3 (show ¬ (r : Int) = 0 by omega), Q2 (by simp only [Z2, Z6, Q2A, mkB_len, Z8]; omega), Q3 (show ¬ (r : Int) = 0 by omega)]
  cases hm : isM r (srt D)[i] with
  | true =>
   rw [hm, if_pos rfl, ← Q2G] at ih
   rw [QW, Q3 (show ¬ (r : Int) = 0 by omega), Q2 (by simp only [Z2, Z6, Q9]; omega), Q6 i (by omega), e3, Q2J (by omega)]
   exact ih
  | false =>
   rw [hm, if_neg (by simp), Z30] at ih
   rw [Qg, Q6 i (by omega)]
   exact ih
theorem Q4E (D : List Nat) : Q0F (ints D) = some (decide (D.length ≤ 300)) := by
 rw [Q0F.eq, Q9]
 congr 1
 rw [Z67, decide_eq_true_eq, decide_eq_true_eq]; omega
theorem Q4j (r : Int) : Q0J r = some (decide (1 ≤ r) && decide (r ≤ 64)) := by
 rw [Q0J.eq]
 by_cases h : 1 ≤ r
 ·rw [Q2 (by omega), decide_eq_true h]; rfl
 ·rw [Q3 (by omega), decide_eq_false h]; rfl
theorem Q3P (r : Int) : Q0H r = some (decide (1 ≤ r) && decide (r ≤ 64)) := by
 rw [Q0H.eq, Q3l]; rfl
theorem specFm_eq (D : List Nat) (hl : D.length ≤ 300) (hD : ∀ x ∈ D, x < 256) (r : Nat) (h1 : 0 < r) (h2 : r ≤ 64) : Qn (ints D) r = some (fmV D r, true) := by
 have hb := Q10 D
 have hs := Q27 D
 have hble := Q2M D hD
 rw [Qn.eq, Q4E, decide_eq_true hl, Z0, Z12, Qg, Q4j, decide_eq_true (show (1 : Int) ≤ r by omega), decide_eq_true (show (r : Int) ≤ 64 by omega), Z0]
 rw [Bool.and_true, Z12, Qg, Qn_l0.eq, specSuf_eq D hl, Z0, specInv_eq _ (by omega) (srt_nodup D) (fun x hx => (Q2L D x).2 (by omega)), Z0, Q3n D hl hD, Z0, specCounts_eq _ (by omega) hble, Z0, Q4h _ (by omega) (fun x hx => by have := hble x hx; omega), Z0, Q9]
 exact specFm_l1 D hl r h1 h2 _ _ _ _ _ _ _ _ _ _ _ _ _ _ _ _ _ _ _ _ _ _ _ _ _ _ _ _ _ _ _ _ _ 0 rfl (by omega)
end Go.Ev.W
/- Indexes: the text of a valid one. -/
set_option linter.unusedVariables false
set_option linter.unusedSimpArgs false
namespace Go.Ev.W
open Go.Ev
theorem equalU_eq (X Y : List Int) (h : X.length < 4611686018427387904) : Q0z X Y = some (decide (X = Y)) := by
 rw [Q0z.eq]
 exact eq_list X Y _ fun hl => eq_loop (fun x y => some (!(x != y))) X Y hl h (fun x _ y _ => by rw [bne, Z89]; exact congrArg some (by rw [Z67]; simp)) (Q0z_l0 X Y X.length) (fun i => by rw [Q0z_l0.eq]; simp only [Z0, Z89])
theorem Q2Q {α β : Type} [DecidableEq α] [DecidableEq β] (a c : α) (b d : β) : decide ((a, b) = (c, d)) = (decide (a = c) && decide (b = d)) := by
 rw [Z67]; simp
theorem Q3D (a : Int) (x : List Int) (b : Int) (y : List Int) (h : x.length < 4611686018427387904) : Q0k (a, x) (b, y) = some (decide ((a, x) = (b, y))) := by
 rw [Q0k.eq, Q2Q, Q2E]
 try simp only
 rw [equalU_eq _ _ h]
 cases decide (a = b) <;> rfl
theorem Q4k (a b c : Int) (x : List Int) (d e f : Int) (y : List Int) (h : x.length < 4611686018427387904) : Q0K (a, b, c, x) (d, e, f, y) = some (decide ((a, b, c, x) = (d, e, f, y))) := by
 rw [Q0K.eq, Q2Q, Q2Q, Q2E, Q2E]
 try simp only
 rw [Q3D _ _ _ _ h]
 cases decide (a = d) <;> cases decide (b = e) <;> rfl
theorem sameLv_eq (X Y : Lv) (h : X.length < 4611686018427387904) (hw : ∀ p ∈ X, p.2.length < 4611686018427387904) : Q0A X Y () = some (decide (X = Y)) := by
 rw [Q0A.eq]
 exact eq_list X Y _ fun hl => eq_loop (fun x y => Q0k x y) X Y hl h (fun x hx y _ => Q3D _ _ _ _ (hw x hx)) (Q0A_l0 Y X X.length) (fun i => Q0A_l0.eq Y X X.length i)
theorem Q4F (a : Int) (Z : List Int) (L : Lv) (b : Int) (Y : List Int) (M : Lv) (hZ : Z.length < 4611686018427387904) (h : L.length < 4611686018427387904) (hw : ∀ p ∈ L, p.2.length < 4611686018427387904) : Q0T (a, Z, L) (b, Y, M) = some (decide ((a, Z, L) = (b, Y, M))) := by
 rw [Q0T.eq, Q2Q, Q2Q, Q2E]
 try simp only
 rw [equalI_eq _ _ hZ, Z0, sameLv_eq _ _ h hw]
 cases decide (a = b) <;> cases decide (Z = Y) <;> rfl
theorem l03_l1 (a b : Int) (X Y : List Int) (hl : X.length = Y.length) (h : X.length < 4611686018427387904) : QS_l1 0 a X b Y = some (decide (X = Y)) :=
 eq_loop (fun x y => some (!(x != y))) X Y hl h (fun x _ y _ => by rw [bne, Z89]; exact congrArg some (by rw [Z67]; simp)) (fun i => QS_l1 i a X b Y) (fun i => by rw [QS_l1.eq]; simp only [Z0, Z89])
theorem l03Same_eq (a : Int) (x : List Int) (b : Int) (y : List Int) (h : x.length < 4611686018427387904) : QS (a, x) (b, y) = some (decide ((a, x) = (b, y))) := by
 rw [QS.eq, Q2Q]
 try simp only
 by_cases h1 : a = b
 ·rw [Q20 h1, decide_eq_true h1, Z29, eq_list x y _ fun hl => by rw [QS_l0.eq]; exact l03_l1 a b x y hl h]
 ·rw [Q2j h1, decide_eq_false h1]; rfl
theorem l09Packs_eq (a b c : Int) (x : List Int) (d e f : Int) (y : List Int) (h : x.length < 4611686018427387904) : Q11 (a, b, c, x) (d, e, f, y) = some (decide ((a, b, c, x) = (d, e, f, y))) := by
 rw [Q11.eq, Q2Q, Q2Q, Q2E, Q2E]
 try simp only
 rw [l03Same_eq _ _ _ _ h]
 cases decide (a = d) <;> cases decide (b = e) <;> rfl
structure ShortFm (f : FmT) : Prop where
 z : f.2.2.2.1.length < 4611686018427387904
 l : f.2.2.2.2.1.length < 4611686018427387904
 w : ∀ p ∈ f.2.2.2.2.1, p.2.length < 4611686018427387904
 c : f.2.2.2.2.2.1.length < 4611686018427387904
 m : f.2.2.2.2.2.2.2.1.length < 4611686018427387904
 s : f.2.2.2.2.2.2.2.2.2.2.2.1.length < 4611686018427387904
 i : f.2.2.2.2.2.2.2.2.2.2.2.2.2.2.2.length < 4611686018427387904
theorem fm_dec (f g : FmT) : decide (f = g) = (decide (f.1 = g.1) && (decide (f.2.1 = g.2.1) && (decide ((f.2.2.1, f.2.2.2.1, f.2.2.2.2.1) = (g.2.2.1, g.2.2.2.1, g.2.2.2.2.1)) && (decide (f.2.2.2.2.2.1 = g.2.2.2.2.2.1) && (decide ((f.2.2.2.2.2.2.1, f.2.2.2.2.2.2.2.1) = (g.2.2.2.2.2.2.1, g.2.2.2.2.2.2.2.1)) &&
  (decide ((f.2.2.2.2.2.2.2.2.1, f.2.2.2.2.2.2.2.2.2.1, f.2.2.2.2.2.2.2.2.2.2.1, f.2.2.2.2.2.2.2.2.2.2.2.1) = (g.2.2.2.2.2.2.2.2.1, g.2.2.2.2.2.2.2.2.2.1, g.2.2.2.2.2.2.2.2.2.2.1, g.2.2.2.2.2.2.2.2.2.2.2.1)) && decide (f.2.2.2.2.2.2.2.2.2.2.2.2 = g.2.2.2.2.2.2.2.2.2.2.2.2))))))) := by
 obtain ⟨a1, a2, a3, a4, a5, a6, a7, a8, a9, a10, a11, a12, a13⟩ := f
 obtain ⟨b1, b2, b3, b4, b5, b6, b7, b8, b9, b10, b11, b12, b13⟩ := g
 simp only [Q2Q, Bool.and_assoc]
theorem sameFm_eq (f g : FmT) (h : ShortFm f) : Q17 f g = some (decide (f = g)) := by
 rw [Q17.eq, fm_dec, Q4F _ _ _ _ _ _ h.z h.l h.w, equalI_eq _ _ h.c, Q3D _ _ _ _ h.m, Q4k _ _ _ _ _ _ _ _ h.s, Q4k _ _ _ _ _ _ _ _ h.i, Q2E, Q2E]
 simp only [Z0]
 cases decide (f.1 = g.1)
 ·rfl
 cases decide (f.2.1 = g.2.1)
 ·rfl
 cases decide ((f.2.2.1, f.2.2.2.1, f.2.2.2.2.1) = (g.2.2.1, g.2.2.2.1, g.2.2.2.2.1))
 ·rfl
 cases decide (f.2.2.2.2.2.1 = g.2.2.2.2.2.1)
 ·rfl
 cases decide ((f.2.2.2.2.2.2.1, f.2.2.2.2.2.2.2.1) = (g.2.2.2.2.2.2.1, g.2.2.2.2.2.2.2.1))
 ·rfl
 cases decide ((f.2.2.2.2.2.2.2.2.1, f.2.2.2.2.2.2.2.2.2.1, f.2.2.2.2.2.2.2.2.2.2.1, f.2.2.2.2.2.2.2.2.2.2.2.1) = (g.2.2.2.2.2.2.2.2.1, g.2.2.2.2.2.2.2.2.2.1, g.2.2.2.2.2.2.2.2.2.2.1, g.2.2.2.2.2.2.2.2.2.2.2.1))
 ·rfl
 rfl
theorem wLv_len : ∀ (d l : Nat) (X : List Nat), (wLv d l X).1.length = d ∧ (wLv d l X).2.length = d
 | 0, l, X => ⟨rfl, rfl⟩
 | d + 1, l, X => by
  have := wLv_len d (l + 1) (wlo l X ++ whi l X)
  rw [wLv]
  exact ⟨by rw [Z2, this.1], by rw [Z2, this.2]⟩
theorem Q3Q : ∀ (d l : Nat) (X : List Nat), ∀ p ∈ (wLv d l X).2, p.2.length = nw X.length
 | 0, l, X, p, h => by cases h
 | d + 1, l, X, p, h => by
  rw [wLv] at h
  have hl := Q2r l X
  rcases Z13.1 h with rfl | h
  ·rw [Q1U, Q3q]
  ·rw [Q3Q d (l + 1) _ p h, Z10, hl]
theorem pk_words (w : Nat) (X : List Nat) : (pk w X).2.2.2.length = nw (X.length * w) := by
 show (ints (wrds (dgs w X))).length = _
 rw [Q9, Q1U, Q2Y]
structure SmFm (f : FmT) (k : Nat) : Prop where
 z : f.2.2.2.1.length ≤ k
 l : f.2.2.2.2.1.length ≤ k
 w : ∀ p ∈ f.2.2.2.2.1, p.2.length ≤ k
 c : f.2.2.2.2.2.1.length ≤ k
 m : f.2.2.2.2.2.2.2.1.length ≤ k
 s : f.2.2.2.2.2.2.2.2.2.2.2.1.length ≤ k
 i : f.2.2.2.2.2.2.2.2.2.2.2.2.2.2.2.length ≤ k
theorem SmFm.short {f : FmT} {k : Nat} (h : SmFm f k) (hk : k < 4611686018427387904) : ShortFm f :=
 ⟨by have := h.z; omega, by have := h.l; omega, fun p hp => by have := h.w p hp; omega, by have := h.c; omega, by have := h.m; omega, by have := h.s; omega, by have := h.i; omega⟩
theorem fmV_small (D : List Nat) (hl : D.length ≤ 300) (r : Nat) : SmFm (fmV D r) 1000 := by
 have hb := Q10 D
 have hs := Q27 D
 have h1 := wLv_len 9 0 (bwt D)
 have hw := wd_le9 (n := D.length) (by omega)
 have hsa := saL_len r (srt D)
 have hd : D.length / r ≤ D.length := Z90 _ _
 have p1 := pk_size (n := (saL r (srt D)).length) (by omega) hw
 have p2 := pk_size (n := (isaL r D.length (srt D)).length) (by rw [isaL_len]; omega) hw
 refine ⟨?_, ?_, fun p hp => ?_, ?_, ?_, ?_, ?_⟩
 ·show (ints (wLv 9 0 (bwt D)).1).length ≤ 1000
  rw [Q9]; omega
 ·show (LI (wLv 9 0 (bwt D)).2).length ≤ 1000
  rw [Z1]; omega
 ·have hp' : p ∈ LI (wLv 9 0 (bwt D)).2 := hp
  obtain ⟨q, hq, rfl⟩ := Z18.1 hp'
  rw [Q9, Q3Q _ _ _ q hq]
  unfold nw; omega
 ·show (ints ((List.range 258).map (ltc (bwt D)))).length ≤ 1000
  rw [Q9, Z1, Z42]; omega
 ·show (ints (wrds (mkB r (srt D)))).length ≤ 1000
  rw [Q9, Q1U, mkB_len]; unfold nw; omega
 ·show (pk (wd D.length) (saL r (srt D))).2.2.2.length ≤ 1000
  rw [pk_words]; unfold nw; omega
 ·show (pk (wd D.length) (isaL r D.length (srt D))).2.2.2.length ≤ 1000
  rw [pk_words]; unfold nw; omega
theorem bT_true (X : List Nat) (hX : X.length ≤ 301) (hx : ∀ x ∈ X, x ≤ 256) (h : (bT X).2 = true) : ∃ D : List Nat, bT X = (ints D, true) ∧ bwt D = X ∧ D.length ≤ 300 ∧ ∀ x ∈ D, x < 256 := by
 unfold bT at h ⊢
 cases h0 : decide (X.length = 0) with
 | true => rw [h0] at h; cases h
 | false =>
  rw [h0] at h
  rw [Qg] at h ⊢
  have hl := wk_len X (X.length - 1) 0 []
  unfold tFin at h ⊢
  cases h1 : decide (bwt (wk X (X.length - 1) 0 []).1 = X) with
  | false => rw [h1] at h; cases h
  | true =>
   rw [QW]
   exact ⟨_, rfl, of_decide_eq_true h1, by have := hl.1; simp at this; omega, wk_bytes X hx _ _ _ (by simp)⟩
def FmOkV (f : FmT) (D : List Nat) : Prop := D.length ≤ 300 ∧ (∀ x ∈ D, x < 256) ∧ 1 ≤ f.2.1 ∧ f.2.1 ≤ 64 ∧ f = fmV D f.2.1.toNat
def FmW (f : FmT) (D : List Nat) : Prop := (∃ L, f.2.2.2.2.1 = LI L ∧ (∀ p ∈ L, p.2.length ≤ 1048576) ∧ (∀ p ∈ L, ∀ x ∈ p.2, x < 2 ^ 64) ∧ wOk f.2.2.1 f.2.2.2.1 L = true) ∧ bT (bwt D) = (ints D, true)
theorem Q4T (xs : List Int) (h : xs.length < 4611686018427387904) (hs : sOk xs = false) : QG xs = some ([], false) := by
 rw [QG.eq, implSymsOk_eq _ h, hs]; rfl
theorem specText_short (xs : List Int) (h : xs.length < 4611686018427387904) (hs : sOk xs = false) : Qv xs = some ([], false) := by
 rw [Qv.eq, Q4f _ h, hs]; rfl
theorem specWaveList_eq (n : Int) (Z : List Int) (L : List (Int × List Nat)) (hl : ∀ p ∈ L, p.2.length ≤ 1048576) (hx : ∀ p ∈ L, ∀ x ∈ p.2, x < 2 ^ 64) : Q1e (n, Z, LI L) = some (bif wOk n Z L then ints (wList n.toNat L) else []) := by
 rw [Q1e.eq]
 try simp only
 rw [specWaveOk_eq n Z L hl hx, Z0]
 cases h : wOk n Z L with
 | false => rfl
 | true => rw [Z12, Qg, QW, l07List_eq n Z L hx h]; rfl
theorem fmRead_eq (f : FmT) (hf : SmFm f 1048576) (hx : ∀ p ∈ f.2.2.2.2.1, ∀ x ∈ p.2, 0 ≤ x ∧ x < ((2 ^ 64 : Nat) : Int)) :
  ∃ (v : Bool) (D : List Nat) (t : List Int), Q08 f = some (bif v then (ints D, true) else ([], false)) ∧ Q0r f = some (bif v then ints D else t, v) ∧ (v = true → FmOkV f D ∧ FmW f D) := by
 obtain ⟨L, hLX, hL⟩ := lv_of f.2.2.2.2.1 hx
 have hLl : ∀ p ∈ L, p.2.length ≤ 1048576 := LI_len (by rw [← hLX]; exact hf.w)
 have hread := waveRead_eq f.2.2.1 f.2.2.2.1 L hLl hL
 have hlist := specWaveList_eq f.2.2.1 f.2.2.2.1 L hLl hL
 rw [← hLX] at hread hlist
 rw [Q08.eq, Q0r.eq, hread, Z0, Q4j, Z0]
 have bad : ∀ s i, s = some (([] : List Int), false) → (∃ t, i = some ((t : List Int), false)) → ∃ (v : Bool) (D : List Nat) (t : List Int), s = some (bif v then (ints D, true) else ([], false)) ∧ i = some (bif v then ints D else t, v) ∧ (v = true → FmOkV f D ∧ FmW f D) :=
  fun s i h1 ⟨t, h2⟩ => ⟨false, [], t, h1, h2, fun h => by cases h⟩
 cases hr : decide (1 ≤ f.2.1) && decide (f.2.1 ≤ 64) with
 | false =>
  refine bad _ _ rfl ⟨[], ?_⟩
  cases wOk f.2.2.1 f.2.2.2.1 L with
  | false => rfl
  | true => rw [QW, Z12, Qg, Q3P, hr]; rfl
 | true =>
  rw [Z12, Qg]
  simp only [Z4, decide_eq_true_eq] at hr
  cases hw : wOk f.2.2.1 f.2.2.2.1 L with
  | false =>
   refine bad _ _ ?_ ⟨[], rfl⟩
   by_cases hn : f.2.2.1 > 301
   ·rw [Q2 hn]
   ·rw [Q3 hn, Q08_l0.eq, hlist, hw, Z0, Qg]
    have := Q4R [] (by simp) (by simp)
    rw [show ints [] = ([] : List Int) from rfl] at this
    rw [this]; rfl
  | true =>
   obtain ⟨w1, w2, w3, w4, w5⟩ := wOk_at hw
   have hwl := wList_len f.2.2.1.toNat L
   rw [QW, Z12, Qg, Q3P, decide_eq_true hr.1, decide_eq_true hr.2, Z0, Bool.and_true, Z12, Qg]
   have hints : (ints (snds (rows (L.map lvb) (start f.2.2.1.toNat)))) = ints (wList f.2.2.1.toNat L) := rfl
   simp only [hints]
   obtain ⟨X, hXe⟩ : ∃ X, X = wList f.2.2.1.toNat L := ⟨_, rfl⟩
   have hinv := wave_inv f.2.2.1 f.2.2.2.1 L hL hw
   rw [hw] at hlist
   rw [← hXe] at hwl hlist hinv ⊢
   by_cases hn : f.2.2.1 > 301
   ·refine bad _ _ (by rw [Q2 hn]) ⟨[], ?_⟩
    have hs : sOk (ints X) = false := by
     unfold sOk
     rw [decide_eq_false (by rw [Q9]; omega)]; rfl
    rw [Q4T _ (by rw [Q9]; omega) hs]; rfl
   ·rw [Q3 hn, Q08_l0.eq, hlist, Z0, QW]
    cases hs : sOk (ints X) with
    | false =>
     refine bad _ _ ?_ ⟨[], ?_⟩
     ·rw [specText_short _ (by rw [Q9]; omega) hs]; rfl
     ·rw [Q4T _ (by rw [Q9]; omega) hs]; rfl
    | true =>
     have hX : X.length ≤ 301 := by omega
     have hXx : ∀ x ∈ X, x ≤ 256 := by
      simp only [sOk, Z4, decide_eq_true_eq, Z49] at hs
      intro x hx
      have := hs.2 (x : Int) (Z18.2 ⟨x, hx, rfl⟩)
      omega
     rw [Q4R X hX hXx, Q4S X hX hXx, Z0, Z0]
     cases hb : (bT X).2 with
     | false => exact bad _ _ rfl ⟨_, rfl⟩
     | true =>
      obtain ⟨D, d1, d2, d3, d4⟩ := bT_true X hX hXx hb
      obtain ⟨r, hre⟩ : ∃ r : Nat, f.2.1 = r := ⟨f.2.1.toNat, by omega⟩
      have hfm := implFm_eq D d3 d4 r (by omega) (by omega)
      have hfs := specFm_eq D d3 d4 r (by omega) (by omega)
      rw [← hre] at hfm hfs
      rw [d1, Z12, Qg, QW]
      simp only [hfm, hfs, Z0]
      have hsm := fmV_small D d3 r
      have hse := sameFm_eq (fmV D r) f (hsm.short (by omega))
      refine ⟨decide (fmV D r = f), D, ints D, ?_, ?_, fun h => ⟨⟨d3, d4, hr.1, hr.2, ?_⟩, ⟨L, hLX, hLl, hL, hw⟩, by rw [d2]; exact d1⟩⟩
      ·have hwv : (f.2.2.1, f.2.2.2.1, f.2.2.2.2.1) = ((fmV D r).2.2.1, (fmV D r).2.2.2.1, (fmV D r).2.2.2.2.1) := by
        show _ = (((bwt D).length : Int), ints (wLv 9 0 (bwt D)).1, LI (wLv 9 0 (bwt D)).2)
        rw [d2, hinv.1, hinv.2, ← hLX, hwl, Int.toNat_of_nonneg w1]
       have hdec : decide (fmV D r = f) = decide (f = fmV D r) := by rw [Z67, decide_eq_true_eq, decide_eq_true_eq]; exact eq_comm
       have hr2 : (fmV D r).2.1 = (r : Int) := rfl
       rw [hdec, fm_dec, hwv, decide_eq_true rfl, hre, hr2, decide_eq_true rfl, Z29, Z29,
        same_eq _ _ (by have := hf.c; omega), l03Same_eq _ _ _ _ (by have := hf.m; omega), l09Packs_eq _ _ _ _ _ _ _ _ (by have := hf.s; omega), l09Packs_eq _ _ _ _ _ _ _ _ (by have := hf.i; omega)]
       simp only [Z0, bne, Q2E]
       cases decide (f.1 = (fmV D r).1)
       ·rfl
       cases decide (f.2.2.2.2.2.1 = (fmV D r).2.2.2.2.2.1)
       ·rfl
       cases decide ((f.2.2.2.2.2.2.1, f.2.2.2.2.2.2.2.1) = ((fmV D r).2.2.2.2.2.2.1, (fmV D r).2.2.2.2.2.2.2.1))
       ·rfl
       cases decide ((f.2.2.2.2.2.2.2.2.1, f.2.2.2.2.2.2.2.2.2.1, f.2.2.2.2.2.2.2.2.2.2.1, f.2.2.2.2.2.2.2.2.2.2.2.1) = ((fmV D r).2.2.2.2.2.2.2.2.1, (fmV D r).2.2.2.2.2.2.2.2.2.1, (fmV D r).2.2.2.2.2.2.2.2.2.2.1, (fmV D r).2.2.2.2.2.2.2.2.2.2.2.1))
       ·rfl
       cases decide (f.2.2.2.2.2.2.2.2.2.2.2.2 = (fmV D r).2.2.2.2.2.2.2.2.2.2.2.2) <;> rfl
      ·show (Q17 (fmV D r) f).bind _ = _
       rw [hse]
       cases decide (fmV D r = f) <;> rfl
      ·rw [hre, Z5]; exact (of_decide_eq_true h).symm
end Go.Ev.W
/- Checksums and frames: both functions. -/
set_option linter.unusedVariables false
set_option linter.unusedSimpArgs false
namespace Go.Ev.W
open Go.Ev
def crcS (c : Nat) : Nat := if c % 2 = 1 then c / 2 ^^^ 3988292384 else c / 2
def crcN : Nat → Nat → Nat
 | 0, c => c
 | k + 1, c => crcN k (crcS c)
def crcV (D : List Nat) (c : Nat) : Nat := D.foldl (fun c x => crcN 8 (c ^^^ x)) c
def crc (D : List Nat) : Nat := crcV D 4294967295 ^^^ 4294967295
def four (n : Nat) : List Nat := [n % 256, n / 256 % 256, n / 65536 % 256, n / 16777216 % 256]
def frH (k : Nat) (B : List Nat) : List Nat := [90, k] ++ Var B.length ++ B
def frame (k : Nat) (B : List Nat) : List Nat := if B.length ≤ 8000 then frH k B ++ four (crc (frH k B)) else []
end Go.Ev.W
/- Packed numbers as bytes: both functions. -/
set_option linter.unusedVariables false
set_option linter.unusedSimpArgs false
namespace Go.Ev.W
open Go.Ev
end Go.Ev.W
/- Waves: the wave of a list is valid, and its numbers are the list. -/
set_option linter.unusedVariables false
set_option linter.unusedSimpArgs false
namespace Go.Ev.W
open Go.Ev
theorem vOk_tight {m : Nat} {W : List Nat} (hm : m ≤ 5000) (ht : tight m W) : vOk m W = true := by
 unfold vOk
 rw [Z5, (Q2O m W ht.2.1).2 ht, decide_eq_true (show (0 : Int) ≤ m by omega), decide_eq_true (show (m : Int) ≤ 5000 by omega)]; rfl
theorem vOk_wrds (bs : List Bool) (h : bs.length ≤ 5000) : vOk bs.length (wrds bs) = true := vOk_tight h (Q2d bs)
theorem lvb_wrds (bs : List Bool) (n : Nat) (h : bs.length = n) : lvb ((n : Int), wrds bs) = bs := by
 unfold lvb
 simp only [Z5]
 rw [← h]
 exact Q2D bs
theorem wLv_ok : ∀ (d l : Nat) (X : List Nat), X.length ≤ 1000 → (((wLv d l X).2.zip (ints (wLv d l X).1)).all fun q => lOk X.length q.1 q.2) = true
 | 0, l, X, _ => rfl
 | d + 1, l, X, h => by
  have hl := Q2r l X
  have ih := wLv_ok d (l + 1) (wlo l X ++ whi l X) (by rw [Z10]; omega)
  rw [Z10, hl] at ih
  rw [wLv]
  show (List.all (((X.length : Int), wrds (wbs l X)) :: _ |>.zip (((wlo l X).length : Int) :: ints _)) _) = true
  rw [List.zip_cons_cons, Z97, ih, Bool.and_true]
  have hb := Q3q l X
  have h1 := vOk_wrds (wbs l X) (by omega)
  rw [hb] at h1
  unfold lOk
  simp only [Z4, decide_eq_true_eq]
  refine ⟨⟨h1, trivial⟩, ?_⟩
  rw [lvb_wrds _ _ hb, zer_wbs, hb, Z22]; rfl
theorem wLv_path : ∀ (d l : Nat) (X : List Nat), d + l = 9 → ∀ k (hk : k < X.length), (path ((wLv d l X).2.map lvb) (k, 0)).2 = X[k] % 2 ^ d
 | 0, l, X, _, k, hk => by
  show 0 = _
  rw [Nat.pow_zero, Nat.mod_one]
 | d + 1, l, X, h, k, hk => by
  have hl := Q2r l X
  have hb := Q3q l X
  have hnx := nxt_lt (wbs l X) k (by omega)
  rw [hb] at hnx
  have hlen : nxt (wbs l X) k < (wlo l X ++ whi l X).length := by rw [Z10, hl]; exact hnx
  have ih := wLv_path d (l + 1) (wlo l X ++ whi l X) (by omega) (nxt (wbs l X) k) hlen
  have hp := part_at l X k hk
  rw [Z3 hlen] at hp
  injection hp with hp
  rw [wLv]
  show (path (lvb ((X.length : Int), wrds (wbs l X)) :: (wLv d (l + 1) (wlo l X ++ whi l X)).2.map lvb) (k, 0)).2 = _
  rw [lvb_wrds _ _ hb]
  show (path ((wLv d (l + 1) (wlo l X ++ whi l X)).2.map lvb) (nxt (wbs l X) k, 2 * 0 + ((wbs l X).getD k false).toNat)).2 = _
  have hgd : (wbs l X).getD k false = wbit l X[k] := by
   rw [Z9]; unfold wbs; rw [Z11, Z3 hk]; rfl
  rw [path_val, ih, hp, hgd, Z1, (wLv_len' d (l + 1) _).2, Nat.mul_zero, Z25]
  have hw : (wbit l X[k]).toNat = X[k] / 2 ^ d % 2 := by
   unfold wbit
   rw [show 8 - l = d by omega]
   rcases Nat.mod_two_eq_zero_or_one (X[k] / 2 ^ d) with h2 | h2 <;> rw [h2] <;> rfl
  rw [hw, Nat.mod_pow_succ, Z56, Nat.add_comm]
theorem wave_back (X : List Nat) (hX : X.length ≤ 1000) (hx : ∀ x ∈ X, x ≤ 511) : wOk X.length (ints (wLv 9 0 X).1) (wLv 9 0 X).2 = true ∧ wList X.length (wLv 9 0 X).2 = X := by
 have hl := wLv_len' 9 0 X
 constructor
 ·unfold wOk
  rw [wLv_ok 9 0 X hX, decide_eq_true (show (0 : Int) ≤ X.length by omega), decide_eq_true (show (X.length : Int) ≤ 1000 by omega), decide_eq_true (show (ints (wLv 9 0 X).1).length = 9 by rw [Z1]; exact hl.1), decide_eq_true hl.2]; rfl
 ·rw [wList_eq]
  refine Z75 (by rw [Z1, Z42]) fun k h1 h2 => ?_
  have := hx _ (Z14 h2)
  rw [Z87, List.getElem_range, wLv_path 9 0 X rfl k h2, Nat.mod_eq_of_lt (by omega)]
end Go.Ev.W
/- An index as bytes: both functions. -/
set_option linter.unusedVariables false
set_option linter.unusedSimpArgs false
namespace Go.Ev.W
open Go.Ev
end Go.Ev.W
/- The index of a text is valid. -/
set_option linter.unusedVariables false
set_option linter.unusedSimpArgs false
namespace Go.Ev.W
open Go.Ev
theorem Q4l (X : List Nat) : ∀ (d l : Nat) (Y : List Nat), ∀ p ∈ (wLv d l Y).2, ∀ x ∈ p.2, x < 2 ^ 64
 | 0, l, Y, p, h, _, _ => by cases h
 | d + 1, l, Y, p, h, x, hx => by
  rw [wLv] at h
  rcases Z13.1 h with rfl | h
  ·exact (Q2d (wbs l Y)).2.1 x hx
  ·exact Q4l X d (l + 1) _ p h x hx
theorem fmV_words (D : List Nat) (r : Nat) : ∀ p ∈ (fmV D r).2.2.2.2.1, ∀ x ∈ p.2, 0 ≤ x ∧ x < ((2 ^ 64 : Nat) : Int) := by
 intro p hp x hx
 have hp' : p ∈ LI (wLv 9 0 (bwt D)).2 := hp
 obtain ⟨q, hq, rfl⟩ := Z18.1 hp'
 obtain ⟨y, hy, rfl⟩ := Z18.1 hx
 have := Q4l [] 9 0 (bwt D) q hq y hy
 omega
end Go.Ev.W
/- Bits out of bytes: the program's; the law. -/
set_option linter.unusedVariables false
set_option linter.unusedSimpArgs false
namespace Go.Ev.W
open Go.Ev
def filled (B : List Nat) (n m : Nat) (V : List Nat) : Prop := V.length = nw n ∧ (∀ x ∈ V, x < 2 ^ 64) ∧ ∀ i, bit V i = (decide (i < 8 * m) && bbit B i)
end Go.Ev.W
/- What the laws' own helpers come to: marks in waves. -/
set_option linter.unusedVariables false
set_option linter.unusedSimpArgs false
namespace Go.Ev.W
open Go.Ev
abbrev lens (L : Lv) : List Nat := L.map fun p => p.2.length
end Go.Ev.W
/- Indexes: the laws' helpers. -/
set_option linter.unusedVariables false
set_option linter.unusedSimpArgs false
namespace Go.Ev.W
open Go.Ev
structure GdFm (f : FmT) : Prop where
 sm : SmFm f 1048576
 wv : Small f.2.2.2.1 f.2.2.2.2.1
end Go.Ev.W
/- Where a word occurs: both functions. -/
set_option linter.unusedVariables false
set_option linter.unusedSimpArgs false
namespace Go.Ev.W
open Go.Ev
theorem Q3R (X : List Nat) (n : Nat) : (ints X).take n = ints (X.take n) := (Z91).symm
theorem ints_dropN (X : List Nat) (n : Nat) : (ints X).drop n = ints (X.drop n) := (List.map_drop).symm
section
variable (D P : List Nat) (hl : D.length ≤ 300) (hD : Qq D) (hP : Qq P)
include hl hD hP
end
end Go.Ev.W
/- The law of WaveRead. -/
set_option linter.unusedVariables false
set_option linter.unusedSimpArgs false
namespace Go.Ev.W
open Go.Ev
end Go.Ev.W
/- Frames out of bytes; an index out of bytes: both functions. -/
set_option linter.unusedVariables false
set_option linter.unusedSimpArgs false
namespace Go.Ev.W
open Go.Ev
theorem td_ints (D : List Nat) (a b : Nat) : ((ints D).take a).drop b = ints ((D.take a).drop b) := by rw [Q3R, ints_dropN]
end Go.Ev.W
