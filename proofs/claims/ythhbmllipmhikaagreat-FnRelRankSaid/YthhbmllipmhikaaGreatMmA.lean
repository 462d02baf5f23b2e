/- What the functions come to, in plain mathematics, part 1. -/
import Derived.Test.YthhbmllipmhikaaGreatEvC
import Derived.Test.YthhbmllipmhikaaGreatPk1
import Derived.Test.YthhbmllipmhikaaGreatEvCmp
import Derived.Test.YthhbmllipmhikaaGreatEvSort
import Derived.Test.YthhbmllipmhikaaGreatPk2
import Derived.Laws.Strings
import Derived.Test.YthhbmllipmhikaaGreatEvGrow
/- What the laws' own helpers come to. -/
set_option linter.unusedVariables false
set_option linter.unusedSimpArgs false
namespace Go.Ev.W
open Go.Ev
end Go.Ev.W
/- Drawn inputs: a reader of bytes always gives something, within bounds. -/
set_option linter.unusedVariables false
set_option linter.unusedSimpArgs false
namespace Go.Ev.W
open Go.Ev
abbrev Cur := List Int × Int × Int
def QV (k : Nat) (c : Cur) : Prop := c.1.length ≤ 1048576 ∧ 0 ≤ c.2.1 ∧ c.2.1 ≤ k ∧ 0 ≤ c.2.2 ∧ c.2.2 ≤ 100000 ∧ ∀ x ∈ c.1, 0 ≤ x ∧ x ≤ 255
theorem QV.mono {k m : Nat} {c : Cur} (h : QV k c) (hm : k ≤ m) : QV m c := by
  obtain ⟨a, b, c, d⟩ := h
  exact ⟨a, b, by omega, d⟩
def Bytes (xs : List Int) : Prop := xs.length ≤ 1048576 ∧ ∀ x ∈ xs, 0 ≤ x ∧ x ≤ 255
theorem Q30 (x n : Int) (hx : 0 ≤ x) (hn : 0 < n) : 0 ≤ x.tmod n ∧ x.tmod n < n := by
  rw [Int.tmod_eq_emod_of_nonneg hx]
  exact ⟨Int.emod_nonneg _ (by omega), Int.emod_lt_of_pos _ hn⟩
theorem open_ok (xs : List Int) (h : Bytes xs) : ∃ c, Q15 xs = some c ∧ QV 0 c := by
  rw [Q15.eq]
  have := Q30 (xs.length : Int) 1000 (by omega) (by omega)
  refine ⟨_, rfl, h.1, Int.le_refl _, Int.le_refl _, ?_, ?_, h.2⟩
  · show 0 ≤ IntKind.i64.wrap _; rw [Qb (by omega) (by omega)]; omega
  · show IntKind.i64.wrap _ ≤ _; rw [Qb (by omega) (by omega)]; omega
theorem QW {k : Nat} {c : Cur} (h : QV k c) (hk : k < 1000000000000) (n : Int) : ∃ x c', Q9 c n = some (x, c') ∧ QV (k + 1) c' ∧ 0 ≤ x ∧ (x < n ∨ x = 0) := by
  obtain ⟨code, at_, seed⟩ := c
  obtain ⟨h1, h2, h3, h4, h5, h6⟩ := h
  simp only at h1 h2 h3 h4 h5 h6
  rw [Q9.eq]
  by_cases hn : n < 2
  · rw [Q2 hn]
    exact ⟨0, _, rfl, ⟨h1, h2, by simp only; omega, h4, h5, h6⟩, Int.le_refl _, .inr rfl⟩
  rw [Q3 hn]
  have ha : IntKind.i64.wrap (at_ + 1) = at_ + 1 := Qb (by omega) (by omega)
  have s1 : IntKind.i64.wrap (seed * 1103) = seed * 1103 := Qb (by omega) (by omega)
  have s2 : IntKind.i64.wrap (seed * 1103 + 12345) = seed * 1103 + 12345 := Qb (by omega) (by omega)
  have s3 := Q30 (seed * 1103 + 12345) 65521 (by omega) (by omega)
  simp only [ha, s1, s2]
  generalize (seed * 1103 + 12345).tmod 65521 = s at s3
  by_cases hlt : at_ < (code.length : Int)
  · obtain ⟨i, rfl⟩ : ∃ i : Nat, at_ = i := ⟨at_.toNat, by omega⟩
    have hi : i < code.length := by omega
    have hb := h6 _ (List.getElem_mem hi)
    rw [Q2 hlt, Q29 _ _ hi, Option.bind_some, Q3 (by omega), Qb (by omega) (by omega)]
    have := Q30 code[i] n hb.1 (by omega)
    exact ⟨_, _, rfl, ⟨h1, by simp only; omega, by simp only; omega, h4, h5, h6⟩, this.1, .inl this.2⟩
  · rw [Q3 hlt]
    by_cases hc : (code.length : Int) > 0
    · rw [Q2 hc, Q3 (by omega)]
      have hm := Q30 at_ code.length h2 (by omega)
      obtain ⟨i, hi⟩ : ∃ i : Nat, at_.tmod code.length = i := ⟨(at_.tmod code.length).toNat, by omega⟩
      rw [hi] at hm ⊢
      have hi : i < code.length := by omega
      have hb := h6 _ (List.getElem_mem hi)
      have hd : 0 ≤ s.tdiv 7 ∧ s.tdiv 7 ≤ s := by
        rw [Int.tdiv_eq_ediv_of_nonneg s3.1]; omega
      rw [Q29 _ _ hi, Option.bind_some, Q3 (by omega), Qb (x := s.tdiv 7) (by omega) (by omega), Qb (x := code[i]) (by omega) (by omega), Qb (by omega) (by omega)]
      have := Q30 (s.tdiv 7 + code[i]) n (by omega) (by omega)
      exact ⟨_, _, rfl, ⟨h1, by simp only; omega, by simp only; omega, s3.1, by simp only; omega, h6⟩, this.1, .inl this.2⟩
    · rw [Q3 hc, Q3 (by omega)]
      have := Q30 0 n (by omega) (by omega)
      exact ⟨_, _, rfl, ⟨h1, by simp only; omega, by simp only; omega, s3.1, by simp only; omega, h6⟩, this.1, .inl this.2⟩
theorem once_ok {k : Nat} {c : Cur} (h : QV k c) (hk : k < 1000000000000) (n : Int) : ∃ x c', Q0p c n = some (x, c') ∧ QV (k + 1) c' := by
  obtain ⟨x, c', e, h', _⟩ := QW h hk n
  rw [Q0p.eq]
  simp only [Q1B, e, Option.bind_some]
  exact ⟨_, _, rfl, h'⟩
theorem size_ok {k : Nat} {c : Cur} (h : QV k c) (hk : k < 1000000000000) (n : Int) (hn : 0 ≤ n) (hn2 : n ≤ 1000000) : ∃ x c', Q0P c n = some (x, c') ∧ QV (k + 1) c' ∧ 0 ≤ x ∧ x ≤ n := by
  have hl := h.1
  have hd : (c.1.length : Int).tdiv 8 = (c.1.length : Int) / 8 := Int.tdiv_eq_ediv_of_nonneg (by omega)
  rw [Q0P.eq]
  simp only [Q1B]
  rw [hd, Qb (x := (c.1.length : Int) / 8) (by omega) (by omega), Qb (x := 1 + (c.1.length : Int) / 8) (by omega) (by omega)]
  obtain ⟨m, hm⟩ : ∃ m, m = (if 1 + (c.1.length : Int) / 8 < n then 1 + (c.1.length : Int) / 8 else n) := ⟨_, rfl⟩
  rw [← hm]
  have hmn : 0 ≤ m ∧ m ≤ n := by rw [hm]; split <;> omega
  rw [Qb (by omega) (by omega)]
  obtain ⟨x, c', e, h', h1, h2⟩ := QW h hk (m + 1)
  rw [e, Option.bind_some]
  exact ⟨x, c', rfl, h', h1, by omega⟩
theorem wide_ok {k : Nat} {c : Cur} (h : QV k c) (hk : k + 3 < 1000000000000) (n : Int) (hn : 0 < n) : ∃ x c', Q19 c n = some (x, c') ∧ QV (k + 3) c' ∧ 0 ≤ x ∧ x < n := by
  obtain ⟨x1, c1, e1, g1, a1, b1⟩ := QW h (by omega) 256
  obtain ⟨x2, c2, e2, g2, a2, b2⟩ := QW g1 (by omega) 256
  obtain ⟨x3, c3, e3, g3, a3, b3⟩ := QW g2 (by omega) 256
  rw [Q19.eq]
  simp only [Q1B, e1, e2, e3, Option.bind_some]
  rw [Q3 (by omega), Qb (x := 65536 * x1) (by omega) (by omega), Qb (x := 256 * x2) (by omega) (by omega), Qb (x := 65536 * x1 + 256 * x2) (by omega) (by omega), Qb (by omega) (by omega)]
  have := Q30 (65536 * x1 + 256 * x2 + x3) n (by omega) hn
  exact ⟨_, _, rfl, g3, this.1, this.2⟩
theorem numbers_l0_ok (top : Int) : ∀ (m k : Nat) (c : Cur) (out : List Int), QV k c → k + 3 * m < 1000000000000 → out.length + m ≤ 1000000 → (∀ x ∈ out, 0 ≤ x ∧ x < max 1 top) →
    ∃ l c', Q06_l0 top m c.1 c.2.1 c.2.2 out = some (l, c') ∧ QV (k + 3 * m) c' ∧ l.length = out.length + m ∧ ∀ x ∈ l, 0 ≤ x ∧ x < max 1 top := by
  intro m
  induction m with
  | zero =>
    intro k c out h hk ho hx
    rw [Q06_l0.eq, Q3 (by omega)]
    exact ⟨out, c, rfl, h, rfl, hx⟩
  | succ m ih =>
    intro k c out h hk ho hx
    rw [Q06_l0.eq, Q2 (by omega)]
    have e0 : (if top > 1 then top else 1) = max 1 top := by split <;> omega
    obtain ⟨x, c', e, h', h1, h2⟩ := wide_ok h (by omega) (max 1 top) (by omega)
    simp only [Q1B, e0, e, Option.bind_some]
    rw [Q2 (by simp only [List.length_cons, List.length_nil]; omega), Qb (by omega) (by omega), show ((m + 1 : Nat) : Int) - 1 = m by omega]
    obtain ⟨l, c2, e2, g1, g2, g3⟩ := ih (k + 3) c' (out ++ [x]) h' (by omega) (by simp; omega) (by
      intro y hy
      rcases List.mem_append.1 hy with hy | hy
      · exact hx y hy
      · rw [List.mem_singleton.1 hy]; exact ⟨h1, h2⟩)
    exact ⟨l, c2, e2, g1.mono (by omega), by rw [g2]; simp; omega, g3⟩
theorem numbers_ok {k : Nat} {c : Cur} (h : QV k c) (hk : k < 100000000000) (n top : Int) (hn : 0 ≤ n) (hn2 : n ≤ 1000000) : ∃ l c', Q06 c n top = some (l, c') ∧ QV (k + 3000001) c' ∧ (l.length : Int) ≤ n ∧ ∀ x ∈ l, 0 ≤ x ∧ x < max 1 top := by
  obtain ⟨x, c1, e1, g1, a1, b1⟩ := size_ok h (by omega) n hn hn2
  obtain ⟨m, rfl⟩ : ∃ m : Nat, x = m := ⟨x.toNat, by omega⟩
  rw [Q06.eq]
  simp only [Q1B, e1, Option.bind_some]
  obtain ⟨l, c2, e2, h1, h2, h3⟩ := numbers_l0_ok top m (k + 1) c1 [] g1 (by omega) (by simp; omega) (by simp)
  exact ⟨l, c2, e2, h1.mono (by omega), by rw [h2]; simpa using b1, h3⟩
theorem Q1Q {α : Type} (xs : List α) (x : Int) (h0 : 0 ≤ x) (h1 : x < xs.length) : ∃ y, at? xs x = some y ∧ xs[x.toNat]? = some y ∧ y ∈ xs := by
  have hlt : x.toNat < xs.length := by omega
  exact ⟨xs[x.toNat], by rw [at?_int _ _ h0, List.getElem?_eq_getElem hlt], List.getElem?_eq_getElem hlt, List.getElem_mem hlt⟩
theorem raw_ok {k : Nat} {c : Cur} (h : QV k c) (hk : k < 100000000000) : ∃ x c', Q00 c = some (x, c') ∧ QV (k + 2) c' ∧ -9223372036854775808 ≤ x ∧ x ≤ 9223372036854775807 := by
  obtain ⟨x1, c1, e1, g1, a1, b1⟩ := QW h (by omega) 8
  rw [Q00.eq]
  simp only [Q1B, e1, Option.bind_some]
  by_cases h1 : x1 = 0
  · obtain ⟨x2, c2, e2, g2, a2, b2⟩ := QW g1 (by omega) 256
    rw [Q07 h1]
    simp only [e2, Option.bind_some]
    exact ⟨_, c2, rfl, g2, by rw [Qb (by omega) (by omega)]; omega, by rw [Qb (by omega) (by omega)]; omega⟩
  rw [Q0a h1]
  by_cases h2 : x1 = 1
  · obtain ⟨x2, c2, e2, g2, a2, b2⟩ := QW g1 (by omega) 8
    rw [Q07 h2]
    simp only [e2, Option.bind_some]
    obtain ⟨y, y1, y2, y3⟩ := Q1Q ([9223372036854775807, -9223372036854775808, 4611686018427387904, 4294967295, 4294967296, -1000, 1000, 257] : List Int) x2 a2 (by simp; omega)
    rw [y1, Option.bind_some, y2, Option.bind_some]
    refine ⟨y, c2, rfl, g2, ?_⟩
    simp only [List.mem_cons, List.not_mem_nil, or_false] at y3
    omega
  · obtain ⟨x2, c2, e2, g2, a2, b2⟩ := QW g1 (by omega) 14
    rw [Q0a h2]
    simp only [e2, Option.bind_some]
    exact ⟨_, c2, rfl, g2, by rw [Qb (by omega) (by omega)]; omega, by rw [Qb (by omega) (by omega)]; omega⟩
end Go.Ev.W
/- Bits in words: plain arithmetic. -/
set_option linter.unusedVariables false
set_option linter.unusedSimpArgs false
namespace Go.Ev.W
open Go.Ev
abbrev ints (W : List Nat) : List Int := W.map fun (x : Nat) => (x : Int)
theorem Q0s (W : List Nat) (i : Nat) (h : i < W.length) : at? (ints W) (i : Int) = some ((W[i] : Nat) : Int) := by
  rw [Q0C, List.getElem?_map, List.getElem?_eq_getElem h]; rfl
theorem Q1S (W : List Nat) (i : Nat) (h : i < W.length) : (ints W)[i]? = some ((W[i] : Nat) : Int) := by
  rw [List.getElem?_map, List.getElem?_eq_getElem h]; rfl
theorem ints_of (xs : List Int) (b : Nat) (h : ∀ x ∈ xs, 0 ≤ x ∧ x < b) : ∃ W : List Nat, xs = ints W ∧ ∀ x ∈ W, x < b := by
  refine ⟨xs.map Int.toNat, ?_, fun x hx => ?_⟩
  · unfold ints
    rw [List.map_map]
    refine (List.map_id xs).symm.trans (List.map_congr_left fun x hx => ?_)
    have := h x hx
    simp only [Function.comp, id]
    omega
  · obtain ⟨y, hy, rfl⟩ := List.mem_map.1 hx
    have := h y hy
    omega
theorem fdiv_nat (a k : Nat) : (a : Int).fdiv (2 ^ k) = ((a / 2 ^ k : Nat) : Int) := by
  have : (2 : Int) ^ k = ((2 ^ k : Nat) : Int) := by simp
  rw [this, Int.fdiv_eq_ediv_of_nonneg _ (Int.natCast_nonneg _)]
  rfl
theorem bv_nat (w a : Nat) (h : a < 2 ^ w) : (BitVec.ofInt w (a : Int)).toNat = a := by
  rw [BitVec.ofInt_natCast, BitVec.toNat_ofNat, Nat.mod_eq_of_lt h]
theorem bv_and (w a b : Nat) (ha : a < 2 ^ w) (hb : b < 2 ^ w) : ((BitVec.ofInt w (a : Int)) &&& (BitVec.ofInt w (b : Int))).toNat = a &&& b := by
  rw [BitVec.toNat_and, bv_nat w a ha, bv_nat w b hb]
theorem bv_or (w a b : Nat) (ha : a < 2 ^ w) (hb : b < 2 ^ w) : ((BitVec.ofInt w (a : Int)) ||| (BitVec.ofInt w (b : Int))).toNat = a ||| b := by
  rw [BitVec.toNat_or, bv_nat w a ha, bv_nat w b hb]
def ofB : List Bool → Nat
  | [] => 0
  | b :: r => b.toNat + 2 * ofB r
theorem ofB_lt : ∀ l : List Bool, ofB l < 2 ^ l.length
  | [] => by simp [ofB]
  | b :: r => by
    have := ofB_lt r
    simp only [ofB, List.length_cons, Nat.pow_succ]
    cases b <;> simp <;> omega
theorem ofB_testBit : ∀ (l : List Bool) (i : Nat), (ofB l).testBit i = l.getD i false
  | [], i => by simp [ofB]
  | b :: r, 0 => by
    simp only [ofB, Nat.testBit_zero, List.getD_cons_zero]
    cases b <;> simp <;> omega
  | b :: r, i + 1 => by
    rw [Nat.testBit_succ, List.getD_cons_succ, ← ofB_testBit r i]
    congr 1
    simp only [ofB]
    cases b <;> simp <;> omega
theorem ofB_snoc : ∀ (l : List Bool) (b : Bool), ofB (l ++ [b]) = ofB l + 2 ^ l.length * b.toNat
  | [], b => by simp [ofB]
  | c :: r, b => by
    simp only [List.cons_append, ofB, ofB_snoc r b, List.length_cons, Nat.pow_succ]
    rw [Nat.mul_add, Nat.add_assoc, ← Nat.mul_assoc, Nat.mul_comm 2 (2 ^ r.length)]
def wrd (l : List Bool) (j : Nat) : Nat := ofB ((l.drop (64 * j)).take 64)
theorem wrd_lt (l : List Bool) (j : Nat) : wrd l j < 2 ^ 64 :=
  Nat.lt_of_lt_of_le (ofB_lt _) (Nat.pow_le_pow_right (by omega) (by rw [List.length_take]; omega))
theorem wrd_bit (l : List Bool) (j k : Nat) (hk : k < 64) : (wrd l j).testBit k = l.getD (64 * j + k) false := by
  rw [wrd, ofB_testBit, List.getD_eq_getElem?_getD, List.getElem?_take, if_pos hk, List.getElem?_drop, List.getD_eq_getElem?_getD]
def nw (n : Nat) : Nat := (n + 63) / 64
def wrds (l : List Bool) : List Nat := (List.range (nw l.length)).map (wrd l)
theorem Q1M (l : List Bool) : (wrds l).length = nw l.length := by simp [wrds]
theorem Q2F (l : List Bool) (j : Nat) (h : j < nw l.length) : (wrds l)[j]? = some (wrd l j) := by
  simp [wrds, h]
def bit (W : List Nat) (i : Nat) : Bool := (W.getD (i / 64) 0).testBit (i % 64)
def bts (n : Nat) (W : List Nat) : List Bool := (List.range n).map (bit W)
theorem Q1A (n : Nat) (W : List Nat) : (bts n W).length = n := by simp [bts]
theorem bts_get (n : Nat) (W : List Nat) (i : Nat) (h : i < n) : (bts n W)[i]? = some (bit W i) := by simp [bts, h]
theorem bts_getD (n : Nat) (W : List Nat) (i : Nat) : (bts n W).getD i false = (decide (i < n) && bit W i) := by
  rw [List.getD_eq_getElem?_getD]
  by_cases h : i < n
  · rw [bts_get n W i h]; simp [h]
  · rw [List.getElem?_eq_none (by rw [Q1A]; omega)]; simp [h]
def tight (n : Nat) (W : List Nat) : Prop := W.length = nw n ∧ (∀ x ∈ W, x < 2 ^ 64) ∧ ∀ i, n ≤ i → bit W i = false
theorem getD_lt (W : List Nat) (h : ∀ x ∈ W, x < 2 ^ 64) (j : Nat) : W.getD j 0 < 2 ^ 64 := by
  rw [List.getD_eq_getElem?_getD]
  cases hx : W[j]? with
  | none => simp
  | some x => exact h x (List.mem_of_getElem? hx)
theorem wrds_bts (n : Nat) (W : List Nat) (h : tight n W) : wrds (bts n W) = W := by
  obtain ⟨h1, h2, h3⟩ := h
  refine List.ext_getElem? fun j => ?_
  by_cases hj : j < nw n
  · have hj2 : j < W.length := by omega
    rw [Q2F _ _ (by rw [Q1A]; exact hj), List.getElem?_eq_getElem hj2]
    congr 1
    refine Nat.eq_of_testBit_eq fun k => ?_
    have hg : W.getD j 0 = W[j] := by rw [List.getD_eq_getElem?_getD, List.getElem?_eq_getElem hj2]; rfl
    by_cases hk : k < 64
    · rw [wrd_bit _ _ _ hk, bts_getD]
      have e1 : (64 * j + k) / 64 = j := by omega
      have e2 : (64 * j + k) % 64 = k := by omega
      have e3 : bit W (64 * j + k) = W[j].testBit k := by simp only [bit, e1, e2, hg]
      by_cases hn : 64 * j + k < n
      · rw [decide_eq_true hn, Bool.true_and, e3]
      · rw [decide_eq_false hn, Bool.false_and, ← e3, h3 _ (by omega)]
    · rw [Nat.testBit_lt_two_pow (Nat.lt_of_lt_of_le (wrd_lt _ _) (Nat.pow_le_pow_right (by omega) (by omega))), Nat.testBit_lt_two_pow (Nat.lt_of_lt_of_le (h2 _ (List.getElem_mem hj2)) (Nat.pow_le_pow_right (by omega) (by omega)))]
  · rw [List.getElem?_eq_none (by rw [Q1M, Q1A]; omega), List.getElem?_eq_none (by omega)]
theorem bit_wrds (l : List Bool) (i : Nat) : bit (wrds l) i = l.getD i false := by
  unfold bit
  by_cases h : i / 64 < nw l.length
  · have : (wrds l).getD (i / 64) 0 = wrd l (i / 64) := by rw [List.getD_eq_getElem?_getD, Q2F _ _ h]; rfl
    rw [this, wrd_bit _ _ _ (Nat.mod_lt _ (by omega)), Nat.div_add_mod]
  · have : (wrds l).getD (i / 64) 0 = 0 := by rw [List.getD_eq_getElem?_getD, List.getElem?_eq_none (by rw [Q1M]; omega)]; rfl
    rw [this, Nat.zero_testBit, List.getD_eq_getElem?_getD, List.getElem?_eq_none (by unfold nw at h; omega)]
    rfl
theorem bts_wrds (l : List Bool) : bts l.length (wrds l) = l := by
  refine List.ext_getElem? fun i => ?_
  by_cases hi : i < l.length
  · rw [bts_get _ _ _ hi, bit_wrds, List.getD_eq_getElem?_getD, List.getElem?_eq_getElem hi]; rfl
  · rw [List.getElem?_eq_none (by rw [Q1A]; omega), List.getElem?_eq_none (by omega)]
theorem Q2y (l : List Bool) : tight l.length (wrds l) := by
  refine ⟨Q1M l, fun x hx => ?_, fun i hi => ?_⟩
  · obtain ⟨j, _, rfl⟩ := List.mem_map.1 hx
    exact wrd_lt l j
  · rw [bit_wrds, List.getD_eq_getElem?_getD, List.getElem?_eq_none (by omega)]; rfl
theorem tight_iff (n : Nat) (W : List Nat) (h1 : W.length = nw n) (h2 : ∀ x ∈ W, x < 2 ^ 64) : tight n W ↔ wrds (bts n W) = W := by
  constructor
  · exact wrds_bts n W
  · intro h
    have := Q2y (bts n W)
    rw [h, Q1A] at this
    exact this
theorem tight_last (n : Nat) (W : List Nat) (h1 : W.length = nw n) (h2 : ∀ x ∈ W, x < 2 ^ 64) : tight n W ↔ (n % 64 = 0 ∨ W.getD (W.length - 1) 0 / 2 ^ (n % 64) = 0) := by
  have hbit : ∀ i, W.length ≤ i / 64 → bit W i = false := by
    intro i hi
    unfold bit
    rw [List.getD_eq_getElem?_getD, List.getElem?_eq_none hi]
    exact Nat.zero_testBit _
  unfold nw at h1
  constructor
  · intro ⟨_, _, h3⟩
    by_cases hn : n % 64 = 0
    · exact .inl hn
    · refine .inr (Nat.div_eq_of_lt ?_)
      refine Nat.lt_pow_two_of_testBit _ fun k hk => ?_
      by_cases hk2 : k < 64
      · have := h3 (64 * (W.length - 1) + k) (by omega)
        unfold bit at this
        rw [show (64 * (W.length - 1) + k) / 64 = W.length - 1 by omega, show (64 * (W.length - 1) + k) % 64 = k by omega] at this
        exact this
      · exact Nat.testBit_lt_two_pow (Nat.lt_of_lt_of_le (getD_lt W h2 _) (Nat.pow_le_pow_right (by omega) (by omega)))
  · intro h
    refine ⟨h1, h2, fun i hi => ?_⟩
    by_cases hlt : i / 64 < W.length
    · rcases h with h | h
      · omega
      · have hj : i / 64 = W.length - 1 := by omega
        unfold bit
        rw [hj]
        have hx : W.getD (W.length - 1) 0 < 2 ^ (n % 64) := by
          rcases Nat.div_eq_zero_iff.1 h with h | h
          · exact absurd h (Nat.pos_iff_ne_zero.1 (Nat.two_pow_pos _))
          · exact h
        exact Nat.testBit_lt_two_pow (Nat.lt_of_lt_of_le hx (Nat.pow_le_pow_right (by omega) (by omega)))
    · exact hbit i (by omega)
theorem wrds_snoc (l : List Bool) (b : Bool) : wrds (l ++ [b]) = if l.length % 64 = 0 then wrds l ++ [b.toNat] else (wrds l).set (l.length / 64) ((wrds l).getD (l.length / 64) 0 + 2 ^ (l.length % 64) * b.toNat) := by
  have hold : ∀ j, j < l.length / 64 → wrd (l ++ [b]) j = wrd l j := by
    intro j hj
    unfold wrd
    rw [List.drop_append_of_le_length (by omega), List.take_append_of_le_length (by rw [List.length_drop]; omega)]
  have hnew : wrd (l ++ [b]) (l.length / 64) = wrd l (l.length / 64) + 2 ^ (l.length % 64) * b.toNat := by
    unfold wrd
    have hd : (l.drop (64 * (l.length / 64))).length = l.length % 64 := by rw [List.length_drop]; omega
    rw [List.drop_append_of_le_length (by omega), List.take_of_length_le (by rw [List.length_append, hd, List.length_singleton]; omega), ofB_snoc, hd, List.take_of_length_le (by omega)]
  refine List.ext_getElem? fun j => ?_
  have hlen : (l ++ [b]).length = l.length + 1 := by simp
  by_cases h0 : l.length % 64 = 0
  · rw [if_pos h0]
    have hn : nw l.length = l.length / 64 := by unfold nw; omega
    have hn2 : nw (l ++ [b]).length = l.length / 64 + 1 := by rw [hlen]; unfold nw; omega
    have hz : wrd l (l.length / 64) = 0 := by unfold wrd; rw [drop_nil l (by omega)]; rfl
    by_cases hj : j < l.length / 64
    · rw [Q2F _ _ (by omega), List.getElem?_append_left (by rw [Q1M]; omega), Q2F _ _ (by omega), hold j hj]
    · by_cases hj2 : j = l.length / 64
      · rw [hj2, Q2F _ _ (by omega), hnew, List.getElem?_append_right (by rw [Q1M]; omega), Q1M, hn, hz, h0]
        simp
      · rw [List.getElem?_eq_none (by rw [Q1M]; omega), List.getElem?_eq_none (by rw [List.length_append, Q1M, List.length_singleton]; omega)]
  · rw [if_neg h0]
    have hn : nw l.length = l.length / 64 + 1 := by unfold nw; omega
    have hn2 : nw (l ++ [b]).length = l.length / 64 + 1 := by rw [hlen]; unfold nw; omega
    have hg : (wrds l).getD (l.length / 64) 0 = wrd l (l.length / 64) := by rw [List.getD_eq_getElem?_getD, Q2F _ _ (by omega)]; rfl
    by_cases hj : j < l.length / 64
    · rw [Q2F _ _ (by omega), List.getElem?_set_ne (by omega), Q2F _ _ (by omega), hold j hj]
    · by_cases hj2 : j = l.length / 64
      · rw [hj2, Q2F _ _ (by omega), hnew, List.getElem?_set_self (by rw [Q1M]; omega), hg]
      · rw [List.getElem?_eq_none (by rw [Q1M]; omega), List.getElem?_eq_none (by rw [List.length_set, Q1M]; omega)]
def bint (b : Bool) : Int := (b.toNat : Int)
abbrev Qe (l : List Bool) : List Int := l.map bint
theorem testBit_div (x k : Nat) : x / 2 ^ k % 2 = (x.testBit k).toNat := by
  rw [Nat.testBit_eq_decide_div_mod_eq]
  have := Nat.mod_lt (x / 2 ^ k) (show 0 < 2 by omega)
  by_cases h : x / 2 ^ k % 2 = 1
  · rw [decide_eq_true h, h]; rfl
  · rw [decide_eq_false h]; simp; omega
end Go.Ev.W
/- The order of texts and of suffixes. -/
set_option linter.unusedVariables false
set_option linter.unusedSimpArgs false
namespace Go.Ev.W
open Go.Ev
def cmpN : List Nat → List Nat → Int
  | [], [] => 0
  | [], _ :: _ => -1
  | _ :: _, [] => 1
  | a :: x, b :: y => if a < b then -1 else if b < a then 1 else cmpN x y
theorem cmpN_self : ∀ x, cmpN x x = 0
  | [] => rfl
  | a :: x => by rw [cmpN, if_neg (by omega), if_neg (by omega)]; exact cmpN_self x
theorem Q2r : ∀ x y, cmpN y x = - cmpN x y
  | [], [] => rfl
  | [], _ :: _ => rfl
  | _ :: _, [] => rfl
  | a :: x, b :: y => by
    rw [cmpN, cmpN]
    by_cases h1 : a < b
    · rw [if_pos h1, if_neg (by omega), if_pos h1]; rfl
    · by_cases h2 : b < a
      · simp [h1, h2]
      · rw [if_neg h1, if_neg h2, if_neg h2, if_neg h1]; exact Q2r x y
theorem cmpN_eq : ∀ x y, cmpN x y = 0 → x = y
  | [], [], _ => rfl
  | [], _ :: _, h => by cases h
  | _ :: _, [], h => by cases h
  | a :: x, b :: y, h => by
    rw [cmpN] at h
    by_cases h1 : a < b
    · rw [if_pos h1] at h; cases h
    · by_cases h2 : b < a
      · rw [if_neg h1, if_pos h2] at h; cases h
      · rw [if_neg h1, if_neg h2] at h
        rw [cmpN_eq x y h, show a = b by omega]
theorem cmpN_le : ∀ x y z, cmpN x y ≤ 0 → cmpN y z ≤ 0 → cmpN x z ≤ 0
  | [], [], _, _, h => h
  | [], _ :: _, [], _, _ => by decide
  | [], _ :: _, _ :: _, _, _ => show (-1 : Int) ≤ 0 by decide
  | _ :: _, [], _, h, _ => by cases h
  | _ :: _, _ :: _, [], _, h => by cases h
  | a :: x, b :: y, c :: z, h1, h2 => by
    rw [cmpN] at h1 h2 ⊢
    by_cases p1 : a < b
    · by_cases p2 : b < c
      · rw [if_pos (by omega)]; decide
      · by_cases p3 : c < b
        · rw [if_neg p2, if_pos p3] at h2; exact absurd h2 (by decide)
        · rw [if_pos (by omega)]; decide
    · by_cases p4 : b < a
      · rw [if_neg p1, if_pos p4] at h1; exact absurd h1 (by decide)
      · rw [if_neg p1, if_neg p4] at h1
        by_cases p2 : b < c
        · rw [if_pos (by omega)]; decide
        · by_cases p3 : c < b
          · rw [if_neg p2, if_pos p3] at h2; exact absurd h2 (by decide)
          · rw [if_neg p2, if_neg p3] at h2
            rw [if_neg (by omega), if_neg (by omega)]
            exact cmpN_le x y z h1 h2
theorem Q3Q {x y z : List Nat} (h1 : cmpN x y < 0) (h2 : cmpN y z < 0) : cmpN x z < 0 := by
  have h := cmpN_le x y z (by omega) (by omega)
  rcases Int.lt_or_eq_of_le h with h | h
  · exact h
  · have := cmpN_eq x z h
    subst this
    have := Q2r x y
    omega
theorem cmpB_eq : ∀ (X Y : List Nat), (∀ x ∈ X, x < 256) → (∀ y ∈ Y, y < 256) → cmpB (ints X) (ints Y) = cmpN X Y
  | [], [], _, _ => rfl
  | [], _ :: _, _, _ => rfl
  | _ :: _, [], _, _ => rfl
  | a :: X, b :: Y, hx, hy => by
    have ih := cmpB_eq X Y (fun x h => hx x (List.mem_cons_of_mem _ h)) (fun y h => hy y (List.mem_cons_of_mem _ h))
    have ha := hx a List.mem_cons_self
    have hb := hy b List.mem_cons_self
    have lt : ∀ c d : Nat, c < 256 → d < 256 → (UInt8.ofNat (c : Int).toNat < UInt8.ofNat (d : Int).toNat ↔ c < d) := by
      intro c d hc hd
      rw [UInt8.lt_iff_toNat_lt, Int.toNat_natCast, Int.toNat_natCast, UInt8.toNat_ofNat', UInt8.toNat_ofNat', Nat.mod_eq_of_lt hc, Nat.mod_eq_of_lt hd]
    show (if UInt8.ofNat (a : Int).toNat < UInt8.ofNat (b : Int).toNat then (-1 : Int) else if UInt8.ofNat (b : Int).toNat < UInt8.ofNat (a : Int).toNat then 1 else cmpB (ints X) (ints Y)) = _
    rw [cmpN, ih]
    simp only [lt a b ha hb, lt b a hb ha]
theorem l05Cmp_l0 (X Y : List Nat) (hX : X.length ≤ 4000000) (hY : Y.length ≤ 4000000) : ∀ (d i : Nat), X.length - i = d → i ≤ X.length → i ≤ Y.length → QD_l0 (ints X) (ints Y) i = some (cmpN (X.drop i) (Y.drop i)) := by
  have tail : ∀ i : Nat, (i = X.length ∨ i = Y.length) → i ≤ X.length → i ≤ Y.length → (bif decide (((ints X).length : Int) < ((ints Y).length : Int)) then some (-1 : Int) else bif decide (((ints X).length : Int) > ((ints Y).length : Int)) then some (1 : Int) else some (0 : Int)) = some (cmpN (X.drop i) (Y.drop i)) := by
    intro i h1 h2 h3
    rw [List.length_map, List.length_map]
    by_cases p1 : X.length < Y.length
    · rw [Q2 (by omega), List.drop_eq_nil_of_le (show X.length ≤ i by omega), List.drop_eq_getElem_cons (show i < Y.length by omega)]; rfl
    · rw [Q3 (by omega)]
      by_cases p2 : Y.length < X.length
      · rw [Q2 (by omega), List.drop_eq_nil_of_le (show Y.length ≤ i by omega), List.drop_eq_getElem_cons (show i < X.length by omega)]; rfl
      · rw [Q3 (by omega), List.drop_eq_nil_of_le (show Y.length ≤ i by omega), List.drop_eq_nil_of_le (show X.length ≤ i by omega)]; rfl
  intro d
  induction d with
  | zero =>
    intro i h1 h2 h3
    rw [QD_l0.eq, Q3 (by rw [List.length_map]; omega)]
    exact tail i (by omega) h2 h3
  | succ d ih =>
    intro i h1 h2 h3
    have hi : i < X.length := by omega
    rw [QD_l0.eq, Q2 (by rw [List.length_map]; omega)]
    by_cases hj : i < Y.length
    · rw [Q2 (by rw [List.length_map]; omega), QD_l1.eq, Q0s _ _ hi, Option.bind_some, Q0s _ _ hj, Option.bind_some, Option.bind_some, Option.bind_some, Q6 i (by omega), ih (i + 1) (by omega) (by omega) (by omega), List.drop_eq_getElem_cons hi, List.drop_eq_getElem_cons hj, cmpN]
      by_cases p1 : X[i] < Y[i]
      · rw [Q2 (by omega), if_pos p1]
      · rw [Q3 (by omega), if_neg p1]
        by_cases p2 : Y[i] < X[i]
        · rw [Q2 (by omega), if_pos p2]
        · rw [Q3 (by omega), if_neg p2]
    · rw [Q3 (by rw [List.length_map]; omega)]
      exact tail i (by omega) h2 h3
theorem l05Cmp_eq (X Y : List Nat) (hX : X.length ≤ 4000000) (hY : Y.length ≤ 4000000) : QD (ints X) (ints Y) = some (cmpN X Y) := by
  rw [QD.eq]
  exact l05Cmp_l0 X Y hX hY _ 0 rfl (by omega) (by omega)
def Q1D (D : List Nat) (a b : Nat) : Prop := cmpN (D.drop a) (D.drop b) < 0
theorem suf_tri (D : List Nat) (a b : Nat) (ha : a ≤ D.length) (hb : b ≤ D.length) (h : ¬ Q1D D a b) (h' : ¬ Q1D D b a) : a = b := by
  unfold Q1D at h h'
  have := Q2r (D.drop a) (D.drop b)
  have := congrArg List.length (cmpN_eq (D.drop a) (D.drop b) (by omega))
  rw [List.length_drop, List.length_drop] at this
  omega
end Go.Ev.W
/- The rows of suffixes: the program's and the reference's. -/
set_option linter.unusedVariables false
set_option linter.unusedSimpArgs false
namespace Go.Ev.W
open Go.Ev
theorem Q3h (D : List Nat) (a : Nat) : ¬ Q1D D a a := by unfold Q1D; rw [cmpN_self]; omega
theorem Q3R {D : List Nat} {a b c : Nat} (h1 : Q1D D a b) (h2 : Q1D D b c) : Q1D D a c := Q3Q h1 h2
theorem sufLt_not {D : List Nat} {a b : Nat} (ha : a ≤ D.length) (hb : b ≤ D.length) (hne : a ≠ b) (h : ¬ Q1D D a b) : Q1D D b a :=
  Classical.byContradiction fun h' => hne (suf_tri D a b ha hb h h')
structure SS (D : List Nat) (lo : Nat) (S : List Nat) : Prop where
  pw : S.Pairwise (Q1D D)
  mem : ∀ x, x ∈ S ↔ lo ≤ x ∧ x ≤ D.length
theorem sorted_unique {D : List Nat} : ∀ {S T : List Nat}, S.Pairwise (Q1D D) → T.Pairwise (Q1D D) → (∀ x, x ∈ S ↔ x ∈ T) → S = T
  | [], [], _, _, _ => rfl
  | [], b :: T, _, _, h => by have := (h b).2 List.mem_cons_self; cases this
  | a :: S, [], _, _, h => by have := (h a).1 List.mem_cons_self; cases this
  | a :: S, b :: T, h1, h2, h => by
    obtain ⟨p1, q1⟩ := List.pairwise_cons.1 h1
    obtain ⟨p2, q2⟩ := List.pairwise_cons.1 h2
    have hab : a = b := by
      rcases List.mem_cons.1 ((h a).1 List.mem_cons_self) with h3 | h3
      · exact h3
      · rcases List.mem_cons.1 ((h b).2 List.mem_cons_self) with h4 | h4
        · exact h4.symm
        · exact absurd (Q3R (p1 b h4) (p2 a h3)) (Q3h D a)
    subst hab
    rw [sorted_unique q1 q2 fun x => ⟨fun hx => ?_, fun hx => ?_⟩]
    · rcases List.mem_cons.1 ((h x).1 (List.mem_cons_of_mem _ hx)) with h3 | h3
      · subst h3; exact absurd (p1 x hx) (Q3h D x)
      · exact h3
    · rcases List.mem_cons.1 ((h x).2 (List.mem_cons_of_mem _ hx)) with h3 | h3
      · subst h3; exact absurd (p2 x hx) (Q3h D x)
      · exact h3
theorem SS.unique {D : List Nat} {lo : Nat} {S T : List Nat} (h : SS D lo S) (k : SS D lo T) : S = T :=
  sorted_unique h.pw k.pw fun x => (h.mem x).trans (k.mem x).symm
theorem SS.nodup {D : List Nat} {lo : Nat} {S : List Nat} (h : SS D lo S) : S.Nodup :=
  h.pw.imp fun {a b} hab e => by subst e; exact Q3h D a hab
theorem SS.length {D : List Nat} {lo : Nat} {S : List Nat} (h : SS D lo S) (hlo : lo ≤ D.length + 1) : S.length = D.length + 1 - lo := by
  have hp : S.Perm ((List.range (D.length + 1 - lo)).map (· + lo)) := by
    refine (List.perm_ext_iff_of_nodup h.nodup ?_).2 fun x => ?_
    · exact List.Pairwise.map _ (fun a b hab => by simp only [ne_eq] at hab ⊢; omega) List.nodup_range
    · rw [h.mem]
      simp only [List.mem_map, List.mem_range]
      constructor
      · intro ⟨h1, h2⟩; exact ⟨x - lo, by omega, by omega⟩
      · rintro ⟨y, hy, rfl⟩; omega
  have := hp.length_eq
  simpa using this
def srt (D : List Nat) : List Nat := (List.range (D.length + 1)).mergeSort fun a b => !decide (cmpN (D.drop b) (D.drop a) < 0)
theorem Q2s (D : List Nat) : SS D 0 (srt D) := by
  have hperm : (srt D).Perm (List.range (D.length + 1)) := List.mergeSort_perm ..
  have hmem : ∀ x, x ∈ srt D ↔ 0 ≤ x ∧ x ≤ D.length := fun x => by rw [hperm.mem_iff, List.mem_range]; omega
  refine ⟨?_, hmem⟩
  have hnd : (srt D).Nodup := hperm.nodup_iff.2 List.nodup_range
  have hs : (srt D).Pairwise fun a b => (!decide (cmpN (D.drop b) (D.drop a) < 0)) = true := by
    refine List.pairwise_mergeSort (fun a b c h1 h2 => ?_) (fun a b => ?_) _
    · simp only [Bool.not_eq_true', decide_eq_false_iff_not] at h1 h2 ⊢
      have e1 := Q2r (D.drop a) (D.drop b)
      have e2 := Q2r (D.drop b) (D.drop c)
      have e3 := Q2r (D.drop a) (D.drop c)
      have := cmpN_le (D.drop a) (D.drop b) (D.drop c) (by omega) (by omega)
      omega
    · have e1 := Q2r (D.drop a) (D.drop b)
      by_cases h : cmpN (D.drop b) (D.drop a) < 0
      · have : ¬ cmpN (D.drop a) (D.drop b) < 0 := by omega
        simp [this]
      · simp [h]
  have hand := List.Pairwise.and hs hnd
  refine List.Pairwise.imp_of_mem (fun {a b} ha hb h => ?_) hand
  obtain ⟨h1, h2⟩ := h
  simp only [Bool.not_eq_true', decide_eq_false_iff_not] at h1
  exact Classical.byContradiction fun h3 => h2 (suf_tri D a b ((hmem a).1 ha).2 ((hmem b).1 hb).2 h3 h1)
theorem get_lt {D S : List Nat} (h : S.Pairwise (Q1D D)) {i j : Nat} (hij : i < j) (hj : j < S.length) : Q1D D (S[i]'(by omega)) S[j] :=
  List.pairwise_iff_getElem.1 h i j (by omega) hj hij
theorem SS.insert {D : List Nat} {i : Nat} {S : List Nat} (h : SS D (i + 1) S) (hi : i ≤ D.length) (k : Nat) (hk : k ≤ S.length) (h1 : ∀ j, (hj : j < S.length) → j < k → Q1D D S[j] i) (h2 : ∀ j, (hj : j < S.length) → k ≤ j → Q1D D i S[j]) : SS D i (S.take k ++ i :: S.drop k) := by
  refine ⟨?_, fun x => ?_⟩
  · have hpw := h.pw
    rw [← List.take_append_drop k S] at hpw
    obtain ⟨p1, p2, p3⟩ := List.pairwise_append.1 hpw
    refine List.pairwise_append.2 ⟨p1, List.pairwise_cons.2 ⟨fun x hx => ?_, p2⟩, fun x hx y hy => ?_⟩
    · obtain ⟨j, hj, rfl⟩ := List.getElem_of_mem hx
      rw [List.getElem_drop]
      rw [List.length_drop] at hj
      exact h2 (k + j) (by omega) (by omega)
    · have hxi : Q1D D x i := by
        obtain ⟨j, hj, rfl⟩ := List.getElem_of_mem hx
        rw [List.getElem_take]
        rw [List.length_take] at hj
        exact h1 j (by omega) (by omega)
      rcases List.mem_cons.1 hy with rfl | hy
      · exact hxi
      · exact p3 x hx y hy
  · have hm := h.mem x
    rw [← List.take_append_drop k S, List.mem_append] at hm
    rw [List.mem_append, List.mem_cons]
    constructor
    · rintro (h3 | h3 | h3)
      · have := hm.1 (.inl h3); omega
      · omega
      · have := hm.1 (.inr h3); omega
    · intro h3
      by_cases hx : x = i
      · exact .inr (.inl hx)
      · rcases hm.2 (by omega) with h4 | h4
        · exact .inl h4
        · exact .inr (.inr h4)
theorem specSuf_l1 (D : List Nat) (hD : D.length ≤ 300) (i : Nat) (hi : i ≤ D.length) (S : List Nat) (hS : SS D (i + 1) S) : ∀ (d lo hi' : Nat), hi' - lo = d → lo ≤ hi' → hi' ≤ S.length → (∀ j, (hj : j < S.length) → j < lo → Q1D D S[j] i) → (∀ j, (hj : j < S.length) → hi' ≤ j → Q1D D i S[j]) →
    ∃ T, SS D i T ∧ Qz_l1 (ints D) i lo hi' (ints S) = Qz_l0 (ints D) ((i : Int) - 1) (ints T) := by
  have hSl := hS.length (by omega)
  intro d
  induction d using Nat.strongRecOn with
  | ind d ih =>
    intro lo hi' hd hle hhi h1 h2
    rw [Qz_l1.eq]
    by_cases hlt : lo < hi'
    · have e1 : (((lo : Int) + hi').tdiv 2) = (((lo + hi') / 2 : Nat) : Int) := by rw [show (lo : Int) + hi' = ((lo + hi' : Nat) : Int) by omega]; rfl
      have hm : (lo + hi') / 2 < S.length := by omega
      have hmx := (hS.mem S[(lo + hi') / 2]).1 (List.getElem_mem hm)
      rw [Q2 (by omega), Qb (x := (lo : Int) + hi') (by omega) (by omega), e1, Q2q (by omega), Q0s _ _ hm, Option.bind_some, Int.toNat_natCast, Q1S _ _ hm, Option.bind_some, List.length_map,
        Q2 (show (0 : Int) ≤ ((S[(lo + hi') / 2] : Nat) : Int) ∧ ((S[(lo + hi') / 2] : Nat) : Int) ≤ ((D.length : Nat) : Int) by omega), Q2 (show (0 : Int) ≤ (i : Int) ∧ (i : Int) ≤ ((D.length : Nat) : Int) by omega), Int.toNat_natCast, Int.toNat_natCast]
      have e2 : ∀ a : Nat, ((ints D).take D.length).drop a = ints (D.drop a) := fun a => by rw [List.take_of_length_le (by rw [List.length_map]; omega)]; exact (List.map_drop).symm
      rw [e2, e2, l05Cmp_eq _ _ (by rw [List.length_drop]; omega) (by rw [List.length_drop]; omega), Option.bind_some]
      by_cases hc : cmpN (D.drop S[(lo + hi') / 2]) (D.drop i) < 0
      · rw [Q2 hc, Q6 _ (by omega)]
        refine ih (hi' - ((lo + hi') / 2 + 1)) (by omega) ((lo + hi') / 2 + 1) hi' rfl (by omega) hhi (fun j hj hjl => ?_) h2
        by_cases hj2 : j = (lo + hi') / 2
        · subst hj2; exact hc
        · exact Q3R (get_lt hS.pw (show j < (lo + hi') / 2 by omega) hm) hc
      · rw [Q3 hc]
        have hlt2 : Q1D D i S[(lo + hi') / 2] := sufLt_not hmx.2 hi (by omega) hc
        refine ih ((lo + hi') / 2 - lo) (by omega) lo ((lo + hi') / 2) rfl (by omega) (by omega) h1 (fun j hj hjl => ?_)
        by_cases hj2 : j = (lo + hi') / 2
        · subst hj2; exact hlt2
        · exact Q3R hlt2 (get_lt hS.pw (show (lo + hi') / 2 < j by omega) hj)
    · have hll : (ints S).length = S.length := List.length_map ..
      obtain rfl : lo = hi' := by omega
      rw [Q3 (by omega)]
      simp only [Int.toNat_natCast, List.drop_zero, Nat.sub_zero, List.nil_append, hll]
      have e3 : ((ints S).drop lo).take (S.length - lo) = ints (S.drop lo) := by rw [List.take_of_length_le (by rw [List.length_drop, hll]; omega)]; exact (List.map_drop).symm
      have e4 : (ints S).take lo = ints (S.take lo) := (List.map_take).symm
      rw [e3, e4]
      rw [Q2 (show (0 : Int) ≤ (lo : Int) ∧ (lo : Int) ≤ ((S.length : Nat) : Int) by omega), Q2 (by simp only [List.length_cons, List.length_nil, List.length_map, List.length_drop]; omega), Q2 (show (0 : Int) ≤ (lo : Int) ∧ (lo : Int) ≤ ((S.length : Nat) : Int) by omega), Q2 (by simp only [List.length_nil, List.length_map, List.length_take]; omega),
        Q2 (by simp only [List.length_append, List.length_cons, List.length_nil, List.length_map, List.length_take, List.length_drop]; omega), Qb (by omega) (by omega)]
      refine ⟨_, hS.insert hi lo hhi h1 h2, ?_⟩
      congr 1
      show _ = List.map _ _
      rw [List.map_append]; rfl
theorem specSuf_l0 (D : List Nat) (hD : D.length ≤ 300) : ∀ (i : Nat) (S : List Nat), i ≤ D.length + 1 → SS D i S → Qz_l0 (ints D) ((i : Int) - 1) (ints S) = some (ints (srt D)) := by
  intro i
  induction i with
  | zero =>
    intro S hi hS
    rw [Qz_l0.eq, Q3 (show ¬ ((0 : Nat) : Int) - 1 ≥ 0 by omega), hS.unique (Q2s D)]
  | succ i ih =>
    intro S hi hS
    have hSl := hS.length hi
    rw [Qz_l0.eq, show ((i + 1 : Nat) : Int) - 1 = (i : Int) by omega, Q2 (show (i : Int) ≥ 0 by omega), List.length_map]
    obtain ⟨T, hT, e⟩ := specSuf_l1 D hD i (by omega) S hS _ 0 S.length rfl (by omega) (by omega) (fun j hj h => by omega) (fun j hj h => by omega)
    exact e.trans (ih T (by omega) hT)
theorem specSuf_eq (D : List Nat) (hD : D.length ≤ 300) : Qz (ints D) = some (ints (srt D)) := by
  rw [Qz.eq, Q0B.eq, List.length_map, Option.bind_some, decide_eq_true (show (D.length : Int) ≤ 300 by omega), Bool.not_true, Qd]
  have := specSuf_l0 D hD (D.length + 1) [] (by omega) ⟨.nil, fun x => ⟨fun h => (List.not_mem_nil h).elim, fun h => by omega⟩⟩
  rw [show ((D.length + 1 : Nat) : Int) - 1 = (D.length : Int) by omega] at this
  exact this
theorem suf1_eq (D : List Nat) (hD : ∀ x ∈ D, x < 256) (i j : Nat) (hi : i ≤ D.length) (hj : j ≤ D.length) : Q0H i j (ints D) = some (cmpN (D.drop i) (D.drop j)) := by
  have e2 : ∀ a : Nat, ((ints D).take D.length).drop a = ints (D.drop a) := fun a => by rw [List.take_of_length_le (by rw [List.length_map]; omega)]; exact (List.map_drop).symm
  rw [Q0H.eq, List.length_map, Q2 (show (0 : Int) ≤ (i : Int) ∧ (i : Int) ≤ ((D.length : Nat) : Int) by omega), Q2 (show (0 : Int) ≤ (j : Int) ∧ (j : Int) ≤ ((D.length : Nat) : Int) by omega), Int.toNat_natCast, Int.toNat_natCast, e2, e2, Q1q.eq]
  have e3 : Q1O (ints (D.drop i)) (ints (D.drop j)) = some (cmpN (D.drop i) (D.drop j)) := by
    unfold Q1O
    rw [show ((ints (D.drop i)).map fun x => x) = ints (D.drop i) from List.map_id _, show ((ints (D.drop j)).map fun x => x) = ints (D.drop j) from List.map_id _, cmpB_eq _ _ (fun x hx => hD x (List.mem_of_mem_drop hx)) (fun x hx => hD x (List.mem_of_mem_drop hx))]
  rw [e3]; rfl
theorem implSuf_l0 (D : List Nat) (hD : D.length ≤ 300) : ∀ (d i : Nat), D.length + 1 - i = d → i ≤ D.length + 1 → Q0d_l0 ((D.length + 1 : Nat) : Int) i (ints D) (ints (List.range i)) = (Q1L (ints (List.range (D.length + 1))) (ints D)).bind fun y => some y := by
  intro d
  induction d with
  | zero =>
    intro i h1 h2
    obtain rfl : i = D.length + 1 := by omega
    rw [Q0d_l0.eq, Q3 (by omega)]
  | succ d ih =>
    intro i h1 h2
    rw [Q0d_l0.eq, Q2 (by omega), Q2 (by simp only [List.length_cons, List.length_nil, List.length_map, List.length_range]; omega), Q6 i (by omega)]
    have e : ints (List.range i) ++ [(i : Int)] = ints (List.range (i + 1)) := by
      rw [List.range_succ]
      exact (List.map_append (f := fun (x : Nat) => (x : Int)) (l₁ := List.range i) (l₂ := [i])).symm
    rw [e]
    exact ih (i + 1) (by omega) (by omega)
theorem sort_eq (D : List Nat) (hD : D.length ≤ 300) (hb : ∀ x ∈ D, x < 256) : Q1L (ints (List.range (D.length + 1))) (ints D) = some (ints (srt D)) := by
  have hF : ∀ a ∈ ints (List.range (D.length + 1)), ∃ i : Nat, a = i ∧ i ≤ D.length := fun a ha => by
    obtain ⟨i, hi, rfl⟩ := List.mem_map.1 ha
    exact ⟨i, rfl, by have := List.mem_range.1 hi; omega⟩
  have hv : ∀ i j : Nat, i ≤ D.length → j ≤ D.length → Q0H (i : Int) (j : Int) (ints D) = some (cmpN (D.drop i) (D.drop j)) := fun i j h1 h2 => suf1_eq D hb i j h1 h2
  have hok : OkSort (fun a b => Q0H a b (ints D)) (ints (List.range (D.length + 1))) := by
    refine ⟨by rw [List.length_map, List.length_range]; omega, ?_, ?_, ?_, ?_, ?_⟩
    · intro a ha b hb'
      obtain ⟨i, rfl, hi⟩ := hF a ha
      obtain ⟨j, rfl, hj⟩ := hF b hb'
      rw [hv i j hi hj]; rfl
    · intro a ha
      obtain ⟨i, rfl, hi⟩ := hF a ha
      rw [hv i i hi hi, cmpN_self]; decide
    · intro a ha b hb' c hc h1 h2
      obtain ⟨i, rfl, hi⟩ := hF a ha
      obtain ⟨j, rfl, hj⟩ := hF b hb'
      obtain ⟨k, rfl, hk⟩ := hF c hc
      rw [hv i j hi hj] at h1
      rw [hv j k hj hk] at h2
      rw [hv i k hi hk]
      exact Q3Q h1 h2
    · intro a ha b hb' c hc h1 h2
      obtain ⟨i, rfl, hi⟩ := hF a ha
      obtain ⟨j, rfl, hj⟩ := hF b hb'
      obtain ⟨k, rfl, hk⟩ := hF c hc
      rw [hv i j hi hj] at h1
      rw [hv j k hj hk] at h2
      rw [hv i k hi hk]
      simp only [Option.getD_some] at h1 h2 ⊢
      have e1 := Q2r (D.drop i) (D.drop j)
      have e2 := Q2r (D.drop j) (D.drop k)
      have e3 := Q2r (D.drop i) (D.drop k)
      have := cmpN_le (D.drop k) (D.drop j) (D.drop i) (by omega) (by omega)
      omega
    · intro a ha b hb' h1 h2
      obtain ⟨i, rfl, hi⟩ := hF a ha
      obtain ⟨j, rfl, hj⟩ := hF b hb'
      rw [hv i j hi hj] at h1
      rw [hv j i hj hi] at h2
      rw [suf_tri D i j hi hj h1 h2]
  unfold Q1L sortC
  rw [if_pos hok]
  congr 1
  unfold srt
  refine (List.map_mergeSort (f := fun (x : Nat) => (x : Int)) (fun i hi j hj => ?_)).symm
  show _ = !decide ((Q0H (j : Int) (i : Int) (ints D)).getD 0 < 0)
  rw [hv j i (by have := List.mem_range.1 hj; omega) (by have := List.mem_range.1 hi; omega)]
  rfl
theorem implSuf_eq (D : List Nat) (hD : D.length ≤ 300) (hb : ∀ x ∈ D, x < 256) : Q0d (ints D) = some (ints (srt D)) := by
  rw [Q0d.eq, List.length_map, Qb (by omega) (by omega)]
  have := implSuf_l0 D hD _ 0 rfl (by omega)
  rw [sort_eq D hD hb] at this
  exact this
end Go.Ev.W
/- The transform of a text. -/
set_option linter.unusedVariables false
set_option linter.unusedSimpArgs false
namespace Go.Ev.W
open Go.Ev
def bwS (D : List Nat) (s : Nat) : Nat := if s = 0 then 0 else D.getD (s - 1) 0 + 1
def bwt (D : List Nat) : List Nat := (srt D).map (bwS D)
theorem Q1T (D : List Nat) : (srt D).length = D.length + 1 := by have := (Q2s D).length (by omega); omega
theorem Q1x (D : List Nat) : (bwt D).length = D.length + 1 := by unfold bwt; rw [List.length_map, Q1T]
theorem bwt_step (D : List Nat) (i : Nat) (hi : i < (srt D).length) : ints ((bwt D).take i) ++ [((bwS D (srt D)[i] : Nat) : Int)] = ints ((bwt D).take (i + 1)) := by
  have hi2 : i < (bwt D).length := by unfold bwt; rw [List.length_map]; exact hi
  rw [List.take_add_one, List.getElem?_eq_getElem hi2]
  have e : (bwt D)[i] = bwS D (srt D)[i] := by simp only [bwt, List.getElem_map]
  rw [e]
  exact (List.map_append (f := fun (x : Nat) => (x : Int)) (l₁ := (bwt D).take i) (l₂ := [bwS D (srt D)[i]])).symm
theorem bwS_pos (D : List Nat) (hD : ∀ x ∈ D, x < 256) (s : Nat) (h0 : s ≠ 0) (hs : s ≤ D.length) : at? (ints D) (IntKind.i64.wrap ((s : Int) - 1)) = some ((D.getD (s - 1) 0 : Nat) : Int) ∧ IntKind.i64.wrap ((IntKind.i64.wrap ((D.getD (s - 1) 0 : Nat) : Int)) + 1) = ((bwS D s : Nat) : Int) ∨ D.length > 1000000 := by
  by_cases hl : D.length > 1000000
  · exact .inr hl
  refine .inl ⟨?_, ?_⟩
  · rw [Qb (by omega) (by omega), show (s : Int) - 1 = ((s - 1 : Nat) : Int) by omega, Q0s D (s - 1) (by omega), List.getD_eq_getElem?_getD, List.getElem?_eq_getElem (show s - 1 < D.length by omega)]; rfl
  · have hx : D.getD (s - 1) 0 < 256 := by
      rw [List.getD_eq_getElem?_getD, List.getElem?_eq_getElem (show s - 1 < D.length by omega)]
      exact hD _ (List.getElem_mem _)
    rw [Qb (x := ((D.getD (s - 1) 0 : Nat) : Int)) (by omega) (by omega), Qb (by omega) (by omega)]
    unfold bwS
    rw [if_neg h0]; rfl
theorem specBwt_l0 (D : List Nat) (hl : D.length ≤ 300) (hD : ∀ x ∈ D, x < 256) : ∀ (d i : Nat), D.length + 1 - i = d → i ≤ D.length + 1 → Qt_l0 (ints D) i (ints (srt D)) (ints ((bwt D).take i)) = some (ints (bwt D)) := by
  have hsl := Q1T D
  have hll : (ints (srt D)).length = D.length + 1 := by rw [List.length_map, hsl]
  intro d
  induction d with
  | zero =>
    intro i h1 h2
    obtain rfl : i = D.length + 1 := by omega
    rw [Qt_l0.eq, hll, Q3 (by omega), List.take_of_length_le (by rw [Q1x]; omega)]
  | succ d ih =>
    intro i h1 h2
    have hi : i < (srt D).length := by omega
    have hm := ((Q2s D).mem _).1 (List.getElem_mem hi)
    have hout : (ints ((bwt D).take i)).length = i := by rw [List.length_map, List.length_take, Q1x]; omega
    rw [Qt_l0.eq, hll, Q2 (by omega), Q0s _ _ hi, Option.bind_some, Int.toNat_natCast, Q1S _ _ hi, Option.bind_some]
    by_cases h0 : (srt D)[i] = 0
    · rw [Q07 (by omega), Q2 (by rw [hout]; simp only [List.length_cons, List.length_nil]; omega), Q6 i (by omega)]
      have := bwt_step D i hi
      rw [show bwS D (srt D)[i] = 0 by unfold bwS; rw [if_pos h0]] at this
      have e : ints ((bwt D).take i) ++ [(0 : Int)] = ints ((bwt D).take (i + 1)) := this
      rw [e]
      exact ih (i + 1) (by omega) (by omega)
    · rcases bwS_pos D hD _ h0 hm.2 with ⟨e1, e2⟩ | h
      · rw [Q0a (by omega), Option.bind_some, Option.bind_some, e1, Option.bind_some, Q2 (by rw [hout]; simp only [List.length_cons, List.length_nil]; omega), Q6 i (by omega), e2, bwt_step D i hi]
        exact ih (i + 1) (by omega) (by omega)
      · omega
theorem Q2n (D : List Nat) (hl : D.length ≤ 300) (hD : ∀ x ∈ D, x < 256) : Qt (ints D) = some (ints (bwt D)) := by
  rw [Qt.eq, specSuf_eq D hl, Option.bind_some]
  exact specBwt_l0 D hl hD _ 0 rfl (by omega)
theorem implBwt_l0 (D : List Nat) (hl : D.length ≤ 300) (hD : ∀ x ∈ D, x < 256) : ∀ (d i : Nat), D.length + 1 - i = d → i ≤ D.length + 1 → QB_l0 (ints D) ((D.length + 1 : Nat) : Int) i (ints ((bwt D).take i)) (ints (srt D)) = some (ints (bwt D)) := by
  have hsl := Q1T D
  intro d
  induction d with
  | zero =>
    intro i h1 h2
    obtain rfl : i = D.length + 1 := by omega
    rw [QB_l0.eq, Q3 (by omega), List.take_of_length_le (by rw [Q1x]; omega)]
  | succ d ih =>
    intro i h1 h2
    have hi : i < (srt D).length := by omega
    have hm := ((Q2s D).mem _).1 (List.getElem_mem hi)
    have hout : (ints ((bwt D).take i)).length = i := by rw [List.length_map, List.length_take, Q1x]; omega
    rw [QB_l0.eq, Q2 (by omega), Q0s _ _ hi, Option.bind_some, Int.toNat_natCast, Q1S _ _ hi, Option.bind_some]
    by_cases h0 : (srt D)[i] = 0
    · rw [Q07 (by omega), Q2 (by rw [hout]; simp only [List.length_cons, List.length_nil]; omega), Q6 i (by omega)]
      have := bwt_step D i hi
      rw [show bwS D (srt D)[i] = 0 by unfold bwS; rw [if_pos h0]] at this
      have e : ints ((bwt D).take i) ++ [(0 : Int)] = ints ((bwt D).take (i + 1)) := this
      rw [e]
      exact ih (i + 1) (by omega) (by omega)
    · rcases bwS_pos D hD _ h0 hm.2 with ⟨e1, e2⟩ | h
      · rw [Q0a (by omega), e1, Option.bind_some, Q2 (by rw [hout]; simp only [List.length_cons, List.length_nil]; omega), Q6 i (by omega), e2, bwt_step D i hi]
        exact ih (i + 1) (by omega) (by omega)
      · omega
theorem Q31 (D : List Nat) (hl : D.length ≤ 300) (hD : ∀ x ∈ D, x < 256) : QB (ints D) = some (ints (bwt D)) := by
  rw [QB.eq, implSuf_eq D hl hD, Option.bind_some, List.length_map, Q1T]
  exact implBwt_l0 D hl hD _ 0 rfl (by omega)
end Go.Ev.W
/- Symbols: which lists are valid; how many are less than each. -/
set_option linter.unusedVariables false
set_option linter.unusedSimpArgs false
namespace Go.Ev.W
open Go.Ev
def sOk (X : List Int) : Bool := decide (X.length ≤ 301) && X.all fun x => decide (0 ≤ x) && decide (x ≤ 256)
theorem withinS_eq (n a b : Int) : Qy n a b = some (decide (a ≤ n) && decide (n ≤ b)) := by
  rw [Qy.eq, Bool.cond_decide]
  by_cases h : a ≤ n <;> simp [h]
theorem syms1_eq (n : Int) : Q0X n () = some (!(decide (0 ≤ n) && decide (n ≤ 256))) := by
  rw [Q0X.eq, Q1o.eq, withinS_eq]; rfl
theorem implSymsOk_eq (xs : List Int) (h : xs.length < 4611686018427387904) : Q1i xs = some (sOk xs) := by
  rw [Q1i.eq, Bool.cond_decide]
  have e : Q1h xs () = some (xs.all fun x => decide (0 ≤ x) && decide (x ≤ 256)) := by
    rw [Q1h.eq, Q1p.eq, Q0w.eq]
    obtain ⟨r, h1, h2⟩ := find_loop (fun n : Int => !(decide (0 ≤ n) && decide (n ≤ 256))) (fun n => Q0X n ()) xs h (fun x _ => syms1_eq x) (Q0w_l0 xs xs.length) (Q0w_l0.eq xs xs.length)
    rw [h1]
    simp only [Option.bind_some, h2, List.any_eq_not_all_not, Bool.not_not]
  rw [e]
  unfold sOk
  by_cases hl : xs.length ≤ 301
  · rw [if_pos (by omega)]; simp [hl]
  · rw [if_neg (by omega)]; simp [hl]
theorem Q3S (xs : List Int) (h : xs.length < 4611686018427387904) : Q04 xs = some (sOk xs) := by
  rw [Q04.eq, Bool.cond_decide]
  unfold sOk
  by_cases hl : xs.length ≤ 301
  · rw [if_neg (by omega)]
    rw [all_loop (fun x : Int => decide (0 ≤ x) && decide (x ≤ 256)) xs (Q04_l0 xs)]
    · simp [hl]
    · intro i hi
      rw [Q04_l0.eq]
      simp only [Q29, hi, Int.ofNat_lt, decide_true, cond_true, Option.bind_some, Q6 i (by omega), Bool.cond_decide]
      by_cases h1 : xs[i] < 0
      · rw [if_pos h1, decide_eq_false (by omega)]; rfl
      · rw [if_neg h1, decide_eq_true (show 0 ≤ xs[i] by omega)]
        by_cases h2 : xs[i] > 256
        · rw [if_pos h2, decide_eq_false (by omega)]; rfl
        · rw [if_neg h2, decide_eq_true (by omega)]; rfl
    · rw [Q04_l0.eq]; simp
  · rw [if_pos (by omega)]; simp [hl]
def ltc (X : List Nat) (c : Nat) : Nat := (X.filter fun x => decide (x < c)).length
def hst (X : List Nat) (c : Nat) : Nat := (X.filter fun x => decide (x + 1 = c)).length
theorem ltc_le (X : List Nat) (c : Nat) : ltc X c ≤ X.length := List.length_filter_le ..
theorem hst_le (X : List Nat) (c : Nat) : hst X c ≤ X.length := List.length_filter_le ..
theorem ltc_succ : ∀ (X : List Nat) (c : Nat), ltc X (c + 1) = hst X (c + 1) + ltc X c
  | [], _ => rfl
  | x :: X, c => by
    have ih := ltc_succ X c
    unfold ltc hst at ih ⊢
    rw [List.filter_cons, List.filter_cons, List.filter_cons]
    by_cases h1 : x < c
    · rw [if_pos (by simp; omega), if_neg (by simp; omega), if_pos (by simpa using h1), List.length_cons, List.length_cons, ih]; omega
    · by_cases h2 : x = c
      · rw [if_pos (by simp; omega), if_pos (by simp; omega), if_neg (by simp; omega), List.length_cons, List.length_cons, ih]; omega
      · rw [if_neg (by simp; omega), if_neg (by simp; omega), if_neg (by simp; omega), ih]
theorem ltc_zero (X : List Nat) : ltc X 0 = 0 := by unfold ltc; simp
theorem hst_snoc (X : List Nat) (x c : Nat) : hst (X ++ [x]) c = hst X c + (if x + 1 = c then 1 else 0) := by
  unfold hst
  rw [List.filter_append, List.length_append]
  by_cases h : x + 1 = c <;> simp [h]
theorem Q3i {α : Type} (f : Nat → α) (n i : Nat) (h : i < n) : ((List.range n).map f)[i]? = some (f i) := by simp [h]
theorem mapr_set {α : Type} (f : Nat → α) (n i : Nat) (v : α) : ((List.range n).map f).set i v = (List.range n).map fun c => if c = i then v else f c := by
  apply List.ext_getElem (by simp)
  intro j h1 h2
  rw [List.getElem_set]
  by_cases h : i = j
  · subst h; simp
  · rw [if_neg h]; simp [Ne.symm h]
theorem counts_l1 (X : List Nat) (hX : X.length ≤ 301) : ∀ (d k : Nat), 258 - k = d → 1 ≤ k → k ≤ 258 → QJ_l1 k ((List.range 258).map fun c => (((if c < k then ltc X c else hst X c) : Nat) : Int)) = some (ints ((List.range 258).map (ltc X))) := by
  intro d
  induction d with
  | zero =>
    intro k h1 h2 h3
    obtain rfl : k = 258 := by omega
    rw [QJ_l1.eq, Q3 (by omega)]
    refine congrArg some ?_
    show _ = List.map (fun (x : Nat) => (x : Int)) (List.map (ltc X) (List.range 258))
    rw [List.map_map]
    refine List.map_congr_left fun c hc => ?_
    rw [if_pos (List.mem_range.1 hc)]; rfl
  | succ d ih =>
    intro k h1 h2 h3
    have hk : k < 258 := by omega
    have hl1 := ltc_le X (k - 1)
    have hl2 := hst_le X k
    rw [QJ_l1.eq, Q2 (by omega), Qb (x := (k : Int) - 1) (by omega) (by omega), show (k : Int) - 1 = ((k - 1 : Nat) : Int) by omega]
    simp only [Q0C, Int.toNat_natCast, Q3i _ 258 k hk, Q3i _ 258 (k - 1) (show k - 1 < 258 by omega), Option.bind_some]
    rw [if_neg (show ¬ k < k by omega), if_pos (show k - 1 < k by omega), Q6 k (by omega), Qb (by omega) (by omega), mapr_set]
    have e := ltc_succ X (k - 1)
    rw [show k - 1 + 1 = k by omega] at e
    have e2 : (List.range 258).map (fun c => if c = k then ((hst X k : Nat) : Int) + ((ltc X (k - 1) : Nat) : Int) else (((if c < k then ltc X c else hst X c) : Nat) : Int)) = (List.range 258).map fun c => (((if c < k + 1 then ltc X c else hst X c) : Nat) : Int) := by
      apply List.map_congr_left
      intro c _
      by_cases h4 : c = k
      · subst h4; rw [if_pos rfl, if_pos (by omega), e]; omega
      · rw [if_neg h4]
        by_cases h5 : c < k
        · rw [if_pos h5, if_pos (by omega)]
        · rw [if_neg h5, if_neg (by omega)]
    rw [e2]
    exact ih (k + 1) (by omega) (by omega) (by omega)
theorem counts_l0 (X : List Nat) (hX : X.length ≤ 301) (hx : ∀ x ∈ X, x ≤ 256) : ∀ (d i : Nat), X.length - i = d → i ≤ X.length → QJ_l0 (ints X) X.length i ((List.range 258).map fun c => ((hst (X.take i) c : Nat) : Int)) = some (ints ((List.range 258).map (ltc X))) := by
  intro d
  induction d with
  | zero =>
    intro i h1 h2
    obtain rfl : i = X.length := by omega
    rw [QJ_l0.eq, Q3 (by omega), List.take_length]
    have := counts_l1 X hX 257 1 (by omega) (by omega) (by omega)
    have e0 : (List.range 258).map (fun c => ((hst X c : Nat) : Int)) = (List.range 258).map fun c => (((if c < 1 then ltc X c else hst X c) : Nat) : Int) := by
      refine List.map_congr_left fun c _ => ?_
      by_cases h : c < 1
      · obtain rfl : c = 0 := by omega
        rw [if_pos h, ltc_zero]
        have : hst X 0 = 0 := by unfold hst; simp
        rw [this]
      · rw [if_neg h]
    rw [e0]
    exact this
  | succ d ih =>
    intro i h1 h2
    have hi : i < X.length := by omega
    have hxi := hx _ (List.getElem_mem hi)
    have hle := hst_le (X.take i) (X[i] + 1)
    rw [List.length_take] at hle
    rw [QJ_l0.eq, Q2 (by omega), Q0s _ _ hi, Option.bind_some, Q6 X[i] (by omega)]
    simp only [Q0C, Int.toNat_natCast, Q3i _ 258 (X[i] + 1) (show X[i] + 1 < 258 by omega), Option.bind_some]
    rw [Q6 i (by omega), Q6 (hst (X.take i) (X[i] + 1)) (by omega), mapr_set]
    have e2 : (List.range 258).map (fun c => if c = X[i] + 1 then ((hst (X.take i) (X[i] + 1) + 1 : Nat) : Int) else ((hst (X.take i) c : Nat) : Int)) = (List.range 258).map fun c => ((hst (X.take (i + 1)) c : Nat) : Int) := by
      apply List.map_congr_left
      intro c _
      have et : X.take (i + 1) = X.take i ++ [X[i]] := by rw [List.take_add_one, List.getElem?_eq_getElem hi]; rfl
      rw [et, hst_snoc]
      by_cases h4 : c = X[i] + 1
      · subst h4; rw [if_pos rfl, if_pos rfl]
      · rw [if_neg h4, if_neg (Ne.symm h4)]; rfl
    rw [e2]
    exact ih (i + 1) (by omega) (by omega)
theorem counts_eq (X : List Nat) (hX : X.length ≤ 301) (hx : ∀ x ∈ X, x ≤ 256) : QJ (ints X) = some (ints ((List.range 258).map (ltc X))) := by
  rw [QJ.eq, List.length_map]
  have := counts_l0 X hX hx _ 0 rfl (by omega)
  rw [List.take_zero] at this
  have e0 : List.replicate 258 (0 : Int) = (List.range 258).map (fun c => ((hst [] c : Nat) : Int)) := by
    refine List.ext_getElem (by rw [List.length_replicate, List.length_map, List.length_range]) fun j h1 h2 => ?_
    rw [List.getElem_replicate, List.getElem_map]; rfl
  rw [e0]
  exact this
end Go.Ev.W
/- From each row to the row before it. -/
set_option linter.unusedVariables false
set_option linter.unusedSimpArgs false
namespace Go.Ev.W
open Go.Ev
def eqc (X : List Nat) (c : Nat) : Nat := (X.filter fun x => decide (x = c)).length
theorem eqc_le (X : List Nat) (c : Nat) : eqc X c ≤ X.length := List.length_filter_le ..
theorem eqc_snoc (X : List Nat) (x c : Nat) : eqc (X ++ [x]) c = eqc X c + (if x = c then 1 else 0) := by
  unfold eqc
  rw [List.filter_append, List.length_append]
  by_cases h : x = c <;> simp [h]
theorem ltc_snoc (X : List Nat) (x c : Nat) : ltc (X ++ [x]) c = ltc X c + (if x < c then 1 else 0) := by
  unfold ltc
  rw [List.filter_append, List.length_append]
  by_cases h : x < c <;> simp [h]
def lfV (X : List Nat) (i : Nat) : Nat := ltc X (X.getD i 0) + eqc (X.take i) (X.getD i 0)
def lfs (X : List Nat) : List Nat := (List.range X.length).map (lfV X)
theorem lfs_len (X : List Nat) : (lfs X).length = X.length := by unfold lfs; rw [List.length_map, List.length_range]
theorem lfs_step (X : List Nat) (i : Nat) : ints ((List.range i).map (lfV X)) ++ [((lfV X i : Nat) : Int)] = ints ((List.range (i + 1)).map (lfV X)) := by
  rw [List.range_succ, List.map_append]
  exact (List.map_append (f := fun (x : Nat) => (x : Int)) (l₁ := (List.range i).map (lfV X)) (l₂ := [lfV X i])).symm
theorem lfV_at (X : List Nat) (i : Nat) (hi : i < X.length) : lfV X i = ltc X X[i] + eqc (X.take i) X[i] := by
  unfold lfV
  rw [List.getD_eq_getElem?_getD, List.getElem?_eq_getElem hi]; rfl
theorem implLf_l0 (X : List Nat) (hX : X.length ≤ 301) (hx : ∀ x ∈ X, x ≤ 256) : ∀ (d i : Nat), X.length - i = d → i ≤ X.length → Q0k_l0 (ints X) X.length i ((List.range 258).map fun c => ((ltc X c + eqc (X.take i) c : Nat) : Int)) (ints ((List.range i).map (lfV X))) = some (ints (lfs X)) := by
  intro d
  induction d with
  | zero =>
    intro i h1 h2
    obtain rfl : i = X.length := by omega
    rw [Q0k_l0.eq, Q3 (by omega)]; rfl
  | succ d ih =>
    intro i h1 h2
    have hi : i < X.length := by omega
    have hxi := hx _ (List.getElem_mem hi)
    have hle := eqc_le (X.take i) X[i]
    have hle2 := ltc_le X X[i]
    rw [List.length_take] at hle
    rw [Q0k_l0.eq, Q2 (by omega), Q0s _ _ hi, Option.bind_some]
    simp only [Q0C, Int.toNat_natCast, Q3i _ 258 X[i] (show X[i] < 258 by omega), Option.bind_some]
    rw [Q2 (by simp only [List.length_cons, List.length_nil, List.length_map, List.length_range]; omega), Q6 i (by omega), Q6 (ltc X X[i] + eqc (X.take i) X[i]) (by omega), mapr_set, ← lfV_at X i hi, lfs_step]
    have e2 : (List.range 258).map (fun c => if c = X[i] then ((lfV X i + 1 : Nat) : Int) else ((ltc X c + eqc (X.take i) c : Nat) : Int)) = (List.range 258).map fun c => ((ltc X c + eqc (X.take (i + 1)) c : Nat) : Int) := by
      refine List.map_congr_left fun c _ => ?_
      have et : X.take (i + 1) = X.take i ++ [X[i]] := by rw [List.take_add_one, List.getElem?_eq_getElem hi]; rfl
      rw [et, eqc_snoc]
      by_cases h4 : c = X[i]
      · subst h4; rw [if_pos rfl, if_pos rfl, lfV_at X i hi]; rfl
      · rw [if_neg h4, if_neg (Ne.symm h4)]; rfl
    rw [e2]
    exact ih (i + 1) (by omega) (by omega)
theorem implLf_eq (X : List Nat) (hX : X.length ≤ 301) (hx : ∀ x ∈ X, x ≤ 256) : Q0k (ints X) = some (ints (lfs X)) := by
  rw [Q0k.eq, counts_eq X hX hx, Option.bind_some, List.length_map]
  have := implLf_l0 X hX hx _ 0 rfl (by omega)
  have e0 : ints ((List.range 258).map (ltc X)) = (List.range 258).map (fun c => ((ltc X c + eqc (X.take 0) c : Nat) : Int)) := by
    show List.map (fun (x : Nat) => (x : Int)) (List.map (ltc X) (List.range 258)) = _
    rw [List.map_map]
    refine List.map_congr_left fun c _ => ?_
    rw [List.take_zero]; rfl
  rw [e0]
  exact this
theorem specLf_l1 (X : List Nat) (hX : X.length ≤ 301) (i : Nat) (hi : i < X.length) (out : List Int) : ∀ (d j : Nat), X.length - j = d → j ≤ X.length →
    QE_l1 (ints X) i (ltc (X.take j) X[i] + eqc (X.take (min j i)) X[i] : Nat) j out = (bif decide ((out.length + ([((lfV X i : Nat) : Int)] : List Int).length) * 8 ≤ 140737488355328) then QE_l0 (ints X) (IntKind.i64.wrap (i + 1)) (out ++ [((lfV X i : Nat) : Int)]) else none) := by
  intro d
  induction d with
  | zero =>
    intro j h1 h2
    obtain rfl : j = X.length := by omega
    rw [QE_l1.eq, Q3 (by rw [List.length_map]; omega), List.take_length, Nat.min_eq_right (by omega), ← lfV_at X i hi]
  | succ d ih =>
    intro j h1 h2
    have hj : j < X.length := by omega
    have et : X.take (j + 1) = X.take j ++ [X[j]] := by rw [List.take_add_one, List.getElem?_eq_getElem hj]; rfl
    have hl1 := ltc_le (X.take j) X[i]
    have hl2 := eqc_le (X.take (min j i)) X[i]
    rw [List.length_take] at hl1 hl2
    have ih' := ih (j + 1) (by omega) (by omega)
    rw [et, ltc_snoc] at ih'
    rw [QE_l1.eq, Q2 (by rw [List.length_map]; omega), Q0s _ _ hj, Option.bind_some, Q0s _ _ hi, Option.bind_some, Q6 j (by omega), Q6 (ltc (X.take j) X[i] + eqc (X.take (min j i)) X[i]) (by omega)]
    by_cases p1 : X[j] < X[i]
    · rw [Q2 (show ((X[j] : Nat) : Int) < ((X[i] : Nat) : Int) by omega)]
      rw [if_pos p1] at ih'
      have e : eqc (X.take (min (j + 1) i)) X[i] = eqc (X.take (min j i)) X[i] := by
        by_cases p2 : j < i
        · rw [show min (j + 1) i = j + 1 by omega, show min j i = j by omega, et, eqc_snoc, if_neg (by omega), Nat.add_zero]
        · rw [show min (j + 1) i = i by omega, show min j i = i by omega]
      rw [e, show ltc (X.take j) X[i] + 1 + eqc (X.take (min j i)) X[i] = ltc (X.take j) X[i] + eqc (X.take (min j i)) X[i] + 1 by omega] at ih'
      exact ih'
    · rw [Q3 (show ¬ ((X[j] : Nat) : Int) < ((X[i] : Nat) : Int) by omega)]
      rw [if_neg p1, Nat.add_zero] at ih'
      by_cases p2 : j < i
      · rw [Q2 (show (j : Int) < (i : Int) by omega), Option.bind_some, Option.bind_some]
        rw [show min (j + 1) i = j + 1 by omega, et, eqc_snoc] at ih'
        rw [show min j i = j by omega]
        by_cases p3 : X[j] = X[i]
        · rw [Q07 (by omega)]
          rw [if_pos p3, ← Nat.add_assoc] at ih'
          exact ih'
        · rw [Q0a (by omega)]
          rw [if_neg p3, Nat.add_zero] at ih'
          exact ih'
      · rw [Q3 (show ¬ (j : Int) < (i : Int) by omega)]
        rw [show min (j + 1) i = min j i by omega] at ih'
        exact ih'
theorem specLf_l0 (X : List Nat) (hX : X.length ≤ 301) : ∀ (d i : Nat), X.length - i = d → i ≤ X.length → QE_l0 (ints X) i (ints ((List.range i).map (lfV X))) = some (ints (lfs X)) := by
  intro d
  induction d with
  | zero =>
    intro i h1 h2
    obtain rfl : i = X.length := by omega
    rw [QE_l0.eq, Q3 (by rw [List.length_map]; omega)]; rfl
  | succ d ih =>
    intro i h1 h2
    have hi : i < X.length := by omega
    rw [QE_l0.eq, Q2 (by rw [List.length_map]; omega)]
    have h3 := specLf_l1 X hX i hi (ints ((List.range i).map (lfV X))) _ 0 rfl (by omega)
    rw [List.take_zero, Nat.zero_min, List.take_zero] at h3
    refine h3.trans ?_
    rw [Q2 (by simp only [List.length_cons, List.length_nil, List.length_map, List.length_range]; omega), Q6 i (by omega), lfs_step]
    exact ih (i + 1) (by omega) (by omega)
theorem specLf_eq (X : List Nat) (hX : X.length ≤ 301) (hx : ∀ x ∈ X, x ≤ 256) : QE (ints X) = some (ints (lfs X)) := by
  have hs : sOk (ints X) = true := by
    simp only [sOk, Bool.and_eq_true, decide_eq_true_eq, List.all_eq_true, List.length_map]
    refine ⟨hX, fun x h => ?_⟩
    obtain ⟨y, hy, rfl⟩ := List.mem_map.1 h
    have := hx y hy
    omega
  rw [QE.eq, Q3S _ (by rw [List.length_map]; omega), Option.bind_some, hs, Bool.not_true, Qd]
  exact specLf_l0 X hX _ 0 rfl (by omega)
end Go.Ev.W
/- The text of a transform. -/
set_option linter.unusedVariables false
set_option linter.unusedSimpArgs false
namespace Go.Ev.W
open Go.Ev
theorem ltc_eqc : ∀ (X : List Nat) (c : Nat), ltc X c + eqc X c ≤ X.length
  | [], _ => Nat.le_refl _
  | x :: X, c => by
    have ih := ltc_eqc X c
    unfold ltc eqc at ih ⊢
    rw [List.filter_cons, List.filter_cons, List.length_cons]
    by_cases h1 : x < c
    · rw [if_pos (by simpa using h1), if_neg (by simp; omega), List.length_cons]; omega
    · by_cases h2 : x = c
      · rw [if_neg (by simp; omega), if_pos (by simpa using h2), List.length_cons]; omega
      · rw [if_neg (by simp; omega), if_neg (by simp; omega)]; omega
theorem eqc_app (X Y : List Nat) (c : Nat) : eqc (X ++ Y) c = eqc X c + eqc Y c := by unfold eqc; rw [List.filter_append, List.length_append]
theorem lfV_lt (X : List Nat) (i : Nat) (hi : i < X.length) : lfV X i < X.length := by
  rw [lfV_at X i hi]
  have h1 := ltc_eqc X X[i]
  have h2 : eqc X X[i] = eqc (X.take i) X[i] + eqc (X.drop i) X[i] := by rw [← eqc_app, List.take_append_drop]
  have h3 : 0 < eqc (X.drop i) X[i] := by
    rw [List.drop_eq_getElem_cons hi]
    unfold eqc
    rw [List.filter_cons, if_pos (by simp), List.length_cons]; omega
  omega
theorem lfs_at (X : List Nat) (i : Nat) (hi : i < X.length) : (ints (lfs X))[i]? = some ((lfV X i : Nat) : Int) := by
  have hi2 : i < (lfs X).length := by rw [lfs_len]; exact hi
  rw [Q1S _ _ hi2]
  simp [lfs]
def wk (X : List Nat) : Nat → Nat → List Nat → List Nat × Bool
  | 0, _, acc => (acc, true)
  | k + 1, r, acc => if X.getD r 0 = 0 then (acc, false) else wk X k (lfV X r) ((X.getD r 0 - 1) :: acc)
theorem wk_len (X : List Nat) : ∀ (k r : Nat) (acc : List Nat), (wk X k r acc).1.length ≤ acc.length + k ∧ ((wk X k r acc).2 = true → (wk X k r acc).1.length = acc.length + k) ∧ ((wk X k r acc).2 = false → (wk X k r acc).1.length < acc.length + k)
  | 0, _, acc => by simp [wk]
  | k + 1, r, acc => by
    rw [wk]
    split
    · simp
    · have := wk_len X k (lfV X r) ((X.getD r 0 - 1) :: acc)
      rw [List.length_cons] at this
      refine ⟨by omega, fun h => by have := this.2.1 h; omega, fun h => by have := this.2.2 h; omega⟩
theorem wk_bytes (X : List Nat) (hx : ∀ x ∈ X, x ≤ 256) : ∀ (k r : Nat) (acc : List Nat), (∀ x ∈ acc, x < 256) → ∀ x ∈ (wk X k r acc).1, x < 256
  | 0, _, acc, h => h
  | k + 1, r, acc, h => by
    rw [wk]
    split
    · exact h
    · refine wk_bytes X hx k _ _ fun x h2 => ?_
      rcases List.mem_cons.1 h2 with rfl | h2
      · have : X.getD r 0 ≤ 256 := by
          rw [List.getD_eq_getElem?_getD]
          cases h3 : X[r]? with
          | none => simp
          | some y => exact hx y (List.mem_of_getElem? h3)
        omega
      · exact h x h2
theorem same_eq (X Y : List Int) (h : X.length < 4611686018427387904) : QT X Y = some (decide (X = Y)) := by
  rw [QT.eq]
  exact eq_list X Y _ fun hl => eq_loop (fun x y => some (!(x != y))) X Y hl h (fun x _ y _ => by rw [bne, Bool.not_not]; exact congrArg some (by rw [Bool.eq_iff_iff]; simp)) (QT_l0 X Y) (fun i => by rw [QT_l0.eq]; simp only [Option.bind_some, Bool.not_not])
theorem equalI_eq (X Y : List Int) (h : X.length < 4611686018427387904) : Q01 X Y = some (decide (X = Y)) := by
  rw [Q01.eq]
  exact eq_list X Y _ fun hl => eq_loop (fun x y => some (!(x != y))) X Y hl h (fun x _ y _ => by rw [bne, Bool.not_not]; exact congrArg some (by rw [Bool.eq_iff_iff]; simp)) (Q01_l0 X Y X.length) (fun i => by rw [Q01_l0.eq]; simp only [Option.bind_some, Bool.not_not])
end Go.Ev.W
/- The text of a transform: both walks. -/
set_option linter.unusedVariables false
set_option linter.unusedSimpArgs false
namespace Go.Ev.W
open Go.Ev
def tFin (X t : List Nat) : List Int × Bool := bif decide (bwt t = X) then (ints t, true) else ([], false)
theorem ints_inj' {X Y : List Nat} (h : ints X = ints Y) : X = Y := by
  have := congrArg (List.map Int.toNat) h
  unfold ints at this
  rw [List.map_map, List.map_map] at this
  have e : (Int.toNat ∘ fun (x : Nat) => (x : Int)) = id := by funext x; simp
  rw [e, List.map_id, List.map_id] at this
  exact this
theorem dec_ints (X Y : List Nat) : decide (ints X = ints Y) = decide (X = Y) := by
  by_cases h : X = Y
  · rw [h]; simp
  · rw [decide_eq_false h, decide_eq_false fun h2 => h (ints_inj' h2)]
theorem specTail (X t : List Nat) (ht : t.length ≤ 300) (hb : ∀ x ∈ t, x < 256) : ((Qt (ints t)).bind fun y2 => (QT y2 (ints X)).bind fun y3 => bif !y3 then some (([] : List Int), false) else some (ints t, true)) = some (tFin X t) := by
  rw [Q2n t ht hb, Option.bind_some, same_eq _ _ (by rw [List.length_map, Q1x]; omega), Option.bind_some, dec_ints]
  unfold tFin
  cases decide (bwt t = X) <;> rfl
theorem specWalk (X : List Nat) (hX : X.length ≤ 301) (hx : ∀ x ∈ X, x ≤ 256) : ∀ (k r : Nat) (acc : List Nat), r < X.length → acc.length + k + 1 = X.length → (∀ x ∈ acc, x < 256) →
    Qw_l1 (ints X) r acc.length (ints (lfs X)) (ints acc) = some (tFin X (wk X k r acc).1) := by
  have hXl : (ints X).length = X.length := List.length_map ..
  intro k
  induction k with
  | zero =>
    intro r acc hr hl hb
    rw [Qw_l1.eq, hXl, Qb (by omega) (by omega), Q3 (by omega)]
    exact specTail X acc (by omega) hb
  | succ k ih =>
    intro r acc hr hl hb
    have hg : X.getD r 0 = X[r] := by rw [List.getD_eq_getElem?_getD, List.getElem?_eq_getElem hr]; rfl
    have hxr := hx _ (List.getElem_mem hr)
    rw [Qw_l1.eq, hXl, Qb (by omega) (by omega), Q2 (by omega), Q0s _ _ hr, Option.bind_some, wk]
    by_cases h0 : X[r] = 0
    · rw [Q3 (by omega), if_pos (by rw [hg]; exact h0)]
      exact specTail X acc (by omega) hb
    · have hal : (ints acc).length = acc.length := List.length_map ..
      rw [Q2 (by omega), if_neg (by rw [hg]; exact h0), Qw_l2.eq, Q0s _ _ hr, Option.bind_some, Q2 (by rw [hal]; simp only [List.length_cons, List.length_nil]; omega), Q0C, lfs_at X r hr, Option.bind_some, Int.toNat_natCast, lfs_at X r hr, Option.bind_some, Q6 _ (by omega)]
      have e : IntKind.u8.wrap (IntKind.i64.wrap ((X[r] : Int) - 1)) = ((X.getD r 0 - 1 : Nat) : Int) := by
        rw [hg, Qb (by omega) (by omega), wrapB (by omega) (by omega)]; omega
      have ih' := ih (lfV X r) ((X.getD r 0 - 1) :: acc) (lfV_lt X r hr) (by rw [List.length_cons]; omega) (fun x h2 => by
        rcases List.mem_cons.1 h2 with rfl | h2
        · rw [hg]; omega
        · exact hb x h2)
      rw [List.length_cons] at ih'
      rw [e]
      exact ih'
theorem implTail (X t : List Nat) (ht : t.length ≤ 300) (hb : ∀ x ∈ t, x < 256) : ((QB (ints t)).bind fun y7 => (Q01 y7 (ints X)).bind fun y8 => bif !y8 then some (([] : List Int), false) else some (ints t, true)) = some (tFin X t) := by
  rw [Q31 t ht hb, Option.bind_some, equalI_eq _ _ (by rw [List.length_map, Q1x]; omega), Option.bind_some, dec_ints]
  unfold tFin
  cases decide (bwt t = X) <;> rfl
theorem implWalk (X : List Nat) (hX : X.length ≤ 301) (hx : ∀ x ∈ X, x ≤ 256) : ∀ (k r : Nat) (acc : List Nat), r < X.length → acc.length + k + 1 = X.length → (∀ x ∈ acc, x < 256) →
    QN_l1 (ints X) r ((k : Int) - 1) (ints (lfs X)) (List.replicate k (0 : Int) ++ ints acc) = some (bif (wk X k r acc).2 then tFin X (wk X k r acc).1 else ([], false)) := by
  intro k
  induction k with
  | zero =>
    intro r acc hr hl hb
    rw [QN_l1.eq, Q3 (by omega)]
    exact implTail X acc (by omega) hb
  | succ k ih =>
    intro r acc hr hl hb
    have hg : X.getD r 0 = X[r] := by rw [List.getD_eq_getElem?_getD, List.getElem?_eq_getElem hr]; rfl
    have hxr := hx _ (List.getElem_mem hr)
    rw [QN_l1.eq, show ((k + 1 : Nat) : Int) - 1 = (k : Int) by omega, Q2 (show (k : Int) ≥ 0 by omega), Q0s _ _ hr, Option.bind_some, wk]
    by_cases h0 : X[r] = 0
    · rw [Q07 (by omega), if_pos (by rw [hg]; exact h0)]; rfl
    · have hk : k < (List.replicate (k + 1) (0 : Int) ++ ints acc).length := by rw [List.length_append, List.length_replicate]; omega
      have e : IntKind.u8.wrap (IntKind.i64.wrap ((X[r] : Int) - 1)) = ((X.getD r 0 - 1 : Nat) : Int) := by
        rw [hg, Qb (by omega) (by omega), wrapB (by omega) (by omega)]; omega
      have hset : ∀ v : Int, (List.replicate (k + 1) (0 : Int) ++ ints acc).set k v = List.replicate k (0 : Int) ++ v :: ints acc := by
        intro v
        rw [List.replicate_succ', List.append_assoc, List.set_append_right _ _ (by rw [List.length_replicate]; omega), List.length_replicate, Nat.sub_self]; rfl
      rw [Q0a (by omega), if_neg (by rw [hg]; exact h0), Option.bind_some, Q29 _ k hk, Option.bind_some, Int.toNat_natCast, List.getElem?_eq_getElem hk, Option.bind_some, Q0C, lfs_at X r hr, Option.bind_some, Int.toNat_natCast, lfs_at X r hr, Option.bind_some, Qb (x := (k : Int) - 1) (by omega) (by omega), hset, e]
      exact ih (lfV X r) ((X.getD r 0 - 1) :: acc) (lfV_lt X r hr) (by rw [List.length_cons]; omega) (fun x h2 => by
        rcases List.mem_cons.1 h2 with rfl | h2
        · rw [hg]; omega
        · exact hb x h2)
end Go.Ev.W
/- The text of a transform: both alike. -/
set_option linter.unusedVariables false
set_option linter.unusedSimpArgs false
namespace Go.Ev.W
open Go.Ev
theorem countN_l0 (X : List Nat) (hX : X.length ≤ 301) : ∀ (d i : Nat), X.length - i = d → i ≤ X.length → Qh_l0 0 (eqc (X.take i) 0 : Nat) (ints X) X.length i = some ((eqc X 0 : Nat) : Int) := by
  intro d
  induction d with
  | zero =>
    intro i h1 h2
    obtain rfl : i = X.length := by omega
    rw [Qh_l0.eq, Q3 (by omega), List.take_length]
  | succ d ih =>
    intro i h1 h2
    have hi : i < X.length := by omega
    have hle := eqc_le (X.take i) 0
    rw [List.length_take] at hle
    have et : X.take (i + 1) = X.take i ++ [X[i]] := by rw [List.take_add_one, List.getElem?_eq_getElem hi]; rfl
    have ih' := ih (i + 1) (by omega) (by omega)
    rw [et, eqc_snoc] at ih'
    rw [Qh_l0.eq, Q2 (by omega), Q0s _ _ hi, Option.bind_some]
    by_cases h0 : X[i] = 0
    · rw [if_pos h0] at ih'
      rw [Q07 (by omega), Q6 i (by omega), Q6 _ (by omega)]
      exact ih'
    · rw [if_neg h0, Nat.add_zero] at ih'
      rw [Q0a (by omega), Q6 i (by omega)]
      exact ih'
theorem countN_eq (X : List Nat) (hX : X.length ≤ 301) : Qh (ints X) 0 = some ((eqc X 0 : Nat) : Int) := by
  rw [Qh.eq, List.length_map]
  exact countN_l0 X hX _ 0 rfl (by omega)
theorem eqc_map (D l : List Nat) : eqc (l.map (bwS D)) 0 = eqc l 0 := by
  induction l with
  | nil => rfl
  | cons s l ih =>
    unfold eqc at ih ⊢
    rw [List.map_cons, List.filter_cons, List.filter_cons]
    by_cases h : s = 0
    · rw [if_pos (by simp [bwS, h]), if_pos (by simpa using h), List.length_cons, List.length_cons, ih]
    · rw [if_neg (by simp [bwS, h]), if_neg (by simpa using h), ih]
theorem eqc_range : ∀ n : Nat, eqc (List.range (n + 1)) 0 = 1
  | 0 => rfl
  | n + 1 => by rw [List.range_succ, eqc_snoc, eqc_range n, if_neg (by omega)]
theorem eqc_bwt (D : List Nat) : eqc (bwt D) 0 = 1 := by
  unfold bwt
  rw [eqc_map]
  have hp : (srt D).Perm (List.range (D.length + 1)) := List.mergeSort_perm ..
  have := (hp.filter fun x => decide (x = 0)).length_eq
  have h2 := eqc_range D.length
  unfold eqc at h2 ⊢
  rw [this, h2]
def bT (X : List Nat) : List Int × Bool := bif decide (X.length = 0) then ([], false) else tFin X (wk X (X.length - 1) 0 []).1
theorem Q3w (X : List Nat) (hX : X.length ≤ 301) (hx : ∀ x ∈ X, x ≤ 256) : Qw (ints X) = some (bT X) := by
  have hs : sOk (ints X) = true := by
    simp only [sOk, Bool.and_eq_true, decide_eq_true_eq, List.all_eq_true, List.length_map]
    refine ⟨hX, fun x h => ?_⟩
    obtain ⟨y, hy, rfl⟩ := List.mem_map.1 h
    have := hx y hy
    omega
  rw [Qw.eq, Q3S _ (by rw [List.length_map]; omega), Option.bind_some, hs, Bool.not_true, Qd, List.length_map]
  unfold bT
  by_cases h0 : X.length = 0
  · rw [Q07 (by omega), decide_eq_true h0]; rfl
  · rw [Q0a (by omega), decide_eq_false h0, Qd, Qw_l0.eq, specLf_eq X hX hx, Option.bind_some]
    exact specWalk X hX hx (X.length - 1) 0 [] (by omega) (by simp; omega) (by simp)
theorem Q4B (X : List Nat) (hX : X.length ≤ 301) (hx : ∀ x ∈ X, x ≤ 256) : QN (ints X) = some (bT X) := by
  have hs : sOk (ints X) = true := by
    simp only [sOk, Bool.and_eq_true, decide_eq_true_eq, List.all_eq_true, List.length_map]
    refine ⟨hX, fun x h => ?_⟩
    obtain ⟨y, hy, rfl⟩ := List.mem_map.1 h
    have := hx y hy
    omega
  rw [QN.eq, implSymsOk_eq _ (by rw [List.length_map]; omega), Option.bind_some, hs, Bool.not_true, Qd, countN_eq X hX, Option.bind_some]
  unfold bT
  by_cases h1 : eqc X 0 = 1
  · have hn : X.length ≠ 0 := fun h => by
      have := List.eq_nil_of_length_eq_zero h
      subst this
      cases h1
    have hw := wk_len X (X.length - 1) 0 []
    rw [List.length_nil, Nat.zero_add] at hw
    rw [Q1F (by omega), decide_eq_false hn, Qd, QN_l0.eq, implLf_eq X hX hx, Option.bind_some, List.length_map, Qb (by omega) (by omega), show (X.length : Int) - 1 = ((X.length - 1 : Nat) : Int) by omega, Int.toNat_natCast, List.length_replicate, Qb (by omega) (by omega)]
    have e1 : (decide ((0 : Int) ≤ ((X.length - 1 : Nat) : Int)) && decide ((X.length - 1) * 1 ≤ 140737488355328)) = true := by
      rw [Bool.and_eq_true, decide_eq_true_eq, decide_eq_true_eq]; omega
    rw [e1, Qu]
    have h2 := implWalk X hX hx (X.length - 1) 0 [] (by omega) (by simp; omega) (by simp)
    rw [show ints [] = [] from rfl, List.append_nil] at h2
    refine h2.trans ?_
    cases hc : (wk X (X.length - 1) 0 []).2 with
    | true => rfl
    | false =>
      rw [Qd]
      unfold tFin
      have := hw.2.2 hc
      have hne : bwt (wk X (X.length - 1) 0 []).1 ≠ X := fun h => by
        have := congrArg List.length h
        rw [Q1x] at this
        omega
      rw [decide_eq_false hne]; rfl
  · rw [Q1K (by omega)]
    by_cases hn : X.length = 0
    · rw [decide_eq_true hn]; rfl
    · rw [decide_eq_false hn, Qd]
      unfold tFin
      have hne : bwt (wk X (X.length - 1) 0 []).1 ≠ X := fun h => h1 (by rw [← h, eqc_bwt])
      rw [decide_eq_false hne]; rfl
end Go.Ev.W
/- Indexes: plain facts. -/
set_option linter.unusedVariables false
set_option linter.unusedSimpArgs false
namespace Go.Ev.W
open Go.Ev
def wdF : Nat → Nat → Nat
  | 0, _ => 0
  | k + 1, n => if n = 0 then 0 else wdF k (n / 2) + 1
def wd (n : Nat) : Nat := wdF 64 n
theorem wdF_lt : ∀ (k n : Nat), n < 2 ^ k → n < 2 ^ wdF k n
  | 0, n, h => by simpa [wdF] using h
  | k + 1, n, h => by
    rw [wdF]
    by_cases h0 : n = 0
    · rw [if_pos h0]; subst h0; decide
    · rw [if_neg h0]
      have := wdF_lt k (n / 2) (by rw [Nat.pow_succ] at h; omega)
      rw [Nat.pow_succ]; omega
theorem wd_lt (n : Nat) (h : n < 2 ^ 64) : n < 2 ^ wd n := wdF_lt 64 n h
theorem wdF_le : ∀ (k n j : Nat), n < 2 ^ j → wdF k n ≤ j
  | 0, _, _, _ => Nat.zero_le _
  | k + 1, n, 0, h => by
    obtain rfl : n = 0 := by simpa using h
    rw [wdF, if_pos rfl]; omega
  | k + 1, n, j + 1, h => by
    rw [wdF]
    by_cases h0 : n = 0
    · rw [if_pos h0]; omega
    · rw [if_neg h0]
      have := wdF_le k (n / 2) j (by rw [Nat.pow_succ] at h; omega)
      omega
def dg (w n : Nat) : List Bool := (List.range w).map fun k => n.testBit k
def dgs (w : Nat) (X : List Nat) : List Bool := (X.map (dg w)).flatten
theorem dg_len (w n : Nat) : (dg w n).length = w := by unfold dg; rw [List.length_map, List.length_range]
theorem Q2G (w : Nat) : ∀ X : List Nat, (dgs w X).length = X.length * w
  | [] => by simp [dgs]
  | x :: X => by
    have := Q2G w X
    unfold dgs at this ⊢
    rw [List.map_cons, List.flatten_cons, List.length_append, this, dg_len, List.length_cons, Nat.add_mul]; omega
theorem dg_succ (w n : Nat) : dg (w + 1) n = (n.testBit 0) :: dg w (n / 2) := by
  unfold dg
  rw [List.range_succ_eq_map, List.map_cons, List.map_map]
  refine congrArg _ (List.map_congr_left fun k _ => ?_)
  show n.testBit (k + 1) = (n / 2).testBit k
  rw [Nat.testBit_succ]
theorem dgs_snoc (w : Nat) (X : List Nat) (x : Nat) : dgs w (X ++ [x]) = dgs w X ++ dg w x := by
  unfold dgs
  rw [List.map_append, List.flatten_append]; simp
theorem bit0 (n : Nat) : ((n % 2 : Nat) : Int) = bint (n.testBit 0) := by
  unfold bint
  rw [Nat.testBit_zero]
  rcases Nat.mod_two_eq_zero_or_one n with h | h <;> rw [h] <;> rfl
abbrev PkV := Int × Int × Int × List Int
def pk (w : Nat) (X : List Nat) : PkV := ((w : Int), (X.length : Int), ((X.length * w : Nat) : Int), ints (wrds (dgs w X)))
theorem idx_iff {S : List Nat} (hn : S.Nodup) {i : Nat} (hi : i < S.length) (x : Nat) : S[i] = x ↔ S.idxOf x = i := by
  constructor
  · intro h
    rw [← h]
    exact hn.idxOf_getElem i hi
  · intro h
    subst h
    exact List.getElem_idxOf hi
def inv (S : List Nat) : List Nat := (List.range S.length).map fun x => S.idxOf x
theorem inv_at (S : List Nat) (x : Nat) (h : x < S.length) : (inv S)[x]? = some (S.idxOf x) := by
  unfold inv
  rw [List.getElem?_map, List.getElem?_range h]; rfl
def isM (r s : Nat) : Bool := decide (s % r = 0)
def mkB (r : Nat) (S : List Nat) : List Bool := S.map (isM r)
def saL (r : Nat) (S : List Nat) : List Nat := (S.filter (isM r)).map fun s => s / r
def isaL (r n : Nat) (S : List Nat) : List Nat := (List.range (n / r + 1)).map fun j => S.idxOf (j * r)
theorem mkB_len (r : Nat) (S : List Nat) : (mkB r S).length = S.length := List.length_map ..
theorem saL_len (r : Nat) (S : List Nat) : (saL r S).length ≤ S.length := by
  unfold saL; rw [List.length_map]; exact List.length_filter_le ..
theorem isaL_len (r n : Nat) (S : List Nat) : (isaL r n S).length = n / r + 1 := by unfold isaL; rw [List.length_map, List.length_range]
end Go.Ev.W
/- Bits and their bytes: what the functions come to. -/
set_option linter.unusedVariables false
set_option linter.unusedSimpArgs false
namespace Go.Ev.W
open Go.Ev
theorem Q2H (n a b : Int) : Qy n a b = some (decide (a ≤ n) && decide (n ≤ b)) := by
  rw [Qy.eq, Bool.cond_decide]
  by_cases h : a ≤ n <;> simp [h]
theorem l01List_l1 (i : Nat) (n : Int) (W : List Int) (hi : i < 4611686018427387904) : ∀ (k x : Nat), k < 64 → x < 2 ^ 64 → ∀ out : List Int, out.length ≤ 1048576 → Qp_l1 i x k n W out = Qp_l0 (i + 1 : Nat) n W (out ++ [((x / 2 ^ k % 2 : Nat) : Int)]) := by
  intro k
  induction k with
  | zero =>
    intro x hk hx out ho
    rw [Qp_l1.eq, Q3 (by omega), Q6 _ hi]
    have e : (x : Int).tmod 2 = ((x % 2 : Nat) : Int) := rfl
    rw [e, Qb (by omega) (by omega), Q2 (by simp only [List.length_cons, List.length_nil]; omega)]
    simp
  | succ k ih =>
    intro x hk hx out ho
    rw [Qp_l1.eq, Q2 (by omega), Qb (x := ((k + 1 : Nat) : Int) - 1) (by omega) (by omega)]
    have e : (x : Int).tdiv 2 = ((x / 2 : Nat) : Int) := rfl
    rw [e, wrapU (by omega) (by omega), show ((k + 1 : Nat) : Int) - 1 = k by omega, ih (x / 2) (by omega) (by omega) out ho]
    rw [Nat.div_div_eq_div_mul, Nat.pow_succ, Nat.mul_comm]
theorem l01List_l0 (n : Nat) (W : List Nat) (hn : n ≤ 5000) (hW : n ≤ 64 * W.length) (hx : ∀ x ∈ W, x < 2 ^ 64) : ∀ (d i : Nat), n - i = d → i ≤ n → ∀ out : List Int, out.length ≤ i → Qp_l0 i n (ints W) out = some (out ++ (Qe (bts n W)).drop i) := by
  intro d
  induction d with
  | zero =>
    intro i hd hi out ho
    rw [Qp_l0.eq, Q3 (by omega), drop_nil _ (by simp only [List.length_map, Q1A]; omega), List.append_nil]
  | succ d ih =>
    intro i hd hi out ho
    rw [Qp_l0.eq, Q2 (by omega)]
    have e1 : (i : Int).tdiv 64 = ((i / 64 : Nat) : Int) := rfl
    have e2 : (i : Int).tmod 64 = ((i % 64 : Nat) : Int) := rfl
    have hj : i / 64 < W.length := by omega
    rw [e1, e2, Qb (by omega) (by omega), Q0s _ _ hj, Option.bind_some, l01List_l1 i n _ (by omega) (i % 64) W[i / 64] (by omega) (hx _ (List.getElem_mem hj)) out (by omega), ih (i + 1) (by omega) (by omega) _ (by simp; omega)]
    have hb : (Qe (bts n W))[i]? = some ((W[i / 64] / 2 ^ (i % 64) % 2 : Nat) : Int) := by
      rw [List.getElem?_map, bts_get _ _ _ (by omega)]
      simp only [Option.map_some, bint, bit, List.getD_eq_getElem?_getD, List.getElem?_eq_getElem hj, Option.getD_some, testBit_div]
    rw [drop_eq hb, List.append_assoc, List.singleton_append]
theorem Q2P (n : Nat) (W : List Nat) (hn : n ≤ 5000) (hW : n ≤ 64 * W.length) (hx : ∀ x ∈ W, x < 2 ^ 64) : Qp ((n : Int), ints W) = some (Qe (bts n W)) := by
  rw [Qp.eq]
  have := l01List_l0 n W hn hW hx n 0 (by omega) (by omega) [] (by simp)
  simpa using this
theorem l01Power_l0 : ∀ (k : Nat) (x : Nat), k < 64 → x * 2 ^ k < 2 ^ 64 → Q0g_l0 k x = some ((x * 2 ^ k : Nat) : Int) := by
  intro k
  induction k with
  | zero => intro x _ _; rw [Q0g_l0.eq, Q3 (by omega)]; simp
  | succ k ih =>
    intro x hk hx
    have hx2 : 2 * x * 2 ^ k < 2 ^ 64 := by rw [Nat.pow_succ] at hx; rw [Nat.mul_comm 2 x, Nat.mul_assoc, Nat.mul_comm 2]; exact hx
    have hx3 : 2 * x < 2 ^ 64 := Nat.lt_of_le_of_lt (Nat.le_mul_of_pos_right _ (Nat.two_pow_pos k)) hx2
    rw [Q0g_l0.eq, Q2 (by omega), Qb (by omega) (by omega), show ((k + 1 : Nat) : Int) - 1 = k by omega, show (2 : Int) * (x : Int) = ((2 * x : Nat) : Int) by omega, wrapU (by omega) (by omega), ih (2 * x) (by omega) hx2]
    rw [Nat.pow_succ, Nat.mul_comm 2 x, Nat.mul_assoc, Nat.mul_comm 2]
theorem l01Power_eq (k : Nat) (hk : k < 64) : Q0g k = some ((2 ^ k : Nat) : Int) := by
  have h := l01Power_l0 k 1 hk (by rw [Nat.one_mul]; exact Nat.pow_lt_pow_right (by omega) hk)
  rw [Nat.one_mul] at h
  rw [Q0g.eq]; exact h
theorem ints_set (W : List Nat) (i x : Nat) : (ints W).set i (x : Int) = ints (W.set i x) := (List.map_set).symm
theorem bitsOf_l0 (bs : List Bool) (hn : bs.length ≤ 5000) (a : Int) (b : List Int) : ∀ (d i : Nat), bs.length - i = d → i ≤ bs.length → Qo_l0 (Qe bs) i a b bs.length (ints (wrds (bs.take i))) = some (((bs.length : Int), ints (wrds bs)), true) := by
  intro d
  induction d with
  | zero =>
    intro i hd hi
    rw [Qo_l0.eq, List.length_map, Q3 (by omega), List.take_of_length_le (by omega)]
  | succ d ih =>
    intro i hd hi
    have hlt : i < bs.length := by omega
    have hb : at? (Qe bs) (i : Int) = some (bint bs[i]) := by rw [Q0C, List.getElem?_map, List.getElem?_eq_getElem hlt]; rfl
    have hl : (bs.take i).length = i := by rw [List.length_take]; omega
    have hs := wrds_snoc (bs.take i) bs[i]
    rw [hl, List.take_append_getElem hlt] at hs
    have hwl := Q1M (bs.take i)
    rw [hl] at hwl
    have e1 : (i : Int).tdiv 64 = ((i / 64 : Nat) : Int) := rfl
    have e2 : (i : Int).tmod 64 = ((i % 64 : Nat) : Int) := rfl
    have step : Qo_l1 (Qe bs) i a b bs.length (ints (wrds (bs.take i))) = some (((bs.length : Int), ints (wrds bs)), true) := by
      rw [Qo_l1.eq]
      simp only [e1, e2, hb, Option.bind_some]
      rw [Qb (x := ((i / 64 : Nat) : Int)) (by omega) (by omega), Q6 _ (by omega), Int.toNat_natCast, l01Power_eq _ (Nat.mod_lt _ (by omega))]
      have hih := ih (i + 1) (by omega) (by omega)
      unfold nw at hwl
      by_cases h0 : i % 64 = 0
      · rw [if_pos h0] at hs
        rw [hs] at hih
        have hc : ∀ z : Nat, ints (wrds (bs.take i)) ++ [(z : Int)] = ints (wrds (bs.take i) ++ [z]) := fun z => by simp
        rw [Q07 (by omega), Q2 (by simp only [List.length_map, List.length_cons, List.length_nil]; omega)]
        have hc0' : ints (wrds (bs.take i)) ++ ([0] : List Int) = ints (wrds (bs.take i) ++ [0]) := hc 0
        rw [hc0']
        have hin : i / 64 < (wrds (bs.take i) ++ [0]).length := by rw [List.length_append, List.length_singleton]; omega
        cases hbi : bs[i] with
        | true =>
          rw [hbi] at hih
          have hg : (wrds (bs.take i) ++ [0])[i / 64] = 0 := by
            rw [List.getElem_append_right (by omega)]; simp
          rw [Q07 (show bint true = 1 from rfl), Q0s _ _ hin, Option.bind_some, Q1S _ _ hin, Option.bind_some, hg, Option.bind_some]
          have e : IntKind.u64.wrap (((0 : Nat) : Int) + ((2 ^ (i % 64) : Nat) : Int)) = ((1 : Nat) : Int) := by rw [h0]; exact wrapU (by omega) (by omega)
          rw [e, ints_set]
          have e2 : (wrds (bs.take i) ++ [0]).set (i / 64) 1 = wrds (bs.take i) ++ [1] := by
            rw [List.set_append_right _ _ (by omega), show i / 64 - (wrds (bs.take i)).length = 0 by omega]; rfl
          simp only [Option.bind_some, e2]
          exact hih
        | false =>
          rw [hbi] at hih
          rw [Q0a (show bint false ≠ 1 from by simp [bint])]
          exact hih
      · rw [if_neg h0] at hs
        rw [hs] at hih
        have hin : i / 64 < (wrds (bs.take i)).length := by omega
        have hg : (wrds (bs.take i)).getD (i / 64) 0 = (wrds (bs.take i))[i / 64] := by rw [List.getD_eq_getElem?_getD, List.getElem?_eq_getElem hin]; rfl
        rw [Q0a (by omega)]
        cases hbi : bs[i] with
        | true =>
          rw [hbi] at hih hs
          rw [Q07 (show bint true = 1 from rfl), Q0s _ _ hin, Option.bind_some, Q1S _ _ hin, Option.bind_some, Option.bind_some]
          have hlt64 : (wrds (bs.take i))[i / 64] + 2 ^ (i % 64) < 2 ^ 64 := by
            have h1 := Q2y (bs.take (i + 1))
            rw [hs] at h1
            have := h1.2.1 ((wrds (bs.take i)).getD (i / 64) 0 + 2 ^ (i % 64) * true.toNat) (List.mem_of_getElem? (List.getElem?_set_self hin))
            rw [hg] at this
            simpa using this
          have e : IntKind.u64.wrap (((wrds (bs.take i))[i / 64] : Int) + ((2 ^ (i % 64) : Nat) : Int)) = (((wrds (bs.take i)).getD (i / 64) 0 + 2 ^ (i % 64) * true.toNat : Nat) : Int) := by
            rw [hg, Bool.toNat_true, Nat.mul_one, ← Int.natCast_add]
            exact wrapUn hlt64
          simp only [Option.bind_some]
          rw [e, ints_set]
          exact hih
        | false =>
          rw [hbi] at hih
          have e2 : (wrds (bs.take i)).set (i / 64) ((wrds (bs.take i)).getD (i / 64) 0 + 2 ^ (i % 64) * false.toNat) = wrds (bs.take i) := by
            rw [Bool.toNat_false, Nat.mul_zero, Nat.add_zero, hg, List.set_getElem_self]
          rw [e2] at hih
          rw [Q0a (show bint false ≠ 1 from by simp [bint])]
          exact hih
    rw [Qo_l0.eq, List.length_map, Q2 (by omega), hb, Option.bind_some, Option.bind_some, step]
    cases bs[i] <;> rfl
theorem Q32 (bs : List Bool) (hn : bs.length ≤ 5000) : Qo (Qe bs) = some (((bs.length : Int), ints (wrds bs)), true) := by
  rw [Qo.eq, List.length_map, Q3 (by omega)]
  have := bitsOf_l0 bs hn 0 [] bs.length 0 (by omega) (by omega)
  simpa [wrds, nw] using this
def okW (n : Nat) (W : List Nat) : Bool := decide (W.length = nw n) && (decide (n % 64 = 0) || decide (W.getD (W.length - 1) 0 / 2 ^ (n % 64) = 0))
def vOk (n : Int) (W : List Nat) : Bool := decide (0 ≤ n) && decide (n ≤ 5000) && okW n.toNat W
theorem Q26 (n : Nat) (W : List Nat) (h2 : ∀ x ∈ W, x < 2 ^ 64) : okW n W = true ↔ tight n W := by
  simp only [okW, Bool.and_eq_true, Bool.or_eq_true, decide_eq_true_eq]
  constructor
  · intro ⟨h1, h⟩; exact (tight_last n W h1 h2).2 h
  · intro h; exact ⟨h.1, (tight_last n W h.1 h2).1 h⟩
theorem Q33 (n : Int) (W : List Nat) (hl : W.length ≤ 1048576) (hx : ∀ x ∈ W, x < 2 ^ 64) : Q08 (n, ints W) = some (vOk n W) := by
  rw [Q08.eq, Q2H, Option.bind_some]
  unfold vOk
  cases hn : decide (0 ≤ n) && decide (n ≤ 5000) with
  | false => rfl
  | true =>
    simp only [Bool.and_eq_true, decide_eq_true_eq] at hn
    obtain ⟨m, rfl⟩ : ∃ m : Nat, n = m := ⟨n.toNat, by omega⟩
    have e2 : (m : Int).tmod 64 = ((m % 64 : Nat) : Int) := rfl
    have e1 : ((m : Int) + 63).tdiv 64 = ((nw m : Nat) : Int) := rfl
    simp only [Bool.not_true, Qd, e2, List.length_map, Bool.true_and, Int.toNat_natCast]
    unfold nw at e1
    rw [Qb (x := (m : Int) + 64) (by omega) (by omega), Qb (x := (m : Int) + 64 - 1) (by omega) (by omega), show (m : Int) + 64 - 1 = m + 63 by omega, e1, Qb (by omega) (by omega)]
    unfold okW nw
    by_cases h1 : W.length = (m + 63) / 64
    · rw [Q1F (by omega), decide_eq_true h1, Bool.true_and]
      by_cases h2 : m % 64 = 0
      · rw [Q07 (by omega), decide_eq_true h2]; rfl
      · have hj : W.length - 1 < W.length := by omega
        have e3 : min (m % 64) 64 = m % 64 := by omega
        rw [Q0a (by omega), Qb (x := (W.length : Int) - 1) (by omega) (by omega), show (W.length : Int) - 1 = ((W.length - 1 : Nat) : Int) by omega, Q0s _ _ hj, Option.bind_some, Q3 (by omega), e3, fdiv_nat, decide_eq_false h2, Bool.false_or, List.getD_eq_getElem?_getD, List.getElem?_eq_getElem hj]
        congr 1
        rw [Bool.eq_iff_iff]
        simp only [beq_iff_eq, decide_eq_true_eq, Option.getD_some]
        omega
    · rw [Q1K (by omega), decide_eq_false h1]; rfl
theorem bitsOk_l1 (a : Int) (b : Int) (U W : List Nat) (hl : U.length = W.length) (hn : W.length ≤ 1048576) : Qx_l1 0 a (ints W) b (ints U) = some (decide (W = U)) := by
  have key : ∀ (d i : Nat), W.length - i = d → i ≤ W.length → Qx_l1 i a (ints W) b (ints U) = some (decide (W.drop i = U.drop i)) := by
    intro d
    induction d with
    | zero =>
      intro i hd hi
      rw [Qx_l1.eq, List.length_map, Q3 (by omega), drop_nil W (by omega), drop_nil U (by omega)]; simp
    | succ d ih =>
      intro i hd hi
      have hw : i < W.length := by omega
      have hu : i < U.length := by omega
      rw [Qx_l1.eq, List.length_map, Q2 (by omega), Q0s _ _ hw, Option.bind_some, Q0s _ _ hu, Option.bind_some, Int.toNat_natCast, Q1S _ _ hu, Option.bind_some, Q6 _ (by omega), ih (i + 1) (by omega) (by omega), List.drop_eq_getElem_cons hw, List.drop_eq_getElem_cons hu]
      by_cases h : W[i] = U[i]
      · rw [Q1F (by omega)]; simp only [h, List.cons.injEq, true_and]
      · rw [Q1K (by omega)]; simp only [h, List.cons.injEq, false_and, decide_false]
  have := key W.length 0 (by omega) (by omega)
  simpa using this
theorem Q3j (n : Int) (W : List Nat) (hl : W.length ≤ 1048576) (hx : ∀ x ∈ W, x < 2 ^ 64) : Qx (n, ints W) = some (vOk n W) := by
  rw [Qx.eq]
  unfold vOk
  by_cases h1 : n < 0
  · rw [Q2 h1, decide_eq_false (show ¬ 0 ≤ n by omega)]; rfl
  rw [Q3 h1]
  by_cases h2 : n > 5000
  · rw [Q2 h2, decide_eq_false (show ¬ n ≤ 5000 by omega), Bool.and_false]; rfl
  rw [Q3 h2, decide_eq_true (show 0 ≤ n by omega), decide_eq_true (show n ≤ 5000 by omega)]
  obtain ⟨m, rfl⟩ : ∃ m : Nat, n = m := ⟨n.toNat, by omega⟩
  have e1 : ((m : Int) + 63).tdiv 64 = ((nw m : Nat) : Int) := rfl
  simp only [List.length_map, Bool.true_and, Int.toNat_natCast]
  rw [Qb (x := (m : Int) + 63) (by omega) (by omega), e1]
  have hm : nw m ≤ 100 := by unfold nw; omega
  rw [Qb (by omega) (by omega)]
  by_cases h3 : W.length = nw m
  · have hb := Q1A m W
    rw [Q1F (by omega), Qx_l0.eq, Q2P m W (by omega) (by unfold nw at h3; omega) hx, Option.bind_some, Q32 _ (by omega), Option.bind_some]
    try simp only
    rw [bitsOk_l1 _ _ _ _ (by rw [Q1M, hb, h3]) hl]
    congr 1
    rw [Bool.eq_iff_iff, Q26 m W hx, decide_eq_true_eq, tight_iff m W h3 hx]
    exact eq_comm
  · rw [Q1K (by omega)]
    unfold okW
    rw [decide_eq_false h3]; rfl
def varB (n : Nat) : List Nat := if h : n < 128 then [n] else (n % 128 + 128) :: varB (n / 128)
  termination_by n
  decreasing_by omega
def Var (n : Int) : List Nat := if 0 ≤ n ∧ n ≤ 4294967295 then varB n.toNat else []
def byt (l : List Bool) (m : Nat) : Nat := ofB ((l.drop (8 * m)).take 8)
def bys (l : List Bool) : List Nat := (List.range ((l.length + 7) / 8)).map (byt l)
def bb (n : Int) (W : List Nat) : List Nat := Var n ++ bys (bts n.toNat W)
theorem nw_le {n : Nat} (h : n ≤ 5000) : nw n ≤ 100 := by unfold nw; omega
end Go.Ev.W
/- Waves: what decoding comes to. -/
set_option linter.unusedVariables false
set_option linter.unusedSimpArgs false
namespace Go.Ev.W
open Go.Ev
def zer (bs : List Bool) (k : Nat) : Nat := ((bs.take k).filter (!·)).length
def one (bs : List Bool) (k : Nat) : Nat := ((bs.take k).filter id).length
theorem Q34 (bs : List Bool) : zer bs 0 = 0 := by simp [zer]
theorem one_zero (bs : List Bool) : one bs 0 = 0 := by simp [one]
theorem Q2I (bs : List Bool) (k : Nat) (h : k < bs.length) : zer bs (k + 1) = zer bs k + (if bs[k] then 0 else 1) := by
  unfold zer
  rw [List.take_add_one, List.getElem?_eq_getElem h, List.filter_append, List.length_append]
  cases bs[k] <;> simp
theorem Q35 (bs : List Bool) (k : Nat) (h : k < bs.length) : one bs (k + 1) = one bs k + (if bs[k] then 1 else 0) := by
  unfold one
  rw [List.take_add_one, List.getElem?_eq_getElem h, List.filter_append, List.length_append]
  cases bs[k] <;> simp
theorem Q2a (bs : List Bool) : ∀ k, k ≤ bs.length → zer bs k + one bs k = k
  | 0, _ => by rw [Q34, one_zero]
  | k + 1, h => by
    have := Q2a bs k (by omega)
    rw [Q2I bs k (by omega), Q35 bs k (by omega)]
    cases bs[k] <;> simp <;> omega
theorem zer_mono (bs : List Bool) (k : Nat) : ∀ d, k + d ≤ bs.length → zer bs k ≤ zer bs (k + d)
  | 0, _ => Nat.le_refl _
  | d + 1, h => by
    have := zer_mono bs k d (by omega)
    rw [← Nat.add_assoc, Q2I bs (k + d) (by omega)]; omega
theorem one_mono (bs : List Bool) (k : Nat) : ∀ d, k + d ≤ bs.length → one bs k ≤ one bs (k + d)
  | 0, _ => Nat.le_refl _
  | d + 1, h => by
    have := one_mono bs k d (by omega)
    rw [← Nat.add_assoc, Q35 bs (k + d) (by omega)]; omega
def nxt (bs : List Bool) (j : Nat) : Nat := if bs.getD j false then zer bs bs.length + one bs j else zer bs j
theorem nxt_lt (bs : List Bool) (j : Nat) (h : j < bs.length) : nxt bs j < bs.length := by
  unfold nxt
  have h1 := Q2a bs bs.length (Nat.le_refl _)
  have h2 := zer_mono bs (j + 1) (bs.length - (j + 1)) (by omega)
  have h3 := one_mono bs (j + 1) (bs.length - (j + 1)) (by omega)
  have h4 := Q2I bs j h
  have h5 := Q35 bs j h
  have e : j + 1 + (bs.length - (j + 1)) = bs.length := by omega
  rw [e] at h2 h3
  rw [List.getD_eq_getElem?_getD, List.getElem?_eq_getElem h, Option.getD_some]
  cases hb : bs[j] with
  | true => rw [hb] at h5; simp at h5 ⊢; omega
  | false => rw [hb] at h4; simp at h4 ⊢; omega
def stp (bs : List Bool) (s : Nat × Nat) : Nat × Nat := (nxt bs s.1, 2 * s.2 + (bs.getD s.1 false).toNat)
theorem Q27 (bs : List Bool) (i : Nat) (h : i < bs.length) : at? (Qe bs) (i : Int) = some (bint bs[i]) := by
  rw [Q0C, List.getElem?_map, List.getElem?_eq_getElem h]; rfl
theorem Q2t (bs : List Bool) (i : Nat) (h : i < bs.length) : (Qe bs)[i]? = some (bint bs[i]) := by
  rw [List.getElem?_map, List.getElem?_eq_getElem h]; rfl
theorem Q2z (b : Bool) : (bint b == (0 : Int)) = !b := by cases b <;> rfl
theorem count_l0 (bs : List Bool) (hn : bs.length ≤ 5000) : ∀ (d i : Nat), bs.length - i = d → i ≤ bs.length → Qh_l0 0 (zer bs i : Nat) (Qe bs) bs.length i = some ((zer bs bs.length : Nat) : Int) := by
  intro d
  induction d with
  | zero =>
    intro i h1 h2
    obtain rfl : i = bs.length := by omega
    rw [Qh_l0.eq, Q3 (by omega)]
  | succ d ih =>
    intro i h1 h2
    have hi : i < bs.length := by omega
    have hz := Q2a bs i h2
    rw [Qh_l0.eq, Q2 (by omega), Q27 bs i hi, Option.bind_some, Q2z]
    have := ih (i + 1) (by omega) (by omega)
    rw [Q2I bs i hi] at this
    cases hb : bs[i] with
    | true =>
      rw [hb] at this
      simp only [if_true, Nat.add_zero] at this
      rw [Bool.not_true, Qd, Q6 i (by omega)]; exact this
    | false =>
      rw [hb] at this
      simp only [Bool.false_eq_true, if_false] at this
      rw [Bool.not_false, Qu, Q6 i (by omega), Q6 _ (by omega)]; exact this
theorem count_eq (bs : List Bool) (hn : bs.length ≤ 5000) : Qh (Qe bs) 0 = some ((zer bs bs.length : Nat) : Int) := by
  rw [Qh.eq, List.length_map]
  have := count_l0 bs hn _ 0 rfl (by omega)
  rw [Q34] at this
  exact this
theorem rank_l1 (bs : List Bool) (hn : bs.length ≤ 5000) : ∀ (d i : Nat), bs.length - i = d → i ≤ bs.length → Qv_l1 0 bs.length (zer bs i : Nat) i (Qe bs) = some ((zer bs bs.length : Nat) : Int) := by
  intro d
  induction d with
  | zero =>
    intro i h1 h2
    obtain rfl : i = bs.length := by omega
    rw [Qv_l1.eq, Q3 (by omega)]
  | succ d ih =>
    intro i h1 h2
    have hi : i < bs.length := by omega
    have hz := Q2a bs i h2
    rw [Qv_l1.eq, Q2 (by omega), Q27 bs i hi, Option.bind_some, Int.toNat_natCast, Q2t bs i hi, Option.bind_some, Q2z]
    have := ih (i + 1) (by omega) (by omega)
    rw [Q2I bs i hi] at this
    cases hb : bs[i] with
    | true =>
      rw [hb] at this
      simp only [if_true, Nat.add_zero] at this
      rw [Bool.not_true, Qd, Q6 i (by omega)]; exact this
    | false =>
      rw [hb] at this
      simp only [Bool.false_eq_true, if_false] at this
      rw [Bool.not_false, Qu, Q6 i (by omega), Q6 _ (by omega)]; exact this
theorem rank_eq (m : Nat) (W : List Nat) (hm : m ≤ 5000) (hl : W.length ≤ 1048576) (hx : ∀ x ∈ W, x < 2 ^ 64) (hv : vOk m W = true) : Qv ((m : Int), ints W) 0 m = some ((zer (bts m W) m : Nat) : Int) := by
  rw [Qv.eq]
  try simp only
  have ht := (Q26 m W hx).1 (by simp only [vOk, Bool.and_eq_true] at hv; simpa using hv.2)
  have hb := Q1A m W
  rw [Q3j _ W hl hx, Option.bind_some, hv, Bool.not_true, Qd, Q0U.eq, Q07 rfl, Option.bind_some, Bool.not_true, Qd, Q3 (by omega), Q3 (by omega), Qv_l0.eq,
    Q2P m W hm (by have := ht.1; unfold nw at this; omega) hx, Option.bind_some]
  have := rank_l1 (bts m W) (by omega) _ 0 rfl (by omega)
  rw [Q34, hb] at this
  exact this
theorem bitsAt_eq (m : Int) (W : List Nat) (hx : ∀ x ∈ W, x < 2 ^ 64) (i : Nat) (hi : i ≤ 5000) (hj : i / 64 < W.length) : Q0R (m, ints W) i = some (bint (bit W i)) := by
  rw [Q0R.eq]
  have e1 : (i : Int).tdiv 64 = ((i / 64 : Nat) : Int) := rfl
  have e2 : (i : Int).tmod 64 = ((i % 64 : Nat) : Int) := rfl
  have e3 : min (i % 64) 64 = i % 64 := by omega
  have hw : W[i / 64] < 2 ^ 64 := hx _ (List.getElem_mem hj)
  try simp only
  rw [e1, e2, Qb (by omega) (by omega), Q0s _ _ hj, Option.bind_some, Q3 (by omega), Int.toNat_natCast, e3, fdiv_nat]
  have h1 := bv_and 64 (W[i / 64] / 2 ^ (i % 64)) 1 (Nat.lt_of_le_of_lt (Nat.div_le_self _ _) hw) (by omega)
  rw [show ((1 : Nat) : Int) = 1 from rfl] at h1
  rw [h1, Nat.and_one_is_mod, wrapUn (by omega), Q2q (by omega)]
  simp only [bint, bit, List.getD_eq_getElem?_getD, List.getElem?_eq_getElem hj, Option.getD_some, testBit_div]
theorem bitsList_l0 (m : Nat) (W : List Nat) (hm : m ≤ 5000) (hW : m ≤ 64 * W.length) (hx : ∀ x ∈ W, x < 2 ^ 64) : ∀ (d i : Nat), m - i = d → i ≤ m → ∀ out : List Int, out.length ≤ i → QG_l0 m i m (ints W) out = some (out ++ (Qe (bts m W)).drop i) := by
  intro d
  induction d with
  | zero =>
    intro i h1 h2 out ho
    rw [QG_l0.eq, Q3 (by omega), drop_nil _ (by simp only [List.length_map, Q1A]; omega), List.append_nil]
  | succ d ih =>
    intro i h1 h2 out ho
    have hb : (Qe (bts m W))[i]? = some (bint (bit W i)) := by rw [List.getElem?_map, bts_get _ _ _ (by omega)]; rfl
    rw [QG_l0.eq, Q2 (by omega), bitsAt_eq _ _ hx _ (by omega) (by omega), Option.bind_some, Q2 (by simp only [List.length_cons, List.length_nil]; omega), Q6 i (by omega), ih (i + 1) (by omega) (by omega) _ (by simp; omega), drop_eq hb, List.append_assoc, List.singleton_append]
theorem Q3k (m : Nat) (W : List Nat) (hm : m ≤ 5000) (hx : ∀ x ∈ W, x < 2 ^ 64) (ht : tight m W) : QG ((m : Int), ints W) = some (Qe (bts m W)) := by
  rw [QG.eq]
  have := bitsList_l0 m W hm (by have := ht.1; unfold nw at this; omega) hx _ 0 rfl (by omega) [] (by simp)
  simpa using this
theorem implBitsList_eq (n : Int) (W : List Nat) (hl : W.length ≤ 1048576) (hx : ∀ x ∈ W, x < 2 ^ 64) : Q1g (n, ints W) = some (bif vOk n W then Qe (bts n.toNat W) else []) := by
  rw [Q1g.eq]
  try simp only
  rw [Q33 _ _ hl hx, Option.bind_some]
  cases hv : vOk n W with
  | false => rfl
  | true =>
    have hv' := hv
    simp only [vOk, Bool.and_eq_true, decide_eq_true_eq] at hv'
    obtain ⟨m, rfl⟩ : ∃ m : Nat, n = m := ⟨n.toNat, by omega⟩
    rw [Bool.not_true, Qd, Q3k m W (by omega) hx ((Q26 m W hx).1 (by simpa using hv'.2)), Option.bind_some, Qu, Int.toNat_natCast]
end Go.Ev.W
/- Waves: the program's decoding and the two validity checks. -/
set_option linter.unusedVariables false
set_option linter.unusedSimpArgs false
namespace Go.Ev.W
open Go.Ev
abbrev LI (L : List (Int × List Nat)) : List (Int × List Int) := L.map fun p => (p.1, ints p.2)
theorem at?_LI (L : List (Int × List Nat)) (i : Nat) (h : i < L.length) : at? (LI L) (i : Int) = some (L[i].1, ints L[i].2) := by
  rw [Q0C, List.getElem?_map, List.getElem?_eq_getElem h]; rfl
abbrev fsts (S : List (Nat × Nat)) : List Nat := S.map (·.1)
abbrev snds (S : List (Nat × Nat)) : List Nat := S.map (·.2)
theorem ints_app (a b : List Nat) : ints (a ++ b) = ints a ++ ints b := List.map_append
theorem or_bit (v : Nat) (b : Bool) (hv : v ≤ 100000) : IntKind.i64.wrap (((BitVec.ofInt 64 (IntKind.i64.wrap ((v : Int) * 2 ^ 1))) ||| (BitVec.ofInt 64 (bint b))).toNat : Int) = ((2 * v + b.toNat : Nat) : Int) := by
  have e1 : (v : Int) * 2 ^ 1 = ((2 * v : Nat) : Int) := by simp; omega
  have hb : b.toNat ≤ 1 := by cases b <;> simp
  have e3 : IntKind.i64.wrap ((2 * v : Nat) : Int) = ((2 * v : Nat) : Int) := Q2q (by omega)
  rw [e1, e3]
  have h1 := bv_or 64 (2 * v) b.toNat (by omega) (by omega)
  unfold bint
  have e2 : 2 * v ||| b.toNat = 2 * v + b.toNat := by
    have := Nat.two_pow_add_eq_or_of_lt (i := 1) (b := b.toNat) (by omega) v
    simpa using this.symm
  rw [h1, e2, Q2q (by omega)]
section
variable (N : Nat) (hN : N ≤ 1000) (Z : List Int) (Y : List (Int × List Int))
include hN
theorem read_l1 (out : List Int) : ∀ (d i : Nat), N - i = d → i ≤ N → ∀ acc : List Int, acc.length = N → acc.take i = ints (List.range i) →
    Qc_l1 N i N Z Y out acc = Qc_l2 Y Y.length 0 N Z Y out (ints (List.range N)) := by
  intro d
  induction d with
  | zero =>
    intro i h1 h2 acc ha ht
    obtain rfl : i = N := by omega
    rw [Qc_l1.eq, Q3 (by omega)]
    rw [List.take_of_length_le (by omega)] at ht
    rw [ht]
  | succ d ih =>
    intro i h1 h2 acc ha ht
    have hi : i < acc.length := by omega
    rw [Qc_l1.eq, Q2 (by omega), Q29 acc i hi, Option.bind_some, Int.toNat_natCast, List.getElem?_eq_getElem hi, Option.bind_some, Q6 i (by omega)]
    refine ih (i + 1) (by omega) (by omega) _ (by simpa using ha) ?_
    rw [take_set acc i hi, ht, List.range_succ, ints_app]; rfl
theorem read_l4 (bs : List Bool) (hb : bs.length = N) (V : List (Int × List Int)) (a t : Int) (out pos : List Int) : ∀ (d i : Nat), N - i = d → i ≤ N → ∀ acc : List Int, acc.length = N → acc.take i = ints ((List.range i).map (nxt bs)) →
    Qc_l4 (zer bs i : Nat) ((zer bs N + one bs i : Nat) : Int) V a t N i N Z Y out pos (Qe bs) acc = Qc_l5 V a t pos.length 0 N Z Y out pos (Qe bs) (ints ((List.range N).map (nxt bs))) := by
  intro d
  induction d with
  | zero =>
    intro i h1 h2 acc ha ht
    obtain rfl : i = N := by omega
    rw [Qc_l4.eq, Q3 (by omega)]
    rw [List.take_of_length_le (by omega)] at ht
    rw [ht]
  | succ d ih =>
    intro i h1 h2 acc ha ht
    have hi : i < acc.length := by omega
    have hib : i < bs.length := by omega
    have hz := Q2a bs i (by omega)
    have hz2 := Q2a bs N (by omega)
    rw [Qc_l4.eq, Q2 (by omega), Q27 bs i hib, Option.bind_some, Int.toNat_natCast, Q2t bs i hib, Option.bind_some, Q2z]
    have ih' := ih (i + 1) (by omega) (by omega)
    rw [Q2I bs i hib, Q35 bs i hib] at ih'
    have e : ∀ x : Nat, x = nxt bs i → (acc.set i (x : Int)).take (i + 1) = ints ((List.range (i + 1)).map (nxt bs)) := by
      intro x hx
      rw [take_set acc i hi, ht, List.range_succ, List.map_append, ints_app, hx]; rfl
    cases hbi : bs[i] with
    | true =>
      rw [hbi] at ih'
      simp only [if_true, Nat.add_zero] at ih'
      rw [Bool.not_true, Qd, Q29 acc i hi, Option.bind_some, List.getElem?_eq_getElem hi, Option.bind_some, Q6 i (by omega), Q6 _ (by omega), Nat.add_assoc]
      refine ih' _ (by simpa using ha) (e _ ?_)
      unfold nxt
      rw [List.getD_eq_getElem?_getD, List.getElem?_eq_getElem hib, Option.getD_some, hbi, if_pos rfl, hb]
    | false =>
      rw [hbi] at ih'
      simp only [Bool.false_eq_true, if_false, Nat.add_zero] at ih'
      rw [Bool.not_false, Qu, Q29 acc i hi, Option.bind_some, List.getElem?_eq_getElem hi, Option.bind_some, Q6 i (by omega), Q6 _ (by omega)]
      refine ih' _ (by simpa using ha) (e _ ?_)
      unfold nxt
      rw [List.getD_eq_getElem?_getD, List.getElem?_eq_getElem hib, Option.getD_some, hbi]; rfl
theorem read_l5 (bs : List Bool) (hb : bs.length = N) (V : List (Int × List Int)) (a t : Int) (S : List (Nat × Nat)) (hS : S.length = N) (hp : ∀ s ∈ S, s.1 < N) (hv : ∀ s ∈ S, s.2 ≤ 100000) : ∀ (d i : Nat), N - i = d → i ≤ N →
    Qc_l5 V a t N i N Z Y (ints (snds ((S.take i).map (stp bs) ++ S.drop i))) (ints (fsts ((S.take i).map (stp bs) ++ S.drop i))) (Qe bs) (ints ((List.range N).map (nxt bs))) =
      Qc_l2 V a (IntKind.i64.wrap (t + 1)) N Z Y (ints (snds (S.map (stp bs)))) (ints (fsts (S.map (stp bs)))) := by
  intro d
  induction d with
  | zero =>
    intro i h1 h2
    obtain rfl : i = N := by omega
    rw [Qc_l5.eq, Q3 (by omega), List.take_of_length_le (by omega), List.drop_eq_nil_of_le (by omega), List.append_nil]
  | succ d ih =>
    intro i h1 h2
    have hiS : i < S.length := by omega
    obtain ⟨T, hT⟩ : ∃ T, T = (S.take i).map (stp bs) ++ S.drop i := ⟨_, rfl⟩
    have hTl : T.length = N := by rw [hT, List.length_append, List.length_map, List.length_take, List.length_drop]; omega
    have hTi : T[i]? = some S[i] := by
      rw [hT, List.getElem?_append_right (by rw [List.length_map, List.length_take]; omega), List.length_map, List.length_take, Nat.min_eq_left (by omega), Nat.sub_self, List.getElem?_drop, Nat.add_zero, List.getElem?_eq_getElem hiS]
    have hTs : T.set i (stp bs S[i]) = (S.take (i + 1)).map (stp bs) ++ S.drop (i + 1) := by
      rw [hT, List.set_append_right _ _ (by rw [List.length_map, List.length_take]; omega), List.length_map, List.length_take, Nat.min_eq_left (by omega), Nat.sub_self, List.drop_eq_getElem_cons hiS, List.set_cons_zero, List.take_add_one, List.getElem?_eq_getElem hiS, List.map_append, List.append_assoc]; rfl
    rw [← hT]
    have hp' := hp _ (List.getElem_mem hiS)
    have hv' := hv _ (List.getElem_mem hiS)
    have g1 : ∀ j : Nat, (ints (fsts T))[j]? = (T[j]?).map fun s => ((s.1 : Nat) : Int) := fun j => by rw [List.getElem?_map, List.getElem?_map, Option.map_map]; rfl
    have g2 : ∀ j : Nat, (ints (snds T))[j]? = (T[j]?).map fun s => ((s.2 : Nat) : Int) := fun j => by rw [List.getElem?_map, List.getElem?_map, Option.map_map]; rfl
    have g3 : (ints ((List.range N).map (nxt bs)))[S[i].1]? = some ((nxt bs S[i].1 : Nat) : Int) := by
      rw [List.getElem?_map, List.getElem?_map, List.getElem?_range hp']; rfl
    have g4 : (Qe bs)[S[i].1]? = some (bint (bs.getD S[i].1 false)) := by
      rw [Q2t bs _ (by omega), List.getD_eq_getElem?_getD, List.getElem?_eq_getElem (by omega), Option.getD_some]
    rw [Qc_l5.eq, Q2 (by omega)]
    simp only [Q0C, Int.toNat_natCast, g1, g2, g3, g4, hTi, Option.map_some, Option.bind_some]
    rw [or_bit _ _ hv', Q6 i (by omega), ints_set, ints_set]
    have e1 : (snds T).set i (2 * S[i].2 + (bs.getD S[i].1 false).toNat) = snds (T.set i (stp bs S[i])) := (List.map_set (f := fun s : Nat × Nat => s.2) (l := T) (i := i) (a := stp bs S[i])).symm
    have e2 : (fsts T).set i (nxt bs S[i].1) = fsts (T.set i (stp bs S[i])) := (List.map_set (f := fun s : Nat × Nat => s.1) (l := T) (i := i) (a := stp bs S[i])).symm
    rw [e1, e2, hTs]
    exact ih (i + 1) (by omega) (by omega)
end
def lvb (p : Int × List Nat) : List Bool := bts p.1.toNat p.2
def lOk (n : Int) (p : Int × List Nat) (z : Int) : Bool := vOk p.1 p.2 && decide (p.1 = n) && decide (((zer (lvb p) (lvb p).length : Nat) : Int) = z)
def wOk (n : Int) (Z : List Int) (L : List (Int × List Nat)) : Bool :=
  decide (0 ≤ n) && decide (n ≤ 1000) && decide (Z.length = 9) && decide (L.length = 9) && (L.zip Z).all fun q => lOk n q.1 q.2
def rows (bss : List (List Bool)) (S : List (Nat × Nat)) : List (Nat × Nat) := bss.foldl (fun S bs => S.map (stp bs)) S
def start (N : Nat) : List (Nat × Nat) := (List.range N).map fun i => (i, 0)
theorem read_l2 (N : Nat) (hN : N ≤ 1000) (Z : List Int) (L : List (Int × List Nat)) (hz : Z.length = L.length) (hll : L.length = 9) (hl : ∀ p ∈ L, p.2.length ≤ 1048576) (hx : ∀ p ∈ L, ∀ x ∈ p.2, x < 2 ^ 64) : ∀ (d i : Nat), L.length - i = d → i ≤ L.length → ∀ S : List (Nat × Nat), S.length = N → (∀ s ∈ S, s.1 < N) → (∀ s ∈ S, s.2 < 2 ^ i) →
    Qc_l2 (LI L) L.length i N Z (LI L) (ints (snds S)) (ints (fsts S)) = some (bif ((L.zip Z).drop i).all (fun q => lOk N q.1 q.2) then (ints (snds (rows ((L.drop i).map lvb) S)), true) else ([], false)) := by
  intro d
  induction d with
  | zero =>
    intro i h1 h2 S hS hp hv
    rw [Qc_l2.eq, Q3 (by omega), List.drop_eq_nil_of_le (show (L.zip Z).length ≤ i by rw [List.length_zip]; omega), List.drop_eq_nil_of_le (show L.length ≤ i by omega)]
    rfl
  | succ d ih =>
    intro i h1 h2 S hS hp hv
    have hi : i < L.length := by omega
    have hiz : i < Z.length := by omega
    have hzi : i < (L.zip Z).length := by rw [List.length_zip]; omega
    have hm := List.getElem_mem hi
    rw [Qc_l2.eq, Q2 (by omega), at?_LI L i hi, Option.bind_some]
    try simp only
    rw [implBitsList_eq _ _ (hl _ hm) (hx _ hm), Option.bind_some, Q33 _ _ (hl _ hm) (hx _ hm), Option.bind_some, List.drop_eq_getElem_cons hzi, List.all_cons, List.getElem_zip]
    have hk : lOk (N : Int) (L[i], Z[i]).1 (L[i], Z[i]).2 = (vOk L[i].1 L[i].2 && decide (L[i].1 = (N : Int)) && decide (((zer (lvb L[i]) (lvb L[i]).length : Nat) : Int) = Z[i])) := rfl
    rw [hk]
    cases hvo : vOk L[i].1 L[i].2 with
    | false => rfl
    | true =>
      rw [Bool.not_true, Qd, Qu, Bool.true_and]
      by_cases hn : L[i].1 = (N : Int)
      · rw [Q1F hn, decide_eq_true hn, Bool.true_and]
        have hbl : (lvb L[i]).length = N := by unfold lvb; rw [Q1A, hn, Int.toNat_natCast]
        have e : bts L[i].1.toNat L[i].2 = lvb L[i] := rfl
        rw [e, count_eq _ (by omega), Option.bind_some, Q29 Z i hiz, Option.bind_some]
        by_cases hc : ((zer (lvb L[i]) (lvb L[i]).length : Nat) : Int) = Z[i]
        · rw [Q1F hc, decide_eq_true hc, Bool.true_and]
          have e0 : (decide ((0 : Int) ≤ (N : Int)) && decide ((N : Int).toNat * 8 ≤ 140737488355328)) = true := by simp; omega
          rw [Qc_l3.eq, e0, Qu, Q29 Z i hiz, Option.bind_some, ← hc, Int.toNat_natCast]
          have h4 := read_l4 N hN Z (LI L) (lvb L[i]) hbl (LI L) L.length i (ints (snds S)) (ints (fsts S)) _ 0 rfl (by omega) (List.replicate N 0) (by simp) (by simp)
          rw [Q34, one_zero, Nat.add_zero] at h4
          rw [show (Qe (lvb L[i])).length = N by rw [List.length_map, hbl], hbl]
          refine h4.trans ?_
          have h5 := read_l5 N hN Z (LI L) (lvb L[i]) hbl (LI L) L.length i S hS hp (fun s hs => by
            have h1 := hv s hs
            have h2 : 2 ^ i ≤ 2 ^ 9 := Nat.pow_le_pow_right (by omega) (by omega)
            omega) _ 0 rfl (by omega)
          rw [List.take_zero, List.map_nil, List.nil_append, List.drop_zero] at h5
          rw [List.length_map, List.length_map, hS]
          refine h5.trans ?_
          rw [Q6 i (by omega), ih (i + 1) (by omega) (by omega) (S.map (stp (lvb L[i]))) (by simpa using hS) ?_ ?_, List.drop_eq_getElem_cons hi, List.map_cons]
          · rfl
          · intro s hs
            obtain ⟨s', hs', rfl⟩ := List.mem_map.1 hs
            have := nxt_lt (lvb L[i]) s'.1 (by rw [hbl]; exact hp _ hs')
            rw [hbl] at this; exact this
          · intro s hs
            obtain ⟨s', hs', rfl⟩ := List.mem_map.1 hs
            have h1 := hv _ hs'
            have h2 : ((lvb L[i]).getD s'.1 false).toNat ≤ 1 := by cases (lvb L[i]).getD s'.1 false <;> simp
            show 2 * s'.2 + ((lvb L[i]).getD s'.1 false).toNat < 2 ^ (i + 1)
            rw [Nat.pow_succ]; omega
        · rw [Q1K hc, decide_eq_false hc]; rfl
      · rw [Q1K hn, decide_eq_false hn]; rfl
theorem start_fst (N : Nat) : fsts (start N) = List.range N := by
  show List.map (fun s : Nat × Nat => s.1) (List.map (fun i => (i, 0)) (List.range N)) = _
  rw [List.map_map]; exact (List.map_congr_left fun _ _ => rfl).trans (List.map_id _)
theorem start_snd (N : Nat) : snds (start N) = List.replicate N 0 := by
  show List.map (fun s : Nat × Nat => s.2) (List.map (fun i => (i, 0)) (List.range N)) = _
  rw [List.map_map]
  apply List.ext_getElem (by simp)
  intro i h1 h2
  simp
theorem Q4g (n : Int) (Z : List Int) (L : List (Int × List Nat)) (hl : ∀ p ∈ L, p.2.length ≤ 1048576) (hx : ∀ p ∈ L, ∀ x ∈ p.2, x < 2 ^ 64) :
    Qc (n, Z, LI L) = some (bif wOk n Z L then (ints (snds (rows (L.map lvb) (start n.toNat))), true) else ([], false)) := by
  rw [Qc.eq, Q2H, Option.bind_some]
  unfold wOk
  cases hn : decide (0 ≤ n) && decide (n ≤ 1000) with
  | false => rfl
  | true =>
    rw [Bool.not_true, Qd, Bool.true_and]
    simp only [Bool.and_eq_true, decide_eq_true_eq] at hn
    obtain ⟨N, rfl⟩ : ∃ m : Nat, n = m := ⟨n.toNat, by omega⟩
    simp only [List.length_map]
    by_cases h1 : Z.length = 9
    · rw [Q1F (by omega), decide_eq_true h1, Bool.true_and]
      by_cases h2 : L.length = 9
      · rw [Q1F (by omega), decide_eq_true h2, Bool.true_and]
        have e0 : (decide ((0 : Int) ≤ (N : Int)) && decide ((N : Int).toNat * 8 ≤ 140737488355328)) = true := by simp; omega
        rw [Qc_l0.eq, e0, Qu, Qu, Int.toNat_natCast, List.length_replicate]
        have h3 := read_l1 N (by omega) Z (LI L) (List.replicate N 0) _ 0 rfl (by omega) (List.replicate N 0) (by simp) (by simp)
        refine h3.trans ?_
        have h4 := read_l2 N (by omega) Z L (by omega) h2 hl hx _ 0 rfl (by omega) (start N) (by simp [start]) (by simp [start]) (by simp [start])
        rw [start_fst, start_snd] at h4
        have e1 : ints (List.replicate N 0) = List.replicate N 0 := by simp
        rw [e1] at h4
        rw [List.length_map]
        refine h4.trans ?_
        rw [List.drop_zero, List.drop_zero]
      · rw [Q1K (by omega), decide_eq_false h2]; rfl
    · rw [Q1K (by omega), decide_eq_false h1]; rfl
theorem specWaveOk_l1 (N : Nat) (hN : N ≤ 1000) (Z : List Int) (L : List (Int × List Nat)) (hz : Z.length = L.length) (hll : L.length = 9) (hl : ∀ p ∈ L, p.2.length ≤ 1048576) (hx : ∀ p ∈ L, ∀ x ∈ p.2, x < 2 ^ 64) : ∀ (d i : Nat), L.length - i = d → i ≤ L.length →
    QA_l1 i N Z (LI L) = some (((L.zip Z).drop i).all (fun q => lOk N q.1 q.2)) := by
  intro d
  induction d with
  | zero =>
    intro i h1 h2
    rw [QA_l1.eq, Q3 (by omega), List.drop_eq_nil_of_le (show (L.zip Z).length ≤ i by rw [List.length_zip]; omega)]
    rfl
  | succ d ih =>
    intro i h1 h2
    have hi : i < L.length := by omega
    have hiz : i < Z.length := by omega
    have hzi : i < (L.zip Z).length := by rw [List.length_zip]; omega
    have hm := List.getElem_mem hi
    rw [QA_l1.eq, Q2 (by omega), at?_LI L i hi, Option.bind_some, List.drop_eq_getElem_cons hzi, List.all_cons, List.getElem_zip]
    have hk : lOk (N : Int) (L[i], Z[i]).1 (L[i], Z[i]).2 = (vOk L[i].1 L[i].2 && decide (L[i].1 = (N : Int)) && decide (((zer (lvb L[i]) (lvb L[i]).length : Nat) : Int) = Z[i])) := rfl
    rw [hk]
    by_cases hn : L[i].1 = (N : Int)
    · rw [Q1F hn, Option.bind_some]
      try simp only
      rw [Q3j _ _ (hl _ hm) (hx _ hm), Option.bind_some]
      cases hvo : vOk L[i].1 L[i].2 with
      | false => rfl
      | true =>
        rw [Bool.not_true, Qd, Option.bind_some, decide_eq_true hn, Bool.true_and, Bool.true_and]
        have hbl : (lvb L[i]).length = N := by unfold lvb; rw [Q1A, hn, Int.toNat_natCast]
        have hr := rank_eq N L[i].2 (by omega) (hl _ hm) (hx _ hm) (by rw [← hn]; exact hvo)
        have e : bts N L[i].2 = lvb L[i] := by unfold lvb; rw [hn, Int.toNat_natCast]
        rw [hn, hr, Option.bind_some, Q29 Z i hiz, Option.bind_some, e, hbl]
        by_cases hc : ((zer (lvb L[i]) N : Nat) : Int) = Z[i]
        · rw [Q1F hc, decide_eq_true hc, Bool.true_and, Q6 i (by omega)]
          exact ih (i + 1) (by omega) (by omega)
        · rw [Q1K hc, decide_eq_false hc]; rfl
    · rw [Q1K hn, decide_eq_false hn, Bool.and_false]; rfl
theorem Q3T (n : Int) (Z : List Int) (L : List (Int × List Nat)) (hl : ∀ p ∈ L, p.2.length ≤ 1048576) (hx : ∀ p ∈ L, ∀ x ∈ p.2, x < 2 ^ 64) : QA (n, Z, LI L) = some (wOk n Z L) := by
  rw [QA.eq]
  unfold wOk
  by_cases h1 : n < 0
  · rw [Q2 h1, decide_eq_false (show ¬ 0 ≤ n by omega)]; rfl
  rw [Q3 h1, decide_eq_true (show 0 ≤ n by omega)]
  by_cases h2 : n > 1000
  · rw [Q2 h2, decide_eq_false (show ¬ n ≤ 1000 by omega)]; rfl
  rw [Q3 h2, decide_eq_true (show n ≤ 1000 by omega)]
  obtain ⟨N, rfl⟩ : ∃ m : Nat, n = m := ⟨n.toNat, by omega⟩
  simp only [List.length_map, Bool.true_and]
  by_cases h3 : L.length = 9
  · rw [Q1F (by omega), decide_eq_true h3]
    by_cases h4 : Z.length = 9
    · rw [Q1F (by omega), decide_eq_true h4, Bool.true_and, Bool.true_and, QA_l0.eq]
      have := specWaveOk_l1 N (by omega) Z L (by omega) h3 hl hx _ 0 rfl (by omega)
      rw [List.drop_zero] at this
      exact this
    · rw [Q1K (by omega), decide_eq_false h4]; rfl
  · rw [Q1K (by omega), decide_eq_false h3, Bool.and_false]; rfl
end Go.Ev.W
/- What the laws' helpers come to: bytes, words, bits, packed numbers. -/
set_option linter.unusedVariables false
set_option linter.unusedSimpArgs false
namespace Go.Ev.W
open Go.Ev
theorem Q2j {α : Type} [BEq α] [LawfulBEq α] [DecidableEq α] (x y : α) : (x == y) = decide (x = y) := by rw [Bool.eq_iff_iff]; simp
end Go.Ev.W
/- What the laws' own helpers come to: lists of bit vectors, waves. -/
set_option linter.unusedVariables false
set_option linter.unusedSimpArgs false
namespace Go.Ev.W
open Go.Ev
abbrev Lv := List (Int × List Int)
structure Small (Z : List Int) (L : Lv) : Prop where
  z : Z.length ≤ 1048576
  l : L.length ≤ 1048576
  w : ∀ p ∈ L, p.2.length ≤ 1048576
  s : Z.length + L.length + (L.map fun p => p.2.length).sum ≤ 1048576
end Go.Ev.W
/- Waves: arguments; bytes. -/
set_option linter.unusedVariables false
set_option linter.unusedSimpArgs false
namespace Go.Ev.W
open Go.Ev
theorem lv_of (X : List (Int × List Int)) (h : ∀ p ∈ X, ∀ x ∈ p.2, 0 ≤ x ∧ x < ((2 ^ 64 : Nat) : Int)) : ∃ L : List (Int × List Nat), X = LI L ∧ ∀ p ∈ L, ∀ x ∈ p.2, x < 2 ^ 64 := by
  refine ⟨X.map fun p => (p.1, p.2.map Int.toNat), ?_, fun p hp x hx => ?_⟩
  · unfold LI
    rw [List.map_map]
    refine (List.map_id X).symm.trans (List.map_congr_left fun p hp => ?_)
    obtain ⟨n, xs⟩ := p
    refine Prod.ext rfl ?_
    show xs = ints (xs.map Int.toNat)
    unfold ints
    rw [List.map_map]
    refine (List.map_id xs).symm.trans (List.map_congr_left fun x hx => ?_)
    have := h _ hp x hx
    simp only [Function.comp, id]
    omega
  · obtain ⟨q, hq, rfl⟩ := List.mem_map.1 hp
    obtain ⟨y, hy, rfl⟩ := List.mem_map.1 hx
    have := h q hq y hy
    omega
theorem LI_len {L : List (Int × List Nat)} {k : Nat} (h : ∀ p ∈ LI L, p.2.length ≤ k) : ∀ p ∈ L, p.2.length ≤ k := by
  intro p hp
  have := h (p.1, ints p.2) (List.mem_map.2 ⟨p, hp, rfl⟩)
  simpa using this
theorem wOk_at {n : Int} {Z : List Int} {L : List (Int × List Nat)} (h : wOk n Z L = true) : 0 ≤ n ∧ n ≤ 1000 ∧ Z.length = 9 ∧ L.length = 9 ∧ ∀ p ∈ L, vOk p.1 p.2 = true ∧ p.1 = n := by
  unfold wOk at h
  simp only [Bool.and_eq_true, decide_eq_true_eq] at h
  obtain ⟨⟨⟨⟨h1, h2⟩, h3⟩, h4⟩, h5⟩ := h
  refine ⟨h1, h2, h3, h4, fun p hp => ?_⟩
  obtain ⟨i, hi, rfl⟩ := List.getElem_of_mem hp
  have hz : i < (L.zip Z).length := by rw [List.length_zip]; omega
  have := List.all_eq_true.1 h5 _ (List.getElem_mem hz)
  rw [List.getElem_zip] at this
  simp only [lOk, Bool.and_eq_true, decide_eq_true_eq] at this
  exact this.1
end Go.Ev.W
/- Waves: the numbers that the reference reads. -/
set_option linter.unusedVariables false
set_option linter.unusedSimpArgs false
namespace Go.Ev.W
open Go.Ev
def bef (bs : List Bool) (i : Nat) (b : Bool) : Nat := ((bs.take i).filter (· == b)).length
theorem bef_false (bs : List Bool) (i : Nat) : bef bs i false = zer bs i := by
  unfold bef zer; congr 1; apply List.filter_congr; intro x _; cases x <;> rfl
theorem Q2Q (bs : List Bool) (i : Nat) : bef bs i true = one bs i := by
  unfold bef one; congr 1; apply List.filter_congr; intro x _; cases x <;> rfl
theorem bint_eq (a b : Bool) : (bint a == bint b) = (a == b) := by cases a <;> cases b <;> rfl
theorem bef_succ (bs : List Bool) (k : Nat) (b : Bool) (h : k < bs.length) : bef bs (k + 1) b = bef bs k b + (if bs[k] == b then 1 else 0) := by
  unfold bef
  rw [List.take_add_one, List.getElem?_eq_getElem h, List.filter_append, List.length_append]
  cases bs[k] <;> cases b <;> rfl
theorem bef_le (bs : List Bool) (k : Nat) (b : Bool) : bef bs k b ≤ k := by
  unfold bef
  have := List.length_filter_le (· == b) (bs.take k)
  rw [List.length_take] at this
  omega
abbrev bitsL (L : List (Int × List Nat)) : List (List Int) := L.map fun p => Qe (lvb p)
theorem at?_bitsL (L : List (Int × List Nat)) (i : Nat) (h : i < L.length) : at? (bitsL L) (i : Int) = some (Qe (lvb L[i])) := by
  rw [Q0C, List.getElem?_map, List.getElem?_eq_getElem h]; rfl
theorem Q3U (L : List (Int × List Nat)) (i : Nat) (h : i < L.length) : (bitsL L)[i]? = some (Qe (lvb L[i])) := by
  rw [List.getElem?_map, List.getElem?_eq_getElem h]; rfl
theorem set_bitsL (L : List (Int × List Nat)) (i : Nat) (h : i < L.length) : (bitsL L).set i (Qe (lvb L[i])) = bitsL L := by
  apply List.ext_getElem?
  intro j
  rw [List.getElem?_set]
  by_cases hj : i = j
  · subst hj
    rw [if_pos rfl, if_pos (by rw [List.length_map]; exact h), Q3U L i h]
  · rw [if_neg hj]
theorem list_l3 (N : Nat) (hN : N ≤ 1000) (L : List (Int × List Nat)) (h9 : L.length = 9) (hb : ∀ p ∈ L, (lvb p).length = N) (i : Int) (at_ t : Nat) (ht : t < 9) (hat : at_ < N) (n : Int) (b : Bool) (Z : List Int) (W : List (Int × List Int)) (out : List Int) :
    ∀ (d j : Nat), N - j = d → j ≤ N → Qf_l3 i at_ n t (bint b) (bef (lvb (L[t]'(by omega))) (min j at_) b : Nat) (zer (lvb (L[t]'(by omega))) j : Nat) j N Z W out (bitsL L) =
      (bif bint b == (1 : Int) then Qf_l2 i (IntKind.i64.wrap ((zer (lvb (L[t]'(by omega))) N : Nat) + (bef (lvb (L[t]'(by omega))) at_ b : Nat))) (IntKind.i64.wrap ((IntKind.i64.wrap ((2 : Int) * n)) + bint b)) (IntKind.i64.wrap (t + 1)) N Z W out (bitsL L)
       else Qf_l2 i (bef (lvb (L[t]'(by omega))) at_ b : Nat) (IntKind.i64.wrap ((IntKind.i64.wrap ((2 : Int) * n)) + bint b)) (IntKind.i64.wrap (t + 1)) N Z W out (bitsL L)) := by
  have htL : t < L.length := by omega
  have hbl := hb _ (List.getElem_mem htL)
  intro d
  induction d with
  | zero =>
    intro j h1 h2
    obtain rfl : j = N := by omega
    rw [Qf_l3.eq, Q3 (by omega), Nat.min_eq_right (by omega)]
  | succ d ih =>
    intro j h1 h2
    have hj : j < (lvb L[t]).length := by omega
    have hz := Q2a (lvb L[t]) j (by omega)
    have hbe := bef_le (lvb L[t]) (min j at_) b
    rw [Qf_l3.eq, Q2 (by omega)]
    simp only [at?_bitsL L t htL, Q3U L t htL, Int.toNat_natCast, Option.bind_some, set_bitsL L t htL, Q27 _ j hj, Q2t _ j hj, Q2z, bint_eq]
    have ih' := ih (j + 1) (by omega) (by omega)
    rw [Q2I _ j hj] at ih'
    rw [Q6 j (by omega), Q6 (zer (lvb L[t]) j) (by omega), Q6 (bef (lvb L[t]) (min j at_) b) (by omega)]
    by_cases hlt : j < at_
    · have hm : min (j + 1) at_ = min j at_ + 1 := by omega
      have hm2 : min j at_ = j := by omega
      rw [hm, bef_succ _ _ b (by omega)] at ih'
      simp only [hm2] at ih' ⊢
      rw [Q2 (show (j : Int) < (at_ : Int) by omega), Q2 (show (j : Int) < (at_ : Int) by omega)]
      cases hbj : (lvb L[t])[j] <;> cases b <;> simp only [hbj, Bool.not_true, Bool.not_false, Qu, Qd, beq_self_eq_true, if_true, Bool.false_eq_true, if_false, Nat.add_zero, show (true == false) = false from rfl, show (false == true) = false from rfl] at ih' ⊢ <;> exact ih'
    · have hm : min (j + 1) at_ = min j at_ := by omega
      rw [hm] at ih'
      rw [Q3 (show ¬ (j : Int) < (at_ : Int) by omega), Q3 (show ¬ (j : Int) < (at_ : Int) by omega)]
      cases hbj : (lvb L[t])[j] <;> simp only [hbj, Bool.not_true, Bool.not_false, Qu, Qd, if_true, Bool.false_eq_true, if_false, Nat.add_zero] at ih' ⊢ <;> exact ih'
def path (bss : List (List Bool)) (s : Nat × Nat) : Nat × Nat := bss.foldl (fun s bs => stp bs s) s
theorem rows_path : ∀ (bss : List (List Bool)) (S : List (Nat × Nat)), rows bss S = S.map (path bss)
  | [], S => by unfold rows path; simp
  | bs :: bss, S => by
    have := rows_path bss (S.map (stp bs))
    unfold rows path at this ⊢
    rw [List.foldl_cons, this, List.map_map]
    rfl
theorem list_l2 (N : Nat) (hN : N ≤ 1000) (L : List (Int × List Nat)) (h9 : L.length = 9) (hb : ∀ p ∈ L, (lvb p).length = N) (i : Nat) (hi : i < N) (Z : List Int) (W : List (Int × List Int)) (out : List Int) (ho : out.length ≤ 1000) :
    ∀ (d t : Nat), 9 - t = d → t ≤ 9 → ∀ (s : Nat × Nat), s.1 < N → s.2 < 2 ^ t → Qf_l2 i s.1 s.2 t N Z W out (bitsL L) = Qf_l1 (i + 1 : Nat) N Z W (out ++ [(((path ((L.drop t).map lvb) s).2 : Nat) : Int)]) (bitsL L) := by
  intro d
  induction d with
  | zero =>
    intro t h1 h2 s hs1 hs2
    obtain rfl : t = 9 := by omega
    rw [Qf_l2.eq, Q3 (by omega), Q2 (by simp only [List.length_cons, List.length_nil]; omega), Q6 i (by omega), List.drop_eq_nil_of_le (by omega)]
    rfl
  | succ d ih =>
    intro t h1 h2 s hs1 hs2
    have htL : t < L.length := by omega
    have hbl := hb _ (List.getElem_mem htL)
    have hs : s.1 < (lvb L[t]).length := by omega
    have hgd : (lvb L[t]).getD s.1 false = (lvb L[t])[s.1] := by rw [List.getD_eq_getElem?_getD, List.getElem?_eq_getElem hs]; rfl
    rw [Qf_l2.eq, Q2 (by omega)]
    simp only [at?_bitsL L t htL, Q3U L t htL, Int.toNat_natCast, Option.bind_some, set_bitsL L t htL, Q27 _ s.1 hs, Q2t _ s.1 hs]
    have h3 := list_l3 N hN L h9 hb i s.1 t (by omega) hs1 s.2 (lvb L[t])[s.1] Z W out _ 0 rfl (by omega)
    rw [Nat.zero_min, show bef (lvb L[t]) 0 (lvb L[t])[s.1] = 0 from rfl, Q34] at h3
    refine h3.trans ?_
    have hnx := nxt_lt (lvb L[t]) s.1 hs
    have hp9 : 2 ^ t ≤ 2 ^ 9 := Nat.pow_le_pow_right (by omega) (by omega)
    have hz := Q2a (lvb L[t]) s.1 (by omega)
    have hz2 := Q2a (lvb L[t]) N (by omega)
    have hval : IntKind.i64.wrap ((IntKind.i64.wrap ((2 : Int) * (s.2 : Int))) + bint (lvb L[t])[s.1]) = (((stp (lvb L[t]) s).2 : Nat) : Int) := by
      have hb1 : ((lvb L[t])[s.1]).toNat ≤ 1 := by cases (lvb L[t])[s.1] <;> simp
      show _ = ((2 * s.2 + ((lvb L[t]).getD s.1 false).toNat : Nat) : Int)
      rw [hgd, Qb (x := (2 : Int) * (s.2 : Int)) (by omega) (by omega)]
      unfold bint
      rw [Qb (by omega) (by omega)]; omega
    have hdrop : (L.drop t).map lvb = lvb L[t] :: (L.drop (t + 1)).map lvb := by rw [List.drop_eq_getElem_cons htL, List.map_cons]
    have hfin := ih (t + 1) (by omega) (by omega) (stp (lvb L[t]) s) (by rw [hbl] at hnx; exact hnx) (by
      have hb1 : ((lvb L[t]).getD s.1 false).toNat ≤ 1 := by cases (lvb L[t]).getD s.1 false <;> simp
      show 2 * s.2 + ((lvb L[t]).getD s.1 false).toNat < 2 ^ (t + 1)
      rw [Nat.pow_succ]; omega)
    rw [hval, hdrop, Q6 t (by omega)]
    have hpos : ((stp (lvb L[t]) s).1 : Nat) = nxt (lvb L[t]) s.1 := rfl
    rw [hpos] at hfin
    cases hbit : (lvb L[t])[s.1] with
    | true =>
      have e : nxt (lvb L[t]) s.1 = zer (lvb L[t]) N + bef (lvb L[t]) s.1 true := by unfold nxt; rw [hgd, hbit, if_pos rfl, hbl, Q2Q]
      rw [show (bint true == (1 : Int)) = true from rfl, Qu, Qb (by rw [Q2Q]; omega) (by rw [Q2Q]; omega), show ((zer (lvb L[t]) N : Nat) : Int) + ((bef (lvb L[t]) s.1 true : Nat) : Int) = ((nxt (lvb L[t]) s.1 : Nat) : Int) by rw [e]; omega]
      exact hfin
    | false =>
      have e : nxt (lvb L[t]) s.1 = bef (lvb L[t]) s.1 false := by unfold nxt; rw [hgd, hbit, bef_false]; rfl
      rw [show (bint false == (1 : Int)) = false from rfl, Qd, ← e]
      exact hfin
theorem list_l1 (N : Nat) (hN : N ≤ 1000) (L : List (Int × List Nat)) (h9 : L.length = 9) (hb : ∀ p ∈ L, (lvb p).length = N) (Z : List Int) (W : List (Int × List Int)) :
    ∀ (d i : Nat), N - i = d → i ≤ N → Qf_l1 i N Z W (ints ((List.range i).map fun j => (path (L.map lvb) (j, 0)).2)) (bitsL L) = some (ints ((List.range N).map fun j => (path (L.map lvb) (j, 0)).2)) := by
  intro d
  induction d with
  | zero =>
    intro i h1 h2
    obtain rfl : i = N := by omega
    rw [Qf_l1.eq, Q3 (by omega)]
  | succ d ih =>
    intro i h1 h2
    have h3 := list_l2 N hN L h9 hb i (by omega) Z W (ints ((List.range i).map fun j => (path (L.map lvb) (j, 0)).2)) (by rw [List.length_map, List.length_map, List.length_range]; omega) 9 0 rfl (by omega) (i, 0) (by show i < N; omega) (by simp)
    rw [Qf_l1.eq, Q2 (by omega)]
    refine h3.trans ?_
    have e : ints ((List.range i).map fun j => (path (L.map lvb) (j, 0)).2) ++ [(((path ((L.drop 0).map lvb) (i, 0)).2 : Nat) : Int)] = ints ((List.range (i + 1)).map fun j => (path (L.map lvb) (j, 0)).2) := by
      rw [List.range_succ, List.map_append, List.drop_zero]
      exact (List.map_append (f := fun (x : Nat) => (x : Int)) (l₁ := (List.range i).map fun j => (path (L.map lvb) (j, 0)).2) (l₂ := [(path (L.map lvb) (i, 0)).2])).symm
    rw [e]
    exact ih (i + 1) (by omega) (by omega)
def Q22 (N : Nat) (L : List (Int × List Nat)) : List Nat := snds (rows (L.map lvb) (start N))
theorem wList_eq (N : Nat) (L : List (Int × List Nat)) : Q22 N L = (List.range N).map fun j => (path (L.map lvb) (j, 0)).2 := by
  unfold Q22 start
  rw [rows_path]
  show List.map _ (List.map _ (List.map _ _)) = _
  rw [List.map_map, List.map_map]; rfl
theorem list_l0 (N : Nat) (hN : N ≤ 1000) (L : List (Int × List Nat)) (h9 : L.length = 9) (hv : ∀ p ∈ L, p.1 = (N : Int) ∧ vOk p.1 p.2 = true) (hx : ∀ p ∈ L, ∀ x ∈ p.2, x < 2 ^ 64) (Z : List Int) :
    ∀ (d t : Nat), 9 - t = d → t ≤ 9 → Qf_l0 t N Z (LI L) [] ((bitsL L).take t) = some (ints (Q22 N L)) := by
  have hb : ∀ p ∈ L, (lvb p).length = N := fun p hp => by unfold lvb; rw [Q1A, (hv p hp).1, Int.toNat_natCast]
  intro d
  induction d with
  | zero =>
    intro t h1 h2
    obtain rfl : t = 9 := by omega
    rw [Qf_l0.eq, Q3 (by omega), List.take_of_length_le (by rw [List.length_map]; omega), wList_eq]
    exact list_l1 N hN L h9 hb Z (LI L) _ 0 rfl (by omega)
  | succ d ih =>
    intro t h1 h2
    have htL : t < L.length := by omega
    have hvt := hv _ (List.getElem_mem htL)
    have hxt := hx _ (List.getElem_mem htL)
    have htight := (Q26 N L[t].2 hxt).1 (by have := hvt.2; rw [hvt.1] at this; simp only [vOk, Bool.and_eq_true] at this; simpa using this.2)
    have hl01 : Qp (L[t].1, ints L[t].2) = some (Qe (lvb L[t])) := by
      rw [hvt.1, Q2P N L[t].2 (by omega) (by have := htight.1; unfold nw at this; omega) hxt]
      unfold lvb; rw [hvt.1, Int.toNat_natCast]
    have htk : (bitsL L).take t ++ [Qe (lvb L[t])] = (bitsL L).take (t + 1) := by rw [List.take_add_one, Q3U L t htL]; rfl
    rw [Qf_l0.eq, Q2 (by omega), at?_LI L t htL, Option.bind_some]
    try simp only
    rw [hl01, Option.bind_some, Q2 (by simp only [List.length_cons, List.length_nil, List.length_take, List.length_map]; omega), Q6 t (by omega), htk]
    exact ih (t + 1) (by omega) (by omega)
theorem l07List_eq (n : Int) (Z : List Int) (L : List (Int × List Nat)) (hx : ∀ p ∈ L, ∀ x ∈ p.2, x < 2 ^ 64) (h : wOk n Z L = true) : Qf (n, Z, LI L) = some (ints (Q22 n.toNat L)) := by
  obtain ⟨h1, h2, _, h4, h5⟩ := wOk_at h
  obtain ⟨N, rfl⟩ : ∃ m : Nat, n = m := ⟨n.toNat, by omega⟩
  rw [Qf.eq]
  have := list_l0 N (by omega) L h4 (fun p hp => ⟨(h5 p hp).2, (h5 p hp).1⟩) hx Z 9 0 rfl (by omega)
  rw [List.take_zero] at this
  rw [Int.toNat_natCast]
  exact this
theorem Q36 (N : Nat) (L : List (Int × List Nat)) : (Q22 N L).length = N := by rw [wList_eq, List.length_map, List.length_range]
end Go.Ev.W
/- Bits of a list: the program's. -/
set_option linter.unusedVariables false
set_option linter.unusedSimpArgs false
namespace Go.Ev.W
open Go.Ev
theorem toNat_bit (b : Bool) (m : Nat) : (b.toNat).testBit m = (decide (m = 0) && b) := by
  cases b with
  | false => simp
  | true =>
    cases m with
    | zero => rfl
    | succ m => simp [Nat.testBit_succ]
theorem take_getD (l : List Bool) (i j : Nat) : (l.take i).getD j false = (decide (j < i) && l.getD j false) := by
  rw [List.getD_eq_getElem?_getD, List.getD_eq_getElem?_getD, List.getElem?_take]
  by_cases h : j < i <;> simp [h]
theorem wrd_step (l : List Bool) (i : Nat) (hi : i < l.length) (j : Nat) : wrd (l.take (i + 1)) j = if j = i / 64 then wrd (l.take i) j ||| ((l[i]).toNat * 2 ^ (i % 64)) else wrd (l.take i) j := by
  apply Nat.eq_of_testBit_eq
  intro k
  have hg : l.getD i false = l[i] := by rw [List.getD_eq_getElem?_getD, List.getElem?_eq_getElem hi]; rfl
  have hb : (l[i]).toNat * 2 ^ (i % 64) < 2 ^ 64 := by
    have h1 : (l[i]).toNat ≤ 1 := by cases l[i] <;> simp
    have h2 : 2 ^ (i % 64) ≤ 2 ^ 63 := Nat.pow_le_pow_right (by omega) (by omega)
    have h3 : (l[i]).toNat * 2 ^ (i % 64) ≤ 1 * 2 ^ (i % 64) := Nat.mul_le_mul_right _ h1
    omega
  by_cases hk : k < 64
  · by_cases hj : j = i / 64
    · rw [if_pos hj, Nat.testBit_or, wrd_bit _ _ _ hk, wrd_bit _ _ _ hk, take_getD, take_getD, Nat.testBit_mul_two_pow, toNat_bit]
      by_cases h1 : 64 * j + k = i
      · rw [h1, hg, decide_eq_true (show i < i + 1 by omega), decide_eq_false (show ¬ i < i by omega), decide_eq_true (show i % 64 ≤ k by omega), decide_eq_true (show k - i % 64 = 0 by omega)]; simp
      · by_cases h2 : 64 * j + k < i
        · have h4 : ¬ (i % 64 ≤ k ∧ k - i % 64 = 0) := by omega
          rw [decide_eq_true (show 64 * j + k < i + 1 by omega), decide_eq_true h2]
          by_cases h5 : i % 64 ≤ k
          · rw [decide_eq_false (show ¬ k - i % 64 = 0 by omega)]; simp
          · rw [decide_eq_false h5]; simp
        · rw [decide_eq_false (show ¬ 64 * j + k < i + 1 by omega), decide_eq_false h2, decide_eq_false (show ¬ k - i % 64 = 0 by omega)]; simp
    · rw [if_neg hj, wrd_bit _ _ _ hk, wrd_bit _ _ _ hk, take_getD, take_getD]
      by_cases h2 : 64 * j + k < i
      · rw [decide_eq_true (show 64 * j + k < i + 1 by omega), decide_eq_true h2]
      · rw [decide_eq_false (show ¬ 64 * j + k < i + 1 by omega), decide_eq_false h2]
  · have big : ∀ x : Nat, x < 2 ^ 64 → x.testBit k = false := fun x hx => Nat.testBit_lt_two_pow (Nat.lt_of_lt_of_le hx (Nat.pow_le_pow_right (by omega) (by omega)))
    rw [big _ (wrd_lt _ _)]
    split
    · rw [Nat.testBit_or, big _ (wrd_lt _ _), big _ hb]; rfl
    · rw [big _ (wrd_lt _ _)]
theorem implBitsOf_l0 (bs : List Bool) (hn : bs.length ≤ 5000) (a : Int) (b : List Int) : ∀ (d i : Nat), bs.length - i = d → i ≤ bs.length → QZ_l0 (Qe bs) bs.length i a b bs.length ((List.range (nw bs.length)).map fun j => ((wrd (bs.take i) j : Nat) : Int)) = some ((bs.length : Int), ints (wrds bs)) := by
  intro d
  induction d with
  | zero =>
    intro i h1 h2
    obtain rfl : i = bs.length := by omega
    rw [QZ_l0.eq, Q3 (by omega), List.take_length]
    unfold wrds
    show _ = some (_, List.map (fun (x : Nat) => (x : Int)) (List.map (wrd bs) _))
    rw [List.map_map]; rfl
  | succ d ih =>
    intro i h1 h2
    have hi : i < bs.length := by omega
    have hw : i / 64 < nw bs.length := by unfold nw; omega
    have e1 : (i : Int).tdiv 64 = ((i / 64 : Nat) : Int) := rfl
    have e2 : (i : Int).tmod 64 = ((i % 64 : Nat) : Int) := rfl
    have e3 : min (i % 64) 64 = i % 64 := by omega
    have hlt := wrd_lt (bs.take i) (i / 64)
    have hb1 : (bs[i]).toNat ≤ 1 := by cases bs[i] <;> simp
    have hpw : 2 ^ (i % 64) ≤ 2 ^ 63 := Nat.pow_le_pow_right (by omega) (by omega)
    have hb2 : (bs[i]).toNat * 2 ^ (i % 64) ≤ 1 * 2 ^ (i % 64) := Nat.mul_le_mul_right _ hb1
    rw [QZ_l0.eq, Q2 (by omega), Q27 bs i hi, Option.bind_some, e1, e2, Qb (x := ((i / 64 : Nat) : Int)) (by omega) (by omega)]
    simp only [Q0C, Int.toNat_natCast, Q3i _ (nw bs.length) (i / 64) hw, Option.bind_some]
    rw [Q3 (by omega), e3, Q6 i (by omega), mapr_set]
    have ev : IntKind.u64.wrap (((BitVec.ofInt 64 ((wrd (bs.take i) (i / 64) : Nat) : Int)) ||| (BitVec.ofInt 64 (IntKind.u64.wrap ((IntKind.u64.wrap (bint bs[i])) * 2 ^ (i % 64))))).toNat : Int) = ((wrd (bs.take i) (i / 64) ||| ((bs[i]).toNat * 2 ^ (i % 64)) : Nat) : Int) := by
      have h3 : IntKind.u64.wrap (bint bs[i]) = (((bs[i]).toNat : Nat) : Int) := wrapUn (by omega)
      have h4 : (((bs[i]).toNat : Nat) : Int) * 2 ^ (i % 64) = (((bs[i]).toNat * 2 ^ (i % 64) : Nat) : Int) := by simp
      have h6 : IntKind.u64.wrap (((bs[i]).toNat * 2 ^ (i % 64) : Nat) : Int) = (((bs[i]).toNat * 2 ^ (i % 64) : Nat) : Int) := wrapUn (by omega)
      rw [h3, h4, h6]
      have h5 := bv_or 64 (wrd (bs.take i) (i / 64)) ((bs[i]).toNat * 2 ^ (i % 64)) hlt (by omega)
      rw [h5, wrapUn (Nat.or_lt_two_pow hlt (by omega))]
    rw [ev]
    have e4 : (List.range (nw bs.length)).map (fun c => if c = i / 64 then ((wrd (bs.take i) (i / 64) ||| ((bs[i]).toNat * 2 ^ (i % 64)) : Nat) : Int) else ((wrd (bs.take i) c : Nat) : Int)) = (List.range (nw bs.length)).map fun j => ((wrd (bs.take (i + 1)) j : Nat) : Int) := by
      refine List.map_congr_left fun c _ => ?_
      rw [wrd_step bs i hi c]
      by_cases h : c = i / 64
      · subst h; rw [if_pos rfl, if_pos rfl]
      · rw [if_neg h, if_neg h]
    rw [e4]
    exact ih (i + 1) (by omega) (by omega)
theorem Q3x (bs : List Bool) (hn : bs.length ≤ 5000) : QZ (Qe bs) = some ((bs.length : Int), ints (wrds bs)) := by
  have e1 : ((bs.length : Int) + 63).tdiv 64 = ((nw bs.length : Nat) : Int) := rfl
  have hnw := nw_le hn
  rw [QZ.eq, List.length_map, Qb (x := (bs.length : Int) + 64) (by omega) (by omega), Qb (x := (bs.length : Int) + 64 - 1) (by omega) (by omega), show (bs.length : Int) + 64 - 1 = bs.length + 63 by omega, e1, Qb (x := ((nw bs.length : Nat) : Int)) (by omega) (by omega), Int.toNat_natCast]
  have e2 : (decide ((0 : Int) ≤ ((nw bs.length : Nat) : Int)) && decide (nw bs.length * 8 ≤ 140737488355328)) = true := by
    rw [Bool.and_eq_true, decide_eq_true_eq, decide_eq_true_eq]; omega
  rw [e2, Qu]
  have h := implBitsOf_l0 bs hn 0 [] _ 0 rfl (by omega)
  have e3 : List.replicate (nw bs.length) (0 : Int) = (List.range (nw bs.length)).map (fun j => ((wrd (bs.take 0) j : Nat) : Int)) := by
    refine List.ext_getElem (by rw [List.length_replicate, List.length_map, List.length_range]) fun j h1 h2 => ?_
    rw [List.getElem_replicate, List.getElem_map]
    simp [wrd, ofB]
  rw [e3]
  exact h
end Go.Ev.W
/- Bits out of bytes: what the functions come to. -/
set_option linter.unusedVariables false
set_option linter.unusedSimpArgs false
namespace Go.Ev.W
open Go.Ev
def Q0z (D : List Nat) : Prop := ∀ x ∈ D, x < 256
theorem strOf_eq (X Y : List Nat) (hX : Q0z X) (hY : Q0z Y) : ((strOf ((ints X).map fun x => x)).toList == (strOf ((ints Y).map fun x => x)).toList) = decide (X = Y) := by
  have key : ∀ Z : List Nat, (strOf ((ints Z).map fun x => x)).toList = Z.map UInt8.ofNat := by
    intro Z
    rw [ByteArray.toList_eq]
    simp [strOf, List.map_map, Function.comp]
  rw [key, key, Bool.eq_iff_iff]
  simp only [beq_iff_eq, decide_eq_true_eq]
  constructor
  · intro h
    have := congrArg (List.map UInt8.toNat) h
    rw [List.map_map, List.map_map] at this
    have e : ∀ Z : List Nat, Q0z Z → Z.map (UInt8.toNat ∘ UInt8.ofNat) = Z := by
      intro Z hZ
      refine (List.map_congr_left fun x hx => ?_).trans (List.map_id Z)
      have := hZ x hx
      simp only [Function.comp, id]
      exact UInt8.toNat_ofNat_of_lt' this
    rwa [e X hX, e Y hY] at this
  · intro h; rw [h]
theorem Q0z.drop {D : List Nat} (h : Q0z D) (i : Nat) : Q0z (D.drop i) := fun x hx => h x (List.mem_of_mem_drop hx)
theorem Q0z.take {D : List Nat} (h : Q0z D) (i : Nat) : Q0z (D.take i) := fun x hx => h x (List.mem_of_mem_take hx)
end Go.Ev.W
/- Bits out of bytes, whole. -/
set_option linter.unusedVariables false
set_option linter.unusedSimpArgs false
namespace Go.Ev.W
open Go.Ev
def bbit (B : List Nat) (i : Nat) : Bool := (B.getD (i / 8) 0).testBit (i % 8)
theorem l02Pow_l0 : ∀ (k : Nat) (x : Nat), k < 62 → x * 2 ^ k < 2 ^ 63 → Q05_l0 k x = some ((x * 2 ^ k : Nat) : Int) := by
  intro k
  induction k with
  | zero => intro x _ _; rw [Q05_l0.eq, Q3 (by omega)]; simp
  | succ k ih =>
    intro x hk hx
    have hx2 : 2 * x * 2 ^ k < 2 ^ 63 := by rw [Nat.pow_succ] at hx; rw [Nat.mul_comm 2 x, Nat.mul_assoc, Nat.mul_comm 2]; exact hx
    have hx3 : 2 * x < 2 ^ 63 := Nat.lt_of_le_of_lt (Nat.le_mul_of_pos_right _ (Nat.two_pow_pos k)) hx2
    rw [Q05_l0.eq, Q2 (by omega), Qb (by omega) (by omega), show ((k + 1 : Nat) : Int) - 1 = k by omega, show (2 : Int) * (x : Int) = ((2 * x : Nat) : Int) by omega, Q2q hx3, ih (2 * x) (by omega) hx2]
    rw [Nat.pow_succ, Nat.mul_comm 2 x, Nat.mul_assoc, Nat.mul_comm 2]
theorem l02Pow_eq (k : Nat) (hk : k < 62) : Q05 k = some ((2 ^ k : Nat) : Int) := by
  have h := l02Pow_l0 k 1 hk (by rw [Nat.one_mul]; exact Nat.pow_lt_pow_right (by omega) (by omega))
  rw [Nat.one_mul] at h
  rw [Q05.eq]; exact h
end Go.Ev.W
/- The wave of a list: the reference's. -/
set_option linter.unusedVariables false
set_option linter.unusedSimpArgs false
namespace Go.Ev.W
open Go.Ev
def wbit (l x : Nat) : Bool := x / 2 ^ (8 - l) % 2 == 1
def wlo (l : Nat) (X : List Nat) : List Nat := X.filter fun x => !wbit l x
def whi (l : Nat) (X : List Nat) : List Nat := X.filter fun x => wbit l x
def wbs (l : Nat) (X : List Nat) : List Bool := X.map (wbit l)
def wLv : Nat → Nat → List Nat → List Nat × List (Int × List Nat)
  | 0, _, _ => ([], [])
  | d + 1, l, X => ((wlo l X).length :: (wLv d (l + 1) (wlo l X ++ whi l X)).1, ((X.length : Int), wrds (wbs l X)) :: (wLv d (l + 1) (wlo l X ++ whi l X)).2)
theorem Q2b (l : Nat) : ∀ X : List Nat, (wlo l X).length + (whi l X).length = X.length
  | [] => rfl
  | x :: X => by
    have ih := Q2b l X
    unfold wlo whi at ih ⊢
    rw [List.filter_cons, List.filter_cons, List.length_cons]
    cases wbit l x <;> simp <;> omega
theorem snocF {α : Type} (p : α → Bool) (X : List α) (i : Nat) (hi : i < X.length) : (X.take (i + 1)).filter p = (X.take i).filter p ++ (if p X[i] then [X[i]] else []) := by
  rw [List.take_add_one, List.getElem?_eq_getElem hi, List.filter_append]
  cases h : p X[i] <;> simp [h]
theorem wbit_val (l x : Nat) : (((x / 2 ^ (8 - l) % 2 : Nat) : Int)) = bint (wbit l x) := by
  unfold wbit bint
  rcases Nat.mod_two_eq_zero_or_one (x / 2 ^ (8 - l)) with h | h <;> rw [h] <;> rfl
theorem specWaveOf_l2 (l : Nat) (hl : l < 9) (X : List Nat) (hX : X.length ≤ 1000) (hx : ∀ x ∈ X, x ≤ 511) (a : Int) (b : List Int) (c : List (Int × List Int)) (n : Int) (Z : List Int) (L : List (Int × List Int)) (hZ : Z.length ≤ 100) (hL : L.length ≤ 100) : ∀ (d i : Nat), X.length - i = d → i ≤ X.length →
    Qj_l2 l i a b c n Z L (ints X) (Qe (wbs l (X.take i))) (ints (wlo l (X.take i))) (ints (whi l (X.take i))) = Qj_l1 (l + 1 : Nat) a b c n (Z ++ [((wlo l X).length : Int)]) (L ++ [((X.length : Int), ints (wrds (wbs l X)))]) (ints (wlo l X ++ whi l X)) := by
  have hll := Q2b l X
  intro d
  induction d with
  | zero =>
    intro i h1 h2
    obtain rfl : i = X.length := by omega
    have hbl : (wbs l X).length = X.length := List.length_map ..
    rw [Qj_l2.eq, List.length_map, Q3 (by omega), List.take_length, Q32 _ (by omega), Option.bind_some]
    try simp only
    rw [Q2 (by simp only [List.length_cons, List.length_nil]; omega), Q2 (by simp only [List.length_cons, List.length_nil]; omega), Q2 (by rw [List.length_map, List.length_map]; omega), Q6 l (by omega), List.length_map, hbl]
    congr 1
    exact (List.map_append (f := fun (x : Nat) => (x : Int)) (l₁ := wlo l X) (l₂ := whi l X)).symm
  | succ d ih =>
    intro i h1 h2
    have hi : i < X.length := by omega
    have hxi := hx _ (List.getElem_mem hi)
    have hp : 2 ^ (8 - l) ≤ 2 ^ 8 := Nat.pow_le_pow_right (by omega) (by omega)
    have hp0 : 0 < 2 ^ (8 - l) := Nat.two_pow_pos _
    have hd : X[i] / 2 ^ (8 - l) ≤ X[i] := Nat.div_le_self _ _
    have e1 : (X[i] : Int).tdiv ((2 ^ (8 - l) : Nat) : Int) = ((X[i] / 2 ^ (8 - l) : Nat) : Int) := rfl
    have e2 : ((X[i] / 2 ^ (8 - l) : Nat) : Int).tmod 2 = ((X[i] / 2 ^ (8 - l) % 2 : Nat) : Int) := rfl
    have l1 := Q2b l (X.take i)
    rw [List.length_take] at l1
    have hb0 : (Qe (wbs l (X.take i))).length = i := by rw [List.length_map]; unfold wbs; rw [List.length_map, List.length_take]; omega
    have ih' := ih (i + 1) (by omega) (by omega)
    have eb : Qe (wbs l (X.take i)) ++ [bint (wbit l X[i])] = Qe (wbs l (X.take (i + 1))) := by
      unfold wbs
      rw [List.take_add_one, List.getElem?_eq_getElem hi, List.map_append]
      exact (List.map_append (f := bint) (l₁ := (X.take i).map (wbit l)) (l₂ := [wbit l X[i]])).symm
    have elo := snocF (fun x => !wbit l x) X i hi
    have ehi := snocF (fun x => wbit l x) X i hi
    rw [Qj_l2.eq, List.length_map, Q2 (by omega), Q0s _ _ hi, Option.bind_some, Int.toNat_natCast, Q1S _ _ hi, Option.bind_some, Qb (by omega) (by omega), show (8 : Int) - (l : Int) = ((8 - l : Nat) : Int) by omega, l02Pow_eq _ (by omega), Option.bind_some, Q3 (by omega), e1, Q2q (by omega), e2, wbit_val,
      Q2 (by rw [hb0]; simp only [List.length_cons, List.length_nil]; omega), Q6 i (by omega), eb]
    rw [Option.bind_some, Option.bind_some, Q2z]
    cases hb : wbit l X[i] with
    | true =>
      rw [hb] at elo ehi
      rw [Bool.not_true, Qd, Option.bind_some, Option.bind_some, Q2 (by simp only [List.length_cons, List.length_nil, List.length_map]; omega)]
      rw [show wlo l (X.take i) = wlo l (X.take (i + 1)) by unfold wlo; rw [elo]; simp,
        show ints (whi l (X.take i)) ++ [((X[i] : Nat) : Int)] = ints (whi l (X.take (i + 1))) by
          unfold whi; rw [ehi]; exact (List.map_append (f := fun (x : Nat) => (x : Int)) (l₁ := (X.take i).filter _) (l₂ := [X[i]])).symm]
      exact ih'
    | false =>
      rw [hb] at elo ehi
      rw [Bool.not_false, Qu, Q2 (by simp only [List.length_cons, List.length_nil, List.length_map]; omega)]
      rw [show whi l (X.take i) = whi l (X.take (i + 1)) by unfold whi; rw [ehi]; simp,
        show ints (wlo l (X.take i)) ++ [((X[i] : Nat) : Int)] = ints (wlo l (X.take (i + 1))) by
          unfold wlo; rw [elo]; exact (List.map_append (f := fun (x : Nat) => (x : Int)) (l₁ := (X.take i).filter _) (l₂ := [X[i]])).symm]
      exact ih'
theorem specWaveOf_l1 (a : Int) (b : List Int) (c : List (Int × List Int)) (n : Int) : ∀ (d l : Nat), 9 - l = d → l ≤ 9 → ∀ (X : List Nat) (Z : List Int) (L : List (Int × List Int)), X.length ≤ 1000 → (∀ x ∈ X, x ≤ 511) → Z.length = l → L.length = l →
    Qj_l1 l a b c n Z L (ints X) = some ((n, Z ++ ints (wLv d l X).1, L ++ LI (wLv d l X).2), true) := by
  intro d
  induction d with
  | zero =>
    intro l h1 h2 X Z L hX hx hZ hL
    rw [Qj_l1.eq, Q3 (by omega)]
    simp [wLv]
  | succ d ih =>
    intro l h1 h2 X Z L hX hx hZ hL
    have hll := Q2b l X
    have hmem : ∀ x ∈ wlo l X ++ whi l X, x ≤ 511 := fun x h => by
      rcases List.mem_append.1 h with h | h
      · exact hx x (List.mem_filter.1 h).1
      · exact hx x (List.mem_filter.1 h).1
    have h3 := specWaveOf_l2 l (by omega) X hX hx a b c n Z L (by omega) (by omega) _ 0 rfl (by omega)
    rw [Qj_l1.eq, Q2 (by omega)]
    refine h3.trans ?_
    rw [ih (l + 1) (by omega) (by omega) (wlo l X ++ whi l X) _ _ (by rw [List.length_append]; omega) hmem (by rw [List.length_append, hZ]; rfl) (by rw [List.length_append, hL]; rfl), wLv]
    simp only [List.append_assoc]
    rfl
theorem specWaveOf_l0 (X : List Nat) (hX : X.length ≤ 1000) (hx : ∀ x ∈ X, x ≤ 511) (a : Int) (b : List Int) (c : List (Int × List Int)) : ∀ (d i : Nat), X.length - i = d → i ≤ X.length → Qj_l0 (ints X) i a b c = some (((X.length : Int), ints (wLv 9 0 X).1, LI (wLv 9 0 X).2), true) := by
  intro d
  induction d with
  | zero =>
    intro i h1 h2
    rw [Qj_l0.eq, List.length_map, Q3 (by omega), Q2 (by simp only [List.length_nil]; omega), List.nil_append]
    have := specWaveOf_l1 a b c X.length 9 0 rfl (by omega) X [] [] hX hx rfl rfl
    rw [List.nil_append, List.nil_append] at this
    exact this
  | succ d ih =>
    intro i h1 h2
    have hi : i < X.length := by omega
    have hxi := hx _ (List.getElem_mem hi)
    rw [Qj_l0.eq, List.length_map, Q2 (by omega), Q0s _ _ hi, Option.bind_some, Q3 (by omega), Option.bind_some, Q3 (by omega), Q6 i (by omega)]
    exact ih (i + 1) (by omega) (by omega)
theorem Q3y (X : List Nat) (hX : X.length ≤ 1000) (hx : ∀ x ∈ X, x ≤ 511) : Qj (ints X) = some (((X.length : Int), ints (wLv 9 0 X).1, LI (wLv 9 0 X).2), true) := by
  rw [Qj.eq, List.length_map, Q3 (by omega)]
  exact specWaveOf_l0 X hX hx 0 [] [] _ 0 rfl (by omega)
end Go.Ev.W
/- Joining slices of numbers. -/
set_option linter.unusedVariables false
set_option linter.unusedSimpArgs false
namespace Go.Ev.W
open Go.Ev
theorem growI_eq (n : Int) (h0 : 0 ≤ n) (h : n ≤ 10000000000) : Q1P [] n = some [] := by
  unfold Q1P growF
  simp only [List.isEmpty_nil, Bool.true_and]
  rw [decide_eq_true h0, decide_eq_true (show n.toNat * 8 ≤ 140737488355328 by omega), decide_eq_true (show n.toNat ≤ 4611686018427387904 by omega)]
  rfl
theorem Q3V : ∀ (L : List Nat) (i : Nat), (L.take i).sum ≤ L.sum
  | [], i => by simp
  | x :: L, 0 => by simp
  | x :: L, i + 1 => by simp only [List.take_succ_cons, List.sum_cons]; have := Q3V L i; omega
theorem take_stepI {α : Type} (l : List α) (i : Nat) (h : i < l.length) : l.take (i + 1) = l.take i ++ [l[i]] := by
  rw [List.take_add_one, List.getElem?_eq_getElem h]; rfl
theorem concatI_l1 (X : List (List Int)) (hn : X.length ≤ 1000000) (hs : (X.map List.length).sum ≤ 1000000000) : ∀ (d i : Nat), X.length - i = d → i ≤ X.length →
    QR_l1 X X.length i (X.take i).flatten = some X.flatten := by
  intro d
  induction d with
  | zero =>
    intro i h1 h2
    obtain rfl : i = X.length := by omega
    rw [QR_l1.eq, Q3 (by omega), List.take_length]
  | succ d ih =>
    intro i h1 h2
    rw [QR_l1.eq, Q2 (by omega), Q29 X i (by omega), Option.bind_some]
    have e : (X.take (i + 1)).flatten = (X.take i).flatten ++ X[i] := by rw [take_stepI _ _ (by omega), List.flatten_append, List.flatten_cons, List.flatten_nil, List.append_nil]
    have hb := Q3V (X.map List.length) (i + 1)
    rw [← List.map_take, ← List.length_flatten, e, List.length_append] at hb
    rw [Q2 (by omega), ← e, Qb (by omega) (by omega)]
    exact ih (i + 1) (by omega) (by omega)
theorem concatI_l0 (X : List (List Int)) (hn : X.length ≤ 1000000) (hs : (X.map List.length).sum ≤ 1000000000) : ∀ (d i : Nat), X.length - i = d → i ≤ X.length →
    QR_l0 X ((((X.map List.length).take i).sum : Nat) : Int) X X.length i = some X.flatten := by
  intro d
  induction d with
  | zero =>
    intro i h1 h2
    obtain rfl : i = X.length := by omega
    rw [QR_l0.eq, Q3 (by omega)]
    have hb := Q3V (X.map List.length) X.length
    rw [growI_eq _ (by omega) (by omega), Option.bind_some]
    exact concatI_l1 X hn hs _ 0 rfl (by omega)
  | succ d ih =>
    intro i h1 h2
    have hi : i < X.length := by omega
    rw [QR_l0.eq, Q2 (by omega), Q29 X i hi, Option.bind_some]
    have e : ((X.map List.length).take (i + 1)).sum = ((X.map List.length).take i).sum + X[i].length := by rw [take_stepI _ _ (by rw [List.length_map]; omega), List.sum_append, List.sum_cons, List.sum_nil, List.getElem_map, Nat.add_zero]
    have hb := Q3V (X.map List.length) (i + 1)
    rw [e] at hb
    rw [Qb (by omega) (by omega), Q3 (by omega), Qb (by omega) (by omega)]
    have := ih (i + 1) (by omega) (by omega)
    rw [e] at this
    exact this
theorem concatI_eq (X : List (List Int)) (hn : X.length ≤ 1000000) (hs : (X.map List.length).sum ≤ 1000000000) : QR X = some X.flatten := by
  rw [QR.eq]
  exact concatI_l0 X hn hs _ 0 rfl (by omega)
end Go.Ev.W
/- The wave of a list: the program's. -/
set_option linter.unusedVariables false
set_option linter.unusedSimpArgs false
namespace Go.Ev.W
open Go.Ev
theorem ibit (l x : Nat) (hl : l < 9) (hx : x ≤ 511) : IntKind.i64.wrap (((BitVec.ofInt 64 ((x : Int).fdiv (2 ^ (min (IntKind.i64.wrap ((8 : Int) - (l : Int))).toNat 64)))) &&& (BitVec.ofInt 64 (1 : Int))).toNat : Int) = bint (wbit l x) := by
  have e0 : IntKind.i64.wrap ((8 : Int) - (l : Int)) = ((8 - l : Nat) : Int) := by rw [Qb (by omega) (by omega)]; omega
  have e1 : min (8 - l) 64 = 8 - l := by omega
  have hd : x / 2 ^ (8 - l) ≤ x := Nat.div_le_self _ _
  have h1 := bv_and 64 (x / 2 ^ (8 - l)) 1 (by omega) (by omega)
  rw [show ((1 : Nat) : Int) = 1 from rfl] at h1
  rw [e0, Int.toNat_natCast, e1, fdiv_nat, h1, Nat.and_one_is_mod, Q2q (by omega), wbit_val]
theorem implWaveOf_l4 (l : Nat) (hl : l < 9) (X : List Nat) (hX : X.length ≤ 1000) (hx : ∀ x ∈ X, x ≤ 511) (a : Int) (b : List Int) (c : List (Int × List Int)) (n : Int) (Z : List Int) (L : List (Int × List Int)) (hZ : Z.length ≤ 100) (hL : L.length ≤ 100) : ∀ (d i : Nat), X.length - i = d → i ≤ X.length →
    Qg_l4 l l X.length i a b c n Z L (ints (wlo l (X.take i))) (ints (whi l (X.take i))) (Qe (wbs l (X.take i))) (ints X) = Qg_l3 (l + 1 : Nat) (ints (wlo l X ++ whi l X)) a b c n (Z ++ [((wlo l X).length : Int)]) (L ++ [((X.length : Int), ints (wrds (wbs l X)))]) := by
  have hll := Q2b l X
  intro d
  induction d with
  | zero =>
    intro i h1 h2
    obtain rfl : i = X.length := by omega
    have hbl : (wbs l X).length = X.length := List.length_map ..
    rw [Qg_l4.eq, Q3 (by omega), List.take_length, Q2 (by simp only [List.length_cons, List.length_nil]; omega), Q3x _ (by omega), Option.bind_some]
    try simp only
    rw [Q2 (by simp only [List.length_cons, List.length_nil]; omega), concatI_eq _ (by simp) (by simp only [List.map_cons, List.map_nil, List.sum_cons, List.sum_nil, List.length_map]; omega), Option.bind_some, Q6 l (by omega), List.length_map, hbl]
    congr 1
    simp only [List.flatten_cons, List.flatten_nil, List.append_nil]
    exact (List.map_append (f := fun (x : Nat) => (x : Int)) (l₁ := wlo l X) (l₂ := whi l X)).symm
  | succ d ih =>
    intro i h1 h2
    have hi : i < X.length := by omega
    have hxi := hx _ (List.getElem_mem hi)
    have l1 := Q2b l (X.take i)
    rw [List.length_take] at l1
    have hb0 : (Qe (wbs l (X.take i))).length = i := by rw [List.length_map]; unfold wbs; rw [List.length_map, List.length_take]; omega
    have ih' := ih (i + 1) (by omega) (by omega)
    have eb : Qe (wbs l (X.take i)) ++ [bint (wbit l X[i])] = Qe (wbs l (X.take (i + 1))) := by
      unfold wbs
      rw [List.take_add_one, List.getElem?_eq_getElem hi, List.map_append]
      exact (List.map_append (f := bint) (l₁ := (X.take i).map (wbit l)) (l₂ := [wbit l X[i]])).symm
    have elo := snocF (fun x => !wbit l x) X i hi
    have ehi := snocF (fun x => wbit l x) X i hi
    rw [Qg_l4.eq, Q2 (by omega), Q0s _ _ hi, Option.bind_some, Int.toNat_natCast, Q1S _ _ hi, Option.bind_some, ibit l X[i] hl hxi, Q3 (by rw [Qb (by omega) (by omega)]; omega), Q2 (by rw [hb0]; simp only [List.length_cons, List.length_nil]; omega), Q6 i (by omega), eb, Q2z]
    cases hb : wbit l X[i] with
    | true =>
      rw [hb] at elo ehi
      rw [Bool.not_true, Qd, Q2 (by simp only [List.length_cons, List.length_nil, List.length_map]; omega)]
      rw [show wlo l (X.take i) = wlo l (X.take (i + 1)) by unfold wlo; rw [elo]; simp,
        show ints (whi l (X.take i)) ++ [((X[i] : Nat) : Int)] = ints (whi l (X.take (i + 1))) by
          unfold whi; rw [ehi]; exact (List.map_append (f := fun (x : Nat) => (x : Int)) (l₁ := (X.take i).filter _) (l₂ := [X[i]])).symm]
      exact ih'
    | false =>
      rw [hb] at elo ehi
      rw [Bool.not_false, Qu, Q2 (by simp only [List.length_cons, List.length_nil, List.length_map]; omega)]
      rw [show whi l (X.take i) = whi l (X.take (i + 1)) by unfold whi; rw [ehi]; simp,
        show ints (wlo l (X.take i)) ++ [((X[i] : Nat) : Int)] = ints (wlo l (X.take (i + 1))) by
          unfold wlo; rw [elo]; exact (List.map_append (f := fun (x : Nat) => (x : Int)) (l₁ := (X.take i).filter _) (l₂ := [X[i]])).symm]
      exact ih'
theorem implWaveOf_l2 (l : Nat) (hl : l < 9) (X : List Nat) (hX : X.length ≤ 1000) (hx : ∀ x ∈ X, x ≤ 511) (a : Int) (b : List Int) (c : List (Int × List Int)) (n : Int) (Z : List Int) (L : List (Int × List Int)) (hZ : Z.length ≤ 100) (hL : L.length ≤ 100) : ∀ (d i : Nat), X.length - i = d → i ≤ X.length →
    Qg_l2 l l (ints X) X.length i a b c n Z L (ints (wlo l (X.take i))) (ints (whi l (X.take i))) (Qe (wbs l (X.take i))) = Qg_l3 (l + 1 : Nat) (ints (wlo l X ++ whi l X)) a b c n (Z ++ [((wlo l X).length : Int)]) (L ++ [((X.length : Int), ints (wrds (wbs l X)))]) := by
  have hll := Q2b l X
  intro d
  induction d with
  | zero =>
    intro i h1 h2
    obtain rfl : i = X.length := by omega
    have hbl : (wbs l X).length = X.length := List.length_map ..
    rw [Qg_l2.eq, Q3 (by omega), List.take_length, Q2 (by simp only [List.length_cons, List.length_nil]; omega), Q3x _ (by omega), Option.bind_some]
    try simp only
    rw [Q2 (by simp only [List.length_cons, List.length_nil]; omega), concatI_eq _ (by simp) (by simp only [List.map_cons, List.map_nil, List.sum_cons, List.sum_nil, List.length_map]; omega), Option.bind_some, Q6 l (by omega), List.length_map, hbl]
    congr 1
    simp only [List.flatten_cons, List.flatten_nil, List.append_nil]
    exact (List.map_append (f := fun (x : Nat) => (x : Int)) (l₁ := wlo l X) (l₂ := whi l X)).symm
  | succ d ih =>
    intro i h1 h2
    have hi : i < X.length := by omega
    have hxi := hx _ (List.getElem_mem hi)
    have l1 := Q2b l (X.take i)
    rw [List.length_take] at l1
    have hb0 : (Qe (wbs l (X.take i))).length = i := by rw [List.length_map]; unfold wbs; rw [List.length_map, List.length_take]; omega
    have ih' := ih (i + 1) (by omega) (by omega)
    have eb : Qe (wbs l (X.take i)) ++ [bint (wbit l X[i])] = Qe (wbs l (X.take (i + 1))) := by
      unfold wbs
      rw [List.take_add_one, List.getElem?_eq_getElem hi, List.map_append]
      exact (List.map_append (f := bint) (l₁ := (X.take i).map (wbit l)) (l₂ := [wbit l X[i]])).symm
    have elo := snocF (fun x => !wbit l x) X i hi
    have ehi := snocF (fun x => wbit l x) X i hi
    rw [Qg_l2.eq, Q2 (by omega), Q0s _ _ hi, Option.bind_some, ibit l X[i] hl hxi, Q3 (by rw [Qb (by omega) (by omega)]; omega), Q2 (by rw [hb0]; simp only [List.length_cons, List.length_nil]; omega), Q6 i (by omega), eb, Q2z]
    cases hb : wbit l X[i] with
    | true =>
      rw [hb] at elo ehi
      rw [Bool.not_true, Qd, Q2 (by simp only [List.length_cons, List.length_nil, List.length_map]; omega)]
      rw [show wlo l (X.take i) = wlo l (X.take (i + 1)) by unfold wlo; rw [elo]; simp,
        show ints (whi l (X.take i)) ++ [((X[i] : Nat) : Int)] = ints (whi l (X.take (i + 1))) by
          unfold whi; rw [ehi]; exact (List.map_append (f := fun (x : Nat) => (x : Int)) (l₁ := (X.take i).filter _) (l₂ := [X[i]])).symm]
      exact ih'
    | false =>
      rw [hb] at elo ehi
      rw [Bool.not_false, Qu, Q2 (by simp only [List.length_cons, List.length_nil, List.length_map]; omega)]
      rw [show whi l (X.take i) = whi l (X.take (i + 1)) by unfold whi; rw [ehi]; simp,
        show ints (wlo l (X.take i)) ++ [((X[i] : Nat) : Int)] = ints (wlo l (X.take (i + 1))) by
          unfold wlo; rw [elo]; exact (List.map_append (f := fun (x : Nat) => (x : Int)) (l₁ := (X.take i).filter _) (l₂ := [X[i]])).symm]
      exact ih'
theorem implWaveOf_l3 (a : Int) (b : List Int) (c : List (Int × List Int)) (n : Int) : ∀ (d l : Nat), 9 - l = d → l ≤ 9 → ∀ (X : List Nat) (Z : List Int) (L : List (Int × List Int)), X.length ≤ 1000 → (∀ x ∈ X, x ≤ 511) → Z.length = l → L.length = l →
    Qg_l3 l (ints X) a b c n Z L = some ((n, Z ++ ints (wLv d l X).1, L ++ LI (wLv d l X).2), true) := by
  intro d
  induction d with
  | zero =>
    intro l h1 h2 X Z L hX hx hZ hL
    rw [Qg_l3.eq, Q3 (by omega)]
    simp [wLv]
  | succ d ih =>
    intro l h1 h2 X Z L hX hx hZ hL
    have hll := Q2b l X
    have hmem : ∀ x ∈ wlo l X ++ whi l X, x ≤ 511 := fun x h => by
      rcases List.mem_append.1 h with h | h
      · exact hx x (List.mem_filter.1 h).1
      · exact hx x (List.mem_filter.1 h).1
    have h3 := implWaveOf_l4 l (by omega) X hX hx a b c n Z L (by omega) (by omega) _ 0 rfl (by omega)
    rw [Qg_l3.eq, Q2 (by omega), List.length_map]
    refine h3.trans ?_
    rw [ih (l + 1) (by omega) (by omega) (wlo l X ++ whi l X) _ _ (by rw [List.length_append]; omega) hmem (by rw [List.length_append, hZ]; rfl) (by rw [List.length_append, hL]; rfl), wLv]
    simp only [List.append_assoc]
    rfl
theorem implWaveOf_l0 (X : List Nat) (hX : X.length ≤ 1000) (hx : ∀ x ∈ X, x ≤ 511) (a : Int) (b : List Int) (c : List (Int × List Int)) : Qg_l0 (ints X) a b c = some (((X.length : Int), ints (wLv 9 0 X).1, LI (wLv 9 0 X).2), true) := by
  have hll := Q2b 0 X
  have hmem : ∀ x ∈ wlo 0 X ++ whi 0 X, x ≤ 511 := fun x h => by
    rcases List.mem_append.1 h with h | h
    · exact hx x (List.mem_filter.1 h).1
    · exact hx x (List.mem_filter.1 h).1
  have h3 := implWaveOf_l2 0 (by omega) X hX hx a b c X.length [] [] (by simp) (by simp) _ 0 rfl (by omega)
  rw [Qg_l0.eq, Qg_l1.eq, Q2 (by omega), List.length_map]
  refine h3.trans ?_
  rw [implWaveOf_l3 a b c X.length 8 1 rfl (by omega) (wlo 0 X ++ whi 0 X) _ _ (by rw [List.length_append]; omega) hmem rfl rfl]
  rfl
theorem wave1_eq (n : Int) : Q0Y n () = some (!(decide (0 ≤ n) && decide (n ≤ 511))) := by
  rw [Q0Y.eq, Q1r.eq, withinS_eq]; rfl
theorem waveAll_eq (xs : List Int) (h : xs.length < 4611686018427387904) : Q1j xs () = some (xs.all fun x => decide (0 ≤ x) && decide (x ≤ 511)) := by
  rw [Q1j.eq, Q1s.eq, Q0x.eq]
  obtain ⟨r, h1, h2⟩ := find_loop (fun n : Int => !(decide (0 ≤ n) && decide (n ≤ 511))) (fun n => Q0Y n ()) xs h (fun x _ => wave1_eq x) (Q0x_l0 xs xs.length) (Q0x_l0.eq xs xs.length)
  rw [h1]
  simp only [Option.bind_some, h2, List.any_eq_not_all_not, Bool.not_not]
theorem Q4h (X : List Nat) (hX : X.length ≤ 1000) (hx : ∀ x ∈ X, x ≤ 511) : Qg (ints X) = some (((X.length : Int), ints (wLv 9 0 X).1, LI (wLv 9 0 X).2), true) := by
  have hall : ((ints X).all fun x => decide (0 ≤ x) && decide (x ≤ 511)) = true := by
    refine List.all_eq_true.2 fun x h => ?_
    obtain ⟨y, hy, rfl⟩ := List.mem_map.1 h
    have := hx y hy
    rw [Bool.and_eq_true, decide_eq_true_eq, decide_eq_true_eq]; omega
  rw [Qg.eq, List.length_map, Q3 (by omega), waveAll_eq _ (by rw [List.length_map]; omega), hall, Option.bind_some, Bool.not_true, Qd]
  exact implWaveOf_l0 X hX hx 0 [] []
end Go.Ev.W
/- Waves: a valid wave is the wave of its numbers. -/
set_option linter.unusedVariables false
set_option linter.unusedSimpArgs false
namespace Go.Ev.W
open Go.Ev
theorem path_val : ∀ (bss : List (List Bool)) (k v : Nat), (path bss (k, v)).2 = v * 2 ^ bss.length + (path bss (k, 0)).2
  | [], k, v => by show v = v * 2 ^ 0 + 0; omega
  | bs :: bss, k, v => by
    have h1 : path (bs :: bss) (k, v) = path bss (nxt bs k, 2 * v + (bs.getD k false).toNat) := rfl
    have h2 : path (bs :: bss) (k, 0) = path bss (nxt bs k, 2 * 0 + (bs.getD k false).toNat) := rfl
    rw [h1, h2, path_val bss _ (2 * v + _), path_val bss _ (2 * 0 + _), List.length_cons, Nat.pow_succ]
    rw [Nat.mul_zero, Nat.zero_add, Nat.add_mul, Nat.add_assoc, Nat.mul_comm 2 v, Nat.mul_assoc, Nat.mul_comm 2]
theorem path_lt : ∀ (bss : List (List Bool)) (k : Nat), (path bss (k, 0)).2 < 2 ^ bss.length
  | [], k => by show 0 < 2 ^ 0; omega
  | bs :: bss, k => by
    have h2 : path (bs :: bss) (k, 0) = path bss (nxt bs k, 2 * 0 + (bs.getD k false).toNat) := rfl
    have h3 := path_lt bss (nxt bs k)
    have hb : (bs.getD k false).toNat ≤ 1 := by cases bs.getD k false <;> simp
    have h4 := Nat.mul_le_mul_right (2 ^ bss.length) hb
    rw [h2, path_val, List.length_cons, Nat.pow_succ, Nat.mul_zero, Nat.zero_add]; omega
theorem filt_at {α : Type} (p : α → Bool) (X : List α) (k : Nat) (hk : k < X.length) (h : p X[k] = true) : (X.filter p)[((X.take k).filter p).length]? = some X[k] := by
  have e : X.filter p = (X.take k).filter p ++ X[k] :: (X.drop (k + 1)).filter p := by
    conv => lhs; rw [← List.take_append_drop k X, List.filter_append, List.drop_eq_getElem_cons hk, List.filter_cons, if_pos h]
  rw [e, List.getElem?_append_right (Nat.le_refl _), Nat.sub_self]; rfl
theorem zer_at (bs : List Bool) (m : Nat) : ∀ n, n ≤ bs.length → m < zer bs n → ∃ k, ∃ h : k < bs.length, bs[k] = false ∧ zer bs k = m
  | 0, _, h => by rw [Q34] at h; omega
  | n + 1, hn, h => by
    by_cases h1 : m < zer bs n
    · exact zer_at bs m n (by omega) h1
    · rw [Q2I bs n (by omega)] at h
      refine ⟨n, by omega, ?_⟩
      cases hb : bs[n] with
      | false => rw [hb] at h; simp at h; exact ⟨rfl, by omega⟩
      | true => rw [hb] at h; simp at h; omega
theorem one_at (bs : List Bool) (m : Nat) : ∀ n, n ≤ bs.length → m < one bs n → ∃ k, ∃ h : k < bs.length, bs[k] = true ∧ one bs k = m
  | 0, _, h => by rw [one_zero] at h; omega
  | n + 1, hn, h => by
    by_cases h1 : m < one bs n
    · exact one_at bs m n (by omega) h1
    · rw [Q35 bs n (by omega)] at h
      refine ⟨n, by omega, ?_⟩
      cases hb : bs[n] with
      | true => rw [hb] at h; simp at h; exact ⟨rfl, by omega⟩
      | false => rw [hb] at h; simp at h; omega
theorem nxt_onto (bs : List Bool) (m : Nat) (hm : m < bs.length) : ∃ k, k < bs.length ∧ nxt bs k = m := by
  have h1 := Q2a bs bs.length (Nat.le_refl _)
  by_cases h : m < zer bs bs.length
  · obtain ⟨k, hk, h2, h3⟩ := zer_at bs m _ (Nat.le_refl _) h
    refine ⟨k, hk, ?_⟩
    unfold nxt
    rw [List.getD_eq_getElem?_getD, List.getElem?_eq_getElem hk, Option.getD_some, h2, if_neg (by simp), h3]
  · obtain ⟨k, hk, h2, h3⟩ := one_at bs (m - zer bs bs.length) _ (Nat.le_refl _) (by omega)
    refine ⟨k, hk, ?_⟩
    unfold nxt
    rw [List.getD_eq_getElem?_getD, List.getElem?_eq_getElem hk, Option.getD_some, h2, if_pos rfl, h3]; omega
theorem zer_wbs (l : Nat) (X : List Nat) (k : Nat) : zer (wbs l X) k = ((X.take k).filter fun x => !wbit l x).length := by
  unfold zer wbs
  rw [← List.map_take, List.filter_map, List.length_map]; rfl
theorem one_wbs (l : Nat) (X : List Nat) (k : Nat) : one (wbs l X) k = ((X.take k).filter fun x => wbit l x).length := by
  unfold one wbs
  rw [← List.map_take, List.filter_map, List.length_map]; rfl
theorem Q37 (l : Nat) (X : List Nat) : (wbs l X).length = X.length := List.length_map ..
theorem part_at (l : Nat) (X : List Nat) (k : Nat) (hk : k < X.length) : (wlo l X ++ whi l X)[nxt (wbs l X) k]? = some X[k] := by
  have hz : zer (wbs l X) (wbs l X).length = (wlo l X).length := by rw [zer_wbs, Q37, List.take_length]; rfl
  have hb : (wbs l X).getD k false = wbit l X[k] := by
    rw [List.getD_eq_getElem?_getD]; unfold wbs; rw [List.getElem?_map, List.getElem?_eq_getElem hk]; rfl
  unfold nxt
  rw [hb]
  cases h : wbit l X[k] with
  | true =>
    rw [if_pos rfl, hz, List.getElem?_append_right (by omega), Nat.add_sub_cancel_left, one_wbs]
    exact filt_at (fun x => wbit l x) X k hk h
  | false =>
    have h2 := filt_at (fun x => !wbit l x) X k hk (by simp [h])
    rw [if_neg (by simp), zer_wbs]
    obtain ⟨h3, _⟩ := List.getElem?_eq_some_iff.1 h2
    show (List.filter (fun x => !wbit l x) X ++ whi l X)[_]? = _
    rw [List.getElem?_append_left h3]
    exact h2
theorem wLv_inv (N : Nat) : ∀ (d l : Nat) (L : List (Int × List Nat)) (Z : List Int), L.length = d → Z.length = d → d + l = 9 → ((L.zip Z).all fun q => lOk N q.1 q.2) = true → (∀ p ∈ L, ∀ x ∈ p.2, x < 2 ^ 64) → ∀ X : List Nat, X.length = N →
    (∀ k (hk : k < X.length), X[k] % 2 ^ d = (path (L.map lvb) (k, 0)).2) → ints (wLv d l X).1 = Z ∧ (wLv d l X).2 = L
  | 0, l, L, Z, h1, h2, _, _, _, X, _, _ => by
    rw [List.length_eq_zero_iff.1 h1, List.length_eq_zero_iff.1 h2]; exact ⟨rfl, rfl⟩
  | d + 1, l, [], _, h1, _, _, _, _, X, _, _ => by cases h1
  | d + 1, l, p :: L, [], _, h2, _, _, _, X, _, _ => by cases h2
  | d + 1, l, p :: L, z :: Z, h1, h2, h3, h4, h5, X, h6, h7 => by
    rw [List.length_cons] at h1 h2
    rw [List.zip_cons_cons, List.all_cons, Bool.and_eq_true] at h4
    obtain ⟨h8, h9⟩ := h4
    simp only [lOk, Bool.and_eq_true, decide_eq_true_eq] at h8
    obtain ⟨⟨h10, h11⟩, h12⟩ := h8
    have hx := h5 p List.mem_cons_self
    have hbl : (lvb p).length = N := by unfold lvb; rw [Q1A, h11, Int.toNat_natCast]
    have key : ∀ k (hk : k < X.length), X[k] / 2 ^ d % 2 = ((lvb p).getD k false).toNat ∧ X[k] % 2 ^ d = (path (L.map lvb) (nxt (lvb p) k, 0)).2 := by
      intro k hk
      have h := h7 k hk
      have e : path ((p :: L).map lvb) (k, 0) = path (L.map lvb) (nxt (lvb p) k, 2 * 0 + ((lvb p).getD k false).toNat) := rfl
      have hlt := path_lt (L.map lvb) (nxt (lvb p) k)
      rw [e, path_val, Nat.mul_zero, Nat.zero_add, List.length_map] at h
      rw [List.length_map] at hlt
      have hd : L.length = d := by omega
      rw [hd] at h hlt
      have hb : ((lvb p).getD k false).toNat ≤ 1 := by cases (lvb p).getD k false <;> simp
      constructor
      · have h13 := Nat.mod_mul_right_div_self X[k] (2 ^ d) 2
        rw [← Nat.pow_succ, h, Nat.add_comm, Nat.add_mul_div_right _ _ (Nat.two_pow_pos d), Nat.div_eq_of_lt hlt, Nat.zero_add] at h13
        exact h13.symm
      · have h13 : X[k] % 2 ^ (d + 1) % 2 ^ d = X[k] % 2 ^ d := Nat.mod_mod_of_dvd _ ⟨2, Nat.pow_succ ..⟩
        rw [h, Nat.add_comm, Nat.add_mul_mod_self_right, Nat.mod_eq_of_lt hlt] at h13
        exact h13.symm
    have hw : wbs l X = lvb p := by
      apply List.ext_getElem (by rw [Q37, hbl, h6])
      intro k hk1 hk2
      have hk : k < X.length := by rwa [Q37] at hk1
      have h := (key k hk).1
      rw [List.getD_eq_getElem?_getD, List.getElem?_eq_getElem hk2, Option.getD_some] at h
      have e : (wbs l X)[k] = wbit l X[k] := by simp [wbs]
      rw [e]
      unfold wbit
      rw [show 8 - l = d by omega, h]
      cases (lvb p)[k] <;> rfl
    have hlo := Q2b l X
    have htt := (Q26 N p.2 hx).1 (by have := h10; rw [h11] at this; simp only [vOk, Bool.and_eq_true] at this; simpa using this.2)
    have hwr : wrds (wbs l X) = p.2 := by
      rw [hw]; unfold lvb; rw [h11, Int.toNat_natCast]; exact wrds_bts N p.2 htt
    have hz : ((wlo l X).length : Int) = z := by
      rw [← h12, ← hw, zer_wbs, Q37, List.take_length]; rfl
    have ih := wLv_inv N d (l + 1) L Z (by omega) (by omega) (by omega) h9 (fun q hq => h5 q (List.mem_cons_of_mem _ hq)) (wlo l X ++ whi l X) (by rw [List.length_append]; omega) (by
      intro m hm
      rw [List.length_append, hlo, h6] at hm
      obtain ⟨k, hk1, hk2⟩ := nxt_onto (lvb p) m (by omega)
      have hk : k < X.length := by omega
      have h := part_at l X k hk
      rw [hw, hk2, List.getElem?_eq_getElem (by rw [List.length_append]; omega)] at h
      injection h with h
      rw [h, (key k hk).2, hk2])
    rw [wLv]
    refine ⟨?_, ?_⟩
    · show ((wlo l X).length : Int) :: ints (wLv d (l + 1) (wlo l X ++ whi l X)).1 = _
      rw [ih.1, hz]
    · show ((X.length : Int), wrds (wbs l X)) :: (wLv d (l + 1) (wlo l X ++ whi l X)).2 = _
      rw [ih.2, hwr, h6, ← h11]
theorem wLv_len' : ∀ (d l : Nat) (X : List Nat), (wLv d l X).1.length = d ∧ (wLv d l X).2.length = d
  | 0, l, X => ⟨rfl, rfl⟩
  | d + 1, l, X => by
    have := wLv_len' d (l + 1) (wlo l X ++ whi l X)
    rw [wLv]
    exact ⟨by rw [List.length_cons, this.1], by rw [List.length_cons, this.2]⟩
theorem wList_le (N : Nat) (L : List (Int × List Nat)) (h : L.length = 9) : ∀ x ∈ Q22 N L, x ≤ 511 := by
  intro x hx
  rw [wList_eq] at hx
  obtain ⟨k, _, rfl⟩ := List.mem_map.1 hx
  have := path_lt (L.map lvb) k
  rw [List.length_map, h] at this
  omega
theorem wave_inv (n : Int) (Z : List Int) (L : List (Int × List Nat)) (hx : ∀ p ∈ L, ∀ x ∈ p.2, x < 2 ^ 64) (h : wOk n Z L = true) :
    ints (wLv 9 0 (Q22 n.toNat L)).1 = Z ∧ (wLv 9 0 (Q22 n.toNat L)).2 = L := by
  obtain ⟨h1, h2, h3, h4, _⟩ := wOk_at h
  have h5 := h
  unfold wOk at h5
  simp only [Bool.and_eq_true] at h5
  refine wLv_inv n.toNat 9 0 L Z h4 h3 rfl ?_ hx _ (Q36 _ _) ?_
  · rw [Int.toNat_of_nonneg h1]; exact h5.2
  · intro k hk
    rw [Q36] at hk
    have e : (Q22 n.toNat L)[k]'(by rw [Q36]; exact hk) = (path (L.map lvb) (k, 0)).2 := by
      simp only [wList_eq, List.getElem_map, List.getElem_range]
    have hlt := path_lt (L.map lvb) k
    rw [List.length_map, h4] at hlt
    rw [e]
    exact Nat.mod_eq_of_lt hlt
end Go.Ev.W
/- Packed numbers: which are valid; the law's helpers. -/
set_option linter.unusedVariables false
set_option linter.unusedSimpArgs false
namespace Go.Ev.W
open Go.Ev
end Go.Ev.W
/- Widths, packed numbers, inverses, counts: the functions. -/
set_option linter.unusedVariables false
set_option linter.unusedSimpArgs false
namespace Go.Ev.W
open Go.Ev
theorem pw62 {k : Nat} (h : k ≤ 61) : 2 ^ k < 4611686018427387904 := by
  have : 2 ^ k ≤ 2 ^ 61 := Nat.pow_le_pow_right (by omega) h
  omega
theorem specWidth_l0 : ∀ (k n w : Nat), n < 2 ^ k → n < 4611686018427387904 → w + k ≤ 1000 → Q0h_l0 n w = some ((w + wdF k n : Nat) : Int)
  | 0, n, w, h, _, _ => by
    obtain rfl : n = 0 := by simpa using h
    rw [Q0h_l0.eq, Q3 (by omega), wdF, Nat.add_zero]
  | k + 1, n, w, h, h2, h3 => by
    rw [Q0h_l0.eq, wdF]
    by_cases h0 : n = 0
    · subst h0
      rw [Q3 (by omega), if_pos rfl, Nat.add_zero]
    · have e1 : (n : Int).tdiv 2 = ((n / 2 : Nat) : Int) := rfl
      rw [Q2 (by omega), if_neg h0, e1, Qb (by omega) (by omega), Q6 w (by omega), specWidth_l0 k (n / 2) (w + 1) (by rw [Nat.pow_succ] at h; omega) (by omega) (by omega), Nat.add_assoc, Nat.add_comm 1]
theorem specWidth_eq (n : Nat) (h : n < 4611686018427387904) : Q0h n = some ((wd n : Nat) : Int) := by
  rw [Q0h.eq, Q3 (by omega)]
  have := specWidth_l0 64 n 0 (by omega) h (by omega)
  rw [Nat.zero_add] at this
  exact this
theorem len64_l1 : ∀ n : Nat, n < 302 → Q03_l1 (n : Int) 0 = some ((wd n : Nat) : Int) := by
  intro n
  rw [Q03_l1.eq]
  revert n
  decide +kernel
theorem implWidth_eq (n : Nat) (h : n < 302) : Q0Z n = some ((wd n : Nat) : Int) := by
  rw [Q0Z.eq, Q3 (by omega), wrapUn (by omega), Q1t.eq, Q03.eq, Q3 (by omega), Q03_l0.eq, Q3 (by omega), len64_l1 n h]; rfl
theorem wd_le9 {n : Nat} (h : n < 302) : wd n ≤ 9 := wdF_le 64 n 9 (by omega)
theorem ands1 (m : Nat) (h : m < 4611686018427387904) : IntKind.i64.wrap (((BitVec.ofInt 64 (m : Int)) &&& (BitVec.ofInt 64 (1 : Int))).toNat : Int) = bint (m.testBit 0) := by
  have h1 := bv_and 64 m 1 (by omega) (by omega)
  rw [show ((1 : Nat) : Int) = 1 from rfl] at h1
  rw [h1, Nat.and_one_is_mod, Q2q (by omega), bit0]
theorem implDigits_l0 (w : Nat) (hw : w ≤ 1000) : ∀ (d i m : Nat), w - i = d → i ≤ w → m < 4611686018427387904 → ∀ out : List Int, out.length ≤ 1000000 + i → Q0m_l0 m w i out = some (out ++ Qe (dg d m))
  | 0, i, m, h1, h2, h3, out, ho => by
    rw [Q0m_l0.eq, Q3 (by omega)]; simp [dg]
  | d + 1, i, m, h1, h2, h3, out, ho => by
    rw [Q0m_l0.eq, Q2 (by omega), ands1 m h3, Q2 (by simp only [List.length_cons, List.length_nil]; omega), fdiv_nat, Q6 i (by omega), implDigits_l0 w hw d (i + 1) (m / 2 ^ 1) (by omega) (by omega) (by omega) _ (by simp only [List.length_append, List.length_cons, List.length_nil]; omega), List.append_assoc, dg_succ]
    rfl
theorem implDigits_eq (w m : Nat) (hw : w ≤ 1000) (hm : m < 4611686018427387904) : Q0m m w = some (Qe (dg w m)) := by
  rw [Q0m.eq]
  exact implDigits_l0 w hw w 0 m rfl (by omega) hm [] (by simp)
theorem Q3z (a b : List Bool) : Qe a ++ Qe b = Qe (a ++ b) := List.map_append.symm
theorem Q1R (a : List Bool) : (Qe a).length = a.length := List.length_map ..
theorem Q8 (a : List Nat) : (ints a).length = a.length := List.length_map ..
theorem Q38 {α : Type} (X : List α) (i : Nat) (hi : i < X.length) : X.take (i + 1) = X.take i ++ [X[i]] := by rw [List.take_add_one, List.getElem?_eq_getElem hi]; rfl
theorem implPack_l1 (w : Nat) (hw : w ≤ 32) (X : List Nat) (hl : X.length ≤ 5000) (hX : X.length * w ≤ 5000) (hx : ∀ x ∈ X, x < 2 ^ w) (xs : List Int) (hxs : xs.length = X.length) (a b c : Int) (e : List Int) : ∀ (d i : Nat), X.length - i = d → i ≤ X.length →
    Q02_l1 xs (ints X) X.length i w a b c e (Qe (dgs w (X.take i))) = some (pk w X, true)
  | 0, i, h1, h2 => by
    obtain rfl : i = X.length := by omega
    rw [Q02_l1.eq, Q3 (by omega), List.take_length, Q3x _ (by rw [Q2G]; omega), Option.bind_some, hxs, Q2G]; rfl
  | d + 1, i, h1, h2 => by
    have hi : i < X.length := by omega
    have h3 := hx _ (List.getElem_mem hi)
    have h4 := pw62 (k := w) (by omega)
    have h5 : (X.take i).length * w ≤ X.length * w := Nat.mul_le_mul_right _ (by rw [List.length_take]; omega)
    rw [Q02_l1.eq, Q2 (by omega), Q0s _ _ hi, Option.bind_some, implDigits_eq w _ (by omega) (by omega), Option.bind_some, Q2 (by rw [Q1R, Q1R, Q2G, dg_len]; omega), Q6 i (by omega), Q3z, ← dgs_snoc, ← Q38 X i hi]
    exact implPack_l1 w hw X hl hX hx xs hxs a b c e d (i + 1) (by omega) (by omega)
theorem pack1_eq (w : Nat) (hw : w ≤ 32) (n : Int) : Q10 n w = some (!(decide (0 ≤ n) && decide (n ≤ ((2 ^ w - 1 : Nat) : Int)))) := by
  have h4 := pw62 (k := w) (by omega)
  have h0 : 0 < 2 ^ w := Nat.two_pow_pos w
  have e : min w 64 = w := by omega
  have e1 : (1 : Int) * 2 ^ w = ((2 ^ w : Nat) : Int) := by simp
  rw [Q10.eq, Q1u.eq, Q3 (by omega), Int.toNat_natCast, e, e1, Qb (x := ((2 ^ w : Nat) : Int)) (by omega) (by omega), Qb (x := ((2 ^ w : Nat) : Int) - 1) (by omega) (by omega), show ((2 ^ w : Nat) : Int) - 1 = ((2 ^ w - 1 : Nat) : Int) by omega, Q2H]; rfl
theorem packAll_eq (w : Nat) (hw : w ≤ 32) (xs : List Int) (h : xs.length < 4611686018427387904) : Q1k xs w = some (xs.all fun n => decide (0 ≤ n) && decide (n ≤ ((2 ^ w - 1 : Nat) : Int))) := by
  rw [Q1k.eq, Q1v.eq, Q0y.eq]
  obtain ⟨r, h1, h2⟩ := find_loop (fun n : Int => !(decide (0 ≤ n) && decide (n ≤ ((2 ^ w - 1 : Nat) : Int)))) (fun n => Q10 n w) xs h (fun x _ => pack1_eq w hw x) (Q0y_l0 xs w xs.length) (Q0y_l0.eq xs w xs.length)
  rw [h1]
  simp only [Option.bind_some, h2, List.any_eq_not_all_not, Bool.not_not]
theorem implPack_eq (w : Nat) (hw : w ≤ 32) (X : List Nat) (hl : X.length ≤ 5000) (hX : X.length * w ≤ 5000) (hx : ∀ x ∈ X, x < 2 ^ w) : Q02 (ints X) w = some (pk w X, true) := by
  have hall : ((ints X).all fun n => decide (0 ≤ n) && decide (n ≤ ((2 ^ w - 1 : Nat) : Int))) = true := by
    refine List.all_eq_true.2 fun x h => ?_
    obtain ⟨y, hy, rfl⟩ := List.mem_map.1 h
    have := hx y hy
    rw [Bool.and_eq_true, decide_eq_true_eq, decide_eq_true_eq]; omega
  have h6 : ((X.length : Nat) : Int) * (w : Int) = ((X.length * w : Nat) : Int) := by simp
  rw [Q02.eq, Q2H, Option.bind_some, decide_eq_true (show (0 : Int) ≤ w by omega), decide_eq_true (show (w : Int) ≤ 32 by omega), Q8, Q3 (show ¬ ((X.length : Nat) : Int) > 5000 by omega), h6, Qb (x := ((X.length * w : Nat) : Int)) (by omega) (by omega), Q3 (by omega), packAll_eq w hw _ (by rw [Q8]; omega), Option.bind_some, hall, Q02_l0.eq, Q8]
  have := implPack_l1 w hw X hl hX hx (ints X) (Q8 X) 0 0 0 [] _ 0 rfl (by omega)
  rw [List.take_zero] at this
  exact this
theorem specPack_l3 (w : Nat) (hw : w ≤ 32) (xs : List Int) (i : Nat) (a b c : Int) (e : List Int) : ∀ (d k m : Nat), w - k = d → k ≤ w → m < 4611686018427387904 → ∀ out : List Int, out.length ≤ 1000000 + k →
    Qm_l3 xs w i m k a b c e out = Qm_l1 xs w (IntKind.i64.wrap ((i : Int) + 1)) a b c e (out ++ Qe (dg d m))
  | 0, k, m, h1, h2, h3, out, ho => by
    rw [Qm_l3.eq, Q3 (by omega)]; simp [dg]
  | d + 1, k, m, h1, h2, h3, out, ho => by
    have e1 : (m : Int).tmod 2 = ((m % 2 : Nat) : Int) := rfl
    have e2 : (m : Int).tdiv 2 = ((m / 2 : Nat) : Int) := rfl
    rw [Qm_l3.eq, Q2 (by omega), Q2 (by simp only [List.length_cons, List.length_nil]; omega), e1, e2, bit0, Qb (x := ((m / 2 : Nat) : Int)) (by omega) (by omega), Q6 k (by omega), specPack_l3 w hw xs i a b c e d (k + 1) (m / 2) (by omega) (by omega) (by omega) _ (by simp only [List.length_append, List.length_cons, List.length_nil]; omega), List.append_assoc, dg_succ]
    rfl
theorem specPack_l1 (w : Nat) (hw : w ≤ 32) (X : List Nat) (hl : X.length ≤ 5000) (hX : X.length * w ≤ 5000) (hx : ∀ x ∈ X, x < 2 ^ w) (a b c : Int) (e : List Int) : ∀ (d i : Nat), X.length - i = d → i ≤ X.length →
    Qm_l1 (ints X) w i a b c e (Qe (dgs w (X.take i))) = some (pk w X, true)
  | 0, i, h1, h2 => by
    obtain rfl : i = X.length := by omega
    rw [Qm_l1.eq, Q8, Q3 (by omega), List.take_length, Q32 _ (by rw [Q2G]; omega), Option.bind_some, Q2G]; rfl
  | d + 1, i, h1, h2 => by
    have hi : i < X.length := by omega
    have h3 := hx _ (List.getElem_mem hi)
    have h4 := pw62 (k := w) (by omega)
    have h5 : (X.take i).length * w ≤ X.length * w := Nat.mul_le_mul_right _ (by rw [List.length_take]; omega)
    rw [Qm_l1.eq, Q8, Q2 (by omega), Q0s _ _ hi, Option.bind_some, Q3 (by omega), l02Pow_eq _ (by omega), Option.bind_some, Q3 (by omega), Qm_l2.eq]
    have h6 := specPack_l3 w hw (ints X) i a b c e w 0 X[i] rfl (by omega) (by omega) (Qe (dgs w (X.take i))) (by rw [Q1R, Q2G]; omega)
    refine h6.trans ?_
    rw [Q6 i (by omega), Q3z, ← dgs_snoc, ← Q38 X i hi]
    exact specPack_l1 w hw X hl hX hx a b c e d (i + 1) (by omega) (by omega)
theorem Q4i (w : Nat) (hw : w ≤ 32) (X : List Nat) (hl : X.length ≤ 5000) (hX : X.length * w ≤ 5000) (hx : ∀ x ∈ X, x < 2 ^ w) : Qm (ints X) w = some (pk w X, true) := by
  have h6 : ((X.length : Nat) : Int) * (w : Int) = ((X.length * w : Nat) : Int) := by simp
  rw [Qm.eq, Q3 (by omega), Q3 (by omega), Q8, Q3 (by omega), h6, Qb (x := ((X.length * w : Nat) : Int)) (by omega) (by omega), Q3 (by omega), Qm_l0.eq]
  have := specPack_l1 w hw X hl hX hx 0 0 0 [] _ 0 rfl (by omega)
  rw [List.take_zero] at this
  exact this
theorem implInv_l0 (S : List Nat) (hl : S.length ≤ 1000) (hn : S.Nodup) (hs : ∀ x ∈ S, x < S.length) : ∀ (d i : Nat), S.length - i = d → i ≤ S.length →
    Q0l_l0 (ints S) S.length i ((List.range S.length).map fun x => ((if S.idxOf x < i then S.idxOf x else 0 : Nat) : Int)) = some ((List.range S.length).map fun x => ((if S.idxOf x < S.length then S.idxOf x else 0 : Nat) : Int))
  | 0, i, h1, h2 => by
    obtain rfl : i = S.length := by omega
    rw [Q0l_l0.eq, Q3 (by omega)]
  | d + 1, i, h1, h2 => by
    have hi : i < S.length := by omega
    have h3 := hs _ (List.getElem_mem hi)
    rw [Q0l_l0.eq, Q2 (by omega), Q0s _ _ hi, Option.bind_some]
    simp only [Q0C, Int.toNat_natCast, Q3i _ S.length S[i] h3, Option.bind_some]
    rw [Q6 i (by omega), mapr_set, ← implInv_l0 S hl hn hs d (i + 1) (by omega) (by omega)]
    congr 1
    refine List.map_congr_left fun x hx => ?_
    by_cases h4 : x = S[i]
    · have h5 := (idx_iff hn hi x).1 h4.symm
      rw [if_pos h4, h5, if_pos (by omega)]
    · have h5 : S.idxOf x ≠ i := fun h => h4 ((idx_iff hn hi x).2 h).symm
      rw [if_neg h4]
      by_cases h6 : S.idxOf x < i
      · rw [if_pos h6, if_pos (by omega)]
      · rw [if_neg h6, if_neg (by omega)]
theorem inv_eq (S : List Nat) (hm : ∀ x, x < S.length → x ∈ S) : (List.range S.length).map (fun x => ((if S.idxOf x < S.length then S.idxOf x else 0 : Nat) : Int)) = ints (inv S) := by
  unfold inv
  show _ = List.map (fun (x : Nat) => (x : Int)) (List.map _ _)
  rw [List.map_map]
  refine List.map_congr_left fun x hx => ?_
  rw [if_pos (List.idxOf_lt_length_of_mem (hm x (List.mem_range.1 hx)))]; rfl
theorem implInv_eq (S : List Nat) (hl : S.length ≤ 1000) (hn : S.Nodup) (hs : ∀ x ∈ S, x < S.length) (hm : ∀ x, x < S.length → x ∈ S) : Q0l (ints S) = some (ints (inv S)) := by
  rw [Q0l.eq, Q8, Int.toNat_natCast]
  have e1 : (decide ((0 : Int) ≤ (S.length : Int)) && decide (S.length * 8 ≤ 140737488355328)) = true := by
    rw [Bool.and_eq_true, decide_eq_true_eq, decide_eq_true_eq]; omega
  rw [e1, Qu, ← inv_eq S hm, ← implInv_l0 S hl hn hs _ 0 rfl (by omega)]
  congr 1
  refine List.ext_getElem (by rw [List.length_replicate, List.length_map, List.length_range]) fun j h1 h2 => ?_
  rw [List.getElem_replicate, List.getElem_map, if_neg (by omega)]; rfl
theorem specInv_l1 (S : List Nat) (hl : S.length ≤ 1000) (hn : S.Nodup) (x : Nat) (hx : S.idxOf x < S.length) (hx2 : x ≤ 1000) (out : List Int) (ho : out.length ≤ 1000) : ∀ (d i : Nat), S.length - i = d → i ≤ S.length →
    QL_l1 (ints S) x (if S.idxOf x < i then ((S.idxOf x : Nat) : Int) else -1) i out = QL_l0 (ints S) (x + 1 : Nat) (out ++ [((S.idxOf x : Nat) : Int)])
  | 0, i, h1, h2 => by
    obtain rfl : i = S.length := by omega
    rw [QL_l1.eq, Q8, Q3 (by omega), if_pos hx, Q3 (by omega), Q2 (by simp only [List.length_cons, List.length_nil]; omega), Q6 x (by omega)]
  | d + 1, i, h1, h2 => by
    have hi : i < S.length := by omega
    rw [QL_l1.eq, Q8, Q2 (by omega), Q0s _ _ hi, Option.bind_some]
    rw [← specInv_l1 S hl hn x hx hx2 out ho d (i + 1) (by omega) (by omega)]
    by_cases h4 : S[i] = x
    · have h5 := (idx_iff hn hi x).1 h4
      rw [h4, Q07 rfl, Q6 i (by omega), h5, if_pos (by omega)]
    · have h5 : S.idxOf x ≠ i := fun h => h4 ((idx_iff hn hi x).2 h)
      rw [Q0a (by omega), Q6 i (by omega)]
      by_cases h6 : S.idxOf x < i
      · rw [if_pos h6, if_pos (by omega)]
      · rw [if_neg h6, if_neg (by omega)]
theorem Q2k (X : List Nat) (x : Nat) : ints X ++ [(x : Int)] = ints (X ++ [x]) :=
  (List.map_append (f := fun (x : Nat) => (x : Int)) (l₁ := X) (l₂ := [x])).symm
theorem specInv_l0 (S : List Nat) (hl : S.length ≤ 301) (hn : S.Nodup) (hm : ∀ x, x < S.length → x ∈ S) : ∀ (d x : Nat), S.length - x = d → x ≤ S.length →
    QL_l0 (ints S) x (ints ((List.range x).map fun x => S.idxOf x)) = some (ints (inv S), true)
  | 0, x, h1, h2 => by
    obtain rfl : x = S.length := by omega
    rw [QL_l0.eq, Q8, Q3 (by omega)]; rfl
  | d + 1, x, h1, h2 => by
    have hx : S.idxOf x < S.length := List.idxOf_lt_length_of_mem (hm x (by omega))
    have h3 := specInv_l1 S (by omega) hn x hx (by omega) (ints ((List.range x).map fun x => S.idxOf x)) (by rw [Q8, List.length_map, List.length_range]; omega) _ 0 rfl (by omega)
    rw [if_neg (by omega)] at h3
    rw [QL_l0.eq, Q8, Q2 (by omega)]
    refine h3.trans ?_
    rw [Q2k]
    have e : (List.range x).map (fun x => S.idxOf x) ++ [S.idxOf x] = (List.range (x + 1)).map fun x => S.idxOf x := by rw [List.range_succ, List.map_append]; rfl
    rw [e]
    exact specInv_l0 S hl hn hm d (x + 1) (by omega) (by omega)
theorem specInv_eq (S : List Nat) (hl : S.length ≤ 301) (hn : S.Nodup) (hm : ∀ x, x < S.length → x ∈ S) : QL (ints S) = some (ints (inv S), true) := by
  rw [QL.eq, Q8, Q3 (by omega)]
  exact specInv_l0 S hl hn hm _ 0 rfl (by omega)
theorem specCounts_l1 (X : List Nat) (hX : X.length ≤ 301) (c : Nat) (hc : c ≤ 257) (out : List Int) (ho : out.length ≤ 1000) : ∀ (d i : Nat), X.length - i = d → i ≤ X.length →
    QM_l1 (ints X) c (ltc (X.take i) c : Nat) i out = QM_l0 (ints X) (c + 1 : Nat) (out ++ [((ltc X c : Nat) : Int)])
  | 0, i, h1, h2 => by
    obtain rfl : i = X.length := by omega
    rw [QM_l1.eq, Q8, Q3 (by omega), List.take_length, Q2 (by simp only [List.length_cons, List.length_nil]; omega), Q6 c (by omega)]
  | d + 1, i, h1, h2 => by
    have hi : i < X.length := by omega
    have hle := ltc_le (X.take i) c
    rw [List.length_take] at hle
    have ih := specCounts_l1 X hX c hc out ho d (i + 1) (by omega) (by omega)
    rw [Q38 X i hi, ltc_snoc] at ih
    rw [QM_l1.eq, Q8, Q2 (by omega), Q0s _ _ hi, Option.bind_some]
    by_cases h4 : X[i] < c
    · rw [if_pos h4] at ih
      rw [Q2 (by omega), Q6 _ (by omega), Q6 i (by omega)]
      exact ih
    · rw [if_neg h4, Nat.add_zero] at ih
      rw [Q3 (by omega), Q6 i (by omega)]
      exact ih
theorem specCounts_l0 (X : List Nat) (hX : X.length ≤ 301) : ∀ (d c : Nat), 258 - c = d → c ≤ 258 → QM_l0 (ints X) c (ints ((List.range c).map (ltc X))) = some (ints ((List.range 258).map (ltc X)))
  | 0, c, h1, h2 => by
    obtain rfl : c = 258 := by omega
    rw [QM_l0.eq, Q3 (by omega)]
  | d + 1, c, h1, h2 => by
    have h3 := specCounts_l1 X hX c (by omega) (ints ((List.range c).map (ltc X))) (by rw [Q8, List.length_map, List.length_range]; omega) _ 0 rfl (by omega)
    rw [List.take_zero, show ltc [] c = 0 from rfl] at h3
    rw [QM_l0.eq, Q2 (by omega)]
    refine h3.trans ?_
    rw [Q2k]
    have e : (List.range c).map (ltc X) ++ [ltc X c] = (List.range (c + 1)).map (ltc X) := by rw [List.range_succ, List.map_append]; rfl
    rw [e]
    exact specCounts_l0 X hX d (c + 1) (by omega) (by omega)
theorem specCounts_eq (X : List Nat) (hX : X.length ≤ 301) (hx : ∀ x ∈ X, x ≤ 256) : QM (ints X) = some (ints ((List.range 258).map (ltc X))) := by
  have hs : sOk (ints X) = true := by
    simp only [sOk, Bool.and_eq_true, decide_eq_true_eq, List.all_eq_true, List.length_map]
    refine ⟨hX, fun x h => ?_⟩
    obtain ⟨y, hy, rfl⟩ := List.mem_map.1 h
    have := hx y hy
    omega
  rw [QM.eq, Q3S _ (by rw [List.length_map]; omega), Option.bind_some, hs, Bool.not_true, Qd]
  exact specCounts_l0 X hX _ 0 rfl (by omega)
end Go.Ev.W
/- The index of a text: both functions. -/
set_option linter.unusedVariables false
set_option linter.unusedSimpArgs false
namespace Go.Ev.W
open Go.Ev
abbrev FmT := Int × Int × Int × (List Int) × (List (Int × (List Int))) × (List Int) × Int × (List Int) × Int × Int × Int × (List Int) × Int × Int × Int × (List Int)
abbrev FmT4 := Int × Int × Int × (List Int)
abbrev FmT8 := Int × Int × Int × (List Int) × FmT4
abbrev FmT11 := (List Int) × Int × (List Int) × FmT8
instance decFm4 : DecidableEq FmT4 := inferInstance
instance decFm8 : DecidableEq FmT8 := inferInstance
instance decFm11 : DecidableEq FmT11 := inferInstance
instance decFm12 : DecidableEq ((List (Int × (List Int))) × FmT11) := @instDecidableEqProd _ _ inferInstance decFm11
instance decFm13 : DecidableEq ((List Int) × (List (Int × (List Int))) × FmT11) := @instDecidableEqProd _ _ inferInstance decFm12
instance decFm : DecidableEq FmT := @instDecidableEqProd Int _ inferInstance (@instDecidableEqProd Int _ inferInstance (@instDecidableEqProd Int _ inferInstance decFm13))
def fmV (D : List Nat) (r : Nat) : FmT :=
  ((D.length : Int), (r : Int), ((bwt D).length : Int), ints (wLv 9 0 (bwt D)).1, LI (wLv 9 0 (bwt D)).2, ints ((List.range 258).map (ltc (bwt D))), ((mkB r (srt D)).length : Int), ints (wrds (mkB r (srt D))),
    (pk (wd D.length) (saL r (srt D))).1, (pk (wd D.length) (saL r (srt D))).2.1, (pk (wd D.length) (saL r (srt D))).2.2.1, (pk (wd D.length) (saL r (srt D))).2.2.2, pk (wd D.length) (isaL r D.length (srt D)))
theorem Q2u (D : List Nat) (x : Nat) : x ∈ srt D ↔ x ≤ D.length := by
  have := (Q2s D).mem x
  simpa using this
theorem srt_nodup (D : List Nat) : (srt D).Nodup := (Q2s D).nodup
theorem bwt_le (D : List Nat) (hD : ∀ x ∈ D, x < 256) : ∀ x ∈ bwt D, x ≤ 256 := by
  intro x hx
  unfold bwt at hx
  obtain ⟨s, _, rfl⟩ := List.mem_map.1 hx
  unfold bwS
  split
  · omega
  · rw [List.getD_eq_getElem?_getD]
    cases h : D[s - 1]? with
    | none => simp
    | some y =>
      have := hD y (List.mem_of_getElem? h)
      simp; omega
theorem mk_snoc (r : Nat) (S : List Nat) (i : Nat) (hi : i < S.length) : mkB r (S.take (i + 1)) = mkB r (S.take i) ++ [isM r S[i]] := by
  unfold mkB; rw [Q38 S i hi, List.map_append]; rfl
theorem sa_snoc (r : Nat) (S : List Nat) (i : Nat) (hi : i < S.length) : saL r (S.take (i + 1)) = saL r (S.take i) ++ (if isM r S[i] then [S[i] / r] else []) := by
  unfold saL
  rw [Q38 S i hi, List.filter_append, List.map_append]
  cases h : isM r S[i] <;> simp [h]
theorem isM_beq (r s : Nat) : (((s : Int).tmod (r : Int)) == (0 : Int)) = isM r s := by
  have e : (s : Int).tmod (r : Int) = ((s % r : Nat) : Int) := rfl
  rw [e, Q2j]
  unfold isM
  rw [Bool.eq_iff_iff, decide_eq_true_eq, decide_eq_true_eq]; omega
theorem isa_snoc (r : Nat) (S : List Nat) (j : Nat) : (List.range (j + 1)).map (fun j => S.idxOf (j * r)) = (List.range j).map (fun j => S.idxOf (j * r)) ++ [S.idxOf (j * r)] := by
  rw [List.range_succ, List.map_append]; rfl
theorem sa_lt (D : List Nat) (r : Nat) (h : D.length < 302) : ∀ x ∈ saL r (srt D), x < 2 ^ wd D.length := by
  intro x hx
  have h2 := wd_lt D.length (by omega)
  unfold saL at hx
  obtain ⟨s, hs, rfl⟩ := List.mem_map.1 hx
  have h3 := (Q2u D s).1 (List.mem_filter.1 hs).1
  have h4 : s / r ≤ s := Nat.div_le_self _ _
  omega
theorem isa_lt (D : List Nat) (r : Nat) (h : D.length < 302) (h1 : 0 < r) : ∀ x ∈ isaL r D.length (srt D), x < 2 ^ wd D.length := by
  intro x hx
  have h2 := wd_lt D.length (by omega)
  unfold isaL at hx
  obtain ⟨j, hj, rfl⟩ := List.mem_map.1 hx
  have h3 : j * r ≤ D.length := (Nat.le_div_iff_mul_le h1).1 (by have := List.mem_range.1 hj; omega)
  have h4 := List.idxOf_lt_length_of_mem ((Q2u D (j * r)).2 h3)
  rw [Q1T] at h4
  omega
theorem pk_size {n w : Nat} (h : n ≤ 301) (h2 : w ≤ 9) : n * w ≤ 5000 := by
  have := Nat.mul_le_mul h h2
  omega
theorem implFm_l1 (D : List Nat) (hl : D.length ≤ 300) (r : Nat) (h1 : 0 < r) (h2 : r ≤ 64) (v3 : Int) (v4 : Int) (v5 : Int) (v6 : Int) (v7 : Int) (v8 : Int) (v9 : Int) (v10 : Int) (v11 : Int) (v12 : Int) (v13 : List Int) (v14 : List (Int × (List Int))) (v15 : List Int) (v16 : List Int) (v17 : List Int) (v18 : List Int) (v19 : Int) (v20 : Int) (v21 : Int) (v22 : Int) (v23 : Int) (v24 : Int) (v25 : Int) (v26 : Int) (v27 : Int) (v28 : Int) (v29 : List Int) (v30 : List (Int × (List Int))) (v31 : List Int) (v32 : List Int) (v33 : List Int) (v34 : List Int) : ∀ (d j : Nat), D.length / r + 1 - j = d → j ≤ D.length / r + 1 →
    QH_l1 (ints D) ((r : Int)) (((j * r : Nat) : Int)) v3 v4 v5 v6 v7 v8 v9 v10 v11 v12 v13 v14 v15 v16 v17 v18 v19 v20 v21 v22 v23 v24 v25 v26 v27 v28 v29 v30 v31 v32 v33 v34 (Qe (mkB r (srt D))) (ints (saL r (srt D))) (ints ((List.range j).map fun j => (srt D).idxOf (j * r))) (ints (inv (srt D))) =
      some (v19, v20, v21, v29, v30, v31, ((mkB r (srt D)).length : Int), ints (wrds (mkB r (srt D))), (pk (wd D.length) (saL r (srt D))).1, (pk (wd D.length) (saL r (srt D))).2.1, (pk (wd D.length) (saL r (srt D))).2.2.1, (pk (wd D.length) (saL r (srt D))).2.2.2, pk (wd D.length) (isaL r D.length (srt D)))
  | 0, j, h3, h4 => by
    obtain rfl : j = D.length / r + 1 := by omega
    have h5 : D.length < (D.length / r + 1) * r := by
      have := Nat.div_add_mod D.length r
      have := Nat.mod_lt D.length h1
      rw [Nat.add_mul, Nat.mul_comm (D.length / r)]; omega
    have hd : D.length / r ≤ D.length := Nat.div_le_self _ _
    have hs := Q1T D
    have hsa := saL_len r (srt D)
    have hw := wd_le9 (n := D.length) (by omega)
    rw [QH_l1.eq, Q8, Q3 (by omega), Q3x _ (by rw [mkB_len]; omega), Option.bind_some, implWidth_eq _ (by omega), Option.bind_some, implPack_eq _ (by omega) _ (by omega) (pk_size (by omega) hw) (sa_lt D r (by omega)), Option.bind_some, Option.bind_some]
    have e : (List.range (D.length / r + 1)).map (fun j => (srt D).idxOf (j * r)) = isaL r D.length (srt D) := rfl
    rw [e, implPack_eq _ (by omega) _ (by rw [isaL_len]; omega) (pk_size (by rw [isaL_len]; omega) hw) (isa_lt D r (by omega) h1)]; rfl
  | d + 1, j, h3, h4 => by
    have h5 : j * r ≤ D.length := (Nat.le_div_iff_mul_le h1).1 (by omega)
    have hs := Q1T D
    have hd : D.length / r ≤ D.length := Nat.div_le_self _ _
    have e2 : ((j * r : Nat) : Int) + (r : Int) = (((j + 1) * r : Nat) : Int) := by rw [Nat.add_mul]; omega
    rw [QH_l1.eq, Q8, Q2 (by omega)]
    simp only [Q0C, Int.toNat_natCast, List.getElem?_map, inv_at (srt D) (j * r) (by omega), Option.map_some, Option.bind_some]
    rw [Q2 (by simp only [List.length_cons, List.length_nil, List.length_map, List.length_range]; omega), e2, Qb (by omega) (by rw [Nat.add_mul]; omega), Q2k, ← isa_snoc]
    exact implFm_l1 D hl r h1 h2 v3 v4 v5 v6 v7 v8 v9 v10 v11 v12 v13 v14 v15 v16 v17 v18 v19 v20 v21 v22 v23 v24 v25 v26 v27 v28 v29 v30 v31 v32 v33 v34 d (j + 1) (by omega) (by omega)
theorem implFm_l0 (D : List Nat) (hl : D.length ≤ 300) (r : Nat) (h1 : 0 < r) (h2 : r ≤ 64) (v4 : Int) (v5 : Int) (v6 : Int) (v7 : Int) (v8 : Int) (v9 : Int) (v10 : Int) (v11 : Int) (v12 : Int) (v13 : Int) (v14 : List Int) (v15 : List (Int × (List Int))) (v16 : List Int) (v17 : List Int) (v18 : List Int) (v19 : List Int) (v21 : Int) (v22 : Int) (v23 : Int) (v24 : Int) (v25 : Int) (v26 : Int) (v27 : Int) (v28 : Int) (v29 : Int) (v30 : Int) (v31 : List Int) (v32 : List (Int × (List Int))) (v33 : List Int) (v34 : List Int) (v35 : List Int) (v36 : List Int) : ∀ (d i : Nat), (srt D).length - i = d → i ≤ (srt D).length →
    QH_l0 (ints D) ((r : Int)) (((srt D).length : Int)) ((i : Int)) v4 v5 v6 v7 v8 v9 v10 v11 v12 v13 v14 v15 v16 v17 v18 v19 (ints (srt D)) v21 v22 v23 v24 v25 v26 v27 v28 v29 v30 v31 v32 v33 v34 v35 v36 (Qe (mkB r ((srt D).take i))) (ints (saL r ((srt D).take i))) (([] : List Int)) =
      some (v21, v22, v23, v31, v32, v33, ((mkB r (srt D)).length : Int), ints (wrds (mkB r (srt D))), (pk (wd D.length) (saL r (srt D))).1, (pk (wd D.length) (saL r (srt D))).2.1, (pk (wd D.length) (saL r (srt D))).2.2.1, (pk (wd D.length) (saL r (srt D))).2.2.2, pk (wd D.length) (isaL r D.length (srt D)))
  | 0, i, h3, h4 => by
    obtain rfl : i = (srt D).length := by omega
    have hs := Q1T D
    rw [QH_l0.eq, Q3 (by omega), List.take_length, implInv_eq _ (by omega) (srt_nodup D) (fun x hx => by have := (Q2u D x).1 hx; omega) (fun x hx => (Q2u D x).2 (by omega)), Option.bind_some]
    have := implFm_l1 D hl r h1 h2 v4 v5 v6 v7 v8 v9 v10 v11 v12 v13 v14 v15 v16 v17 v18 v19 v21 v22 v23 v24 v25 v26 v27 v28 v29 v30 v31 v32 v33 v34 v35 v36 _ 0 rfl (Nat.zero_le _)
    rw [Nat.zero_mul] at this
    exact this
  | d + 1, i, h3, h4 => by
    have hi : i < (srt D).length := by omega
    have hs := Q1T D
    have hx := (Q2u D _).1 (List.getElem_mem hi)
    have hsa := saL_len r ((srt D).take i)
    rw [List.length_take] at hsa
    have e3 : ((srt D)[i] : Int).tdiv (r : Int) = (((srt D)[i] / r : Nat) : Int) := rfl
    have hdv : (srt D)[i] / r ≤ (srt D)[i] := Nat.div_le_self _ _
    have ih := implFm_l0 D hl r h1 h2 v4 v5 v6 v7 v8 v9 v10 v11 v12 v13 v14 v15 v16 v17 v18 v19 v21 v22 v23 v24 v25 v26 v27 v28 v29 v30 v31 v32 v33 v34 v35 v36 d (i + 1) (by omega) (by omega)
    rw [mk_snoc r _ i hi, sa_snoc r _ i hi, ← Q3z] at ih
    rw [QH_l0.eq, Q2 (by omega), Q0s _ _ hi, Option.bind_some, Int.toNat_natCast, Q1S _ _ hi, Option.bind_some, Q3 (by omega), isM_beq]
    cases hm : isM r (srt D)[i] with
    | true =>
      rw [hm, if_pos rfl, ← Q2k] at ih
      rw [Qu, Q2 (by simp only [List.length_cons, List.length_nil, Q1R, mkB_len, List.length_take]; omega), Q3 (by omega), Q2 (by simp only [List.length_cons, List.length_nil, Q8]; omega), Q6 i (by omega), e3, Q2q (by omega)]
      exact ih
    | false =>
      rw [hm, if_neg (by simp), List.append_nil] at ih
      rw [Qd, Q2 (by simp only [List.length_cons, List.length_nil, Q1R, mkB_len, List.length_take]; omega), Q6 i (by omega)]
      exact ih
theorem implFm_eq (D : List Nat) (hl : D.length ≤ 300) (hD : ∀ x ∈ D, x < 256) (r : Nat) (h1 : 0 < r) (h2 : r ≤ 64) : QH (ints D) r = some (fmV D r) := by
  have hb := Q1x D
  have hble := bwt_le D hD
  rw [QH.eq, implSuf_eq D hl hD, Option.bind_some, Q31 D hl hD, Option.bind_some, counts_eq _ (by omega) hble, Option.bind_some, Q4h _ (by omega) (fun x hx => by have := hble x hx; omega), Option.bind_some, Q8, Q8]
  exact implFm_l0 D hl r h1 h2 _ _ _ _ _ _ _ _ _ _ _ _ _ _ _ _ _ _ _ _ _ _ _ _ _ _ _ _ _ _ _ _ _ 0 rfl (by omega)
theorem specFm_l2 (D : List Nat) (hl : D.length ≤ 300) (r : Nat) (h1 : 0 < r) (h2 : r ≤ 64) (v3 : Int) (v4 : Int) (v5 : Int) (v6 : Int) (v7 : Int) (v8 : Int) (v9 : Int) (v10 : Int) (v11 : Int) (v12 : Int) (v13 : List Int) (v14 : List (Int × (List Int))) (v15 : List Int) (v16 : List Int) (v17 : List Int) (v18 : List Int) (v20 : Int) (v21 : Int) (v22 : Int) (v23 : Int) (v24 : Int) (v25 : Int) (v26 : Int) (v27 : Int) (v28 : Int) (v29 : Int) (v30 : List Int) (v31 : List (Int × (List Int))) (v32 : List Int) (v33 : List Int) (v34 : List Int) (v35 : List Int) : ∀ (d j : Nat), D.length / r + 1 - j = d → j ≤ D.length / r + 1 →
    Qn_l2 (ints D) ((r : Int)) (((j * r : Nat) : Int)) v3 v4 v5 v6 v7 v8 v9 v10 v11 v12 v13 v14 v15 v16 v17 v18 (ints (inv (srt D))) v20 v21 v22 v23 v24 v25 v26 v27 v28 v29 v30 v31 v32 v33 v34 v35 (Qe (mkB r (srt D))) (ints (saL r (srt D))) (ints ((List.range j).map fun j => (srt D).idxOf (j * r))) =
      some ((v20, v21, v22, v30, v31, v32, ((mkB r (srt D)).length : Int), ints (wrds (mkB r (srt D))), (pk (wd D.length) (saL r (srt D))).1, (pk (wd D.length) (saL r (srt D))).2.1, (pk (wd D.length) (saL r (srt D))).2.2.1, (pk (wd D.length) (saL r (srt D))).2.2.2, pk (wd D.length) (isaL r D.length (srt D))), true)
  | 0, j, h3, h4 => by
    obtain rfl : j = D.length / r + 1 := by omega
    have h5 : D.length < (D.length / r + 1) * r := by
      have := Nat.div_add_mod D.length r
      have := Nat.mod_lt D.length h1
      rw [Nat.add_mul, Nat.mul_comm (D.length / r)]; omega
    have hd : D.length / r ≤ D.length := Nat.div_le_self _ _
    have hs := Q1T D
    have hsa := saL_len r (srt D)
    have hw := wd_le9 (n := D.length) (by omega)
    rw [Qn_l2.eq, Q8, Q3 (by omega), Q32 _ (by rw [mkB_len]; omega), Option.bind_some, specWidth_eq _ (by omega), Option.bind_some, Q4i _ (by omega) _ (by omega) (pk_size (by omega) hw) (sa_lt D r (by omega)), Option.bind_some, Option.bind_some]
    have e : (List.range (D.length / r + 1)).map (fun j => (srt D).idxOf (j * r)) = isaL r D.length (srt D) := rfl
    rw [e, Q4i _ (by omega) _ (by rw [isaL_len]; omega) (pk_size (by rw [isaL_len]; omega) hw) (isa_lt D r (by omega) h1)]; rfl
  | d + 1, j, h3, h4 => by
    have h5 : j * r ≤ D.length := (Nat.le_div_iff_mul_le h1).1 (by omega)
    have hs := Q1T D
    have hd : D.length / r ≤ D.length := Nat.div_le_self _ _
    have e2 : ((j * r : Nat) : Int) + (r : Int) = (((j + 1) * r : Nat) : Int) := by rw [Nat.add_mul]; omega
    rw [Qn_l2.eq, Q8, Q2 (by omega)]
    simp only [Q0C, Int.toNat_natCast, List.getElem?_map, inv_at (srt D) (j * r) (by omega), Option.map_some, Option.bind_some]
    rw [Q2 (by simp only [List.length_cons, List.length_nil, List.length_map, List.length_range]; omega), e2, Qb (by omega) (by rw [Nat.add_mul]; omega), Q2k, ← isa_snoc]
    exact specFm_l2 D hl r h1 h2 v3 v4 v5 v6 v7 v8 v9 v10 v11 v12 v13 v14 v15 v16 v17 v18 v20 v21 v22 v23 v24 v25 v26 v27 v28 v29 v30 v31 v32 v33 v34 v35 d (j + 1) (by omega) (by omega)
theorem specBool_eq (b : Bool) : Q0F b = some (bint b) := by rw [Q0F.eq]; cases b <;> rfl
theorem specFm_l1 (D : List Nat) (hl : D.length ≤ 300) (r : Nat) (h1 : 0 < r) (h2 : r ≤ 64) (v3 : Int) (v4 : Int) (v5 : Int) (v6 : Int) (v7 : Int) (v8 : Int) (v9 : Int) (v10 : Int) (v11 : Int) (v12 : Int) (v13 : List Int) (v14 : List (Int × (List Int))) (v15 : List Int) (v16 : List Int) (v17 : List Int) (v18 : List Int) (v21 : Int) (v22 : Int) (v23 : Int) (v24 : Int) (v25 : Int) (v26 : Int) (v27 : Int) (v28 : Int) (v29 : Int) (v30 : Int) (v31 : List Int) (v32 : List (Int × (List Int))) (v33 : List Int) (v34 : List Int) (v35 : List Int) (v36 : List Int) : ∀ (d i : Nat), (srt D).length - i = d → i ≤ (srt D).length →
    Qn_l1 (ints D) ((r : Int)) ((i : Int)) v3 v4 v5 v6 v7 v8 v9 v10 v11 v12 v13 v14 v15 v16 v17 v18 (ints (srt D)) (ints (inv (srt D))) v21 v22 v23 v24 v25 v26 v27 v28 v29 v30 v31 v32 v33 v34 v35 v36 (Qe (mkB r ((srt D).take i))) (ints (saL r ((srt D).take i))) =
      some ((v21, v22, v23, v31, v32, v33, ((mkB r (srt D)).length : Int), ints (wrds (mkB r (srt D))), (pk (wd D.length) (saL r (srt D))).1, (pk (wd D.length) (saL r (srt D))).2.1, (pk (wd D.length) (saL r (srt D))).2.2.1, (pk (wd D.length) (saL r (srt D))).2.2.2, pk (wd D.length) (isaL r D.length (srt D))), true)
  | 0, i, h3, h4 => by
    obtain rfl : i = (srt D).length := by omega
    have hs := Q1T D
    rw [Qn_l1.eq, Q8, Q3 (by omega), List.take_length]
    have := specFm_l2 D hl r h1 h2 v3 v4 v5 v6 v7 v8 v9 v10 v11 v12 v13 v14 v15 v16 v17 v18 v21 v22 v23 v24 v25 v26 v27 v28 v29 v30 v31 v32 v33 v34 v35 v36 _ 0 rfl (Nat.zero_le _)
    rw [Nat.zero_mul] at this
    exact this
  | d + 1, i, h3, h4 => by
    have hi : i < (srt D).length := by omega
    have hs := Q1T D
    have hx := (Q2u D _).1 (List.getElem_mem hi)
    have hsa := saL_len r ((srt D).take i)
    rw [List.length_take] at hsa
    have e3 : ((srt D)[i] : Int).tdiv (r : Int) = (((srt D)[i] / r : Nat) : Int) := rfl
    have hdv : (srt D)[i] / r ≤ (srt D)[i] := Nat.div_le_self _ _
    have ih := specFm_l1 D hl r h1 h2 v3 v4 v5 v6 v7 v8 v9 v10 v11 v12 v13 v14 v15 v16 v17 v18 v21 v22 v23 v24 v25 v26 v27 v28 v29 v30 v31 v32 v33 v34 v35 v36 d (i + 1) (by omega) (by omega)
    rw [mk_snoc r _ i hi, sa_snoc r _ i hi, ← Q3z] at ih
    rw [Qn_l1.eq, Q8, Q2 (by omega)]
    simp only [Q0s _ _ hi, Option.bind_some, Int.toNat_natCast, Q1S _ _ hi, isM_beq, specBool_eq]
    rw [Q3 (show ¬ (r : Int) = 0 by omega), Q2 (by simp only [List.length_cons, List.length_nil, Q1R, mkB_len, List.length_take]; omega), Q3 (show ¬ (r : Int) = 0 by omega)]
    cases hm : isM r (srt D)[i] with
    | true =>
      rw [hm, if_pos rfl, ← Q2k] at ih
      rw [Qu, Q3 (show ¬ (r : Int) = 0 by omega), Q2 (by simp only [List.length_cons, List.length_nil, Q8]; omega), Q6 i (by omega), e3, Q2q (by omega)]
      exact ih
    | false =>
      rw [hm, if_neg (by simp), List.append_nil] at ih
      rw [Qd, Q6 i (by omega)]
      exact ih
theorem Q4j (D : List Nat) : Q0B (ints D) = some (decide (D.length ≤ 300)) := by
  rw [Q0B.eq, Q8]
  congr 1
  rw [Bool.eq_iff_iff, decide_eq_true_eq, decide_eq_true_eq]; omega
theorem Q3A (r : Int) : Q0t r = some (decide (1 ≤ r) && decide (r ≤ 64)) := by
  rw [Q0t.eq]
  by_cases h : 1 ≤ r
  · rw [Q2 (by omega), decide_eq_true h]; rfl
  · rw [Q3 (by omega), decide_eq_false h]; rfl
theorem Q4k (r : Int) : Q0S r = some (decide (1 ≤ r) && decide (r ≤ 64)) := by
  rw [Q0S.eq, Q2H]; rfl
theorem Q3l (D : List Nat) (hl : D.length ≤ 300) (hD : ∀ x ∈ D, x < 256) (r : Nat) (h1 : 0 < r) (h2 : r ≤ 64) : Qn (ints D) r = some (fmV D r, true) := by
  have hb := Q1x D
  have hs := Q1T D
  have hble := bwt_le D hD
  rw [Qn.eq, Q4j, decide_eq_true hl, Option.bind_some, Bool.not_true, Qd, Q3A, decide_eq_true (show (1 : Int) ≤ r by omega), decide_eq_true (show (r : Int) ≤ 64 by omega), Option.bind_some]
  rw [Bool.and_true, Bool.not_true, Qd, Qn_l0.eq, specSuf_eq D hl, Option.bind_some, specInv_eq _ (by omega) (srt_nodup D) (fun x hx => (Q2u D x).2 (by omega)), Option.bind_some, Q2n D hl hD, Option.bind_some, specCounts_eq _ (by omega) hble, Option.bind_some, Q3y _ (by omega) (fun x hx => by have := hble x hx; omega), Option.bind_some, Q8]
  exact specFm_l1 D hl r h1 h2 _ _ _ _ _ _ _ _ _ _ _ _ _ _ _ _ _ _ _ _ _ _ _ _ _ _ _ _ _ _ _ _ _ 0 rfl (by omega)
end Go.Ev.W
/- Indexes: the text of a valid one. -/
set_option linter.unusedVariables false
set_option linter.unusedSimpArgs false
namespace Go.Ev.W
open Go.Ev
theorem equalU_eq (X Y : List Int) (h : X.length < 4611686018427387904) : Q0q X Y = some (decide (X = Y)) := by
  rw [Q0q.eq]
  exact eq_list X Y _ fun hl => eq_loop (fun x y => some (!(x != y))) X Y hl h (fun x _ y _ => by rw [bne, Bool.not_not]; exact congrArg some (by rw [Bool.eq_iff_iff]; simp)) (Q0q_l0 X Y X.length) (fun i => by rw [Q0q_l0.eq]; simp only [Option.bind_some, Bool.not_not])
theorem Q2A {α β : Type} [DecidableEq α] [DecidableEq β] (a c : α) (b d : β) : decide ((a, b) = (c, d)) = (decide (a = c) && decide (b = d)) := by
  rw [Bool.eq_iff_iff]; simp
theorem Q3m (a : Int) (x : List Int) (b : Int) (y : List Int) (h : x.length < 4611686018427387904) : Q0j (a, x) (b, y) = some (decide ((a, x) = (b, y))) := by
  rw [Q0j.eq, Q2A, Q2j]
  try simp only
  rw [equalU_eq _ _ h]
  cases decide (a = b) <;> rfl
theorem Q3W (a b c : Int) (x : List Int) (d e f : Int) (y : List Int) (h : x.length < 4611686018427387904) : Q0D (a, b, c, x) (d, e, f, y) = some (decide ((a, b, c, x) = (d, e, f, y))) := by
  rw [Q0D.eq, Q2A, Q2A, Q2j, Q2j]
  try simp only
  rw [Q3m _ _ _ _ h]
  cases decide (a = d) <;> cases decide (b = e) <;> rfl
theorem sameLv_eq (X Y : Lv) (h : X.length < 4611686018427387904) (hw : ∀ p ∈ X, p.2.length < 4611686018427387904) : Q0r X Y () = some (decide (X = Y)) := by
  rw [Q0r.eq]
  exact eq_list X Y _ fun hl => eq_loop (fun x y => Q0j x y) X Y hl h (fun x hx y _ => Q3m _ _ _ _ (hw x hx)) (Q0r_l0 Y X X.length) (fun i => Q0r_l0.eq Y X X.length i)
theorem Q4l (a : Int) (Z : List Int) (L : Lv) (b : Int) (Y : List Int) (M : Lv) (hZ : Z.length < 4611686018427387904) (h : L.length < 4611686018427387904) (hw : ∀ p ∈ L, p.2.length < 4611686018427387904) : Q0N (a, Z, L) (b, Y, M) = some (decide ((a, Z, L) = (b, Y, M))) := by
  rw [Q0N.eq, Q2A, Q2A, Q2j]
  try simp only
  rw [equalI_eq _ _ hZ, Option.bind_some, sameLv_eq _ _ h hw]
  cases decide (a = b) <;> cases decide (Z = Y) <;> rfl
theorem l03_l1 (a b : Int) (X Y : List Int) (hl : X.length = Y.length) (h : X.length < 4611686018427387904) : QI_l1 0 a X b Y = some (decide (X = Y)) :=
  eq_loop (fun x y => some (!(x != y))) X Y hl h (fun x _ y _ => by rw [bne, Bool.not_not]; exact congrArg some (by rw [Bool.eq_iff_iff]; simp)) (fun i => QI_l1 i a X b Y) (fun i => by rw [QI_l1.eq]; simp only [Option.bind_some, Bool.not_not])
theorem Q3X (a : Int) (x : List Int) (b : Int) (y : List Int) (h : x.length < 4611686018427387904) : QI (a, x) (b, y) = some (decide ((a, x) = (b, y))) := by
  rw [QI.eq, Q2A]
  try simp only
  by_cases h1 : a = b
  · rw [Q1F h1, decide_eq_true h1, Bool.true_and, eq_list x y _ fun hl => by rw [QI_l0.eq]; exact l03_l1 a b x y hl h]
  · rw [Q1K h1, decide_eq_false h1]; rfl
theorem Q3n (a b c : Int) (x : List Int) (d e f : Int) (y : List Int) (h : x.length < 4611686018427387904) : Q0G (a, b, c, x) (d, e, f, y) = some (decide ((a, b, c, x) = (d, e, f, y))) := by
  rw [Q0G.eq, Q2A, Q2A, Q2j, Q2j]
  try simp only
  rw [Q3X _ _ _ _ h]
  cases decide (a = d) <;> cases decide (b = e) <;> rfl
structure ShortFm (f : FmT) : Prop where
  z : f.2.2.2.1.length < 4611686018427387904
  l : f.2.2.2.2.1.length < 4611686018427387904
  w : ∀ p ∈ f.2.2.2.2.1, p.2.length < 4611686018427387904
  c : f.2.2.2.2.2.1.length < 4611686018427387904
  m : f.2.2.2.2.2.2.2.1.length < 4611686018427387904
  s : f.2.2.2.2.2.2.2.2.2.2.2.1.length < 4611686018427387904
  i : f.2.2.2.2.2.2.2.2.2.2.2.2.2.2.2.length < 4611686018427387904
theorem fm_dec (f g : FmT) : decide (f = g) = (decide (f.1 = g.1) && (decide (f.2.1 = g.2.1) && (decide ((f.2.2.1, f.2.2.2.1, f.2.2.2.2.1) = (g.2.2.1, g.2.2.2.1, g.2.2.2.2.1)) && (decide (f.2.2.2.2.2.1 = g.2.2.2.2.2.1) && (decide ((f.2.2.2.2.2.2.1, f.2.2.2.2.2.2.2.1) = (g.2.2.2.2.2.2.1, g.2.2.2.2.2.2.2.1)) &&
    (decide ((f.2.2.2.2.2.2.2.2.1, f.2.2.2.2.2.2.2.2.2.1, f.2.2.2.2.2.2.2.2.2.2.1, f.2.2.2.2.2.2.2.2.2.2.2.1) = (g.2.2.2.2.2.2.2.2.1, g.2.2.2.2.2.2.2.2.2.1, g.2.2.2.2.2.2.2.2.2.2.1, g.2.2.2.2.2.2.2.2.2.2.2.1)) && decide (f.2.2.2.2.2.2.2.2.2.2.2.2 = g.2.2.2.2.2.2.2.2.2.2.2.2))))))) := by
  obtain ⟨a1, a2, a3, a4, a5, a6, a7, a8, a9, a10, a11, a12, a13⟩ := f
  obtain ⟨b1, b2, b3, b4, b5, b6, b7, b8, b9, b10, b11, b12, b13⟩ := g
  simp only [Q2A, Bool.and_assoc]
theorem sameFm_eq (f g : FmT) (h : ShortFm f) : Q11 f g = some (decide (f = g)) := by
  rw [Q11.eq, fm_dec, Q4l _ _ _ _ _ _ h.z h.l h.w, equalI_eq _ _ h.c, Q3m _ _ _ _ h.m, Q3W _ _ _ _ _ _ _ _ h.s, Q3W _ _ _ _ _ _ _ _ h.i, Q2j, Q2j]
  simp only [Option.bind_some]
  cases decide (f.1 = g.1)
  · rfl
  cases decide (f.2.1 = g.2.1)
  · rfl
  cases decide ((f.2.2.1, f.2.2.2.1, f.2.2.2.2.1) = (g.2.2.1, g.2.2.2.1, g.2.2.2.2.1))
  · rfl
  cases decide (f.2.2.2.2.2.1 = g.2.2.2.2.2.1)
  · rfl
  cases decide ((f.2.2.2.2.2.2.1, f.2.2.2.2.2.2.2.1) = (g.2.2.2.2.2.2.1, g.2.2.2.2.2.2.2.1))
  · rfl
  cases decide ((f.2.2.2.2.2.2.2.2.1, f.2.2.2.2.2.2.2.2.2.1, f.2.2.2.2.2.2.2.2.2.2.1, f.2.2.2.2.2.2.2.2.2.2.2.1) = (g.2.2.2.2.2.2.2.2.1, g.2.2.2.2.2.2.2.2.2.1, g.2.2.2.2.2.2.2.2.2.2.1, g.2.2.2.2.2.2.2.2.2.2.2.1))
  · rfl
  rfl
theorem wLv_len : ∀ (d l : Nat) (X : List Nat), (wLv d l X).1.length = d ∧ (wLv d l X).2.length = d
  | 0, l, X => ⟨rfl, rfl⟩
  | d + 1, l, X => by
    have := wLv_len d (l + 1) (wlo l X ++ whi l X)
    rw [wLv]
    exact ⟨by rw [List.length_cons, this.1], by rw [List.length_cons, this.2]⟩
theorem Q39 : ∀ (d l : Nat) (X : List Nat), ∀ p ∈ (wLv d l X).2, p.2.length = nw X.length
  | 0, l, X, p, h => by cases h
  | d + 1, l, X, p, h => by
    rw [wLv] at h
    have hl := Q2b l X
    rcases List.mem_cons.1 h with rfl | h
    · rw [Q1M, Q37]
    · rw [Q39 d (l + 1) _ p h, List.length_append, hl]
theorem pk_words (w : Nat) (X : List Nat) : (pk w X).2.2.2.length = nw (X.length * w) := by
  show (ints (wrds (dgs w X))).length = _
  rw [Q8, Q1M, Q2G]
structure SmFm (f : FmT) (k : Nat) : Prop where
  z : f.2.2.2.1.length ≤ k
  l : f.2.2.2.2.1.length ≤ k
  w : ∀ p ∈ f.2.2.2.2.1, p.2.length ≤ k
  c : f.2.2.2.2.2.1.length ≤ k
  m : f.2.2.2.2.2.2.2.1.length ≤ k
  s : f.2.2.2.2.2.2.2.2.2.2.2.1.length ≤ k
  i : f.2.2.2.2.2.2.2.2.2.2.2.2.2.2.2.length ≤ k
theorem SmFm.short {f : FmT} {k : Nat} (h : SmFm f k) (hk : k < 4611686018427387904) : ShortFm f :=
  ⟨by have := h.z; omega, by have := h.l; omega, fun p hp => by have := h.w p hp; omega, by have := h.c; omega, by have := h.m; omega, by have := h.s; omega, by have := h.i; omega⟩
theorem Q3o (D : List Nat) (hl : D.length ≤ 300) (r : Nat) : SmFm (fmV D r) 1000 := by
  have hb := Q1x D
  have hs := Q1T D
  have h1 := wLv_len 9 0 (bwt D)
  have hw := wd_le9 (n := D.length) (by omega)
  have hsa := saL_len r (srt D)
  have hd : D.length / r ≤ D.length := Nat.div_le_self _ _
  have p1 := pk_size (n := (saL r (srt D)).length) (by omega) hw
  have p2 := pk_size (n := (isaL r D.length (srt D)).length) (by rw [isaL_len]; omega) hw
  refine ⟨?_, ?_, fun p hp => ?_, ?_, ?_, ?_, ?_⟩
  · show (ints (wLv 9 0 (bwt D)).1).length ≤ 1000
    rw [Q8]; omega
  · show (LI (wLv 9 0 (bwt D)).2).length ≤ 1000
    rw [List.length_map]; omega
  · have hp' : p ∈ LI (wLv 9 0 (bwt D)).2 := hp
    obtain ⟨q, hq, rfl⟩ := List.mem_map.1 hp'
    rw [Q8, Q39 _ _ _ q hq]
    unfold nw; omega
  · show (ints ((List.range 258).map (ltc (bwt D)))).length ≤ 1000
    rw [Q8, List.length_map, List.length_range]; omega
  · show (ints (wrds (mkB r (srt D)))).length ≤ 1000
    rw [Q8, Q1M, mkB_len]; unfold nw; omega
  · show (pk (wd D.length) (saL r (srt D))).2.2.2.length ≤ 1000
    rw [pk_words]; unfold nw; omega
  · show (pk (wd D.length) (isaL r D.length (srt D))).2.2.2.length ≤ 1000
    rw [pk_words]; unfold nw; omega
theorem bT_true (X : List Nat) (hX : X.length ≤ 301) (hx : ∀ x ∈ X, x ≤ 256) (h : (bT X).2 = true) : ∃ D : List Nat, bT X = (ints D, true) ∧ bwt D = X ∧ D.length ≤ 300 ∧ ∀ x ∈ D, x < 256 := by
  unfold bT at h ⊢
  cases h0 : decide (X.length = 0) with
  | true => rw [h0] at h; cases h
  | false =>
    rw [h0] at h
    rw [Qd] at h ⊢
    have hl := wk_len X (X.length - 1) 0 []
    unfold tFin at h ⊢
    cases h1 : decide (bwt (wk X (X.length - 1) 0 []).1 = X) with
    | false => rw [h1] at h; cases h
    | true =>
      rw [Qu]
      exact ⟨_, rfl, of_decide_eq_true h1, by have := hl.1; simp at this; omega, wk_bytes X hx _ _ _ (by simp)⟩
def FmOkV (f : FmT) (D : List Nat) : Prop := D.length ≤ 300 ∧ (∀ x ∈ D, x < 256) ∧ 1 ≤ f.2.1 ∧ f.2.1 ≤ 64 ∧ f = fmV D f.2.1.toNat
def FmW (f : FmT) (D : List Nat) : Prop := (∃ L, f.2.2.2.2.1 = LI L ∧ (∀ p ∈ L, p.2.length ≤ 1048576) ∧ (∀ p ∈ L, ∀ x ∈ p.2, x < 2 ^ 64) ∧ wOk f.2.2.1 f.2.2.2.1 L = true) ∧ bT (bwt D) = (ints D, true)
theorem Q4m (xs : List Int) (h : xs.length < 4611686018427387904) (hs : sOk xs = false) : QN xs = some ([], false) := by
  rw [QN.eq, implSymsOk_eq _ h, hs]; rfl
theorem Q4C (xs : List Int) (h : xs.length < 4611686018427387904) (hs : sOk xs = false) : Qw xs = some ([], false) := by
  rw [Qw.eq, Q3S _ h, hs]; rfl
theorem Q4n (n : Int) (Z : List Int) (L : List (Int × List Nat)) (hl : ∀ p ∈ L, p.2.length ≤ 1048576) (hx : ∀ p ∈ L, ∀ x ∈ p.2, x < 2 ^ 64) : Q0L (n, Z, LI L) = some (bif wOk n Z L then ints (Q22 n.toNat L) else []) := by
  rw [Q0L.eq]
  try simp only
  rw [Q3T n Z L hl hx, Option.bind_some]
  cases h : wOk n Z L with
  | false => rfl
  | true => rw [Bool.not_true, Qd, Qu, l07List_eq n Z L hx h]; rfl
theorem fmRead_eq (f : FmT) (hf : SmFm f 1048576) (hx : ∀ p ∈ f.2.2.2.2.1, ∀ x ∈ p.2, 0 ≤ x ∧ x < ((2 ^ 64 : Nat) : Int)) :
    ∃ (v : Bool) (D : List Nat) (t : List Int), QY f = some (bif v then (ints D, true) else ([], false)) ∧ Q0I f = some (bif v then ints D else t, v) ∧ (v = true → FmOkV f D ∧ FmW f D) := by
  obtain ⟨L, hLX, hL⟩ := lv_of f.2.2.2.2.1 hx
  have hLl : ∀ p ∈ L, p.2.length ≤ 1048576 := LI_len (by rw [← hLX]; exact hf.w)
  have hread := Q4g f.2.2.1 f.2.2.2.1 L hLl hL
  have hlist := Q4n f.2.2.1 f.2.2.2.1 L hLl hL
  rw [← hLX] at hread hlist
  rw [QY.eq, Q0I.eq, hread, Option.bind_some, Q3A, Option.bind_some]
  have bad : ∀ s i, s = some (([] : List Int), false) → (∃ t, i = some ((t : List Int), false)) → ∃ (v : Bool) (D : List Nat) (t : List Int), s = some (bif v then (ints D, true) else ([], false)) ∧ i = some (bif v then ints D else t, v) ∧ (v = true → FmOkV f D ∧ FmW f D) :=
    fun s i h1 ⟨t, h2⟩ => ⟨false, [], t, h1, h2, fun h => by cases h⟩
  cases hr : decide (1 ≤ f.2.1) && decide (f.2.1 ≤ 64) with
  | false =>
    refine bad _ _ rfl ⟨[], ?_⟩
    cases wOk f.2.2.1 f.2.2.2.1 L with
    | false => rfl
    | true => rw [Qu, Bool.not_true, Qd, Q4k, hr]; rfl
  | true =>
    rw [Bool.not_true, Qd]
    simp only [Bool.and_eq_true, decide_eq_true_eq] at hr
    cases hw : wOk f.2.2.1 f.2.2.2.1 L with
    | false =>
      refine bad _ _ ?_ ⟨[], rfl⟩
      by_cases hn : f.2.2.1 > 301
      · rw [Q2 hn]
      · rw [Q3 hn, QY_l0.eq, hlist, hw, Option.bind_some, Qd]
        have := Q3w [] (by simp) (by simp)
        rw [show ints [] = ([] : List Int) from rfl] at this
        rw [this]; rfl
    | true =>
      obtain ⟨w1, w2, w3, w4, w5⟩ := wOk_at hw
      have hwl := Q36 f.2.2.1.toNat L
      rw [Qu, Bool.not_true, Qd, Q4k, decide_eq_true hr.1, decide_eq_true hr.2, Option.bind_some, Bool.and_true, Bool.not_true, Qd]
      have hints : (ints (snds (rows (L.map lvb) (start f.2.2.1.toNat)))) = ints (Q22 f.2.2.1.toNat L) := rfl
      simp only [hints]
      obtain ⟨X, hXe⟩ : ∃ X, X = Q22 f.2.2.1.toNat L := ⟨_, rfl⟩
      have hinv := wave_inv f.2.2.1 f.2.2.2.1 L hL hw
      rw [hw] at hlist
      rw [← hXe] at hwl hlist hinv ⊢
      by_cases hn : f.2.2.1 > 301
      · refine bad _ _ (by rw [Q2 hn]) ⟨[], ?_⟩
        have hs : sOk (ints X) = false := by
          unfold sOk
          rw [decide_eq_false (by rw [Q8]; omega)]; rfl
        rw [Q4m _ (by rw [Q8]; omega) hs]; rfl
      · rw [Q3 hn, QY_l0.eq, hlist, Option.bind_some, Qu]
        cases hs : sOk (ints X) with
        | false =>
          refine bad _ _ ?_ ⟨[], ?_⟩
          · rw [Q4C _ (by rw [Q8]; omega) hs]; rfl
          · rw [Q4m _ (by rw [Q8]; omega) hs]; rfl
        | true =>
          have hX : X.length ≤ 301 := by omega
          have hXx : ∀ x ∈ X, x ≤ 256 := by
            simp only [sOk, Bool.and_eq_true, decide_eq_true_eq, List.all_eq_true] at hs
            intro x hx
            have := hs.2 (x : Int) (List.mem_map.2 ⟨x, hx, rfl⟩)
            omega
          rw [Q3w X hX hXx, Q4B X hX hXx, Option.bind_some, Option.bind_some]
          cases hb : (bT X).2 with
          | false => exact bad _ _ rfl ⟨_, rfl⟩
          | true =>
            obtain ⟨D, d1, d2, d3, d4⟩ := bT_true X hX hXx hb
            obtain ⟨r, hre⟩ : ∃ r : Nat, f.2.1 = r := ⟨f.2.1.toNat, by omega⟩
            have hfm := implFm_eq D d3 d4 r (by omega) (by omega)
            have hfs := Q3l D d3 d4 r (by omega) (by omega)
            rw [← hre] at hfm hfs
            rw [d1, Bool.not_true, Qd, Qu]
            simp only [hfm, hfs, Option.bind_some]
            have hsm := Q3o D d3 r
            have hse := sameFm_eq (fmV D r) f (hsm.short (by omega))
            refine ⟨decide (fmV D r = f), D, ints D, ?_, ?_, fun h => ⟨⟨d3, d4, hr.1, hr.2, ?_⟩, ⟨L, hLX, hLl, hL, hw⟩, by rw [d2]; exact d1⟩⟩
            · have hwv : (f.2.2.1, f.2.2.2.1, f.2.2.2.2.1) = ((fmV D r).2.2.1, (fmV D r).2.2.2.1, (fmV D r).2.2.2.2.1) := by
                show _ = (((bwt D).length : Int), ints (wLv 9 0 (bwt D)).1, LI (wLv 9 0 (bwt D)).2)
                rw [d2, hinv.1, hinv.2, ← hLX, hwl, Int.toNat_of_nonneg w1]
              have hdec : decide (fmV D r = f) = decide (f = fmV D r) := by rw [Bool.eq_iff_iff, decide_eq_true_eq, decide_eq_true_eq]; exact eq_comm
              have hr2 : (fmV D r).2.1 = (r : Int) := rfl
              rw [hdec, fm_dec, hwv, decide_eq_true rfl, hre, hr2, decide_eq_true rfl, Bool.true_and, Bool.true_and,
                same_eq _ _ (by have := hf.c; omega), Q3X _ _ _ _ (by have := hf.m; omega), Q3n _ _ _ _ _ _ _ _ (by have := hf.s; omega), Q3n _ _ _ _ _ _ _ _ (by have := hf.i; omega)]
              simp only [Option.bind_some, bne, Q2j]
              cases decide (f.1 = (fmV D r).1)
              · rfl
              cases decide (f.2.2.2.2.2.1 = (fmV D r).2.2.2.2.2.1)
              · rfl
              cases decide ((f.2.2.2.2.2.2.1, f.2.2.2.2.2.2.2.1) = ((fmV D r).2.2.2.2.2.2.1, (fmV D r).2.2.2.2.2.2.2.1))
              · rfl
              cases decide ((f.2.2.2.2.2.2.2.2.1, f.2.2.2.2.2.2.2.2.2.1, f.2.2.2.2.2.2.2.2.2.2.1, f.2.2.2.2.2.2.2.2.2.2.2.1) = ((fmV D r).2.2.2.2.2.2.2.2.1, (fmV D r).2.2.2.2.2.2.2.2.2.1, (fmV D r).2.2.2.2.2.2.2.2.2.2.1, (fmV D r).2.2.2.2.2.2.2.2.2.2.2.1))
              · rfl
              cases decide (f.2.2.2.2.2.2.2.2.2.2.2.2 = (fmV D r).2.2.2.2.2.2.2.2.2.2.2.2) <;> rfl
            · show (Q11 (fmV D r) f).bind _ = _
              rw [hse]
              cases decide (fmV D r = f) <;> rfl
            · rw [hre, Int.toNat_natCast]; exact (of_decide_eq_true h).symm
end Go.Ev.W
/- Checksums and frames: both functions. -/
set_option linter.unusedVariables false
set_option linter.unusedSimpArgs false
namespace Go.Ev.W
open Go.Ev
def crcS (c : Nat) : Nat := if c % 2 = 1 then c / 2 ^^^ 3988292384 else c / 2
def crcN : Nat → Nat → Nat
  | 0, c => c
  | k + 1, c => crcN k (crcS c)
def crcV (D : List Nat) (c : Nat) : Nat := D.foldl (fun c x => crcN 8 (c ^^^ x)) c
def crc (D : List Nat) : Nat := crcV D 4294967295 ^^^ 4294967295
def four (n : Nat) : List Nat := [n % 256, n / 256 % 256, n / 65536 % 256, n / 16777216 % 256]
def frH (k : Nat) (B : List Nat) : List Nat := [90, k] ++ Var B.length ++ B
def frame (k : Nat) (B : List Nat) : List Nat := if B.length ≤ 8000 then frH k B ++ four (crc (frH k B)) else []
end Go.Ev.W
/- Joining byte slices. -/
set_option linter.unusedVariables false
set_option linter.unusedSimpArgs false
namespace Go.Ev.W
open Go.Ev
theorem Q2R {α : Type} (l : List α) (i : Nat) (h : i < l.length) : l.take (i + 1) = l.take i ++ [l[i]] := by
  rw [List.take_add_one, List.getElem?_eq_getElem h]; rfl
end Go.Ev.W
/- Packed numbers as bytes: both functions. -/
set_option linter.unusedVariables false
set_option linter.unusedSimpArgs false
namespace Go.Ev.W
open Go.Ev
end Go.Ev.W
/- Waves: the wave of a list is valid, and its numbers are the list. -/
set_option linter.unusedVariables false
set_option linter.unusedSimpArgs false
namespace Go.Ev.W
open Go.Ev
theorem vOk_tight {m : Nat} {W : List Nat} (hm : m ≤ 5000) (ht : tight m W) : vOk m W = true := by
  unfold vOk
  rw [Int.toNat_natCast, (Q26 m W ht.2.1).2 ht, decide_eq_true (show (0 : Int) ≤ m by omega), decide_eq_true (show (m : Int) ≤ 5000 by omega)]; rfl
theorem vOk_wrds (bs : List Bool) (h : bs.length ≤ 5000) : vOk bs.length (wrds bs) = true := vOk_tight h (Q2y bs)
theorem lvb_wrds (bs : List Bool) (n : Nat) (h : bs.length = n) : lvb ((n : Int), wrds bs) = bs := by
  unfold lvb
  simp only [Int.toNat_natCast]
  rw [← h]
  exact bts_wrds bs
theorem wLv_ok : ∀ (d l : Nat) (X : List Nat), X.length ≤ 1000 → (((wLv d l X).2.zip (ints (wLv d l X).1)).all fun q => lOk X.length q.1 q.2) = true
  | 0, l, X, _ => rfl
  | d + 1, l, X, h => by
    have hl := Q2b l X
    have ih := wLv_ok d (l + 1) (wlo l X ++ whi l X) (by rw [List.length_append]; omega)
    rw [List.length_append, hl] at ih
    rw [wLv]
    show (List.all (((X.length : Int), wrds (wbs l X)) :: _ |>.zip (((wlo l X).length : Int) :: ints _)) _) = true
    rw [List.zip_cons_cons, List.all_cons, ih, Bool.and_true]
    have hb := Q37 l X
    have h1 := vOk_wrds (wbs l X) (by omega)
    rw [hb] at h1
    unfold lOk
    simp only [Bool.and_eq_true, decide_eq_true_eq]
    refine ⟨⟨h1, trivial⟩, ?_⟩
    rw [lvb_wrds _ _ hb, zer_wbs, hb, List.take_length]; rfl
theorem wLv_path : ∀ (d l : Nat) (X : List Nat), d + l = 9 → ∀ k (hk : k < X.length), (path ((wLv d l X).2.map lvb) (k, 0)).2 = X[k] % 2 ^ d
  | 0, l, X, _, k, hk => by
    show 0 = _
    rw [Nat.pow_zero, Nat.mod_one]
  | d + 1, l, X, h, k, hk => by
    have hl := Q2b l X
    have hb := Q37 l X
    have hnx := nxt_lt (wbs l X) k (by omega)
    rw [hb] at hnx
    have hlen : nxt (wbs l X) k < (wlo l X ++ whi l X).length := by rw [List.length_append, hl]; exact hnx
    have ih := wLv_path d (l + 1) (wlo l X ++ whi l X) (by omega) (nxt (wbs l X) k) hlen
    have hp := part_at l X k hk
    rw [List.getElem?_eq_getElem hlen] at hp
    injection hp with hp
    rw [wLv]
    show (path (lvb ((X.length : Int), wrds (wbs l X)) :: (wLv d (l + 1) (wlo l X ++ whi l X)).2.map lvb) (k, 0)).2 = _
    rw [lvb_wrds _ _ hb]
    show (path ((wLv d (l + 1) (wlo l X ++ whi l X)).2.map lvb) (nxt (wbs l X) k, 2 * 0 + ((wbs l X).getD k false).toNat)).2 = _
    have hgd : (wbs l X).getD k false = wbit l X[k] := by
      rw [List.getD_eq_getElem?_getD]; unfold wbs; rw [List.getElem?_map, List.getElem?_eq_getElem hk]; rfl
    rw [path_val, ih, hp, hgd, List.length_map, (wLv_len' d (l + 1) _).2, Nat.mul_zero, Nat.zero_add]
    have hw : (wbit l X[k]).toNat = X[k] / 2 ^ d % 2 := by
      unfold wbit
      rw [show 8 - l = d by omega]
      rcases Nat.mod_two_eq_zero_or_one (X[k] / 2 ^ d) with h2 | h2 <;> rw [h2] <;> rfl
    rw [hw, Nat.mod_pow_succ, Nat.mul_comm, Nat.add_comm]
theorem wave_back (X : List Nat) (hX : X.length ≤ 1000) (hx : ∀ x ∈ X, x ≤ 511) : wOk X.length (ints (wLv 9 0 X).1) (wLv 9 0 X).2 = true ∧ Q22 X.length (wLv 9 0 X).2 = X := by
  have hl := wLv_len' 9 0 X
  constructor
  · unfold wOk
    rw [wLv_ok 9 0 X hX, decide_eq_true (show (0 : Int) ≤ X.length by omega), decide_eq_true (show (X.length : Int) ≤ 1000 by omega), decide_eq_true (show (ints (wLv 9 0 X).1).length = 9 by rw [List.length_map]; exact hl.1), decide_eq_true hl.2]; rfl
  · rw [wList_eq]
    refine List.ext_getElem (by rw [List.length_map, List.length_range]) fun k h1 h2 => ?_
    have := hx _ (List.getElem_mem h2)
    rw [List.getElem_map, List.getElem_range, wLv_path 9 0 X rfl k h2, Nat.mod_eq_of_lt (by omega)]
end Go.Ev.W
/- An index as bytes: both functions. -/
set_option linter.unusedVariables false
set_option linter.unusedSimpArgs false
namespace Go.Ev.W
open Go.Ev
end Go.Ev.W
/- The index of a text is valid. -/
set_option linter.unusedVariables false
set_option linter.unusedSimpArgs false
namespace Go.Ev.W
open Go.Ev
theorem Q2S (X : List Nat) : ∀ (d l : Nat) (Y : List Nat), ∀ p ∈ (wLv d l Y).2, ∀ x ∈ p.2, x < 2 ^ 64
  | 0, l, Y, p, h, _, _ => by cases h
  | d + 1, l, Y, p, h, x, hx => by
    rw [wLv] at h
    rcases List.mem_cons.1 h with rfl | h
    · exact (Q2y (wbs l Y)).2.1 x hx
    · exact Q2S X d (l + 1) _ p h x hx
theorem fmV_words (D : List Nat) (r : Nat) : ∀ p ∈ (fmV D r).2.2.2.2.1, ∀ x ∈ p.2, 0 ≤ x ∧ x < ((2 ^ 64 : Nat) : Int) := by
  intro p hp x hx
  have hp' : p ∈ LI (wLv 9 0 (bwt D)).2 := hp
  obtain ⟨q, hq, rfl⟩ := List.mem_map.1 hp'
  obtain ⟨y, hy, rfl⟩ := List.mem_map.1 hx
  have := Q2S [] 9 0 (bwt D) q hq y hy
  omega
theorem fmText_round (D : List Nat) (h1 : D.length ≤ 300) (h2 : ∀ x ∈ D, x < 256) (r : Nat) (h3 : 1 ≤ r) (h4 : r ≤ 64) (hb : bT (bwt D) = (ints D, true)) : QY (fmV D r) = some (ints D, true) := by
  have hl := Q1x D
  have hle := bwt_le D h2
  have hwb := wave_back (bwt D) (by omega) fun x hx => by have := hle x hx; omega
  have hlist := Q4n ((bwt D).length : Int) (ints (wLv 9 0 (bwt D)).1) (wLv 9 0 (bwt D)).2 (fun p hp => by rw [Q39 9 0 (bwt D) p hp]; unfold nw; omega) (Q2S [] 9 0 (bwt D))
  rw [hwb.1, Int.toNat_natCast, hwb.2, Qu] at hlist
  have hsm := Q3o D h1 r
  rw [QY.eq, Q3A]
  show (some (decide ((1 : Int) ≤ (r : Int)) && decide ((r : Int) ≤ 64))).bind _ = _
  rw [decide_eq_true (show (1 : Int) ≤ r by omega), decide_eq_true (show (r : Int) ≤ 64 by omega), Option.bind_some]
  have e3 : (fmV D r).2.2.1 = ((bwt D).length : Int) := rfl
  rw [Bool.and_true, Bool.not_true, Qd, e3, Q3 (by omega), QY_l0.eq]
  show ((Q0L (((bwt D).length : Int), ints (wLv 9 0 (bwt D)).1, LI (wLv 9 0 (bwt D)).2)).bind _) = _
  rw [hlist, Option.bind_some, Q3w _ (by omega) hle, hb, Option.bind_some, Bool.not_true, Qd]
  have hfs := Q3l D h1 h2 r (by omega) h4
  have e2 : (fmV D r).2.1 = (r : Int) := rfl
  simp only [e2, hfs, Option.bind_some, bne_self_eq_false, Qd]
  rw [same_eq _ _ (by have := hsm.c; omega), Q3X _ _ _ _ (by have := hsm.m; omega), Q3n _ _ _ _ _ _ _ _ (by have := hsm.s; omega), Q3n _ _ _ _ _ _ _ _ (by have := hsm.i; omega)]
  simp only [Option.bind_some, decide_true, Bool.not_true, Qd]
end Go.Ev.W
/- Drawn inputs: rows of bits, packed numbers, texts, wavelet matrices: there is always something, within bounds. -/
set_option linter.unusedVariables false
set_option linter.unusedSimpArgs false
namespace Go.Ev.W
open Go.Ev
theorem pick2 (x : Int) (h0 : 0 ≤ x) (h1 : x < 2 ∨ x = 0) : ∃ b : Bool, x = bint b := by
  rcases Int.lt_or_le x 1 with h | h
  · exact ⟨false, by show x = 0; omega⟩
  · exact ⟨true, by show x = 1; omega⟩
theorem bool_ok (b : Bool) : Q0F b = some (bint b) := by rw [Q0F.eq]; cases b <;> rfl
theorem bints_snoc (bs : List Bool) (b : Bool) : Qe bs ++ [bint b] = Qe (bs ++ [b]) := by rw [← Q3z]; rfl
theorem row_l1 : ∀ (d k : Nat) (c : Cur) (bs : List Bool), QV k c → k + d + 1 < 100000000000 → bs.length + d = 5001 → ∃ bs' c', QQ_l1 c.1 c.2.1 c.2.2 (Qe bs) = some (Qe bs', c') ∧ QV (k + d + 1) c' ∧ bs'.length ≤ 5001 := by
  intro d
  induction d with
  | zero =>
    intro k c bs h hk hl
    obtain ⟨x, c1, e1, g1, a1, b1⟩ := QW h (by omega) 2
    rw [QQ_l1.eq]
    simp only [Q1B, e1, Option.bind_some]
    rw [Q1R, Qb (x := 5000 + x) (by omega) (by omega), Q3 (by omega)]
    exact ⟨bs, c1, rfl, g1.mono (by omega), by omega⟩
  | succ d ih =>
    intro k c bs h hk hl
    obtain ⟨x, c1, e1, g1, a1, b1⟩ := QW h (by omega) 2
    rw [QQ_l1.eq]
    simp only [Q1B, e1, Option.bind_some]
    rw [Q1R, Qb (x := 5000 + x) (by omega) (by omega)]
    by_cases hlt : (bs.length : Int) < 5000 + x
    · have e2 : ((bs.length : Int).tmod 3).tdiv 2 = ((bs.length % 3 / 2 : Nat) : Int) := rfl
      obtain ⟨b, hb⟩ : ∃ b : Bool, IntKind.i64.wrap (((bs.length : Int).tmod 3).tdiv 2) = bint b := by
        rw [e2, Q2q (by omega)]
        exact pick2 _ (by omega) (.inl (by omega))
      rw [Q2 hlt, hb, Q2 (by simp only [List.length_cons, List.length_nil]; omega), bints_snoc]
      obtain ⟨bs', c', e3, g3, h3⟩ := ih (k + 1) c1 (bs ++ [b]) g1 (by omega) (by simp only [List.length_append, List.length_cons, List.length_nil]; omega)
      exact ⟨bs', c', e3, g3.mono (by omega), h3⟩
    · rw [Q3 hlt]
      exact ⟨bs, c1, rfl, g1.mono (by omega), by omega⟩
theorem row_l0 (lean : Int) : ∀ (m k : Nat) (c : Cur) (bs : List Bool), QV k c → k + 2 * m + 5003 < 100000000000 → bs.length + m ≤ 5001 → ∃ bs' c', QQ_l0 lean m c.1 c.2.1 c.2.2 (Qe bs) = some (Qe bs', c') ∧ QV (k + 2 * m + 5003) c' ∧ bs'.length ≤ 5001 := by
  intro m
  induction m with
  | zero =>
    intro k c bs h hk hl
    obtain ⟨x, c1, e1, g1⟩ := once_ok h (by omega) 60
    rw [QQ_l0.eq, Q3 (by omega)]
    simp only [Q1B, e1, Option.bind_some]
    cases x with
    | false => exact ⟨bs, c1, rfl, g1.mono (by omega), by omega⟩
    | true =>
      rw [Qu]
      obtain ⟨bs', c', e2, g2, h2⟩ := row_l1 (5001 - bs.length) (k + 1) c1 bs g1 (by omega) (by omega)
      exact ⟨bs', c', e2, g2.mono (by omega), h2⟩
  | succ m ih =>
    intro k c bs h hk hl
    obtain ⟨x, c1, e1, g1, a1, b1⟩ := QW h (by omega) 2
    rw [QQ_l0.eq, Q2 (by omega)]
    simp only [Q1B, e1, Option.bind_some]
    rw [Qb (x := ((m + 1 : Nat) : Int) - 1) (by omega) (by omega), show ((m + 1 : Nat) : Int) - 1 = m by omega]
    by_cases h0 : lean = 0
    · rw [Q07 h0]
      obtain ⟨y, c2, e2, g2⟩ := once_ok g1 (by omega) 9
      simp only [e2, Option.bind_some, bool_ok]
      rw [Q2 (by rw [Q1R]; simp only [List.length_cons, List.length_nil]; omega), bints_snoc]
      obtain ⟨bs', c', e3, g3, h3⟩ := ih (k + 2) c2 (bs ++ [y]) g2 (by omega) (by simp only [List.length_append, List.length_cons, List.length_nil]; omega)
      exact ⟨bs', c', e3, g3.mono (by omega), h3⟩
    · rw [Q0a h0]
      obtain ⟨b, rfl⟩ := pick2 x a1 b1
      rw [Q2 (by rw [Q1R]; simp only [List.length_cons, List.length_nil]; omega), bints_snoc]
      obtain ⟨bs', c', e3, g3, h3⟩ := ih (k + 1) c1 (bs ++ [b]) g1 (by omega) (by simp only [List.length_append, List.length_cons, List.length_nil]; omega)
      exact ⟨bs', c', e3, g3.mono (by omega), h3⟩
theorem row_ok {k : Nat} {c : Cur} (h : QV k c) (hk : k < 10000000000) : ∃ bs c', QQ c = some (Qe bs, c') ∧ QV (k + 10000) c' ∧ bs.length ≤ 5001 := by
  obtain ⟨x1, c1, e1, g1, a1, b1⟩ := QW h (by omega) 4
  obtain ⟨x2, c2, e2, g2, a2, b2⟩ := QW g1 (by omega) 3
  obtain ⟨y, y1, y2, y3⟩ := Q1Q ([5, 40, 140] : List Int) x2 a2 (by simp; omega)
  obtain ⟨x3, c3, e3, g3, a3, b3⟩ := QW g2 (by omega) y
  rw [QQ.eq]
  simp only [Q1B, e1, e2, Option.bind_some, y1, y2, e3]
  have hy : y ≤ 140 := by simp only [List.mem_cons, List.not_mem_nil, or_false] at y3; omega
  obtain ⟨m, rfl⟩ : ∃ m : Nat, x3 = m := ⟨x3.toNat, by omega⟩
  obtain ⟨bs', c', e4, g4, h4⟩ := row_l0 x1 m (k + 3) c3 [] g3 (by omega) (by simp; omega)
  exact ⟨bs', c', e4, g4.mono (by omega), h4⟩
theorem bitsOf_ok (bs : List Bool) : ∃ (n : Int) (W : List Nat) (b : Bool), Qo (Qe bs) = some ((n, ints W), b) ∧ W.length ≤ 79 ∧ ∀ x ∈ W, x < 2 ^ 64 := by
  by_cases h : bs.length ≤ 5000
  · exact ⟨_, _, true, Q32 bs h, by rw [Q1M]; unfold nw; omega, (Q2y bs).2.1⟩
  · refine ⟨0, [], false, ?_, by simp, by simp⟩
    rw [Qo.eq, Q1R, Q2 (by omega)]; rfl
theorem Q3Y {k : Nat} {c : Cur} (h : QV k c) (hk : k < 10000000000) : ∃ (n : Int) (W : List Nat) (c' : Cur), Q0v c = some ((n, ints W), c') ∧ QV (k + 10010) c' ∧ W.length ≤ 80 ∧ ∀ x ∈ W, x < 2 ^ 64 := by
  obtain ⟨bs, c1, e1, g1, h1⟩ := row_ok h hk
  obtain ⟨n, W, b, e2, l2, w2⟩ := bitsOf_ok bs
  obtain ⟨x, c2, e3, g3, a3, b3⟩ := QW g1 (by omega) 14
  rw [Q0v.eq]
  simp only [Q1B, e1, Option.bind_some, e2, e3]
  by_cases q0 : x = 0
  · rw [Q07 q0]
    obtain ⟨z, c4, e4, g4, _⟩ := raw_ok g3 (by omega)
    obtain ⟨z5, c5, e5, g5, a5, b5⟩ := QW g4 (by omega) 3
    obtain ⟨y, y1, y2, y3⟩ := Q1Q ([z, IntKind.i64.wrap (n + 1), IntKind.i64.wrap (n - 1)] : List Int) z5 a5 (by simp; omega)
    simp only [e4, Option.bind_some, e5, y1, y2]
    exact ⟨y, W, c5, rfl, g5.mono (by omega), by omega, w2⟩
  rw [Q0a q0]
  by_cases q1 : x = 1
  · rw [Q07 q1]
    obtain ⟨z5, c5, e5, g5, a5, b5⟩ := QW g3 (by omega) 2
    obtain ⟨m, rfl⟩ : ∃ m : Nat, z5 = m := ⟨z5.toNat, by omega⟩
    simp only [e5, Option.bind_some]
    rw [wrapUn (by omega), Q2 (by rw [Q8]; simp only [List.length_cons, List.length_nil]; omega), Q2k]
    refine ⟨n, W ++ [m], c5, rfl, g5.mono (by omega), by simp; omega, fun x hx => ?_⟩
    rcases List.mem_append.1 hx with hx | hx
    · exact w2 x hx
    · rw [List.mem_singleton.1 hx]; omega
  rw [Q0a q1]
  by_cases q2 : x = 2
  · rw [Q07 q2, Q8]
    by_cases hW : (W.length : Int) > 0
    · rw [Q2 hW]
      obtain ⟨z5, c5, e5, g5, a5, b5⟩ := QW g3 (by omega) W.length
      obtain ⟨m, rfl⟩ : ∃ m : Nat, z5 = m := ⟨z5.toNat, by omega⟩
      have hm : m < W.length := by omega
      simp only [e5, Option.bind_some]
      rw [Q0s W m hm, Option.bind_some, Int.toNat_natCast, Q1S W m hm, Option.bind_some]
      refine ⟨n, W.set m 18446744073709551615, c5, ?_, g5.mono (by omega), by rw [List.length_set]; omega, fun x hx => ?_⟩
      · rw [← ints_set]; rfl
      · rcases List.mem_or_eq_of_mem_set hx with hx | hx
        · exact w2 x hx
        · rw [hx]; decide
    · rw [Q3 hW]
      exact ⟨n, W, c2, rfl, g3.mono (by omega), by omega, w2⟩
  · rw [Q0a q2]
    exact ⟨n, W, c2, rfl, g3.mono (by omega), by omega, w2⟩
theorem nums_ok {k : Nat} {c : Cur} (h : QV k c) (hk : k < 100000000000) (n : Nat) (hn : n ≤ 1000) (top : Int) : ∃ (X : List Nat) (c' : Cur), Q06 c n top = some (ints X, c') ∧ QV (k + 3000001) c' ∧ X.length ≤ n ∧ ∀ x ∈ X, (x : Int) < max 1 top := by
  obtain ⟨l, c', e, g, h1, h2⟩ := numbers_ok h hk n top (by omega) (by omega)
  obtain ⟨X, rfl, hX⟩ := ints_of l (max 1 top).toNat fun x hx => ⟨(h2 x hx).1, by have := (h2 x hx).2; omega⟩
  rw [Q8] at h1
  exact ⟨X, c', e, g, by omega, fun x hx => by have := hX x hx; omega⟩
theorem badPacked_ok {k : Nat} {c : Cur} (h : QV k c) (hk : k < 1000000000) : ∃ (w n b : Int) (W : List Nat) (c' : Cur), Q1a c = some ((w, n, b, ints W), c') ∧ QV (k + 4000000) c' ∧ W.length ≤ 80 ∧ ∀ x ∈ W, x < 2 ^ 64 := by
  obtain ⟨x1, c1, e1, g1, a1, b1⟩ := QW h (by omega) 5
  obtain ⟨y, y1, y2, y3⟩ := Q1Q ([0, 1, 3, 7, 24] : List Int) x1 a1 (by simp; omega)
  obtain ⟨w, rfl⟩ : ∃ w : Nat, y = w := ⟨y.toNat, by simp only [List.mem_cons, List.not_mem_nil, or_false] at y3; omega⟩
  have hw : w ≤ 24 := by simp only [List.mem_cons, List.not_mem_nil, or_false] at y3; omega
  have hp := Nat.two_pow_pos w
  obtain ⟨X, c2, e2, g2, l2, x2⟩ := nums_ok g1 (by omega) 20 (by omega) ((2 ^ w : Nat) : Int)
  have hXw : X.length * w ≤ 20 * 24 := Nat.mul_le_mul l2 hw
  have hpk := Q4i w (by omega) X (by omega) (by omega) (fun x hx => by have := x2 x hx; omega)
  have hpl := pk_words w X
  obtain ⟨x3, c3, e3, g3, a3, b3⟩ := QW g2 (by omega) 12
  have hpw : ∀ x ∈ wrds (dgs w X), x < 2 ^ 64 := (Q2y _).2.1
  have hwl : (wrds (dgs w X)).length ≤ 79 := by rw [Q1M, Q2G]; unfold nw; omega
  rw [Q1a.eq]
  have e2' : Q06 c1 20 ((2 ^ w : Nat) : Int) = some (ints X, c2) := e2
  simp only [Q1B, e1, Option.bind_some, y1, y2, l02Pow_eq w (by omega), e2', hpk, e3]
  unfold pk
  by_cases q0 : x3 = 0
  · rw [Q07 q0]
    obtain ⟨z, c4, e4, g4, _⟩ := raw_ok g3 (by omega)
    obtain ⟨z5, c5, e5, g5, a5, b5⟩ := QW g4 (by omega) 3
    obtain ⟨y, y1, y2, y3⟩ := Q1Q ([z, 32, 33] : List Int) z5 a5 (by simp; omega)
    simp only [e4, Option.bind_some, e5, y1, y2]
    exact ⟨_, _, _, _, c5, rfl, g5.mono (by omega), by omega, hpw⟩
  rw [Q0a q0]
  by_cases q1 : x3 = 1
  · rw [Q07 q1]
    obtain ⟨z, c4, e4, g4, _⟩ := raw_ok g3 (by omega)
    obtain ⟨z5, c5, e5, g5, a5, b5⟩ := QW g4 (by omega) 2
    obtain ⟨y, y1, y2, y3⟩ := Q1Q ([z, IntKind.i64.wrap ((X.length : Int) + 1)] : List Int) z5 a5 (by simp; omega)
    simp only [e4, Option.bind_some, e5, y1, y2]
    exact ⟨_, _, _, _, c5, rfl, g5.mono (by omega), by omega, hpw⟩
  rw [Q0a q1]
  by_cases q2 : x3 = 2
  · rw [Q07 q2]
    obtain ⟨n, W, c5, e5, g5, l5, w5⟩ := Q3Y g3 (by omega)
    simp only [e5, Option.bind_some]
    exact ⟨_, _, _, _, c5, rfl, g5.mono (by omega), by omega, w5⟩
  · rw [Q0a q2]
    exact ⟨_, _, _, _, c3, rfl, g3.mono (by omega), by omega, hpw⟩
end Go.Ev.W
/- What the laws' own helpers come to: marks in waves. -/
set_option linter.unusedVariables false
set_option linter.unusedSimpArgs false
namespace Go.Ev.W
open Go.Ev
abbrev lens (L : Lv) : List Nat := L.map fun p => p.2.length
end Go.Ev.W
/- Indexes: the laws' helpers. -/
set_option linter.unusedVariables false
set_option linter.unusedSimpArgs false
namespace Go.Ev.W
open Go.Ev
structure GdFm (f : FmT) : Prop where
  sm : SmFm f 1048576
  wv : Small f.2.2.2.1 f.2.2.2.2.1
theorem guard2 {α : Type} (k n : Int) (a b : Option α) : (bif decide (k < 0) then a else bif decide (k > n) then a else b) = bif decide (0 ≤ k) && decide (k ≤ n) then b else a := by
  by_cases h1 : k < 0
  · rw [Q2 h1, decide_eq_false (show ¬ 0 ≤ k by omega)]; rfl
  · rw [Q3 h1, decide_eq_true (show 0 ≤ k by omega), Bool.true_and]
    by_cases h2 : k > n
    · rw [Q2 h2, decide_eq_false (show ¬ k ≤ n by omega)]; rfl
    · rw [Q3 h2, decide_eq_true (show k ≤ n by omega)]; rfl
theorem bif_not {α : Type} (c : Bool) (a b : α) : (bif !c then a else b) = bif c then b else a := by cases c <;> rfl
end Go.Ev.W
/- Where a word occurs: both functions. -/
set_option linter.unusedVariables false
set_option linter.unusedSimpArgs false
namespace Go.Ev.W
open Go.Ev
theorem Q3a (X : List Nat) (n : Nat) : (ints X).take n = ints (X.take n) := (List.map_take).symm
theorem ints_dropN (X : List Nat) (n : Nat) : (ints X).drop n = ints (X.drop n) := (List.map_drop).symm
section
variable (D P : List Nat) (hl : D.length ≤ 300) (hD : Q0z D) (hP : Q0z P)
include hl hD hP
end
end Go.Ev.W
