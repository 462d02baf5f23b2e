/- Bits and their bytes: what the functions come to. -/
import Derived.Test.YtddhebliggkadaaGreatEvC
import Derived.Test.YtddhebliggkadaaGreatPc1
import Derived.Test.YtddhebliggkadaaGreatPc24
import Derived.Test.YtddhebliggkadaaGreatNBits
set_option linter.unusedVariables false
set_option linter.unusedSimpArgs false
namespace Go.Ev.W
open Go.Ev

theorem withinN_eq (n a b : Int) : impl_within n a b = some (decide (a ≤ n) && decide (n ≤ b)) := by
  rw [impl_within.eq, Bool.cond_decide]
  by_cases h : a ≤ n <;> simp [h]

/-! #### the list of bits -/
theorem l01List_l1 (i : Nat) (n : Int) (W : List Int) (hi : i < 4611686018427387904) : ∀ (k x : Nat), k < 64 → x < 2 ^ 64 → ∀ out : List Int, out.length ≤ 1048576 → spec_l01List_l1 i x k n W out = spec_l01List_l0 (i + 1 : Nat) n W (out ++ [((x / 2 ^ k % 2 : Nat) : Int)]) := by
  intro k
  induction k with
  | zero =>
    intro x hk hx out ho
    rw [spec_l01List_l1.eq, bif_ndec (by omega), wrapS _ hi]
    have e : (x : Int).tmod 2 = ((x % 2 : Nat) : Int) := rfl
    rw [e, wrapI (by omega) (by omega), bif_dec (by simp only [List.length_cons, List.length_nil]; omega)]
    simp
  | succ k ih =>
    intro x hk hx out ho
    rw [spec_l01List_l1.eq, bif_dec (by omega), wrapI (x := ((k + 1 : Nat) : Int) - 1) (by omega) (by omega)]
    have e : (x : Int).tdiv 2 = ((x / 2 : Nat) : Int) := rfl
    rw [e, wrapU (by omega) (by omega), show ((k + 1 : Nat) : Int) - 1 = k by omega, ih (x / 2) (by omega) (by omega) out ho]
    rw [Nat.div_div_eq_div_mul, Nat.pow_succ, Nat.mul_comm]
theorem l01List_l0 (n : Nat) (W : List Nat) (hn : n ≤ 5000) (hW : n ≤ 64 * W.length) (hx : ∀ x ∈ W, x < 2 ^ 64) : ∀ (d i : Nat), n - i = d → i ≤ n → ∀ out : List Int, out.length ≤ i → spec_l01List_l0 i n (ints W) out = some (out ++ (bints (bts n W)).drop i) := by
  intro d
  induction d with
  | zero =>
    intro i hd hi out ho
    rw [spec_l01List_l0.eq, bif_ndec (by omega), drop_nil _ (by simp only [List.length_map, bts_length]; omega), List.append_nil]
  | succ d ih =>
    intro i hd hi out ho
    rw [spec_l01List_l0.eq, bif_dec (by omega)]
    have e1 : (i : Int).tdiv 64 = ((i / 64 : Nat) : Int) := rfl
    have e2 : (i : Int).tmod 64 = ((i % 64 : Nat) : Int) := rfl
    have hj : i / 64 < W.length := by omega
    rw [e1, e2, wrapI (by omega) (by omega), at?_ints _ _ hj, Option.bind_some, l01List_l1 i n _ (by omega) (i % 64) W[i / 64] (by omega) (hx _ (List.getElem_mem hj)) out (by omega), ih (i + 1) (by omega) (by omega) _ (by simp; omega)]
    have hb : (bints (bts n W))[i]? = some ((W[i / 64] / 2 ^ (i % 64) % 2 : Nat) : Int) := by
      rw [List.getElem?_map, bts_get _ _ _ (by omega)]
      simp only [Option.map_some, bint, bit, List.getD_eq_getElem?_getD, List.getElem?_eq_getElem hj, Option.getD_some, testBit_div]
    rw [drop_eq hb, List.append_assoc, List.singleton_append]
theorem l01List_eq (n : Nat) (W : List Nat) (hn : n ≤ 5000) (hW : n ≤ 64 * W.length) (hx : ∀ x ∈ W, x < 2 ^ 64) : spec_l01List ((n : Int), ints W) = some (bints (bts n W)) := by
  rw [spec_l01List.eq]
  have := l01List_l0 n W hn hW hx n 0 (by omega) (by omega) [] (by simp)
  simpa using this

/-! #### bits of a list -/
theorem l01Power_l0 : ∀ (k : Nat) (x : Nat), k < 64 → x * 2 ^ k < 2 ^ 64 → spec_l01Power_l0 k x = some ((x * 2 ^ k : Nat) : Int) := by
  intro k
  induction k with
  | zero => intro x _ _; rw [spec_l01Power_l0.eq, bif_ndec (by omega)]; simp
  | succ k ih =>
    intro x hk hx
    have hx2 : 2 * x * 2 ^ k < 2 ^ 64 := by rw [Nat.pow_succ] at hx; rw [Nat.mul_comm 2 x, Nat.mul_assoc, Nat.mul_comm 2]; exact hx
    have hx3 : 2 * x < 2 ^ 64 := Nat.lt_of_le_of_lt (Nat.le_mul_of_pos_right _ (Nat.two_pow_pos k)) hx2
    rw [spec_l01Power_l0.eq, bif_dec (by omega), wrapI (by omega) (by omega), show ((k + 1 : Nat) : Int) - 1 = k by omega, show (2 : Int) * (x : Int) = ((2 * x : Nat) : Int) by omega, wrapU (by omega) (by omega), ih (2 * x) (by omega) hx2]
    rw [Nat.pow_succ, Nat.mul_comm 2 x, Nat.mul_assoc, Nat.mul_comm 2]
theorem l01Power_eq (k : Nat) (hk : k < 64) : spec_l01Power k = some ((2 ^ k : Nat) : Int) := by
  have h := l01Power_l0 k 1 hk (by rw [Nat.one_mul]; exact Nat.pow_lt_pow_right (by omega) hk)
  rw [Nat.one_mul] at h
  rw [spec_l01Power.eq]; exact h
theorem ints_set (W : List Nat) (i x : Nat) : (ints W).set i (x : Int) = ints (W.set i x) := (List.map_set).symm
theorem bitsOf_l0 (bs : List Bool) (hn : bs.length ≤ 5000) (a : Int) (b : List Int) : ∀ (d i : Nat), bs.length - i = d → i ≤ bs.length → spec_BitsOf_l0 (bints bs) i a b bs.length (ints (wrds (bs.take i))) = some (((bs.length : Int), ints (wrds bs)), true) := by
  intro d
  induction d with
  | zero =>
    intro i hd hi
    rw [spec_BitsOf_l0.eq, List.length_map, bif_ndec (by omega), List.take_of_length_le (by omega)]
  | succ d ih =>
    intro i hd hi
    have hlt : i < bs.length := by omega
    have hb : at? (bints bs) (i : Int) = some (bint bs[i]) := by rw [at?_nat, List.getElem?_map, List.getElem?_eq_getElem hlt]; rfl
    have hl : (bs.take i).length = i := by rw [List.length_take]; omega
    have hs := wrds_snoc (bs.take i) bs[i]
    rw [hl, List.take_append_getElem hlt] at hs
    have hwl := wrds_length (bs.take i)
    rw [hl] at hwl
    have e1 : (i : Int).tdiv 64 = ((i / 64 : Nat) : Int) := rfl
    have e2 : (i : Int).tmod 64 = ((i % 64 : Nat) : Int) := rfl
    have step : spec_BitsOf_l1 (bints bs) i a b bs.length (ints (wrds (bs.take i))) = some (((bs.length : Int), ints (wrds bs)), true) := by
      rw [spec_BitsOf_l1.eq]
      simp only [e1, e2, hb, Option.bind_some]
      rw [wrapI (x := ((i / 64 : Nat) : Int)) (by omega) (by omega), wrapS _ (by omega), Int.toNat_natCast, l01Power_eq _ (Nat.mod_lt _ (by omega))]
      have hih := ih (i + 1) (by omega) (by omega)
      unfold nw at hwl
      by_cases h0 : i % 64 = 0
      · rw [if_pos h0] at hs
        rw [hs] at hih
        have hc : ∀ z : Nat, ints (wrds (bs.take i)) ++ [(z : Int)] = ints (wrds (bs.take i) ++ [z]) := fun z => by simp
        rw [bif_eq (by omega), bif_dec (by simp only [List.length_map, List.length_cons, List.length_nil]; omega)]
        have hc0' : ints (wrds (bs.take i)) ++ ([0] : List Int) = ints (wrds (bs.take i) ++ [0]) := hc 0
        rw [hc0']
        have hin : i / 64 < (wrds (bs.take i) ++ [0]).length := by rw [List.length_append, List.length_singleton]; omega
        cases hbi : bs[i] with
        | true =>
          rw [hbi] at hih
          have hg : (wrds (bs.take i) ++ [0])[i / 64] = 0 := by
            rw [List.getElem_append_right (by omega)]; simp
          rw [bif_eq (show bint true = 1 from rfl), at?_ints _ _ hin, Option.bind_some, getElem?_ints _ _ hin, Option.bind_some, hg, Option.bind_some]
          have e : IntKind.u64.wrap (((0 : Nat) : Int) + ((2 ^ (i % 64) : Nat) : Int)) = ((1 : Nat) : Int) := by rw [h0]; exact wrapU (by omega) (by omega)
          rw [e, ints_set]
          have e2 : (wrds (bs.take i) ++ [0]).set (i / 64) 1 = wrds (bs.take i) ++ [1] := by
            rw [List.set_append_right _ _ (by omega), show i / 64 - (wrds (bs.take i)).length = 0 by omega]; rfl
          simp only [Option.bind_some, e2]
          exact hih
        | false =>
          rw [hbi] at hih
          rw [bif_neq (show bint false ≠ 1 from by simp [bint])]
          exact hih
      · rw [if_neg h0] at hs
        rw [hs] at hih
        have hin : i / 64 < (wrds (bs.take i)).length := by omega
        have hg : (wrds (bs.take i)).getD (i / 64) 0 = (wrds (bs.take i))[i / 64] := by rw [List.getD_eq_getElem?_getD, List.getElem?_eq_getElem hin]; rfl
        rw [bif_neq (by omega)]
        cases hbi : bs[i] with
        | true =>
          rw [hbi] at hih hs
          rw [bif_eq (show bint true = 1 from rfl), at?_ints _ _ hin, Option.bind_some, getElem?_ints _ _ hin, Option.bind_some, Option.bind_some]
          have hlt64 : (wrds (bs.take i))[i / 64] + 2 ^ (i % 64) < 2 ^ 64 := by
            have h1 := wrds_tight (bs.take (i + 1))
            rw [hs] at h1
            have := h1.2.1 ((wrds (bs.take i)).getD (i / 64) 0 + 2 ^ (i % 64) * true.toNat) (List.mem_of_getElem? (List.getElem?_set_self hin))
            rw [hg] at this
            simpa using this
          have e : IntKind.u64.wrap (((wrds (bs.take i))[i / 64] : Int) + ((2 ^ (i % 64) : Nat) : Int)) = (((wrds (bs.take i)).getD (i / 64) 0 + 2 ^ (i % 64) * true.toNat : Nat) : Int) := by
            rw [hg, Bool.toNat_true, Nat.mul_one, ← Int.natCast_add]
            exact wrapUn hlt64
          simp only [Option.bind_some]
          rw [e, ints_set]
          exact hih
        | false =>
          rw [hbi] at hih
          have e2 : (wrds (bs.take i)).set (i / 64) ((wrds (bs.take i)).getD (i / 64) 0 + 2 ^ (i % 64) * false.toNat) = wrds (bs.take i) := by
            rw [Bool.toNat_false, Nat.mul_zero, Nat.add_zero, hg, List.set_getElem_self]
          rw [e2] at hih
          rw [bif_neq (show bint false ≠ 1 from by simp [bint])]
          exact hih
    rw [spec_BitsOf_l0.eq, List.length_map, bif_dec (by omega), hb, Option.bind_some, Option.bind_some, step]
    cases bs[i] <;> rfl
theorem specBitsOf_eq (bs : List Bool) (hn : bs.length ≤ 5000) : spec_BitsOf (bints bs) = some (((bs.length : Int), ints (wrds bs)), true) := by
  rw [spec_BitsOf.eq, List.length_map, bif_ndec (by omega)]
  have := bitsOf_l0 bs hn 0 [] bs.length 0 (by omega) (by omega)
  simpa [wrds, nw] using this

/-! #### valid bits -/
def okW (n : Nat) (W : List Nat) : Bool := decide (W.length = nw n) && (decide (n % 64 = 0) || decide (W.getD (W.length - 1) 0 / 2 ^ (n % 64) = 0))
def vOk (n : Int) (W : List Nat) : Bool := decide (0 ≤ n) && decide (n ≤ 5000) && okW n.toNat W
theorem okW_iff (n : Nat) (W : List Nat) (h2 : ∀ x ∈ W, x < 2 ^ 64) : okW n W = true ↔ tight n W := by
  simp only [okW, Bool.and_eq_true, Bool.or_eq_true, decide_eq_true_eq]
  constructor
  · intro ⟨h1, h⟩; exact (tight_last n W h1 h2).2 h
  · intro h; exact ⟨h.1, (tight_last n W h.1 h2).1 h⟩
theorem implBitsOk_eq (n : Int) (W : List Nat) (hl : W.length ≤ 1048576) (hx : ∀ x ∈ W, x < 2 ^ 64) : impl_BitsOk (n, ints W) = some (vOk n W) := by
  rw [impl_BitsOk.eq, withinN_eq, Option.bind_some]
  unfold vOk
  cases hn : decide (0 ≤ n) && decide (n ≤ 5000) with
  | false => rfl
  | true =>
    simp only [Bool.and_eq_true, decide_eq_true_eq] at hn
    obtain ⟨m, rfl⟩ : ∃ m : Nat, n = m := ⟨n.toNat, by omega⟩
    have e2 : (m : Int).tmod 64 = ((m % 64 : Nat) : Int) := rfl
    have e1 : ((m : Int) + 63).tdiv 64 = ((nw m : Nat) : Int) := rfl
    simp only [Bool.not_true, bif_false, e2, List.length_map, Bool.true_and, Int.toNat_natCast]
    unfold nw at e1
    rw [wrapI (x := (m : Int) + 64) (by omega) (by omega), wrapI (x := (m : Int) + 64 - 1) (by omega) (by omega), show (m : Int) + 64 - 1 = m + 63 by omega, e1, wrapI (by omega) (by omega)]
    unfold okW nw
    by_cases h1 : W.length = (m + 63) / 64
    · rw [bif_nne (by omega), decide_eq_true h1, Bool.true_and]
      by_cases h2 : m % 64 = 0
      · rw [bif_eq (by omega), decide_eq_true h2]; rfl
      · have hj : W.length - 1 < W.length := by omega
        have e3 : min (m % 64) 64 = m % 64 := by omega
        rw [bif_neq (by omega), wrapI (x := (W.length : Int) - 1) (by omega) (by omega), show (W.length : Int) - 1 = ((W.length - 1 : Nat) : Int) by omega, at?_ints _ _ hj, Option.bind_some, bif_ndec (by omega), e3, fdiv_nat, decide_eq_false h2, Bool.false_or, List.getD_eq_getElem?_getD, List.getElem?_eq_getElem hj]
        congr 1
        rw [Bool.eq_iff_iff]
        simp only [beq_iff_eq, decide_eq_true_eq, Option.getD_some]
        omega
    · rw [bif_ne (by omega), decide_eq_false h1]; rfl
theorem bitsOk_l1 (a : Int) (b : Int) (U W : List Nat) (hl : U.length = W.length) (hn : W.length ≤ 1048576) : spec_BitsOk_l1 0 a (ints W) b (ints U) = some (decide (W = U)) := by
  have key : ∀ (d i : Nat), W.length - i = d → i ≤ W.length → spec_BitsOk_l1 i a (ints W) b (ints U) = some (decide (W.drop i = U.drop i)) := by
    intro d
    induction d with
    | zero =>
      intro i hd hi
      rw [spec_BitsOk_l1.eq, List.length_map, bif_ndec (by omega), drop_nil W (by omega), drop_nil U (by omega)]; simp
    | succ d ih =>
      intro i hd hi
      have hw : i < W.length := by omega
      have hu : i < U.length := by omega
      rw [spec_BitsOk_l1.eq, List.length_map, bif_dec (by omega), at?_ints _ _ hw, Option.bind_some, at?_ints _ _ hu, Option.bind_some, Int.toNat_natCast, getElem?_ints _ _ hu, Option.bind_some, wrapS _ (by omega), ih (i + 1) (by omega) (by omega), List.drop_eq_getElem_cons hw, List.drop_eq_getElem_cons hu]
      by_cases h : W[i] = U[i]
      · rw [bif_nne (by omega)]; simp only [h, List.cons.injEq, true_and]
      · rw [bif_ne (by omega)]; simp only [h, List.cons.injEq, false_and, decide_false]
  have := key W.length 0 (by omega) (by omega)
  simpa using this
theorem specBitsOk_eq (n : Int) (W : List Nat) (hl : W.length ≤ 1048576) (hx : ∀ x ∈ W, x < 2 ^ 64) : spec_BitsOk (n, ints W) = some (vOk n W) := by
  rw [spec_BitsOk.eq]
  unfold vOk
  by_cases h1 : n < 0
  · rw [bif_dec h1, decide_eq_false (show ¬ 0 ≤ n by omega)]; rfl
  rw [bif_ndec h1]
  by_cases h2 : n > 5000
  · rw [bif_dec h2, decide_eq_false (show ¬ n ≤ 5000 by omega), Bool.and_false]; rfl
  rw [bif_ndec h2, decide_eq_true (show 0 ≤ n by omega), decide_eq_true (show n ≤ 5000 by omega)]
  obtain ⟨m, rfl⟩ : ∃ m : Nat, n = m := ⟨n.toNat, by omega⟩
  have e1 : ((m : Int) + 63).tdiv 64 = ((nw m : Nat) : Int) := rfl
  simp only [List.length_map, Bool.true_and, Int.toNat_natCast]
  rw [wrapI (x := (m : Int) + 63) (by omega) (by omega), e1]
  have hm : nw m ≤ 100 := by unfold nw; omega
  rw [wrapI (by omega) (by omega)]
  by_cases h3 : W.length = nw m
  · have hb := bts_length m W
    rw [bif_nne (by omega), spec_BitsOk_l0.eq, l01List_eq m W (by omega) (by unfold nw at h3; omega) hx, Option.bind_some, specBitsOf_eq _ (by omega), Option.bind_some]
    simp only
    rw [bitsOk_l1 _ _ _ _ (by rw [wrds_length, hb, h3]) hl]
    congr 1
    rw [Bool.eq_iff_iff, okW_iff m W hx, decide_eq_true_eq, tight_iff m W h3 hx]
    exact eq_comm
  · rw [bif_ne (by omega)]
    unfold okW
    rw [decide_eq_false h3]; rfl

/-! #### numbers in few bytes -/
def varB (n : Nat) : List Nat := if h : n < 128 then [n] else (n % 128 + 128) :: varB (n / 128)
  termination_by n
  decreasing_by omega
def Var (n : Int) : List Nat := if 0 ≤ n ∧ n ≤ 4294967295 then varB n.toNat else []
/-! #### bits as bytes -/
def byt (l : List Bool) (m : Nat) : Nat := ofB ((l.drop (8 * m)).take 8)
def bys (l : List Bool) : List Nat := (List.range ((l.length + 7) / 8)).map (byt l)
/-- All of it. -/
def bb (n : Int) (W : List Nat) : List Nat := Var n ++ bys (bts n.toNat W)
theorem nw_le {n : Nat} (h : n ≤ 5000) : nw n ≤ 100 := by unfold nw; omega
end Go.Ev.W
