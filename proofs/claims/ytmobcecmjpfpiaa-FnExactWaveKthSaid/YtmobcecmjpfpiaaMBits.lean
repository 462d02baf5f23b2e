/- Bits and their bytes: what the functions come to. -/
import Derived.Test.YtmobcecmjpfpiaaEvC
import Derived.Test.YtmobcecmjpfpiaaPp3
import Derived.Test.YtmobcecmjpfpiaaPp8
import Derived.Test.YtmobcecmjpfpiaaNBits
set_option linter.unusedVariables false
set_option linter.unusedSimpArgs false
namespace Go.Ev.W
open Go.Ev

theorem withinN_eq (n a b : Int) : impl_within n a b = some (decide (a ≤ n) && decide (n ≤ b)) := by
  rw [impl_within.eq, Bool.cond_decide]
  by_cases h : a ≤ n <;> simp [h]

/-! #### the list of bits -/
theorem l01List_l1 (i : Nat) (n : Int) (W : List Int) (hi : i < 4611686018427387904) : ∀ (k x : Nat), k < 64 → x < 2 ^ 64 → ∀ out : List Int, out.length ≤ 1048576 → spec_l01List_l1 i x k n W out = spec_l01List_l0 (i + 1 : Nat) n W (out ++ [((x / 2 ^ k % 2 : Nat) : Int)]) := by
  intro k
  induction k with
  | zero =>
    intro x hk hx out ho
    rw [spec_l01List_l1.eq, bif_ndec (by omega), wrapS _ hi]
    have e : (x : Int).tmod 2 = ((x % 2 : Nat) : Int) := rfl
    rw [e, wrapI (by omega) (by omega), bif_dec (by simp only [List.length_cons, List.length_nil]; omega)]
    simp
  | succ k ih =>
    intro x hk hx out ho
    rw [spec_l01List_l1.eq, bif_dec (by omega), wrapI (x := ((k + 1 : Nat) : Int) - 1) (by omega) (by omega)]
    have e : (x : Int).tdiv 2 = ((x / 2 : Nat) : Int) := rfl
    rw [e, wrapU (by omega) (by omega), show ((k + 1 : Nat) : Int) - 1 = k by omega, ih (x / 2) (by omega) (by omega) out ho]
    rw [Nat.div_div_eq_div_mul, Nat.pow_succ, Nat.mul_comm]
theorem l01List_l0 (n : Nat) (W : List Nat) (hn : n ≤ 5000) (hW : n ≤ 64 * W.length) (hx : ∀ x ∈ W, x < 2 ^ 64) : ∀ (d i : Nat), n - i = d → i ≤ n → ∀ out : List Int, out.length ≤ i → spec_l01List_l0 i n (ints W) out = some (out ++ (bints (bts n W)).drop i) := by
  intro d
  induction d with
  | zero =>
    intro i hd hi out ho
    rw [spec_l01List_l0.eq, bif_ndec (by omega), drop_nil _ (by simp only [List.length_map, bts_length]; omega), List.append_nil]
  | succ d ih =>
    intro i hd hi out ho
    rw [spec_l01List_l0.eq, bif_dec (by omega)]
    have e1 : (i : Int).tdiv 64 = ((i / 64 : Nat) : Int) := rfl
    have e2 : (i : Int).tmod 64 = ((i % 64 : Nat) : Int) := rfl
    have hj : i / 64 < W.length := by omega
    rw [e1, e2, wrapI (by omega) (by omega), at?_ints _ _ hj, Option.bind_some, l01List_l1 i n _ (by omega) (i % 64) W[i / 64] (by omega) (hx _ (List.getElem_mem hj)) out (by omega), ih (i + 1) (by omega) (by omega) _ (by simp; omega)]
    have hb : (bints (bts n W))[i]? = some ((W[i / 64] / 2 ^ (i % 64) % 2 : Nat) : Int) := by
      rw [List.getElem?_map, bts_get _ _ _ (by omega)]
      simp only [Option.map_some, bint, bit, List.getD_eq_getElem?_getD, List.getElem?_eq_getElem hj, Option.getD_some, testBit_div]
    rw [drop_eq hb, List.append_assoc, List.singleton_append]
theorem l01List_eq (n : Nat) (W : List Nat) (hn : n ≤ 5000) (hW : n ≤ 64 * W.length) (hx : ∀ x ∈ W, x < 2 ^ 64) : spec_l01List ((n : Int), ints W) = some (bints (bts n W)) := by
  rw [spec_l01List.eq]
  have := l01List_l0 n W hn hW hx n 0 (by omega) (by omega) [] (by simp)
  simpa using this

/-! #### bits of a list -/
theorem l01Power_l0 : ∀ (k : Nat) (x : Nat), k < 64 → x * 2 ^ k < 2 ^ 64 → spec_l01Power_l0 k x = some ((x * 2 ^ k : Nat) : Int) := by
  intro k
  induction k with
  | zero => intro x _ _; rw [spec_l01Power_l0.eq, bif_ndec (by omega)]; simp
  | succ k ih =>
    intro x hk hx
    have hx2 : 2 * x * 2 ^ k < 2 ^ 64 := by rw [Nat.pow_succ] at hx; rw [Nat.mul_comm 2 x, Nat.mul_assoc, Nat.mul_comm 2]; exact hx
    have hx3 : 2 * x < 2 ^ 64 := Nat.lt_of_le_of_lt (Nat.le_mul_of_pos_right _ (Nat.two_pow_pos k)) hx2
    rw [spec_l01Power_l0.eq, bif_dec (by omega), wrapI (by omega) (by omega), show ((k + 1 : Nat) : Int) - 1 = k by omega, show (2 : Int) * (x : Int) = ((2 * x : Nat) : Int) by omega, wrapU (by omega) (by omega), ih (2 * x) (by omega) hx2]
    rw [Nat.pow_succ, Nat.mul_comm 2 x, Nat.mul_assoc, Nat.mul_comm 2]
theorem l01Power_eq (k : Nat) (hk : k < 64) : spec_l01Power k = some ((2 ^ k : Nat) : Int) := by
  have h := l01Power_l0 k 1 hk (by rw [Nat.one_mul]; exact Nat.pow_lt_pow_right (by omega) hk)
  rw [Nat.one_mul] at h
  rw [spec_l01Power.eq]; exact h
theorem wrds_get_lt (l : List Bool) (i : Nat) (h : i < nw l.length) : (wrds l).getD i 0 < 2 ^ 64 := by
  rw [List.getD_eq_getElem?_getD, wrds_get _ _ h]; exact wrd_lt l i
theorem ints_set (W : List Nat) (i x : Nat) : (ints W).set i (x : Int) = ints (W.set i x) := (List.map_set).symm
theorem bitsOf_l0 (bs : List Bool) (hn : bs.length ≤ 5000) (a : Int) (b : List Int) : ∀ (d i : Nat), bs.length - i = d → i ≤ bs.length → spec_BitsOf_l0 (bints bs) i a b bs.length (ints (wrds (bs.take i))) = some (((bs.length : Int), ints (wrds bs)), true) := by
  intro d
  induction d with
  | zero =>
    intro i hd hi
    rw [spec_BitsOf_l0.eq, List.length_map, bif_ndec (by omega), List.take_of_length_le (by omega)]
  | succ d ih =>
    intro i hd hi
    have hlt : i < bs.length := by omega
    have hb : at? (bints bs) (i : Int) = some (bint bs[i]) := by rw [at?_nat, List.getElem?_map, List.getElem?_eq_getElem hlt]; rfl
    have hl : (bs.take i).length = i := by rw [List.length_take]; omega
    have hs := wrds_snoc (bs.take i) bs[i]
    rw [hl, List.take_append_getElem hlt] at hs
    have hwl := wrds_length (bs.take i)
    rw [hl] at hwl
    have e1 : (i : Int).tdiv 64 = ((i / 64 : Nat) : Int) := rfl
    have e2 : (i : Int).tmod 64 = ((i % 64 : Nat) : Int) := rfl
    have step : spec_BitsOf_l1 (bints bs) i a b bs.length (ints (wrds (bs.take i))) = some (((bs.length : Int), ints (wrds bs)), true) := by
      rw [spec_BitsOf_l1.eq]
      simp only [e1, e2, hb, Option.bind_some]
      rw [wrapI (x := ((i / 64 : Nat) : Int)) (by omega) (by omega), wrapS _ (by omega), Int.toNat_natCast, l01Power_eq _ (Nat.mod_lt _ (by omega))]
      have hih := ih (i + 1) (by omega) (by omega)
      unfold nw at hwl
      by_cases h0 : i % 64 = 0
      · rw [if_pos h0] at hs
        rw [hs] at hih
        have hc : ∀ z : Nat, ints (wrds (bs.take i)) ++ [(z : Int)] = ints (wrds (bs.take i) ++ [z]) := fun z => by simp
        rw [bif_eq (by omega), bif_dec (by simp only [List.length_map, List.length_cons, List.length_nil]; omega)]
        have hc0' : ints (wrds (bs.take i)) ++ ([0] : List Int) = ints (wrds (bs.take i) ++ [0]) := hc 0
        rw [hc0']
        have hin : i / 64 < (wrds (bs.take i) ++ [0]).length := by rw [List.length_append, List.length_singleton]; omega
        cases hbi : bs[i] with
        | true =>
          rw [hbi] at hih
          have hg : (wrds (bs.take i) ++ [0])[i / 64] = 0 := by
            rw [List.getElem_append_right (by omega)]; simp
          rw [bif_eq (show bint true = 1 from rfl), at?_ints _ _ hin, Option.bind_some, getElem?_ints _ _ hin, Option.bind_some, hg, Option.bind_some]
          have e : IntKind.u64.wrap (((0 : Nat) : Int) + ((2 ^ (i % 64) : Nat) : Int)) = ((1 : Nat) : Int) := by rw [h0]; exact wrapU (by omega) (by omega)
          rw [e, ints_set]
          have e2 : (wrds (bs.take i) ++ [0]).set (i / 64) 1 = wrds (bs.take i) ++ [1] := by
            rw [List.set_append_right _ _ (by omega), show i / 64 - (wrds (bs.take i)).length = 0 by omega]; rfl
          simp only [Option.bind_some, e2]
          exact hih
        | false =>
          rw [hbi] at hih
          rw [bif_neq (show bint false ≠ 1 from by simp [bint])]
          exact hih
      · rw [if_neg h0] at hs
        rw [hs] at hih
        have hin : i / 64 < (wrds (bs.take i)).length := by omega
        have hg : (wrds (bs.take i)).getD (i / 64) 0 = (wrds (bs.take i))[i / 64] := by rw [List.getD_eq_getElem?_getD, List.getElem?_eq_getElem hin]; rfl
        rw [bif_neq (by omega)]
        cases hbi : bs[i] with
        | true =>
          rw [hbi] at hih hs
          rw [bif_eq (show bint true = 1 from rfl), at?_ints _ _ hin, Option.bind_some, getElem?_ints _ _ hin, Option.bind_some, Option.bind_some]
          have hlt64 : (wrds (bs.take i))[i / 64] + 2 ^ (i % 64) < 2 ^ 64 := by
            have h1 := wrds_tight (bs.take (i + 1))
            rw [hs] at h1
            have := h1.2.1 ((wrds (bs.take i)).getD (i / 64) 0 + 2 ^ (i % 64) * true.toNat) (List.mem_of_getElem? (List.getElem?_set_self hin))
            rw [hg] at this
            simpa using this
          have e : IntKind.u64.wrap (((wrds (bs.take i))[i / 64] : Int) + ((2 ^ (i % 64) : Nat) : Int)) = (((wrds (bs.take i)).getD (i / 64) 0 + 2 ^ (i % 64) * true.toNat : Nat) : Int) := by
            rw [hg, Bool.toNat_true, Nat.mul_one, ← Int.natCast_add]
            exact wrapUn hlt64
          simp only [Option.bind_some]
          rw [e, ints_set]
          exact hih
        | false =>
          rw [hbi] at hih
          have e2 : (wrds (bs.take i)).set (i / 64) ((wrds (bs.take i)).getD (i / 64) 0 + 2 ^ (i % 64) * false.toNat) = wrds (bs.take i) := by
            rw [Bool.toNat_false, Nat.mul_zero, Nat.add_zero, hg, List.set_getElem_self]
          rw [e2] at hih
          rw [bif_neq (show bint false ≠ 1 from by simp [bint])]
          exact hih
    rw [spec_BitsOf_l0.eq, List.length_map, bif_dec (by omega), hb, Option.bind_some, Option.bind_some, step]
    cases bs[i] <;> rfl
theorem specBitsOf_eq (bs : List Bool) (hn : bs.length ≤ 5000) : spec_BitsOf (bints bs) = some (((bs.length : Int), ints (wrds bs)), true) := by
  rw [spec_BitsOf.eq, List.length_map, bif_ndec (by omega)]
  have := bitsOf_l0 bs hn 0 [] bs.length 0 (by omega) (by omega)
  simpa [wrds, nw] using this

/-! #### valid bits -/
def okW (n : Nat) (W : List Nat) : Bool := decide (W.length = nw n) && (decide (n % 64 = 0) || decide (W.getD (W.length - 1) 0 / 2 ^ (n % 64) = 0))
def vOk (n : Int) (W : List Nat) : Bool := decide (0 ≤ n) && decide (n ≤ 5000) && okW n.toNat W
theorem okW_iff (n : Nat) (W : List Nat) (h2 : ∀ x ∈ W, x < 2 ^ 64) : okW n W = true ↔ tight n W := by
  simp only [okW, Bool.and_eq_true, Bool.or_eq_true, decide_eq_true_eq]
  constructor
  · intro ⟨h1, h⟩; exact (tight_last n W h1 h2).2 h
  · intro h; exact ⟨h.1, (tight_last n W h.1 h2).1 h⟩
theorem implBitsOk_eq (n : Int) (W : List Nat) (hl : W.length ≤ 1048576) (hx : ∀ x ∈ W, x < 2 ^ 64) : impl_BitsOk (n, ints W) = some (vOk n W) := by
  rw [impl_BitsOk.eq, withinN_eq, Option.bind_some]
  unfold vOk
  cases hn : decide (0 ≤ n) && decide (n ≤ 5000) with
  | false => rfl
  | true =>
    simp only [Bool.and_eq_true, decide_eq_true_eq] at hn
    obtain ⟨m, rfl⟩ : ∃ m : Nat, n = m := ⟨n.toNat, by omega⟩
    have e2 : (m : Int).tmod 64 = ((m % 64 : Nat) : Int) := rfl
    have e1 : ((m : Int) + 63).tdiv 64 = ((nw m : Nat) : Int) := rfl
    simp only [Bool.not_true, bif_false, e2, List.length_map, Bool.true_and, Int.toNat_natCast]
    unfold nw at e1
    rw [wrapI (x := (m : Int) + 64) (by omega) (by omega), wrapI (x := (m : Int) + 64 - 1) (by omega) (by omega), show (m : Int) + 64 - 1 = m + 63 by omega, e1, wrapI (by omega) (by omega)]
    unfold okW nw
    by_cases h1 : W.length = (m + 63) / 64
    · rw [bif_nne (by omega), decide_eq_true h1, Bool.true_and]
      by_cases h2 : m % 64 = 0
      · rw [bif_eq (by omega), decide_eq_true h2]; rfl
      · have hj : W.length - 1 < W.length := by omega
        have e3 : min (m % 64) 64 = m % 64 := by omega
        rw [bif_neq (by omega), wrapI (x := (W.length : Int) - 1) (by omega) (by omega), show (W.length : Int) - 1 = ((W.length - 1 : Nat) : Int) by omega, at?_ints _ _ hj, Option.bind_some, bif_ndec (by omega), e3, fdiv_nat, decide_eq_false h2, Bool.false_or, List.getD_eq_getElem?_getD, List.getElem?_eq_getElem hj]
        congr 1
        rw [Bool.eq_iff_iff]
        simp only [beq_iff_eq, decide_eq_true_eq, Option.getD_some]
        omega
    · rw [bif_ne (by omega), decide_eq_false h1]; rfl
theorem bitsOk_l1 (a : Int) (b : Int) (U W : List Nat) (hl : U.length = W.length) (hn : W.length ≤ 1048576) : spec_BitsOk_l1 0 a (ints W) b (ints U) = some (decide (W = U)) := by
  have key : ∀ (d i : Nat), W.length - i = d → i ≤ W.length → spec_BitsOk_l1 i a (ints W) b (ints U) = some (decide (W.drop i = U.drop i)) := by
    intro d
    induction d with
    | zero =>
      intro i hd hi
      rw [spec_BitsOk_l1.eq, List.length_map, bif_ndec (by omega), drop_nil W (by omega), drop_nil U (by omega)]; simp
    | succ d ih =>
      intro i hd hi
      have hw : i < W.length := by omega
      have hu : i < U.length := by omega
      rw [spec_BitsOk_l1.eq, List.length_map, bif_dec (by omega), at?_ints _ _ hw, Option.bind_some, at?_ints _ _ hu, Option.bind_some, Int.toNat_natCast, getElem?_ints _ _ hu, Option.bind_some, wrapS _ (by omega), ih (i + 1) (by omega) (by omega), List.drop_eq_getElem_cons hw, List.drop_eq_getElem_cons hu]
      by_cases h : W[i] = U[i]
      · rw [bif_nne (by omega)]; simp only [h, List.cons.injEq, true_and]
      · rw [bif_ne (by omega)]; simp only [h, List.cons.injEq, false_and, decide_false]
  have := key W.length 0 (by omega) (by omega)
  simpa using this
theorem specBitsOk_eq (n : Int) (W : List Nat) (hl : W.length ≤ 1048576) (hx : ∀ x ∈ W, x < 2 ^ 64) : spec_BitsOk (n, ints W) = some (vOk n W) := by
  rw [spec_BitsOk.eq]
  unfold vOk
  by_cases h1 : n < 0
  · rw [bif_dec h1, decide_eq_false (show ¬ 0 ≤ n by omega)]; rfl
  rw [bif_ndec h1]
  by_cases h2 : n > 5000
  · rw [bif_dec h2, decide_eq_false (show ¬ n ≤ 5000 by omega), Bool.and_false]; rfl
  rw [bif_ndec h2, decide_eq_true (show 0 ≤ n by omega), decide_eq_true (show n ≤ 5000 by omega)]
  obtain ⟨m, rfl⟩ : ∃ m : Nat, n = m := ⟨n.toNat, by omega⟩
  have e1 : ((m : Int) + 63).tdiv 64 = ((nw m : Nat) : Int) := rfl
  simp only [List.length_map, Bool.true_and, Int.toNat_natCast]
  rw [wrapI (x := (m : Int) + 63) (by omega) (by omega), e1]
  have hm : nw m ≤ 100 := by unfold nw; omega
  rw [wrapI (by omega) (by omega)]
  by_cases h3 : W.length = nw m
  · have hb := bts_length m W
    rw [bif_nne (by omega), spec_BitsOk_l0.eq, l01List_eq m W (by omega) (by unfold nw at h3; omega) hx, Option.bind_some, specBitsOf_eq _ (by omega), Option.bind_some]
    try simp only
    rw [bitsOk_l1 _ _ _ _ (by rw [wrds_length, hb, h3]) hl]
    congr 1
    rw [Bool.eq_iff_iff, okW_iff m W hx, decide_eq_true_eq, tight_iff m W h3 hx]
    exact eq_comm
  · rw [bif_ne (by omega)]
    unfold okW
    rw [decide_eq_false h3]; rfl

/-! #### numbers in few bytes -/
def varB (n : Nat) : List Nat := if h : n < 128 then [n] else (n % 128 + 128) :: varB (n / 128)
  termination_by n
  decreasing_by omega
theorem varB_lt (n : Nat) (h : n < 128) : varB n = [n] := by rw [varB, dif_pos h]
theorem varB_ge (n : Nat) (h : ¬ n < 128) : varB n = (n % 128 + 128) :: varB (n / 128) := by rw [varB, dif_neg h]
def Var (n : Int) : List Nat := if 0 ≤ n ∧ n ≤ 4294967295 then varB n.toNat else []
theorem varB_len : ∀ (k n : Nat), n < 128 ^ k → 1 ≤ k → (varB n).length ≤ k
  | 0, n, h, hk => by omega
  | k + 1, n, h, _ => by
    by_cases hn : n < 128
    · rw [varB_lt n hn]; simp
    · rw [varB_ge n hn, List.length_cons]
      have : n / 128 < 128 ^ k := by rw [Nat.div_lt_iff_lt_mul (by omega)]; rw [Nat.pow_succ] at h; exact h
      by_cases hk : k = 0
      · subst hk; simp at h; omega
      · have := varB_len k (n / 128) this (by omega); omega
theorem Var_len (n : Int) : (Var n).length ≤ 5 := by
  unfold Var
  split
  · exact varB_len 5 n.toNat (by have : (128 : Nat) ^ 5 = 34359738368 := by decide
                                 omega) (by omega)
  · simp
theorem varB_bytes : ∀ (k n : Nat), n ≤ k → ∀ x ∈ varB n, x < 256
  | k, n, hk, x, hx => by
    by_cases hn : n < 128
    · rw [varB_lt n hn] at hx; rw [List.mem_singleton.1 hx]; omega
    · rw [varB_ge n hn] at hx
      rcases List.mem_cons.1 hx with rfl | hx
      · omega
      · exact varB_bytes (n / 128) (n / 128) (Nat.le_refl _) x hx
  termination_by _ n => n
  decreasing_by omega
theorem Var_bytes (n : Int) : ∀ x ∈ Var n, x < 256 := by
  unfold Var
  split
  · exact varB_bytes _ _ (Nat.le_refl _)
  · simp
theorem implVarOf_l0 : ∀ (k n : Nat), n < 128 ^ k → 1 ≤ k → k ≤ 5 → ∀ out : List Int, out.length + k ≤ 100 → impl_VarOf_l0 n out = some (out ++ ints (varB n)) := by
  intro k
  induction k with
  | zero => intro n _ h; omega
  | succ k ih =>
    intro n h _ hk out ho
    rw [impl_VarOf_l0.eq]
    by_cases hn : n < 128
    · rw [bif_ndec (by omega), wrapB (by omega) (by omega), bif_dec (by simp only [List.length_cons, List.length_nil]; omega), varB_lt n hn]
      simp
    · have hk0 : k ≠ 0 := by intro h0; subst h0; simp at h; omega
      have hn5 : n < 128 ^ 5 := Nat.lt_of_lt_of_le h (Nat.pow_le_pow_right (by omega) hk)
      have h5 : (128 : Nat) ^ 5 = 34359738368 := by decide
      have hq : n / 128 < 128 ^ k := by rw [Nat.div_lt_iff_lt_mul (by omega)]; rw [Nat.pow_succ] at h; exact h
      rw [bif_dec (by omega)]
      have b1 := bv_and 64 n 127 (by omega) (by omega)
      have a1 : n &&& 127 = n % 128 := Nat.and_two_pow_sub_one_eq_mod n 7
      rw [a1] at b1
      have b2 := bv_or 64 (n % 128) 128 (by omega) (by omega)
      have a2 : n % 128 ||| 128 = n % 128 + 128 := by
        have := Nat.two_pow_add_eq_or_of_lt (show n % 128 < 2 ^ 7 by omega) 1
        have h7 : (2 : Nat) ^ 7 = 128 := rfl
        rw [Nat.mul_one, h7, Nat.or_comm] at this
        omega
      rw [a2] at b2
      have c1 : (127 : Int) = ((127 : Nat) : Int) := rfl
      have c2 : (128 : Int) = ((128 : Nat) : Int) := rfl
      rw [c1, b1, wrapI (x := ((n % 128 : Nat) : Int)) (by omega) (by omega), c2, b2, wrapI (by omega) (by omega), wrapB (by omega) (by omega), bif_dec (by simp only [List.length_cons, List.length_nil]; omega)]
      have e7 := fdiv_nat n 7
      rw [e7, ih (n / 2 ^ 7) hq (by omega) (by omega) _ (by simp; omega), varB_ge n hn]
      simp
theorem implVarOf_eq (n : Int) : impl_VarOf n = some (ints (Var n)) := by
  rw [impl_VarOf.eq, withinN_eq, Option.bind_some]
  unfold Var
  by_cases h : 0 ≤ n ∧ n ≤ 4294967295
  · rw [if_pos h, decide_eq_true h.1, decide_eq_true h.2]
    obtain ⟨m, rfl⟩ : ∃ m : Nat, n = m := ⟨n.toNat, by omega⟩
    have h5 : (128 : Nat) ^ 5 = 34359738368 := by decide
    have := implVarOf_l0 5 m (by omega) (by omega) (by omega) [] (by simp)
    simpa using this
  · rw [if_neg h, show (decide (0 ≤ n) && decide (n ≤ 4294967295)) = false by simp only [Bool.and_eq_false_iff, decide_eq_false_iff_not]; omega]
    rfl
/-! #### bits as bytes -/
def byt (l : List Bool) (m : Nat) : Nat := ofB ((l.drop (8 * m)).take 8)
def bys (l : List Bool) : List Nat := (List.range ((l.length + 7) / 8)).map (byt l)
theorem bys_length (l : List Bool) : (bys l).length = (l.length + 7) / 8 := by simp [bys]
theorem bys_get (l : List Bool) (m : Nat) (h : 8 * m < l.length) : (bys l)[m]? = some (byt l m) := by
  simp [bys, show m < (l.length + 7) / 8 by omega]
theorem byt_lt (l : List Bool) (m : Nat) : byt l m < 256 :=
  Nat.lt_of_lt_of_le (ofB_lt _) (Nat.le_trans (Nat.pow_le_pow_right (by omega) (show ((l.drop (8 * m)).take 8).length ≤ 8 by rw [List.length_take]; omega)) (by decide))
/-- All of it. -/
def bb (n : Int) (W : List Nat) : List Nat := Var n ++ bys (bts n.toNat W)
theorem nw_le {n : Nat} (h : n ≤ 5000) : nw n ≤ 100 := by unfold nw; omega
theorem implBytes_l0 (n : Nat) (W : List Nat) (hn : n ≤ 5000) (ht : tight n W) : ∀ (d m : Nat), (n + 7) / 8 - m = d → m ≤ (n + 7) / 8 → ∀ out : List Int, out.length ≤ 5 + m → impl_bitsBytes_l0 (8 * m : Nat) n (ints W) out = some (out ++ ints ((bys (bts n W)).drop m)) := by
  intro d
  have hb := bts_length n W
  have hw := ht.1
  unfold nw at hw
  induction d with
  | zero =>
    intro m hd hm out ho
    rw [impl_bitsBytes_l0.eq, bif_ndec (by omega), drop_nil _ (by rw [bys_length]; omega)]
    simp
  | succ d ih =>
    intro m hd hm out ho
    have hlt : 8 * m < n := by omega
    have hj : 8 * m / 64 < W.length := by omega
    have e1 : ((8 * m : Nat) : Int).tdiv 64 = ((8 * m / 64 : Nat) : Int) := rfl
    have e2 : ((8 * m : Nat) : Int).tmod 64 = ((8 * m % 64 : Nat) : Int) := rfl
    have e3 : min ((8 * m % 64 : Nat) : Int).toNat 64 = 8 * m % 64 := by omega
    have eb : W[8 * m / 64] / 2 ^ (8 * m % 64) % 256 = byt (bts n W) m := by
      refine ofB_eq _ _ fun i => ?_
      have hg : W.getD (8 * m / 64) 0 = W[8 * m / 64] := by rw [List.getD_eq_getElem?_getD, List.getElem?_eq_getElem hj]; rfl
      rw [show (256 : Nat) = 2 ^ 8 by rfl, Nat.testBit_mod_two_pow, Nat.testBit_div_two_pow, List.getD_eq_getElem?_getD, List.getElem?_take]
      by_cases hi : i < 8
      · rw [if_pos hi, decide_eq_true hi, Bool.true_and, List.getElem?_drop, ← List.getD_eq_getElem?_getD, bts_getD]
        have e4 : bit W (8 * m + i) = W[8 * m / 64].testBit (i + 8 * m % 64) := by
          unfold bit
          rw [show (8 * m + i) / 64 = 8 * m / 64 by omega, show (8 * m + i) % 64 = i + 8 * m % 64 by omega, hg]
        by_cases hin : 8 * m + i < n
        · rw [decide_eq_true hin, Bool.true_and, e4]
        · rw [decide_eq_false hin, Bool.false_and, ← e4, ht.2.2 _ (by omega)]
      · rw [if_neg hi, decide_eq_false hi]; rfl
    have hbl := byt_lt (bts n W) m
    have ew : IntKind.u8.wrap ((W[8 * m / 64] / 2 ^ (8 * m % 64) : Nat) : Int) = ((byt (bts n W) m : Nat) : Int) := by
      rw [IntKind.wrap_u8, ← eb]; omega
    rw [impl_bitsBytes_l0.eq, bif_dec (by omega), e1, e2, wrapI (x := ((8 * m / 64 : Nat) : Int)) (by omega) (by omega), at?_ints _ _ hj, Option.bind_some, bif_ndec (by omega), e3, fdiv_nat, ew, bif_dec (by simp only [List.length_cons, List.length_nil]; omega), wrapI (by omega) (by omega), show ((8 * m : Nat) : Int) + 8 = ((8 * (m + 1) : Nat) : Int) by omega, ih (m + 1) (by omega) (by omega) _ (by simp; omega), drop_eq (bys_get _ m (by omega))]
    simp
theorem bitsBytes_eq (m : Nat) (W : List Nat) (hm : m ≤ 5000) (ht : tight m W) : impl_bitsBytes ((m : Int), ints W) = some (ints (bb m W)) := by
  have hvl := Var_len (m : Int)
  rw [impl_bitsBytes.eq]
  try simp only
  rw [implVarOf_eq, Option.bind_some]
  have h := implBytes_l0 m W hm ht ((m + 7) / 8) 0 (by omega) (by omega) (ints (Var m)) (by rw [List.length_map]; omega)
  have e0 : ((8 * 0 : Nat) : Int) = 0 := rfl
  rw [e0] at h
  rw [h]
  simp [bb]
theorem implBitsBytes_eq (n : Int) (W : List Nat) (hl : W.length ≤ 1048576) (hx : ∀ x ∈ W, x < 2 ^ 64) : impl_BitsBytes (n, ints W) = some (ints (bif vOk n W then bb n W else [])) := by
  rw [impl_BitsBytes.eq]
  try simp only
  rw [implBitsOk_eq n W hl hx, Option.bind_some]
  cases hv : vOk n W with
  | false => rfl
  | true =>
    simp only [vOk, Bool.and_eq_true, decide_eq_true_eq] at hv
    obtain ⟨m, rfl⟩ : ∃ m : Nat, n = m := ⟨n.toNat, by omega⟩
    rw [Int.toNat_natCast] at hv
    rw [Bool.not_true, bif_false, bitsBytes_eq m W (by omega) ((okW_iff m W hx).1 hv.2)]
    rfl
theorem bb_len (n : Int) (W : List Nat) (h : n ≤ 5000) : (bb n W).length ≤ 700 := by
  have := Var_len n
  rw [bb, List.length_append, bys_length, bts_length]
  omega
end Go.Ev.W
