/- What the functions come to, in plain mathematics, part 2. -/
import Derived.Test.YtmobcecmjpfpiaaEvC
import Derived.Test.YtmobcecmjpfpiaaPp4
import Derived.Test.YtmobcecmjpfpiaaMmA
import Derived.Test.YtmobcecmjpfpiaaPp1
import Derived.Test.YtmobcecmjpfpiaaPp5
/- Packed numbers out of bytes: what the functions come to. -/
set_option linter.unusedVariables false
set_option linter.unusedSimpArgs false
namespace Go.Ev.W
open Go.Ev

abbrev Pk := Int × Int × Int × List Int
def badP : Pk × Int × Bool := ((0, 0, 0, []), 0, false)
def PRd (D : List Nat) (a : Int) : Pk × Int × Bool :=
  bif !(VRd D a).2.2 then badP else
  bif !(VRd D (VRd D a).2.1).2.2 then badP else
  bif !(BRd D (VRd D (VRd D a).2.1).2.1).2.2 then badP else
  let r := BRd D (VRd D (VRd D a).2.1).2.1
  bif !pOk (VRd D a).1 (VRd D (VRd D a).2.1).1 r.1.1 (r.1.2.map Int.toNat) then badP else (((VRd D a).1, (VRd D (VRd D a).2.1).1, r.1.1, r.1.2), r.2.1, true)
theorem BRd_ints (D : List Nat) (a : Int) : ∃ W : List Nat, (BRd D a).1.2 = ints W ∧ (∀ x ∈ W, x < 2 ^ 64) ∧ W.length ≤ 100 := by
  have hw := BRd_words D a
  suffices h : ∃ W : List Nat, (BRd D a).1.2 = ints W ∧ (∀ x ∈ W, x < 2 ^ 64) by
    obtain ⟨W, h1, h2⟩ := h
    refine ⟨W, h1, h2, ?_⟩
    rw [h1, List.length_map] at hw
    exact hw
  unfold BRd
  cases (VRd D a).2.2 with
  | false => exact ⟨[], rfl, by simp⟩
  | true =>
    rw [Bool.not_true, bif_false]
    split
    · exact ⟨[], rfl, by simp⟩
    · split
      · exact ⟨[], rfl, by simp⟩
      · unfold brFin
        try simp only
        split
        · exact ⟨_, rfl, (wrds_tight _).2.1⟩
        · exact ⟨[], rfl, by simp⟩
theorem toNat_ints (W : List Nat) : (ints W).map Int.toNat = W := by
  unfold ints
  rw [List.map_map]
  exact (List.map_congr_left fun x _ => by simp).trans (List.map_id W)
theorem implPackRead_eq (D : List Nat) (hD : ByteL D) (hl : D.length ≤ 1048576) (a : Int) : impl_PackRead (ints D) a = some (PRd D a) := by
  rw [impl_PackRead.eq, implVarRead_eq D hD hl, Option.bind_some]
  unfold PRd
  cases h1 : (VRd D a).2.2 with
  | false => rfl
  | true =>
    rw [Bool.not_true, bif_false, bif_false, implVarRead_eq D hD hl, Option.bind_some]
    cases h2 : (VRd D (VRd D a).2.1).2.2 with
    | false => rfl
    | true =>
      rw [Bool.not_true, bif_false, bif_false, implBitsRead_eq D hD hl, Option.bind_some]
      obtain ⟨W, w1, w2, w3⟩ := BRd_ints D (VRd D (VRd D a).2.1).2.1
      cases h3 : (BRd D (VRd D (VRd D a).2.1).2.1).2.2 with
      | false => rfl
      | true =>
        simp only [Bool.not_true, bif_false]
        rw [w1, toNat_ints, implPackOk_eq _ _ _ W (by omega) w2, Option.bind_some]
        cases pOk (VRd D a).1 (VRd D (VRd D a).2.1).1 (BRd D (VRd D (VRd D a).2.1).2.1).1.1 W <;> rfl
theorem PRd_words (D : List Nat) (a : Int) : (PRd D a).1.2.2.2.length ≤ 100 := by
  unfold PRd badP
  have := BRd_words D (VRd D (VRd D a).2.1).2.1
  cases (VRd D a).2.2 with
  | false => simp
  | true =>
    cases (VRd D (VRd D a).2.1).2.2 with
    | false => simp
    | true =>
      cases (BRd D (VRd D (VRd D a).2.1).2.1).2.2 with
      | false => simp
      | true =>
        simp only [Bool.not_true, bif_false]
        cases pOk (VRd D a).1 (VRd D (VRd D a).2.1).1 (BRd D (VRd D (VRd D a).2.1).2.1).1.1 ((BRd D (VRd D (VRd D a).2.1).2.1).1.2.map Int.toNat) with
        | false => simp
        | true => exact this
end Go.Ev.W

/- How many bits are as told: both functions. -/
set_option linter.unusedVariables false
set_option linter.unusedSimpArgs false
namespace Go.Ev.W
open Go.Ev

theorem countB_l0 (bs : List Bool) (b : Bool) (hn : bs.length ≤ 5000) : ∀ (d i : Nat), bs.length - i = d → i ≤ bs.length → impl_count_l0 (bint b) (bef bs i b : Nat) (bints bs) bs.length i = some ((bef bs bs.length b : Nat) : Int)
  | 0, i, h1, h2 => by
    obtain rfl : i = bs.length := by omega
    rw [impl_count_l0.eq, bif_ndec (by omega)]
  | d + 1, i, h1, h2 => by
    have hi : i < bs.length := by omega
    have hz := bef_le bs i b
    have ih := countB_l0 bs b hn d (i + 1) (by omega) (by omega)
    rw [bef_succ bs i b hi] at ih
    rw [impl_count_l0.eq, bif_dec (by omega), at?_bints bs i hi, Option.bind_some, bint_eq, wrapS i (by omega), wrapS (bef bs i b) (by omega)]
    cases hb : (bs[i] == b) with
    | true => rw [hb, if_pos rfl] at ih; rw [bif_true]; exact ih
    | false => rw [hb, if_neg (by simp), Nat.add_zero] at ih; rw [bif_false]; exact ih
theorem bef_zero (bs : List Bool) (b : Bool) : bef bs 0 b = 0 := rfl
theorem countB_eq (bs : List Bool) (b : Bool) (hn : bs.length ≤ 5000) : impl_count (bints bs) (bint b) = some ((bef bs bs.length b : Nat) : Int) := by
  rw [impl_count.eq, List.length_map]
  have := countB_l0 bs b hn _ 0 rfl (by omega)
  rw [bef_zero] at this
  exact this
theorem rankB_l1 (bs : List Bool) (b : Bool) (hn : bs.length ≤ 5000) : ∀ (d i : Nat), bs.length - i = d → i ≤ bs.length → spec_Rank_l1 (bint b) bs.length (bef bs i b : Nat) i (bints bs) = some ((bef bs bs.length b : Nat) : Int)
  | 0, i, h1, h2 => by
    obtain rfl : i = bs.length := by omega
    rw [spec_Rank_l1.eq, bif_ndec (by omega)]
  | d + 1, i, h1, h2 => by
    have hi : i < bs.length := by omega
    have hz := bef_le bs i b
    have ih := rankB_l1 bs b hn d (i + 1) (by omega) (by omega)
    rw [bef_succ bs i b hi] at ih
    rw [spec_Rank_l1.eq, bif_dec (by omega), at?_bints bs i hi, Option.bind_some, Int.toNat_natCast, get?_bints bs i hi, Option.bind_some, bint_eq, wrapS i (by omega), wrapS (bef bs i b) (by omega)]
    cases hb : (bs[i] == b) with
    | true => rw [hb, if_pos rfl] at ih; rw [bif_true]; exact ih
    | false => rw [hb, if_neg (by simp), Nat.add_zero] at ih; rw [bif_false]; exact ih
theorem bit_bint (b : Bool) : spec_l01Bit (bint b) = some true := by
  rw [spec_l01Bit.eq]
  cases b <;> rfl
theorem rankB_eq (m : Nat) (W : List Nat) (b : Bool) (hm : m ≤ 5000) (hl : W.length ≤ 1048576) (hx : ∀ x ∈ W, x < 2 ^ 64) (hv : vOk m W = true) : spec_Rank ((m : Int), ints W) (bint b) m = some ((bef (bts m W) m b : Nat) : Int) := by
  rw [spec_Rank.eq]
  try simp only
  have ht := (okW_iff m W hx).1 (by simp only [vOk, Bool.and_eq_true] at hv; simpa using hv.2)
  have hb := bts_length m W
  rw [specBitsOk_eq _ W hl hx, Option.bind_some, hv, Bool.not_true, bif_false, bit_bint, Option.bind_some, Bool.not_true, bif_false, bif_ndec (by omega), bif_ndec (by omega), spec_Rank_l0.eq,
    l01List_eq m W hm (by have := ht.1; unfold nw at this; omega) hx, Option.bind_some]
  have := rankB_l1 (bts m W) b (by omega) _ 0 rfl (by omega)
  rw [bef_zero, hb] at this
  exact this
end Go.Ev.W

/- Sparse lists: plain facts. -/
set_option linter.unusedVariables false
set_option linter.unusedSimpArgs false
namespace Go.Ev.W
open Go.Ev

/-- The bits of quotients: z zeros are there already. -/
def hiB (u Q : Nat) : Nat → List Nat → List Bool
  | z, [] => List.replicate (Q + 1 - z) false
  | z, x :: X => List.replicate (x / u - z) false ++ true :: hiB u Q (x / u) X
/-- The numbers of bits and low parts; ones without a low part are passed over. -/
def deS (u : Nat) : List Bool → Nat → List Nat → List Nat
  | [], _, _ => []
  | false :: bs, q, L => deS u bs (q + 1) L
  | true :: bs, q, [] => deS u bs q []
  | true :: bs, q, l :: L => (q * u + l) :: deS u bs q L
def ones (bs : List Bool) : Nat := (bs.filter id).length
theorem ones_cons (b : Bool) (bs : List Bool) : ones (b :: bs) = (if b then 1 else 0) + ones bs := by
  unfold ones
  rw [List.filter_cons]
  cases b <;> simp <;> omega
theorem ones_app (a b : List Bool) : ones (a ++ b) = ones a + ones b := by unfold ones; rw [List.filter_append, List.length_append]
theorem ones_rep (n : Nat) : ones (List.replicate n false) = 0 := by
  induction n with
  | zero => rfl
  | succ n ih => rw [List.replicate_succ, ones_cons, ih]; rfl
theorem ones_hiB (u Q : Nat) : ∀ (z : Nat) (X : List Nat), ones (hiB u Q z X) = X.length
  | z, [] => by rw [hiB, ones_rep]; rfl
  | z, x :: X => by rw [hiB, ones_app, ones_rep, ones_cons, ones_hiB u Q _ X, List.length_cons]; simp; omega
theorem deS_len (u : Nat) : ∀ (bs : List Bool) (q : Nat) (L : List Nat), (deS u bs q L).length = min (ones bs) L.length
  | [], _, _ => by simp [deS, ones]
  | false :: bs, q, L => by rw [deS, deS_len u bs, ones_cons]; simp
  | true :: bs, q, [] => by rw [deS, deS_len u bs]; simp
  | true :: bs, q, l :: L => by rw [deS, List.length_cons, deS_len u bs, ones_cons, List.length_cons]; simp; omega
/-- Quotients rise from z on and stay below Q. -/
def Ris (u Q : Nat) : Nat → List Nat → Prop
  | z, [] => z ≤ Q + 1
  | z, x :: X => z ≤ x / u ∧ Ris u Q (x / u) X
theorem hiB_len (u Q : Nat) : ∀ (z : Nat) (X : List Nat), Ris u Q z X → z ≤ Q + 1 ∧ (hiB u Q z X).length = X.length + (Q + 1 - z)
  | z, [], h => by
    refine ⟨h, ?_⟩
    rw [hiB, List.length_replicate]; simp
  | z, x :: X, h => by
    obtain ⟨h1, h2⟩ := h
    have ih := hiB_len u Q (x / u) X h2
    refine ⟨by omega, ?_⟩
    rw [hiB, List.length_append, List.length_replicate, List.length_cons, ih.2, List.length_cons]; omega
theorem deS_bound (u : Nat) : ∀ (bs : List Bool) (q : Nat) (L : List Nat), (∀ l ∈ L, l < u) → ∀ x ∈ deS u bs q L, x < (q + bs.length) * u + u
  | [], _, _, _, x, h => by cases h
  | false :: bs, q, L, hL, x, h => by
    have := deS_bound u bs (q + 1) L hL x h
    rw [List.length_cons]
    rwa [show q + (bs.length + 1) = q + 1 + bs.length by omega]
  | true :: bs, q, [], hL, x, h => by
    have := deS_bound u bs q [] hL x h
    rw [List.length_cons, show q + (bs.length + 1) = (q + bs.length) + 1 by omega, Nat.add_mul]; omega
  | true :: bs, q, l :: L, hL, x, h => by
    rw [List.length_cons, show q + (bs.length + 1) = (q + bs.length) + 1 by omega, Nat.add_mul]
    rw [deS] at h
    rcases List.mem_cons.1 h with h | h
    · have h1 := hL l List.mem_cons_self
      have h2 : q * u ≤ (q + bs.length) * u := Nat.mul_le_mul_right _ (by omega)
      omega
    · have := deS_bound u bs q L (fun l hl => hL l (List.mem_cons_of_mem _ hl)) x h
      omega
theorem hiB_one (u Q q x : Nat) (X : List Nat) (h : x / u = q) : hiB u Q q (x :: X) = true :: hiB u Q q X := by
  rw [hiB, h, Nat.sub_self]; rfl
theorem hiB_zero (u Q q : Nat) (X : List Nat) (hq : q ≤ Q) (h : Ris u Q q X) (hx : ∀ x, X.head? = some x → x / u ≠ q) : hiB u Q q X = false :: hiB u Q (q + 1) X ∧ Ris u Q (q + 1) X := by
  cases X with
  | nil =>
    refine ⟨?_, by show q + 1 ≤ Q + 1; omega⟩
    rw [hiB, hiB, show Q + 1 - q = (Q + 1 - (q + 1)) + 1 by omega, List.replicate_succ]
  | cons x X =>
    obtain ⟨h1, h2⟩ := h
    have h3 := hx x rfl
    refine ⟨?_, ⟨by omega, h2⟩⟩
    rw [hiB, hiB, show x / u - q = (x / u - (q + 1)) + 1 by omega, List.replicate_succ, List.cons_append]
theorem Ris_tail (u Q q x : Nat) (X : List Nat) (h : Ris u Q q (x :: X)) : Ris u Q (x / u) X := h.2
theorem Ris_of (u Q : Nat) (hu : 0 < u) : ∀ (z : Nat) (X : List Nat), z ≤ Q + 1 → (∀ x ∈ X, z ≤ x / u ∧ x / u ≤ Q) → X.Pairwise (· ≤ ·) → Ris u Q z X
  | z, [], h, _, _ => h
  | z, x :: X, h, h1, h2 => by
    have h3 := h1 x List.mem_cons_self
    obtain ⟨h4, h5⟩ := List.pairwise_cons.1 h2
    exact ⟨h3.1, Ris_of u Q hu (x / u) X (by omega) (fun y hy => ⟨Nat.div_le_div_right (h4 y hy), (h1 y (List.mem_cons_of_mem _ hy)).2⟩) h5⟩
/-- The low width. -/
def lwd (n U : Nat) : Nat := if n = 0 then 0 else wd (U / n) - 1
end Go.Ev.W

/- Sparse lists: widths, packed numbers as a list. -/
set_option linter.unusedVariables false
set_option linter.unusedSimpArgs false
namespace Go.Ev.W
open Go.Ev

/-! #### widths -/
theorem wdF_fuel : ∀ (f j n : Nat), n < 2 ^ j → j ≤ f → wdF f n = wdF j n
  | 0, j, n, h, hj => by
    obtain rfl : j = 0 := by omega
    rfl
  | f + 1, 0, n, h, hj => by
    obtain rfl : n = 0 := by simpa using h
    simp [wdF]
  | f + 1, j + 1, n, h, hj => by
    rw [wdF, wdF]
    by_cases h0 : n = 0
    · rw [if_pos h0, if_pos h0]
    · rw [if_neg h0, if_neg h0, wdF_fuel f j (n / 2) (by rw [Nat.pow_succ] at h; omega) (by omega)]
theorem wdF_half : ∀ (k f n : Nat), 2 ^ k ≤ n → wdF (f + k) n = wdF f (n / 2 ^ k) + k
  | 0, f, n, _ => by simp
  | k + 1, f, n, h => by
    rw [Nat.pow_succ] at h
    have h0 : n ≠ 0 := by have := Nat.two_pow_pos k; omega
    rw [show f + (k + 1) = (f + k) + 1 by omega, wdF, if_neg h0, wdF_half k f (n / 2) (by omega), Nat.div_div_eq_div_mul, Nat.pow_succ, Nat.mul_comm 2, Nat.add_assoc]
theorem wd_half (k n : Nat) (hk : k ≤ 16) (h : 2 ^ k ≤ n) (hn : n < 1099511627776) : wd n = wd (n / 2 ^ k) + k := by
  unfold wd
  have h1 := wdF_half k (64 - k) n h
  rw [show 64 - k + k = 64 by omega] at h1
  have h2 : n / 2 ^ k < 2 ^ 40 := Nat.lt_of_le_of_lt (Nat.div_le_self _ _) (by omega)
  rw [h1, wdF_fuel (64 - k) 40 _ h2 (by omega), wdF_fuel 64 40 _ h2 (by omega)]
theorem len_a : ∀ n : Nat, n < 256 → bits_Len64_l1 (n : Int) 0 = some ((wd n : Nat) : Int) := by
  intro n
  rw [bits_Len64_l1.eq]
  revert n
  decide +kernel
theorem len_b (n : Nat) (h : 256 ≤ n) (h2 : n < 65536) : bits_Len64_l1 (n : Int) 0 = some ((wd n : Nat) : Int) := by
  rw [bits_Len64_l1.eq, bif_dec (by omega), fdiv_nat, wd_half 8 n (by omega) (by omega) (by omega), show 2 ^ 8 = 256 from rfl]
  have hm : n / 256 < 256 := by omega
  generalize n / 256 = m at hm
  revert m
  decide +kernel
theorem len_c (n : Nat) (h : 65536 ≤ n) (h2 : n < 16777216) : bits_Len64_l1 ((n / 65536 : Nat) : Int) 16 = some ((wd n : Nat) : Int) := by
  rw [bits_Len64_l1.eq, bif_ndec (by omega), wd_half 16 n (by omega) (by omega) (by omega), show 2 ^ 16 = 65536 from rfl]
  have hm : n / 65536 < 256 := by omega
  generalize n / 65536 = m at hm
  revert m
  decide +kernel
theorem implWidthG_eq (n : Nat) (h : n < 16777216) : impl_WidthOf n = some ((wd n : Nat) : Int) := by
  rw [impl_WidthOf.eq, bif_ndec (by omega), wrapUn (by omega), bits_Len.eq, bits_Len64.eq, bif_ndec (by omega), bits_Len64_l0.eq]
  by_cases h1 : 65536 ≤ n
  · rw [bif_dec (by omega), fdiv_nat, show IntKind.i64.wrap ((0 : Int) + 16) = 16 from rfl, show 2 ^ 16 = 65536 from rfl, len_c n h1 h]; rfl
  · rw [bif_ndec (by omega)]
    by_cases h2 : 256 ≤ n
    · rw [len_b n h2 (by omega)]; rfl
    · rw [len_a n (by omega)]; rfl
theorem wd_le20 {n : Nat} (h : n ≤ 1000000) : wd n ≤ 20 := wdF_le 64 n 20 (by omega)
theorem specLw_eq (n U : Nat) (hU : U ≤ 1000000) (hn : n ≤ 1000000) : spec_l03Width n U = some ((lwd n U : Nat) : Int) := by
  rw [spec_l03Width.eq]
  unfold lwd
  by_cases h : n = 0
  · subst h; rfl
  · have hd : U / n ≤ U := Nat.div_le_self _ _
    have hw := wd_le20 (n := U / n) (by omega)
    have e : (U : Int).tdiv (n : Int) = ((U / n : Nat) : Int) := rfl
    rw [bif_neq (by omega), bif_ndec (by omega), if_neg h, e, wrapIn (by omega), specWidth_eq _ (by omega), Option.bind_some, wrapI (x := ((wd (U / n) : Nat) : Int) - 1) (by omega) (by omega)]
    congr 1
    by_cases h1 : ((wd (U / n) : Nat) : Int) - 1 > 0
    · rw [if_pos h1]; omega
    · rw [if_neg h1]; omega
theorem implLw_eq (n U : Nat) (hU : U ≤ 1000000) (hn : n ≤ 1000000) : impl_lowWidth U n = some ((lwd n U : Nat) : Int) := by
  rw [impl_lowWidth.eq]
  unfold lwd
  by_cases h : n = 0
  · subst h; rfl
  · have hd : U / n ≤ U := Nat.div_le_self _ _
    have hw := wd_le20 (n := U / n) (by omega)
    have e : (U : Int).tdiv (n : Int) = ((U / n : Nat) : Int) := rfl
    rw [bif_neq (by omega), bif_ndec (by omega), if_neg h, e, wrapIn (by omega), implWidthG_eq _ (by omega), Option.bind_some, wrapI (x := ((wd (U / n) : Nat) : Int) - 1) (by omega) (by omega)]
    congr 1
    by_cases h1 : (0 : Int) > ((wd (U / n) : Nat) : Int) - 1
    · rw [if_pos h1]; omega
    · rw [if_neg h1]; omega
theorem lwd_le (n U : Nat) (hU : U ≤ 1000000) : lwd n U ≤ 19 := by
  unfold lwd
  split
  · omega
  · have hd : U / n ≤ U := Nat.div_le_self _ _
    have hw := wd_le20 (n := U / n) (by omega)
    omega

/-! #### packed numbers as a list -/
def hv (W : List Nat) (o w : Nat) : Nat → Nat
  | 0 => 0
  | d + 1 => 2 * hv W o w d + (bit W (o + (w - (d + 1)))).toNat
theorem hv_lt (W : List Nat) (o w : Nat) : ∀ d, hv W o w d < 2 ^ d
  | 0 => by show 0 < 2 ^ 0; omega
  | d + 1 => by
    have := hv_lt W o w d
    have hb : (bit W (o + (w - (d + 1)))).toNat ≤ 1 := by cases bit W (o + (w - (d + 1))) <;> simp
    rw [hv, Nat.pow_succ]; omega
def pkL (w n : Nat) (W : List Nat) : List Nat := (List.range n).map fun i => hv W (i * w) w w
theorem pkL_len (w n : Nat) (W : List Nat) : (pkL w n W).length = n := by unfold pkL; rw [List.length_map, List.length_range]
theorem pkL_lt (w n : Nat) (W : List Nat) : ∀ x ∈ pkL w n W, x < 2 ^ w := by
  intro x hx
  unfold pkL at hx
  obtain ⟨i, _, rfl⟩ := List.mem_map.1 hx
  exact hv_lt W _ w w
theorem pkL_snoc (w : Nat) (W : List Nat) (i : Nat) : ints (pkL w i W) ++ [((hv W (i * w) w w : Nat) : Int)] = ints (pkL w (i + 1) W) := by
  rw [ints_snoc]
  unfold pkL
  rw [List.range_succ, List.map_append]; rfl
theorem or_big (v : Nat) (b : Bool) (hv : v < 1099511627776) : IntKind.i64.wrap (((BitVec.ofInt 64 (IntKind.i64.wrap ((v : Int) * 2 ^ 1))) ||| (BitVec.ofInt 64 (bint b))).toNat : Int) = ((2 * v + b.toNat : Nat) : Int) := by
  have e1 : (v : Int) * 2 ^ 1 = ((2 * v : Nat) : Int) := by simp; omega
  have hb : b.toNat ≤ 1 := by cases b <;> simp
  have e3 : IntKind.i64.wrap ((2 * v : Nat) : Int) = ((2 * v : Nat) : Int) := wrapIn (by omega)
  rw [e1, e3]
  have h1 := bv_or 64 (2 * v) b.toNat (by omega) (by omega)
  unfold bint
  have e2 : 2 * v ||| b.toNat = 2 * v + b.toNat := by
    have := Nat.two_pow_add_eq_or_of_lt (i := 1) (b := b.toNat) (by omega) v
    simpa using this.symm
  rw [h1, e2, wrapIn (by omega)]
theorem pk_idx (w n i d : Nat) (hi : i < n) (hd : d < w) : i * w + (w - (d + 1)) < n * w := by
  have : (i + 1) * w ≤ n * w := Nat.mul_le_mul_right _ (by omega)
  rw [Nat.add_mul] at this; omega
section
variable (w n : Nat) (W : List Nat) (hw : w ≤ 32) (hn : n ≤ 5000) (hm : n * w ≤ 5000) (hx : ∀ x ∈ W, x < 2 ^ 64) (ht : tight (n * w) W)
include hw hn hm hx ht
theorem specPk_l1 (i : Nat) (hi : i < n) (b : Int) (V out : List Int) (ho : out.length ≤ 10000) : ∀ (r d : Nat), w - d = r → d ≤ w →
    spec_PackList_l1 i (hv W (i * w) w d : Nat) ((w : Int) - 1 - d) w n b V (bints (bts (n * w) W)) out = spec_PackList_l0 (i + 1 : Nat) w n b V (bints (bts (n * w) W)) (out ++ [((hv W (i * w) w w : Nat) : Int)])
  | 0, d, h1, h2 => by
    have _ := hx
    obtain rfl : d = w := by omega
    rw [spec_PackList_l1.eq, bif_ndec (by omega), bif_dec (by simp only [List.length_cons, List.length_nil]; omega), wrapS i (by omega)]
  | r + 1, d, h1, h2 => by
    have hidx := pk_idx w n i d hi (by omega)
    have hl := hv_lt W (i * w) w d
    have hp : 2 ^ d ≤ 2 ^ 32 := Nat.pow_le_pow_right (by omega) (by omega)
    have hb := bts_length (n * w) W
    have hg : (bints (bts (n * w) W))[i * w + (w - (d + 1))]? = some (bint (bit W (i * w + (w - (d + 1))))) := by
      rw [List.getElem?_map, bts_get _ _ _ hidx]; rfl
    have hbt : (bit W (i * w + (w - (d + 1)))).toNat ≤ 1 := by cases bit W (i * w + (w - (d + 1))) <;> simp
    have e1 : ((i : Int) * (w : Int)) = ((i * w : Nat) : Int) := by simp
    have e2 : IntKind.i64.wrap (((i * w : Nat) : Int) + ((w : Int) - 1 - (d : Int))) = ((i * w + (w - (d + 1)) : Nat) : Int) := by rw [wrapI (by omega) (by omega)]; omega
    have e3 : IntKind.i64.wrap (IntKind.i64.wrap (2 * ((hv W (i * w) w d : Nat) : Int)) + bint (bit W (i * w + (w - (d + 1))))) = ((hv W (i * w) w (d + 1) : Nat) : Int) := by
      rw [wrapI (x := 2 * ((hv W (i * w) w d : Nat) : Int)) (by omega) (by omega), hv]
      unfold bint
      rw [wrapI (by omega) (by omega)]; omega
    rw [spec_PackList_l1.eq, bif_dec (by omega), e1, wrapIn (z := i * w) (by omega), e2, at?_nat, Int.toNat_natCast, hg, Option.bind_some, Option.bind_some, e3, wrapI (x := (w : Int) - 1 - (d : Int) - 1) (by omega) (by omega), show (w : Int) - 1 - (d : Int) - 1 = (w : Int) - 1 - ((d + 1 : Nat) : Int) by omega]
    exact specPk_l1 i hi b V out ho r (d + 1) (by omega) (by omega)
theorem specPk_l0 (b : Int) (V : List Int) : ∀ (r i : Nat), n - i = r → i ≤ n → spec_PackList_l0 i w n b V (bints (bts (n * w) W)) (ints (pkL w i W)) = some (ints (pkL w n W))
  | 0, i, h1, h2 => by
    obtain rfl : i = n := by omega
    rw [spec_PackList_l0.eq, bif_ndec (by omega)]
  | r + 1, i, h1, h2 => by
    have h3 := specPk_l1 w n W hw hn hm hx ht i (by omega) b V (ints (pkL w i W)) (by rw [ints_len, pkL_len]; omega) _ 0 rfl (by omega)
    rw [spec_PackList_l0.eq, bif_dec (by omega), wrapI (x := (w : Int) - 1) (by omega) (by omega)]
    have e : ((w : Int) - 1 - ((0 : Nat) : Int)) = (w : Int) - 1 := by omega
    rw [e] at h3
    refine h3.trans ?_
    rw [pkL_snoc]
    exact specPk_l0 b V r (i + 1) (by omega) (by omega)
theorem implPk_l0 (i : Nat) (hi : i < n) : ∀ (r d : Nat), w - d = r → d ≤ w → impl_Packed_at_l0 i (hv W (i * w) w d : Nat) ((w : Int) - 1 - d) w n ((n * w : Nat) : Int) (ints W) = some ((hv W (i * w) w w : Nat) : Int)
  | 0, d, h1, h2 => by
    have _ := hn
    obtain rfl : d = w := by omega
    rw [impl_Packed_at_l0.eq, bif_ndec (by omega)]
  | r + 1, d, h1, h2 => by
    have hidx := pk_idx w n i d hi (by omega)
    have hl := hv_lt W (i * w) w d
    have hp : 2 ^ d ≤ 2 ^ 32 := Nat.pow_le_pow_right (by omega) (by omega)
    have e1 : ((i : Int) * (w : Int)) = ((i * w : Nat) : Int) := by simp
    have e2 : IntKind.i64.wrap (((i * w : Nat) : Int) + ((w : Int) - 1 - (d : Int))) = ((i * w + (w - (d + 1)) : Nat) : Int) := by rw [wrapI (by omega) (by omega)]; omega
    rw [impl_Packed_at_l0.eq, bif_dec (by omega), e1, wrapIn (z := i * w) (by omega), e2, bitsAt_eq _ W hx _ (by omega) (by have := ht.1; unfold nw at this; omega), Option.bind_some, or_big _ _ (by omega), wrapI (x := (w : Int) - 1 - (d : Int) - 1) (by omega) (by omega), show (w : Int) - 1 - (d : Int) - 1 = (w : Int) - 1 - ((d + 1 : Nat) : Int) by omega]
    exact implPk_l0 i hi r (d + 1) (by omega) (by omega)
theorem implPkL_l0 : ∀ (r i : Nat), n - i = r → i ≤ n → impl_PackList_l0 n i w n ((n * w : Nat) : Int) (ints W) (ints (pkL w i W)) = some (ints (pkL w n W))
  | 0, i, h1, h2 => by
    obtain rfl : i = n := by omega
    rw [impl_PackList_l0.eq, bif_ndec (by omega)]
  | r + 1, i, h1, h2 => by
    have h3 := implPk_l0 w n W hw hn hm hx ht i (by omega) _ 0 rfl (by omega)
    have e : ((w : Int) - 1 - ((0 : Nat) : Int)) = (w : Int) - 1 := by omega
    rw [e] at h3
    have h4 : impl_Packed_at ((w : Int), (n : Int), ((n * w : Nat) : Int), ints W) i = some ((hv W (i * w) w w : Nat) : Int) := by
      rw [impl_Packed_at.eq]
      simp only
      rw [wrapI (x := (w : Int) - 1) (by omega) (by omega)]
      exact h3
    rw [impl_PackList_l0.eq, bif_dec (by omega), h4, Option.bind_some, bif_dec (by simp only [List.length_cons, List.length_nil, ints_len, pkL_len]; omega), wrapS i (by omega), pkL_snoc]
    exact implPkL_l0 r (i + 1) (by omega) (by omega)
end
theorem pOk_nat {w n b : Int} {W : List Nat} (h : pOk w n b W = true) : ∃ w' n' : Nat, w = w' ∧ n = n' ∧ b = ((n' * w' : Nat) : Int) ∧ w' ≤ 32 ∧ n' ≤ 5000 ∧ n' * w' ≤ 5000 ∧ vOk ((n' * w' : Nat) : Int) W = true := by
  have h' := h
  simp only [pOk, vOk, Bool.and_eq_true, decide_eq_true_eq] at h'
  obtain ⟨⟨⟨⟨h1, h2⟩, h3, h4⟩, ⟨⟨h5, h6⟩, h7⟩⟩, h8⟩ := h'
  obtain ⟨w', rfl⟩ : ∃ m : Nat, w = m := ⟨w.toNat, by omega⟩
  obtain ⟨n', rfl⟩ : ∃ m : Nat, n = m := ⟨n.toNat, by omega⟩
  have hb : b = ((n' * w' : Nat) : Int) := by rw [h8, Nat.mul_comm]; simp
  refine ⟨w', n', rfl, rfl, hb, by omega, by omega, by omega, ?_⟩
  simp only [pOk, Bool.and_eq_true] at h
  rw [← hb]; exact h.1.2
theorem specPackList_eq (w n b : Int) (W : List Nat) (hl : W.length ≤ 1048576) (hx : ∀ x ∈ W, x < 2 ^ 64) : spec_PackList (w, n, b, ints W) = some (bif pOk w n b W then ints (pkL w.toNat n.toNat W) else []) := by
  rw [spec_PackList.eq, specPackOk_eq w n b W hl hx, Option.bind_some]
  cases h : pOk w n b W with
  | false => rfl
  | true =>
    obtain ⟨w', n', rfl, rfl, rfl, h1, h2, h3, h4⟩ := pOk_nat h
    have ht := (okW_iff (n' * w') W hx).1 (by simp only [vOk, Bool.and_eq_true, Int.toNat_natCast] at h4; exact h4.2)
    rw [Bool.not_true, bif_false, bif_true]
    simp only
    rw [l01List_eq (n' * w') W (by omega) (by have := ht.1; unfold nw at this; omega) hx, Option.bind_some, Int.toNat_natCast, Int.toNat_natCast]
    exact specPk_l0 w' n' W h1 h2 h3 hx ht _ _ _ 0 rfl (by omega)
theorem implPackList_eq (w n b : Int) (W : List Nat) (hl : W.length ≤ 1048576) (hx : ∀ x ∈ W, x < 2 ^ 64) : impl_PackList (w, n, b, ints W) = some (bif pOk w n b W then ints (pkL w.toNat n.toNat W) else []) := by
  rw [impl_PackList.eq, implPackOk_eq w n b W hl hx, Option.bind_some]
  cases h : pOk w n b W with
  | false => rfl
  | true =>
    obtain ⟨w', n', rfl, rfl, rfl, h1, h2, h3, h4⟩ := pOk_nat h
    have ht := (okW_iff (n' * w') W hx).1 (by simp only [vOk, Bool.and_eq_true, Int.toNat_natCast] at h4; exact h4.2)
    rw [Bool.not_true, bif_false, bif_true]
    simp only [Int.toNat_natCast]
    exact implPkL_l0 w' n' W h1 h2 h3 hx ht _ 0 rfl (by omega)
end Go.Ev.W

/- The law of bits, packed numbers and wavelet matrices in bytes: they are read back, whatever surrounds them. -/
set_option linter.unusedVariables false
set_option linter.unusedSimpArgs false
namespace Go.Ev.W
open Go.Ev

theorem wOk_zs {n : Int} {Z : List Int} {L : List (Int × List Nat)} (h : wOk n Z L = true) : L.map (fun p => ((zer (lvb p) (lvb p).length : Nat) : Int)) = Z := by
  obtain ⟨_, _, h3, h4, _⟩ := wOk_at h
  have hq := h
  simp only [wOk, Bool.and_eq_true, List.all_eq_true] at hq
  refine List.ext_getElem (by rw [List.length_map]; omega) fun i h1 h2 => ?_
  have hi : i < L.length := by omega
  have hz : i < (L.zip Z).length := by rw [List.length_zip]; omega
  have := hq.2 _ (List.getElem_mem hz)
  rw [List.getElem_zip] at this
  simp only [lOk, Bool.and_eq_true, decide_eq_true_eq] at this
  rw [List.getElem_map]
  exact this.2
theorem bb_pos {n : Int} {W : List Nat} (h : vOk n W = true) : 0 < (bb n W).length := by
  simp only [vOk, Bool.and_eq_true, decide_eq_true_eq] at h
  obtain ⟨m, rfl⟩ : ∃ m : Nat, n = m := ⟨n.toNat, by omega⟩
  have := varB_pos m
  unfold bb
  rw [Var_nat m (by omega), List.length_append]; omega
theorem bits_tell (n : Int) (W : List Nat) : decide (((ints (bif vOk n W then bb n W else [])).length : Int) > 0) = vOk n W := by
  cases h : vOk n W with
  | false => rfl
  | true =>
    have := bb_pos h
    rw [bif_true, ints_len, decide_eq_true (by omega)]
theorem pack_tell (w n b : Int) (W : List Nat) : decide (((ints (pB w n b W)).length : Int) > 0) = pOk w n b W := by
  unfold pB
  cases h : pOk w n b W with
  | false => rfl
  | true =>
    obtain ⟨w', n', rfl, rfl, rfl, h1, h2, h3, h4⟩ := pOk_nat h
    have := bb_pos h4
    rw [bif_true, ints_len, List.length_append, decide_eq_true (by omega)]
theorem wave_tell (n : Int) (Z : List Int) (L : List (Int × List Nat)) : decide (((ints (wB n Z L)).length : Int) > 0) = wOk n Z L := by
  unfold wB
  cases h : wOk n Z L with
  | false => rfl
  | true =>
    obtain ⟨_, _, _, h4, h5⟩ := wOk_at h
    rw [bif_true, ints_len]
    cases L with
    | nil => simp at h4
    | cons p L =>
      have := bb_pos (h5 p List.mem_cons_self).1
      rw [List.map_cons, List.flatten_cons, List.length_append, decide_eq_true (by omega)]
theorem tell_some (a b c d : Bool) (h1 : a = b) (h2 : c = d) (e f : Bool) (h3 : e = f) : (bif a == b then bif c == d then some (e == f) else some false else some false) = some true := by
  subst h1; subst h2; subst h3
  cases a <;> cases c <;> cases e <;> rfl
theorem sameW_l1 (a b : Int) (X Y : List Int) (hl : X.length = Y.length) (h : X.length < 4611686018427387904) : laws_sameBits_l1 0 a X b Y = some (decide (X = Y)) :=
  eq_loop (fun x y => some (!(x != y))) X Y hl h (fun x _ y _ => by rw [bne, Bool.not_not]; exact congrArg some (by rw [Bool.eq_iff_iff]; simp)) (fun i => laws_sameBits_l1 i a X b Y) (fun i => by rw [laws_sameBits_l1.eq]; simp only [Option.bind_some, Bool.not_not])
theorem sameW_self (a : Int) (X : List Int) (h : X.length < 4611686018427387904) : laws_sameBits (a, X) (a, X) = some true := by
  rw [laws_sameBits.eq]
  simp only
  rw [bif_nne rfl, bif_nne rfl, laws_sameBits_l0.eq, sameW_l1 a a X X rfl h, decide_eq_true rfl]
theorem sameP_self (a b c : Int) (X : List Int) (h : X.length < 4611686018427387904) : laws_samePack (a, b, c, X) (a, b, c, X) = some true := by
  rw [laws_samePack.eq]
  simp only
  rw [bif_eq rfl, bif_eq rfl, sameW_self c X h]; rfl
theorem sameI_self (X : List Int) (h : X.length < 4611686018427387904) : laws_same X X = some true := by
  rw [laws_same.eq, bif_nne rfl]
  have := eq_loop (fun x y => some (!(x != y))) X X rfl h (fun x _ y _ => by rw [bne, Bool.not_not]; exact congrArg some (by rw [Bool.eq_iff_iff]; simp)) (laws_same_l0 X X) (fun i => by rw [laws_same_l0.eq]; simp only [Option.bind_some, Bool.not_not])
  rw [this, decide_eq_true rfl]
theorem PRd_at {D C : List Nat} {a : Nat} {w n b : Int} {W : List Nat} (hx : ∀ x ∈ W, x < 2 ^ 64) (hp : pOk w n b W = true) (h : D.drop a = pB w n b W ++ C) : PRd D a = ((w, n, b, ints W), ((a + (pB w n b W).length : Nat) : Int), true) := by
  obtain ⟨w', n', rfl, rfl, rfl, h1, h2, h3, h4⟩ := pOk_nat hp
  have e : pB (w' : Int) (n' : Int) ((n' * w' : Nat) : Int) W = Var (w' : Int) ++ Var (n' : Int) ++ bb ((n' * w' : Nat) : Int) W := by unfold pB; rw [hp]; rfl
  rw [e, List.append_assoc, List.append_assoc] at h
  have v1 := VRd_at (by omega) h
  have d1 : D.drop (a + (Var (w' : Int)).length) = Var (n' : Int) ++ (bb ((n' * w' : Nat) : Int) W ++ C) := by rw [← List.drop_drop, h, List.drop_left]
  have v2 := VRd_at (by omega) d1
  have d2 : D.drop (a + (Var (w' : Int)).length + (Var (n' : Int)).length) = bb ((n' * w' : Nat) : Int) W ++ C := by rw [← List.drop_drop, d1, List.drop_left]
  have v3 := BRd_at hx h4 d2
  unfold PRd
  rw [v1]
  simp only
  rw [v2]
  simp only
  rw [v3]
  simp only [Bool.not_true, bif_false]
  rw [show (ints W).map Int.toNat = W from toNat_ints' W, hp, Bool.not_true, bif_false, e, List.length_append, List.length_append]
  simp only [Nat.add_assoc]
theorem WRd_at {D C : List Nat} {a : Nat} {n : Int} {Z : List Int} {L : List (Int × List Nat)} (hx : ∀ p ∈ L, ∀ x ∈ p.2, x < 2 ^ 64) (hw : wOk n Z L = true) (h : D.drop a = wB n Z L ++ C) : WRd D a = ((n, Z, LI L), ((a + (wB n Z L).length : Nat) : Int), true) := by
  obtain ⟨w1, w2, w3, w4, w5⟩ := wOk_at hw
  obtain ⟨N, rfl⟩ : ∃ N : Nat, n = N := ⟨n.toNat, by omega⟩
  have e : wB (N : Int) Z L = (L.map fun p => bb p.1 p.2).flatten := by unfold wB; rw [hw]; rfl
  rw [e] at h ⊢
  have := WL_at N L a 0 [] [] (fun p hp => ⟨(w5 p hp).2, (w5 p hp).1, hx p hp⟩) h
  rw [w4, if_neg (by intro h; rw [h] at w4; simp at w4), List.nil_append, List.nil_append, WL, wOk_zs hw, hw, bif_true] at this
  exact this
theorem pB_bytes' (w n b : Int) (W : List Nat) : ByteL (pB w n b W) := fun x hx => pB_bytes w n b W x hx
theorem wB_bytes (n : Int) (Z : List Int) (L : List (Int × List Nat)) : ByteL (wB n Z L) := by
  unfold wB
  cases wOk n Z L with
  | false => intro x hx; cases hx
  | true => exact fun x hx => lv_bytes L x hx
theorem wB_short (n : Int) (Z : List Int) (L : List (Int × List Nat)) : (wB n Z L).length ≤ 6300 := by
  unfold wB
  cases h : wOk n Z L with
  | false => simp
  | true => exact fmB_len 0 n Z L h
theorem law_FnFormsBack (xs : List Int) (hx : goodA tab laws_FnFormsBack.as xs) : laws_FnFormsBack.fn xs = some true := by
  show laws_FnFormsBack xs = some true
  rw [laws_FnFormsBack.eq, laws_FnFormsBack_l0.eq, bigD_eq, Option.bind_some]
  by_cases h : (xs.length : Int) > 1048576
  · rw [bif_dec h]
  rw [bif_ndec h]
  obtain ⟨c, e0, g0⟩ := open_ok xs (codeD_bytes hx h)
  obtain ⟨n, W, c1, e1, _, l1, x1⟩ := badBits_ok g0 (by omega)
  obtain ⟨w, pn, pb, PW, c2, e2, _, l2, x2⟩ := badPacked_ok g0 (by omega)
  obtain ⟨wn, Z, L, c3, e3, _, l3, l4, x3⟩ := wave_ok g0 (by omega)
  have q1 : spec_DrawBitsBytes xs = some (n, ints W) := by rw [spec_DrawBitsBytes.eq]; simp only [e0, Option.bind_some, e1]
  have q2 : spec_DrawPackBytes xs = some (w, pn, pb, ints PW) := by rw [spec_DrawPackBytes.eq]; simp only [e0, Option.bind_some, e2]
  have q3 : spec_DrawWaveBytes xs = some (wn, Z, LI L) := by rw [spec_DrawWaveBytes.eq]; simp only [e0, Option.bind_some, e3]
  have hLl : ∀ p ∈ L, p.2.length ≤ 1048576 := fun p hp => by have := (x3 p hp).1; omega
  have hLx : ∀ p ∈ L, ∀ x ∈ p.2, x < 2 ^ 64 := fun p hp => (x3 p hp).2
  have a1 := specBitsOk_eq n W (by omega) x1
  have a2 := specPackOk_eq w pn pb PW (by omega) x2
  have a3 := specWaveOk_eq wn Z L hLl hLx
  have b1 := implBitsBytes_eq n W (by omega) x1
  have b2 := implPackBytes_eq w pn pb PW (by omega) x2
  have b3 := implWaveBytes_eq wn Z L hLl hLx
  have t1 := bits_tell n W
  have t2 := pack_tell w pn pb PW
  have t3 := wave_tell wn Z L
  have tell := tell_some _ _ _ _ t1 t2 _ _ t3
  rw [laws_FnFormsBack_l1.eq, q1, Option.bind_some, laws_FnFormsBack_l2.eq, q2, Option.bind_some, laws_FnFormsBack_l3.eq, q3, Option.bind_some, laws_FnFormsBack_l4.eq, a1, Option.bind_some]
  cases k1 : vOk n W with
  | false =>
    rw [k1] at t1 b1 tell
    rw [Bool.not_false, bif_true, b1, Option.bind_some, Option.bind_some, b2, Option.bind_some, a2, Option.bind_some, b3, Option.bind_some, a3, Option.bind_some]
    exact tell
  | true =>
    rw [Bool.not_true, bif_false, a2, Option.bind_some]
    cases k2 : pOk w pn pb PW with
    | false =>
      rw [k2] at t2 tell
      rw [k1] at b1 t1 tell
      rw [Bool.not_false, bif_true, b1, Option.bind_some, Option.bind_some, b2, Option.bind_some, Option.bind_some, b3, Option.bind_some, a3, Option.bind_some]
      exact tell
    | true =>
      rw [Bool.not_true, bif_false, a3, Option.bind_some]
      cases k3 : wOk wn Z L with
      | false =>
        rw [k3] at t3 tell
        rw [k2] at t2 tell
        rw [k1] at b1 t1 tell
        rw [Bool.not_false, bif_true, b1, Option.bind_some, Option.bind_some, b2, Option.bind_some, Option.bind_some, b3, Option.bind_some, Option.bind_some]
        exact tell
      | true =>
        rw [Bool.not_true, bif_false]
        have k1' := k1
        simp only [vOk, Bool.and_eq_true, decide_eq_true_eq] at k1'
        obtain ⟨m, rfl⟩ : ∃ m : Nat, n = m := ⟨n.toNat, by omega⟩
        rw [k1, bif_true] at b1
        have s1 : (bb (m : Int) W).length ≤ 1000 := by
          have := Var_len (m : Int)
          unfold bb
          rw [List.length_append, bys_length, bts_length, Int.toNat_natCast]; omega
        have s2 := pB_len w pn pb PW
        have s3 := wB_short wn Z L
        obtain ⟨A, hA⟩ : ∃ A, A = [9] ++ bb (m : Int) W ++ pB w pn pb PW ++ wB wn Z L ++ [3, 4] := ⟨_, rfl⟩
        have hAl : A.length = 1 + (bb (m : Int) W).length + (pB w pn pb PW).length + (wB wn Z L).length + 2 := by
          rw [hA]; simp only [List.length_append, List.length_cons, List.length_nil]
        have hAb : ByteL A := by
          rw [hA]
          refine ((((ByteL.app ?_ (bb_bytes _ _)).app (pB_bytes' _ _ _ _)).app (wB_bytes _ _ _)).app ?_)
          · intro x hx; rw [List.mem_singleton.1 hx]; omega
          · intro x hx; simp only [List.mem_cons, List.not_mem_nil, or_false] at hx; omega
        have hAi : ((([(9 : Int)] ++ ints (bb (m : Int) W)) ++ ints (pB w pn pb PW)) ++ ints (wB wn Z L)) ++ [(3 : Int), (4 : Int)] = ints A := by
          rw [hA]; simp only [List.map_append, List.map_cons, List.map_nil]; rfl
        have dr1 : A.drop 1 = bb (m : Int) W ++ (pB w pn pb PW ++ (wB wn Z L ++ [3, 4])) := by rw [hA]; simp only [List.append_assoc]; rfl
        have dr2 : A.drop (1 + (bb (m : Int) W).length) = pB w pn pb PW ++ (wB wn Z L ++ [3, 4]) := by rw [← List.drop_drop, dr1, List.drop_left]
        have dr3 : A.drop (1 + (bb (m : Int) W).length + (pB w pn pb PW).length) = wB wn Z L ++ [3, 4] := by rw [← List.drop_drop, dr2, List.drop_left]
        have r1 := implBitsRead_eq A hAb (by omega) ((1 : Nat) : Int)
        rw [BRd_at x1 k1 dr1] at r1
        have r2 := implPackRead_eq A hAb (by omega) ((1 + (bb (m : Int) W).length : Nat) : Int)
        rw [PRd_at x2 k2 dr2] at r2
        have r3 := implWaveRead_eq A hAb (by omega) ((1 + (bb (m : Int) W).length + (pB w pn pb PW).length : Nat) : Int)
        rw [WRd_at hLx k3 dr3] at r3
        have r1' : impl_BitsRead (ints A) 1 = _ := r1
        have z1 := sameW_self (m : Int) (ints W) (by rw [ints_len]; omega)
        have z2 := sameP_self w pn pb (ints PW) (by rw [ints_len]; omega)
        have z3 := specWaveList_eq wn Z L hLl hLx
        rw [k3, bif_true] at z3
        have w5 := wOk_at k3
        have z4 := sameI_self (ints (wList wn.toNat L)) (by rw [ints_len, wList_len]; omega)
        rw [laws_FnFormsBack_l5.eq, b1, Option.bind_some, bif_dec (by rw [ints_len]; simp only [List.length_cons, List.length_nil]; omega), laws_FnFormsBack_l6.eq, b2, Option.bind_some,
          bif_dec (by simp only [List.length_append, ints_len, List.length_cons, List.length_nil]; omega), b3, Option.bind_some, bif_dec (by simp only [List.length_append, ints_len, List.length_cons, List.length_nil]; omega),
          bif_dec (by simp only [List.length_append, ints_len, List.length_cons, List.length_nil]; omega), hAi, laws_FnFormsBack_l7.eq, r1', Option.bind_some, laws_FnFormsBack_l8.eq, r2, Option.bind_some, laws_FnFormsBack_l9.eq, r3, Option.bind_some,
          laws_FnFormsBack_l10.eq, bif_true, bif_true, bif_true, ints_len, wrapI (by omega) (by omega), bif_eq (by dsimp only; omega), z1, Option.bind_some, bif_true, z2, Option.bind_some, bif_true, z3, Option.bind_some, Option.bind_some, z4]
        rfl
end Go.Ev.W
