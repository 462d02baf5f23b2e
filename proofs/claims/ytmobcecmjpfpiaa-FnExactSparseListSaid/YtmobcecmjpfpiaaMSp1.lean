/- Sparse lists: widths, packed numbers as a list. -/
import Derived.Test.YtmobcecmjpfpiaaEvC
import Derived.Test.YtmobcecmjpfpiaaPp1
import Derived.Test.YtmobcecmjpfpiaaMFm1
import Derived.Test.YtmobcecmjpfpiaaMSp0
set_option linter.unusedVariables false
set_option linter.unusedSimpArgs false
namespace Go.Ev.W
open Go.Ev

/-! #### widths -/
theorem wdF_fuel : ∀ (f j n : Nat), n < 2 ^ j → j ≤ f → wdF f n = wdF j n
  | 0, j, n, h, hj => by
    obtain rfl : j = 0 := by omega
    rfl
  | f + 1, 0, n, h, hj => by
    obtain rfl : n = 0 := by simpa using h
    simp [wdF]
  | f + 1, j + 1, n, h, hj => by
    rw [wdF, wdF]
    by_cases h0 : n = 0
    · rw [if_pos h0, if_pos h0]
    · rw [if_neg h0, if_neg h0, wdF_fuel f j (n / 2) (by rw [Nat.pow_succ] at h; omega) (by omega)]
theorem wdF_half : ∀ (k f n : Nat), 2 ^ k ≤ n → wdF (f + k) n = wdF f (n / 2 ^ k) + k
  | 0, f, n, _ => by simp
  | k + 1, f, n, h => by
    rw [Nat.pow_succ] at h
    have h0 : n ≠ 0 := by have := Nat.two_pow_pos k; omega
    rw [show f + (k + 1) = (f + k) + 1 by omega, wdF, if_neg h0, wdF_half k f (n / 2) (by omega), Nat.div_div_eq_div_mul, Nat.pow_succ, Nat.mul_comm 2, Nat.add_assoc]
theorem wd_half (k n : Nat) (hk : k ≤ 16) (h : 2 ^ k ≤ n) (hn : n < 1099511627776) : wd n = wd (n / 2 ^ k) + k := by
  unfold wd
  have h1 := wdF_half k (64 - k) n h
  rw [show 64 - k + k = 64 by omega] at h1
  have h2 : n / 2 ^ k < 2 ^ 40 := Nat.lt_of_le_of_lt (Nat.div_le_self _ _) (by omega)
  rw [h1, wdF_fuel (64 - k) 40 _ h2 (by omega), wdF_fuel 64 40 _ h2 (by omega)]
theorem len_a : ∀ n : Nat, n < 256 → bits_Len64_l1 (n : Int) 0 = some ((wd n : Nat) : Int) := by
  intro n
  rw [bits_Len64_l1.eq]
  revert n
  decide +kernel
theorem len_b (n : Nat) (h : 256 ≤ n) (h2 : n < 65536) : bits_Len64_l1 (n : Int) 0 = some ((wd n : Nat) : Int) := by
  rw [bits_Len64_l1.eq, bif_dec (by omega), fdiv_nat, wd_half 8 n (by omega) (by omega) (by omega), show 2 ^ 8 = 256 from rfl]
  have hm : n / 256 < 256 := by omega
  generalize n / 256 = m at hm
  revert m
  decide +kernel
theorem len_c (n : Nat) (h : 65536 ≤ n) (h2 : n < 16777216) : bits_Len64_l1 ((n / 65536 : Nat) : Int) 16 = some ((wd n : Nat) : Int) := by
  rw [bits_Len64_l1.eq, bif_ndec (by omega), wd_half 16 n (by omega) (by omega) (by omega), show 2 ^ 16 = 65536 from rfl]
  have hm : n / 65536 < 256 := by omega
  generalize n / 65536 = m at hm
  revert m
  decide +kernel
theorem implWidthG_eq (n : Nat) (h : n < 16777216) : impl_WidthOf n = some ((wd n : Nat) : Int) := by
  rw [impl_WidthOf.eq, bif_ndec (by omega), wrapUn (by omega), bits_Len.eq, bits_Len64.eq, bif_ndec (by omega), bits_Len64_l0.eq]
  by_cases h1 : 65536 ≤ n
  · rw [bif_dec (by omega), fdiv_nat, show IntKind.i64.wrap ((0 : Int) + 16) = 16 from rfl, show 2 ^ 16 = 65536 from rfl, len_c n h1 h]; rfl
  · rw [bif_ndec (by omega)]
    by_cases h2 : 256 ≤ n
    · rw [len_b n h2 (by omega)]; rfl
    · rw [len_a n (by omega)]; rfl
theorem wd_le20 {n : Nat} (h : n ≤ 1000000) : wd n ≤ 20 := wdF_le 64 n 20 (by omega)
theorem specLw_eq (n U : Nat) (hU : U ≤ 1000000) (hn : n ≤ 1000000) : spec_l03Width n U = some ((lwd n U : Nat) : Int) := by
  rw [spec_l03Width.eq]
  unfold lwd
  by_cases h : n = 0
  · subst h; rfl
  · have hd : U / n ≤ U := Nat.div_le_self _ _
    have hw := wd_le20 (n := U / n) (by omega)
    have e : (U : Int).tdiv (n : Int) = ((U / n : Nat) : Int) := rfl
    rw [bif_neq (by omega), bif_ndec (by omega), if_neg h, e, wrapIn (by omega), specWidth_eq _ (by omega), Option.bind_some, wrapI (x := ((wd (U / n) : Nat) : Int) - 1) (by omega) (by omega)]
    congr 1
    by_cases h1 : ((wd (U / n) : Nat) : Int) - 1 > 0
    · rw [if_pos h1]; omega
    · rw [if_neg h1]; omega
theorem implLw_eq (n U : Nat) (hU : U ≤ 1000000) (hn : n ≤ 1000000) : impl_lowWidth U n = some ((lwd n U : Nat) : Int) := by
  rw [impl_lowWidth.eq]
  unfold lwd
  by_cases h : n = 0
  · subst h; rfl
  · have hd : U / n ≤ U := Nat.div_le_self _ _
    have hw := wd_le20 (n := U / n) (by omega)
    have e : (U : Int).tdiv (n : Int) = ((U / n : Nat) : Int) := rfl
    rw [bif_neq (by omega), bif_ndec (by omega), if_neg h, e, wrapIn (by omega), implWidthG_eq _ (by omega), Option.bind_some, wrapI (x := ((wd (U / n) : Nat) : Int) - 1) (by omega) (by omega)]
    congr 1
    by_cases h1 : (0 : Int) > ((wd (U / n) : Nat) : Int) - 1
    · rw [if_pos h1]; omega
    · rw [if_neg h1]; omega
theorem lwd_le (n U : Nat) (hU : U ≤ 1000000) : lwd n U ≤ 19 := by
  unfold lwd
  split
  · omega
  · have hd : U / n ≤ U := Nat.div_le_self _ _
    have hw := wd_le20 (n := U / n) (by omega)
    omega

/-! #### packed numbers as a list -/
def hv (W : List Nat) (o w : Nat) : Nat → Nat
  | 0 => 0
  | d + 1 => 2 * hv W o w d + (bit W (o + (w - (d + 1)))).toNat
theorem hv_lt (W : List Nat) (o w : Nat) : ∀ d, hv W o w d < 2 ^ d
  | 0 => by show 0 < 2 ^ 0; omega
  | d + 1 => by
    have := hv_lt W o w d
    have hb : (bit W (o + (w - (d + 1)))).toNat ≤ 1 := by cases bit W (o + (w - (d + 1))) <;> simp
    rw [hv, Nat.pow_succ]; omega
def pkL (w n : Nat) (W : List Nat) : List Nat := (List.range n).map fun i => hv W (i * w) w w
theorem pkL_len (w n : Nat) (W : List Nat) : (pkL w n W).length = n := by unfold pkL; rw [List.length_map, List.length_range]
theorem pkL_lt (w n : Nat) (W : List Nat) : ∀ x ∈ pkL w n W, x < 2 ^ w := by
  intro x hx
  unfold pkL at hx
  obtain ⟨i, _, rfl⟩ := List.mem_map.1 hx
  exact hv_lt W _ w w
theorem pkL_snoc (w : Nat) (W : List Nat) (i : Nat) : ints (pkL w i W) ++ [((hv W (i * w) w w : Nat) : Int)] = ints (pkL w (i + 1) W) := by
  rw [ints_snoc]
  unfold pkL
  rw [List.range_succ, List.map_append]; rfl
theorem or_big (v : Nat) (b : Bool) (hv : v < 1099511627776) : IntKind.i64.wrap (((BitVec.ofInt 64 (IntKind.i64.wrap ((v : Int) * 2 ^ 1))) ||| (BitVec.ofInt 64 (bint b))).toNat : Int) = ((2 * v + b.toNat : Nat) : Int) := by
  have e1 : (v : Int) * 2 ^ 1 = ((2 * v : Nat) : Int) := by simp; omega
  have hb : b.toNat ≤ 1 := by cases b <;> simp
  have e3 : IntKind.i64.wrap ((2 * v : Nat) : Int) = ((2 * v : Nat) : Int) := wrapIn (by omega)
  rw [e1, e3]
  have h1 := bv_or 64 (2 * v) b.toNat (by omega) (by omega)
  unfold bint
  have e2 : 2 * v ||| b.toNat = 2 * v + b.toNat := by
    have := Nat.two_pow_add_eq_or_of_lt (i := 1) (b := b.toNat) (by omega) v
    simpa using this.symm
  rw [h1, e2, wrapIn (by omega)]
theorem pk_idx (w n i d : Nat) (hi : i < n) (hd : d < w) : i * w + (w - (d + 1)) < n * w := by
  have : (i + 1) * w ≤ n * w := Nat.mul_le_mul_right _ (by omega)
  rw [Nat.add_mul] at this; omega
section
variable (w n : Nat) (W : List Nat) (hw : w ≤ 32) (hn : n ≤ 5000) (hm : n * w ≤ 5000) (hx : ∀ x ∈ W, x < 2 ^ 64) (ht : tight (n * w) W)
include hw hn hm hx ht
theorem specPk_l1 (i : Nat) (hi : i < n) (b : Int) (V out : List Int) (ho : out.length ≤ 10000) : ∀ (r d : Nat), w - d = r → d ≤ w →
    spec_PackList_l1 i (hv W (i * w) w d : Nat) ((w : Int) - 1 - d) w n b V (bints (bts (n * w) W)) out = spec_PackList_l0 (i + 1 : Nat) w n b V (bints (bts (n * w) W)) (out ++ [((hv W (i * w) w w : Nat) : Int)])
  | 0, d, h1, h2 => by
    have _ := hx
    obtain rfl : d = w := by omega
    rw [spec_PackList_l1.eq, bif_ndec (by omega), bif_dec (by simp only [List.length_cons, List.length_nil]; omega), wrapS i (by omega)]
  | r + 1, d, h1, h2 => by
    have hidx := pk_idx w n i d hi (by omega)
    have hl := hv_lt W (i * w) w d
    have hp : 2 ^ d ≤ 2 ^ 32 := Nat.pow_le_pow_right (by omega) (by omega)
    have hb := bts_length (n * w) W
    have hg : (bints (bts (n * w) W))[i * w + (w - (d + 1))]? = some (bint (bit W (i * w + (w - (d + 1))))) := by
      rw [List.getElem?_map, bts_get _ _ _ hidx]; rfl
    have hbt : (bit W (i * w + (w - (d + 1)))).toNat ≤ 1 := by cases bit W (i * w + (w - (d + 1))) <;> simp
    have e1 : ((i : Int) * (w : Int)) = ((i * w : Nat) : Int) := by simp
    have e2 : IntKind.i64.wrap (((i * w : Nat) : Int) + ((w : Int) - 1 - (d : Int))) = ((i * w + (w - (d + 1)) : Nat) : Int) := by rw [wrapI (by omega) (by omega)]; omega
    have e3 : IntKind.i64.wrap (IntKind.i64.wrap (2 * ((hv W (i * w) w d : Nat) : Int)) + bint (bit W (i * w + (w - (d + 1))))) = ((hv W (i * w) w (d + 1) : Nat) : Int) := by
      rw [wrapI (x := 2 * ((hv W (i * w) w d : Nat) : Int)) (by omega) (by omega), hv]
      unfold bint
      rw [wrapI (by omega) (by omega)]; omega
    rw [spec_PackList_l1.eq, bif_dec (by omega), e1, wrapIn (z := i * w) (by omega), e2, at?_nat, Int.toNat_natCast, hg, Option.bind_some, Option.bind_some, e3, wrapI (x := (w : Int) - 1 - (d : Int) - 1) (by omega) (by omega), show (w : Int) - 1 - (d : Int) - 1 = (w : Int) - 1 - ((d + 1 : Nat) : Int) by omega]
    exact specPk_l1 i hi b V out ho r (d + 1) (by omega) (by omega)
theorem specPk_l0 (b : Int) (V : List Int) : ∀ (r i : Nat), n - i = r → i ≤ n → spec_PackList_l0 i w n b V (bints (bts (n * w) W)) (ints (pkL w i W)) = some (ints (pkL w n W))
  | 0, i, h1, h2 => by
    obtain rfl : i = n := by omega
    rw [spec_PackList_l0.eq, bif_ndec (by omega)]
  | r + 1, i, h1, h2 => by
    have h3 := specPk_l1 w n W hw hn hm hx ht i (by omega) b V (ints (pkL w i W)) (by rw [ints_len, pkL_len]; omega) _ 0 rfl (by omega)
    rw [spec_PackList_l0.eq, bif_dec (by omega), wrapI (x := (w : Int) - 1) (by omega) (by omega)]
    have e : ((w : Int) - 1 - ((0 : Nat) : Int)) = (w : Int) - 1 := by omega
    rw [e] at h3
    refine h3.trans ?_
    rw [pkL_snoc]
    exact specPk_l0 b V r (i + 1) (by omega) (by omega)
theorem implPk_l0 (i : Nat) (hi : i < n) : ∀ (r d : Nat), w - d = r → d ≤ w → impl_Packed_at_l0 i (hv W (i * w) w d : Nat) ((w : Int) - 1 - d) w n ((n * w : Nat) : Int) (ints W) = some ((hv W (i * w) w w : Nat) : Int)
  | 0, d, h1, h2 => by
    have _ := hn
    obtain rfl : d = w := by omega
    rw [impl_Packed_at_l0.eq, bif_ndec (by omega)]
  | r + 1, d, h1, h2 => by
    have hidx := pk_idx w n i d hi (by omega)
    have hl := hv_lt W (i * w) w d
    have hp : 2 ^ d ≤ 2 ^ 32 := Nat.pow_le_pow_right (by omega) (by omega)
    have e1 : ((i : Int) * (w : Int)) = ((i * w : Nat) : Int) := by simp
    have e2 : IntKind.i64.wrap (((i * w : Nat) : Int) + ((w : Int) - 1 - (d : Int))) = ((i * w + (w - (d + 1)) : Nat) : Int) := by rw [wrapI (by omega) (by omega)]; omega
    rw [impl_Packed_at_l0.eq, bif_dec (by omega), e1, wrapIn (z := i * w) (by omega), e2, bitsAt_eq _ W hx _ (by omega) (by have := ht.1; unfold nw at this; omega), Option.bind_some, or_big _ _ (by omega), wrapI (x := (w : Int) - 1 - (d : Int) - 1) (by omega) (by omega), show (w : Int) - 1 - (d : Int) - 1 = (w : Int) - 1 - ((d + 1 : Nat) : Int) by omega]
    exact implPk_l0 i hi r (d + 1) (by omega) (by omega)
theorem implPkL_l0 : ∀ (r i : Nat), n - i = r → i ≤ n → impl_PackList_l0 n i w n ((n * w : Nat) : Int) (ints W) (ints (pkL w i W)) = some (ints (pkL w n W))
  | 0, i, h1, h2 => by
    obtain rfl : i = n := by omega
    rw [impl_PackList_l0.eq, bif_ndec (by omega)]
  | r + 1, i, h1, h2 => by
    have h3 := implPk_l0 w n W hw hn hm hx ht i (by omega) _ 0 rfl (by omega)
    have e : ((w : Int) - 1 - ((0 : Nat) : Int)) = (w : Int) - 1 := by omega
    rw [e] at h3
    have h4 : impl_Packed_at ((w : Int), (n : Int), ((n * w : Nat) : Int), ints W) i = some ((hv W (i * w) w w : Nat) : Int) := by
      rw [impl_Packed_at.eq]
      simp only
      rw [wrapI (x := (w : Int) - 1) (by omega) (by omega)]
      exact h3
    rw [impl_PackList_l0.eq, bif_dec (by omega), h4, Option.bind_some, bif_dec (by simp only [List.length_cons, List.length_nil, ints_len, pkL_len]; omega), wrapS i (by omega), pkL_snoc]
    exact implPkL_l0 r (i + 1) (by omega) (by omega)
end
theorem pOk_nat {w n b : Int} {W : List Nat} (h : pOk w n b W = true) : ∃ w' n' : Nat, w = w' ∧ n = n' ∧ b = ((n' * w' : Nat) : Int) ∧ w' ≤ 32 ∧ n' ≤ 5000 ∧ n' * w' ≤ 5000 ∧ vOk ((n' * w' : Nat) : Int) W = true := by
  have h' := h
  simp only [pOk, vOk, Bool.and_eq_true, decide_eq_true_eq] at h'
  obtain ⟨⟨⟨⟨h1, h2⟩, h3, h4⟩, ⟨⟨h5, h6⟩, h7⟩⟩, h8⟩ := h'
  obtain ⟨w', rfl⟩ : ∃ m : Nat, w = m := ⟨w.toNat, by omega⟩
  obtain ⟨n', rfl⟩ : ∃ m : Nat, n = m := ⟨n.toNat, by omega⟩
  have hb : b = ((n' * w' : Nat) : Int) := by rw [h8, Nat.mul_comm]; simp
  refine ⟨w', n', rfl, rfl, hb, by omega, by omega, by omega, ?_⟩
  simp only [pOk, Bool.and_eq_true] at h
  rw [← hb]; exact h.1.2
theorem specPackList_eq (w n b : Int) (W : List Nat) (hl : W.length ≤ 1048576) (hx : ∀ x ∈ W, x < 2 ^ 64) : spec_PackList (w, n, b, ints W) = some (bif pOk w n b W then ints (pkL w.toNat n.toNat W) else []) := by
  rw [spec_PackList.eq, specPackOk_eq w n b W hl hx, Option.bind_some]
  cases h : pOk w n b W with
  | false => rfl
  | true =>
    obtain ⟨w', n', rfl, rfl, rfl, h1, h2, h3, h4⟩ := pOk_nat h
    have ht := (okW_iff (n' * w') W hx).1 (by simp only [vOk, Bool.and_eq_true, Int.toNat_natCast] at h4; exact h4.2)
    rw [Bool.not_true, bif_false, bif_true]
    simp only
    rw [l01List_eq (n' * w') W (by omega) (by have := ht.1; unfold nw at this; omega) hx, Option.bind_some, Int.toNat_natCast, Int.toNat_natCast]
    exact specPk_l0 w' n' W h1 h2 h3 hx ht _ _ _ 0 rfl (by omega)
theorem implPackList_eq (w n b : Int) (W : List Nat) (hl : W.length ≤ 1048576) (hx : ∀ x ∈ W, x < 2 ^ 64) : impl_PackList (w, n, b, ints W) = some (bif pOk w n b W then ints (pkL w.toNat n.toNat W) else []) := by
  rw [impl_PackList.eq, implPackOk_eq w n b W hl hx, Option.bind_some]
  cases h : pOk w n b W with
  | false => rfl
  | true =>
    obtain ⟨w', n', rfl, rfl, rfl, h1, h2, h3, h4⟩ := pOk_nat h
    have ht := (okW_iff (n' * w') W hx).1 (by simp only [vOk, Bool.and_eq_true, Int.toNat_natCast] at h4; exact h4.2)
    rw [Bool.not_true, bif_false, bif_true]
    simp only [Int.toNat_natCast]
    exact implPkL_l0 w' n' W h1 h2 h3 hx ht _ 0 rfl (by omega)
end Go.Ev.W
