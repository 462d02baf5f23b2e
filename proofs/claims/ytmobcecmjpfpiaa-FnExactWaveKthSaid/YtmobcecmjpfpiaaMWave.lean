/- Waves: what decoding comes to. -/
import Derived.Test.YtmobcecmjpfpiaaEvC
import Derived.Test.YtmobcecmjpfpiaaPp3
import Derived.Test.YtmobcecmjpfpiaaPp9
import Derived.Test.YtmobcecmjpfpiaaMBits
set_option linter.unusedVariables false
set_option linter.unusedSimpArgs false
namespace Go.Ev.W
open Go.Ev

/-! #### zeros and ones before a place -/
def zer (bs : List Bool) (k : Nat) : Nat := ((bs.take k).filter (!·)).length
def one (bs : List Bool) (k : Nat) : Nat := ((bs.take k).filter id).length
theorem zer_zero (bs : List Bool) : zer bs 0 = 0 := by simp [zer]
theorem one_zero (bs : List Bool) : one bs 0 = 0 := by simp [one]
theorem zer_succ (bs : List Bool) (k : Nat) (h : k < bs.length) : zer bs (k + 1) = zer bs k + (if bs[k] then 0 else 1) := by
  unfold zer
  rw [List.take_add_one, List.getElem?_eq_getElem h, List.filter_append, List.length_append]
  cases bs[k] <;> simp
theorem one_succ (bs : List Bool) (k : Nat) (h : k < bs.length) : one bs (k + 1) = one bs k + (if bs[k] then 1 else 0) := by
  unfold one
  rw [List.take_add_one, List.getElem?_eq_getElem h, List.filter_append, List.length_append]
  cases bs[k] <;> simp
theorem zer_one (bs : List Bool) : ∀ k, k ≤ bs.length → zer bs k + one bs k = k
  | 0, _ => by rw [zer_zero, one_zero]
  | k + 1, h => by
    have := zer_one bs k (by omega)
    rw [zer_succ bs k (by omega), one_succ bs k (by omega)]
    cases bs[k] <;> simp <;> omega
theorem zer_mono (bs : List Bool) (k : Nat) : ∀ d, k + d ≤ bs.length → zer bs k ≤ zer bs (k + d)
  | 0, _ => Nat.le_refl _
  | d + 1, h => by
    have := zer_mono bs k d (by omega)
    rw [← Nat.add_assoc, zer_succ bs (k + d) (by omega)]; omega
theorem one_mono (bs : List Bool) (k : Nat) : ∀ d, k + d ≤ bs.length → one bs k ≤ one bs (k + d)
  | 0, _ => Nat.le_refl _
  | d + 1, h => by
    have := one_mono bs k d (by omega)
    rw [← Nat.add_assoc, one_succ bs (k + d) (by omega)]; omega
/-- Where row j of a level stands in the next. -/
def nxt (bs : List Bool) (j : Nat) : Nat := if bs.getD j false then zer bs bs.length + one bs j else zer bs j
theorem nxt_lt (bs : List Bool) (j : Nat) (h : j < bs.length) : nxt bs j < bs.length := by
  unfold nxt
  have h1 := zer_one bs bs.length (Nat.le_refl _)
  have h2 := zer_mono bs (j + 1) (bs.length - (j + 1)) (by omega)
  have h3 := one_mono bs (j + 1) (bs.length - (j + 1)) (by omega)
  have h4 := zer_succ bs j h
  have h5 := one_succ bs j h
  have e : j + 1 + (bs.length - (j + 1)) = bs.length := by omega
  rw [e] at h2 h3
  rw [List.getD_eq_getElem?_getD, List.getElem?_eq_getElem h, Option.getD_some]
  cases hb : bs[j] with
  | true => rw [hb] at h5; simp at h5 ⊢; omega
  | false => rw [hb] at h4; simp at h4 ⊢; omega
/-- One level's step: a place and the number so far. -/
def stp (bs : List Bool) (s : Nat × Nat) : Nat × Nat := (nxt bs s.1, 2 * s.2 + (bs.getD s.1 false).toNat)

/-! #### the program's helpers -/
theorem at?_bints (bs : List Bool) (i : Nat) (h : i < bs.length) : at? (bints bs) (i : Int) = some (bint bs[i]) := by
  rw [at?_nat, List.getElem?_map, List.getElem?_eq_getElem h]; rfl
theorem get?_bints (bs : List Bool) (i : Nat) (h : i < bs.length) : (bints bs)[i]? = some (bint bs[i]) := by
  rw [List.getElem?_map, List.getElem?_eq_getElem h]; rfl
theorem bint_zero (b : Bool) : (bint b == (0 : Int)) = !b := by cases b <;> rfl
theorem count_l0 (bs : List Bool) (hn : bs.length ≤ 5000) : ∀ (d i : Nat), bs.length - i = d → i ≤ bs.length → impl_count_l0 0 (zer bs i : Nat) (bints bs) bs.length i = some ((zer bs bs.length : Nat) : Int) := by
  intro d
  induction d with
  | zero =>
    intro i h1 h2
    obtain rfl : i = bs.length := by omega
    rw [impl_count_l0.eq, bif_ndec (by omega)]
  | succ d ih =>
    intro i h1 h2
    have hi : i < bs.length := by omega
    have hz := zer_one bs i h2
    rw [impl_count_l0.eq, bif_dec (by omega), at?_bints bs i hi, Option.bind_some, bint_zero]
    have := ih (i + 1) (by omega) (by omega)
    rw [zer_succ bs i hi] at this
    cases hb : bs[i] with
    | true =>
      rw [hb] at this
      simp only [if_true, Nat.add_zero] at this
      rw [Bool.not_true, bif_false, wrapS i (by omega)]; exact this
    | false =>
      rw [hb] at this
      simp only [Bool.false_eq_true, if_false] at this
      rw [Bool.not_false, bif_true, wrapS i (by omega), wrapS _ (by omega)]; exact this
theorem count_eq (bs : List Bool) (hn : bs.length ≤ 5000) : impl_count (bints bs) 0 = some ((zer bs bs.length : Nat) : Int) := by
  rw [impl_count.eq, List.length_map]
  have := count_l0 bs hn _ 0 rfl (by omega)
  rw [zer_zero] at this
  exact this
theorem rank_l1 (bs : List Bool) (hn : bs.length ≤ 5000) : ∀ (d i : Nat), bs.length - i = d → i ≤ bs.length → spec_Rank_l1 0 bs.length (zer bs i : Nat) i (bints bs) = some ((zer bs bs.length : Nat) : Int) := by
  intro d
  induction d with
  | zero =>
    intro i h1 h2
    obtain rfl : i = bs.length := by omega
    rw [spec_Rank_l1.eq, bif_ndec (by omega)]
  | succ d ih =>
    intro i h1 h2
    have hi : i < bs.length := by omega
    have hz := zer_one bs i h2
    rw [spec_Rank_l1.eq, bif_dec (by omega), at?_bints bs i hi, Option.bind_some, Int.toNat_natCast, get?_bints bs i hi, Option.bind_some, bint_zero]
    have := ih (i + 1) (by omega) (by omega)
    rw [zer_succ bs i hi] at this
    cases hb : bs[i] with
    | true =>
      rw [hb] at this
      simp only [if_true, Nat.add_zero] at this
      rw [Bool.not_true, bif_false, wrapS i (by omega)]; exact this
    | false =>
      rw [hb] at this
      simp only [Bool.false_eq_true, if_false] at this
      rw [Bool.not_false, bif_true, wrapS i (by omega), wrapS _ (by omega)]; exact this
theorem rank_eq (m : Nat) (W : List Nat) (hm : m ≤ 5000) (hl : W.length ≤ 1048576) (hx : ∀ x ∈ W, x < 2 ^ 64) (hv : vOk m W = true) : spec_Rank ((m : Int), ints W) 0 m = some ((zer (bts m W) m : Nat) : Int) := by
  rw [spec_Rank.eq]
  try simp only
  have ht := (okW_iff m W hx).1 (by simp only [vOk, Bool.and_eq_true] at hv; simpa using hv.2)
  have hb := bts_length m W
  rw [specBitsOk_eq _ W hl hx, Option.bind_some, hv, Bool.not_true, bif_false, spec_l01Bit.eq, bif_eq rfl, Option.bind_some, Bool.not_true, bif_false, bif_ndec (by omega), bif_ndec (by omega), spec_Rank_l0.eq,
    l01List_eq m W hm (by have := ht.1; unfold nw at this; omega) hx, Option.bind_some]
  have := rank_l1 (bts m W) (by omega) _ 0 rfl (by omega)
  rw [zer_zero, hb] at this
  exact this
theorem bitsAt_eq (m : Int) (W : List Nat) (hx : ∀ x ∈ W, x < 2 ^ 64) (i : Nat) (hi : i ≤ 5000) (hj : i / 64 < W.length) : impl_Bits_at (m, ints W) i = some (bint (bit W i)) := by
  rw [impl_Bits_at.eq]
  have e1 : (i : Int).tdiv 64 = ((i / 64 : Nat) : Int) := rfl
  have e2 : (i : Int).tmod 64 = ((i % 64 : Nat) : Int) := rfl
  have e3 : min (i % 64) 64 = i % 64 := by omega
  have hw : W[i / 64] < 2 ^ 64 := hx _ (List.getElem_mem hj)
  try simp only
  rw [e1, e2, wrapI (by omega) (by omega), at?_ints _ _ hj, Option.bind_some, bif_ndec (by omega), Int.toNat_natCast, e3, fdiv_nat]
  have h1 := bv_and 64 (W[i / 64] / 2 ^ (i % 64)) 1 (Nat.lt_of_le_of_lt (Nat.div_le_self _ _) hw) (by omega)
  rw [show ((1 : Nat) : Int) = 1 from rfl] at h1
  rw [h1, Nat.and_one_is_mod, wrapUn (by omega), wrapIn (by omega)]
  simp only [bint, bit, List.getD_eq_getElem?_getD, List.getElem?_eq_getElem hj, Option.getD_some, testBit_div]
theorem bitsList_l0 (m : Nat) (W : List Nat) (hm : m ≤ 5000) (hW : m ≤ 64 * W.length) (hx : ∀ x ∈ W, x < 2 ^ 64) : ∀ (d i : Nat), m - i = d → i ≤ m → ∀ out : List Int, out.length ≤ i → impl_Bits_list_l0 m i m (ints W) out = some (out ++ (bints (bts m W)).drop i) := by
  intro d
  induction d with
  | zero =>
    intro i h1 h2 out ho
    rw [impl_Bits_list_l0.eq, bif_ndec (by omega), drop_nil _ (by simp only [List.length_map, bts_length]; omega), List.append_nil]
  | succ d ih =>
    intro i h1 h2 out ho
    have hb : (bints (bts m W))[i]? = some (bint (bit W i)) := by rw [List.getElem?_map, bts_get _ _ _ (by omega)]; rfl
    rw [impl_Bits_list_l0.eq, bif_dec (by omega), bitsAt_eq _ _ hx _ (by omega) (by omega), Option.bind_some, bif_dec (by simp only [List.length_cons, List.length_nil]; omega), wrapS i (by omega), ih (i + 1) (by omega) (by omega) _ (by simp; omega), drop_eq hb, List.append_assoc, List.singleton_append]
theorem bitsList_eq (m : Nat) (W : List Nat) (hm : m ≤ 5000) (hx : ∀ x ∈ W, x < 2 ^ 64) (ht : tight m W) : impl_Bits_list ((m : Int), ints W) = some (bints (bts m W)) := by
  rw [impl_Bits_list.eq]
  have := bitsList_l0 m W hm (by have := ht.1; unfold nw at this; omega) hx _ 0 rfl (by omega) [] (by simp)
  simpa using this
theorem implBitsList_eq (n : Int) (W : List Nat) (hl : W.length ≤ 1048576) (hx : ∀ x ∈ W, x < 2 ^ 64) : impl_BitsList (n, ints W) = some (bif vOk n W then bints (bts n.toNat W) else []) := by
  rw [impl_BitsList.eq]
  try simp only
  rw [implBitsOk_eq _ _ hl hx, Option.bind_some]
  cases hv : vOk n W with
  | false => rfl
  | true =>
    have hv' := hv
    simp only [vOk, Bool.and_eq_true, decide_eq_true_eq] at hv'
    obtain ⟨m, rfl⟩ : ∃ m : Nat, n = m := ⟨n.toNat, by omega⟩
    rw [Bool.not_true, bif_false, bitsList_eq m W (by omega) hx ((okW_iff m W hx).1 (by simpa using hv'.2)), Option.bind_some, bif_true, Int.toNat_natCast]
end Go.Ev.W
