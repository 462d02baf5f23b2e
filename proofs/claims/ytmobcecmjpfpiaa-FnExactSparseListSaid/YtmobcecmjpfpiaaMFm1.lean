/- Widths, packed numbers, inverses, counts: the functions. -/
import Derived.Test.YtmobcecmjpfpiaaEvC
import Derived.Test.YtmobcecmjpfpiaaPp1
import Derived.Test.YtmobcecmjpfpiaaPp2
import Derived.Test.YtmobcecmjpfpiaaMFm0
import Derived.Test.YtmobcecmjpfpiaaMWaveInv
import Derived.Test.YtmobcecmjpfpiaaMPackOk
set_option linter.unusedVariables false
set_option linter.unusedSimpArgs false
namespace Go.Ev.W
open Go.Ev

theorem pw62 {k : Nat} (h : k ≤ 61) : 2 ^ k < 4611686018427387904 := by
  have : 2 ^ k ≤ 2 ^ 61 := Nat.pow_le_pow_right (by omega) h
  omega
/-! #### widths -/
theorem specWidth_l0 : ∀ (k n w : Nat), n < 2 ^ k → n < 4611686018427387904 → w + k ≤ 1000 → spec_WidthOf_l0 n w = some ((w + wdF k n : Nat) : Int)
  | 0, n, w, h, _, _ => by
    obtain rfl : n = 0 := by simpa using h
    rw [spec_WidthOf_l0.eq, bif_ndec (by omega), wdF, Nat.add_zero]
  | k + 1, n, w, h, h2, h3 => by
    rw [spec_WidthOf_l0.eq, wdF]
    by_cases h0 : n = 0
    · subst h0
      rw [bif_ndec (by omega), if_pos rfl, Nat.add_zero]
    · have e1 : (n : Int).tdiv 2 = ((n / 2 : Nat) : Int) := rfl
      rw [bif_dec (by omega), if_neg h0, e1, wrapI (by omega) (by omega), wrapS w (by omega), specWidth_l0 k (n / 2) (w + 1) (by rw [Nat.pow_succ] at h; omega) (by omega) (by omega), Nat.add_assoc, Nat.add_comm 1]
theorem specWidth_eq (n : Nat) (h : n < 4611686018427387904) : spec_WidthOf n = some ((wd n : Nat) : Int) := by
  rw [spec_WidthOf.eq, bif_ndec (by omega)]
  have := specWidth_l0 64 n 0 (by omega) h (by omega)
  rw [Nat.zero_add] at this
  exact this
theorem len64_l1 : ∀ n : Nat, n < 302 → bits_Len64_l1 (n : Int) 0 = some ((wd n : Nat) : Int) := by
  intro n
  rw [bits_Len64_l1.eq]
  revert n
  decide +kernel
theorem implWidth_eq (n : Nat) (h : n < 302) : impl_WidthOf n = some ((wd n : Nat) : Int) := by
  rw [impl_WidthOf.eq, bif_ndec (by omega), wrapUn (by omega), bits_Len.eq, bits_Len64.eq, bif_ndec (by omega), bits_Len64_l0.eq, bif_ndec (by omega), len64_l1 n h]; rfl
theorem wd_le9 {n : Nat} (h : n < 302) : wd n ≤ 9 := wdF_le 64 n 9 (by omega)

/-! #### digits -/
theorem ands1 (m : Nat) (h : m < 4611686018427387904) : IntKind.i64.wrap (((BitVec.ofInt 64 (m : Int)) &&& (BitVec.ofInt 64 (1 : Int))).toNat : Int) = bint (m.testBit 0) := by
  have h1 := bv_and 64 m 1 (by omega) (by omega)
  rw [show ((1 : Nat) : Int) = 1 from rfl] at h1
  rw [h1, Nat.and_one_is_mod, wrapIn (by omega), bit0]
theorem implDigits_l0 (w : Nat) (hw : w ≤ 1000) : ∀ (d i m : Nat), w - i = d → i ≤ w → m < 4611686018427387904 → ∀ out : List Int, out.length ≤ 1000000 + i → impl_digits_l0 m w i out = some (out ++ bints (dg d m))
  | 0, i, m, h1, h2, h3, out, ho => by
    rw [impl_digits_l0.eq, bif_ndec (by omega)]; simp [dg]
  | d + 1, i, m, h1, h2, h3, out, ho => by
    rw [impl_digits_l0.eq, bif_dec (by omega), ands1 m h3, bif_dec (by simp only [List.length_cons, List.length_nil]; omega), fdiv_nat, wrapS i (by omega), implDigits_l0 w hw d (i + 1) (m / 2 ^ 1) (by omega) (by omega) (by omega) _ (by simp only [List.length_append, List.length_cons, List.length_nil]; omega), List.append_assoc, dg_succ]
    rfl
theorem implDigits_eq (w m : Nat) (hw : w ≤ 1000) (hm : m < 4611686018427387904) : impl_digits m w = some (bints (dg w m)) := by
  rw [impl_digits.eq]
  exact implDigits_l0 w hw w 0 m rfl (by omega) hm [] (by simp)

/-! #### packed numbers -/
theorem bints_app (a b : List Bool) : bints a ++ bints b = bints (a ++ b) := List.map_append.symm
theorem bints_len (a : List Bool) : (bints a).length = a.length := List.length_map ..
theorem ints_len (a : List Nat) : (ints a).length = a.length := List.length_map ..
theorem take_snoc {α : Type} (X : List α) (i : Nat) (hi : i < X.length) : X.take (i + 1) = X.take i ++ [X[i]] := by rw [List.take_add_one, List.getElem?_eq_getElem hi]; rfl
theorem implPack_l1 (w : Nat) (hw : w ≤ 32) (X : List Nat) (hl : X.length ≤ 5000) (hX : X.length * w ≤ 5000) (hx : ∀ x ∈ X, x < 2 ^ w) (xs : List Int) (hxs : xs.length = X.length) (a b c : Int) (e : List Int) : ∀ (d i : Nat), X.length - i = d → i ≤ X.length →
    impl_PackOf_l1 xs (ints X) X.length i w a b c e (bints (dgs w (X.take i))) = some (pk w X, true)
  | 0, i, h1, h2 => by
    obtain rfl : i = X.length := by omega
    rw [impl_PackOf_l1.eq, bif_ndec (by omega), List.take_length, implBitsOf_eq _ (by rw [dgs_len]; omega), Option.bind_some, hxs, dgs_len]; rfl
  | d + 1, i, h1, h2 => by
    have hi : i < X.length := by omega
    have h3 := hx _ (List.getElem_mem hi)
    have h4 := pw62 (k := w) (by omega)
    have h5 : (X.take i).length * w ≤ X.length * w := Nat.mul_le_mul_right _ (by rw [List.length_take]; omega)
    rw [impl_PackOf_l1.eq, bif_dec (by omega), at?_ints _ _ hi, Option.bind_some, implDigits_eq w _ (by omega) (by omega), Option.bind_some, bif_dec (by rw [bints_len, bints_len, dgs_len, dg_len]; omega), wrapS i (by omega), bints_app, ← dgs_snoc, ← take_snoc X i hi]
    exact implPack_l1 w hw X hl hX hx xs hxs a b c e d (i + 1) (by omega) (by omega)
theorem pack1_eq (w : Nat) (hw : w ≤ 32) (n : Int) : impl_areAll_int_1_PackOf_1 n w = some (!(decide (0 ≤ n) && decide (n ≤ ((2 ^ w - 1 : Nat) : Int)))) := by
  have h4 := pw62 (k := w) (by omega)
  have h0 : 0 < 2 ^ w := Nat.two_pow_pos w
  have e : min w 64 = w := by omega
  have e1 : (1 : Int) * 2 ^ w = ((2 ^ w : Nat) : Int) := by simp
  rw [impl_areAll_int_1_PackOf_1.eq, impl_PackOf_1.eq, bif_ndec (by omega), Int.toNat_natCast, e, e1, wrapI (x := ((2 ^ w : Nat) : Int)) (by omega) (by omega), wrapI (x := ((2 ^ w : Nat) : Int) - 1) (by omega) (by omega), show ((2 ^ w : Nat) : Int) - 1 = ((2 ^ w - 1 : Nat) : Int) by omega, withinN_eq]; rfl
theorem packAll_eq (w : Nat) (hw : w ≤ 32) (xs : List Int) (h : xs.length < 4611686018427387904) : impl_areAll_int_PackOf_1 xs w = some (xs.all fun n => decide (0 ≤ n) && decide (n ≤ ((2 ^ w - 1 : Nat) : Int))) := by
  rw [impl_areAll_int_PackOf_1.eq, slices_ContainsFunc_int_int_areAll_int_1_PackOf_1.eq, slices_IndexFunc_int_int_areAll_int_1_PackOf_1.eq]
  obtain ⟨r, h1, h2⟩ := find_loop (fun n : Int => !(decide (0 ≤ n) && decide (n ≤ ((2 ^ w - 1 : Nat) : Int)))) (fun n => impl_areAll_int_1_PackOf_1 n w) xs h (fun x _ => pack1_eq w hw x) (slices_IndexFunc_int_int_areAll_int_1_PackOf_1_l0 xs w xs.length) (slices_IndexFunc_int_int_areAll_int_1_PackOf_1_l0.eq xs w xs.length)
  rw [h1]
  simp only [Option.bind_some, h2, List.any_eq_not_all_not, Bool.not_not]
theorem implPack_eq (w : Nat) (hw : w ≤ 32) (X : List Nat) (hl : X.length ≤ 5000) (hX : X.length * w ≤ 5000) (hx : ∀ x ∈ X, x < 2 ^ w) : impl_PackOf (ints X) w = some (pk w X, true) := by
  have hall : ((ints X).all fun n => decide (0 ≤ n) && decide (n ≤ ((2 ^ w - 1 : Nat) : Int))) = true := by
    refine List.all_eq_true.2 fun x h => ?_
    obtain ⟨y, hy, rfl⟩ := List.mem_map.1 h
    have := hx y hy
    rw [Bool.and_eq_true, decide_eq_true_eq, decide_eq_true_eq]; omega
  have h6 : ((X.length : Nat) : Int) * (w : Int) = ((X.length * w : Nat) : Int) := by simp
  rw [impl_PackOf.eq, withinN_eq, Option.bind_some, decide_eq_true (show (0 : Int) ≤ w by omega), decide_eq_true (show (w : Int) ≤ 32 by omega), ints_len, bif_ndec (show ¬ ((X.length : Nat) : Int) > 5000 by omega), h6, wrapI (x := ((X.length * w : Nat) : Int)) (by omega) (by omega), bif_ndec (by omega), packAll_eq w hw _ (by rw [ints_len]; omega), Option.bind_some, hall, impl_PackOf_l0.eq, ints_len]
  have := implPack_l1 w hw X hl hX hx (ints X) (ints_len X) 0 0 0 [] _ 0 rfl (by omega)
  rw [List.take_zero] at this
  exact this
theorem specPack_l3 (w : Nat) (hw : w ≤ 32) (xs : List Int) (i : Nat) (a b c : Int) (e : List Int) : ∀ (d k m : Nat), w - k = d → k ≤ w → m < 4611686018427387904 → ∀ out : List Int, out.length ≤ 1000000 + k →
    spec_PackOf_l3 xs w i m k a b c e out = spec_PackOf_l1 xs w (IntKind.i64.wrap ((i : Int) + 1)) a b c e (out ++ bints (dg d m))
  | 0, k, m, h1, h2, h3, out, ho => by
    rw [spec_PackOf_l3.eq, bif_ndec (by omega)]; simp [dg]
  | d + 1, k, m, h1, h2, h3, out, ho => by
    have e1 : (m : Int).tmod 2 = ((m % 2 : Nat) : Int) := rfl
    have e2 : (m : Int).tdiv 2 = ((m / 2 : Nat) : Int) := rfl
    rw [spec_PackOf_l3.eq, bif_dec (by omega), bif_dec (by simp only [List.length_cons, List.length_nil]; omega), e1, e2, bit0, wrapI (x := ((m / 2 : Nat) : Int)) (by omega) (by omega), wrapS k (by omega), specPack_l3 w hw xs i a b c e d (k + 1) (m / 2) (by omega) (by omega) (by omega) _ (by simp only [List.length_append, List.length_cons, List.length_nil]; omega), List.append_assoc, dg_succ]
    rfl
theorem specPack_l1 (w : Nat) (hw : w ≤ 32) (X : List Nat) (hl : X.length ≤ 5000) (hX : X.length * w ≤ 5000) (hx : ∀ x ∈ X, x < 2 ^ w) (a b c : Int) (e : List Int) : ∀ (d i : Nat), X.length - i = d → i ≤ X.length →
    spec_PackOf_l1 (ints X) w i a b c e (bints (dgs w (X.take i))) = some (pk w X, true)
  | 0, i, h1, h2 => by
    obtain rfl : i = X.length := by omega
    rw [spec_PackOf_l1.eq, ints_len, bif_ndec (by omega), List.take_length, specBitsOf_eq _ (by rw [dgs_len]; omega), Option.bind_some, dgs_len]; rfl
  | d + 1, i, h1, h2 => by
    have hi : i < X.length := by omega
    have h3 := hx _ (List.getElem_mem hi)
    have h4 := pw62 (k := w) (by omega)
    have h5 : (X.take i).length * w ≤ X.length * w := Nat.mul_le_mul_right _ (by rw [List.length_take]; omega)
    rw [spec_PackOf_l1.eq, ints_len, bif_dec (by omega), at?_ints _ _ hi, Option.bind_some, bif_ndec (by omega), l02Pow_eq _ (by omega), Option.bind_some, bif_ndec (by omega), spec_PackOf_l2.eq]
    have h6 := specPack_l3 w hw (ints X) i a b c e w 0 X[i] rfl (by omega) (by omega) (bints (dgs w (X.take i))) (by rw [bints_len, dgs_len]; omega)
    refine h6.trans ?_
    rw [wrapS i (by omega), bints_app, ← dgs_snoc, ← take_snoc X i hi]
    exact specPack_l1 w hw X hl hX hx a b c e d (i + 1) (by omega) (by omega)
theorem specPack_eq (w : Nat) (hw : w ≤ 32) (X : List Nat) (hl : X.length ≤ 5000) (hX : X.length * w ≤ 5000) (hx : ∀ x ∈ X, x < 2 ^ w) : spec_PackOf (ints X) w = some (pk w X, true) := by
  have h6 : ((X.length : Nat) : Int) * (w : Int) = ((X.length * w : Nat) : Int) := by simp
  rw [spec_PackOf.eq, bif_ndec (by omega), bif_ndec (by omega), ints_len, bif_ndec (by omega), h6, wrapI (x := ((X.length * w : Nat) : Int)) (by omega) (by omega), bif_ndec (by omega), spec_PackOf_l0.eq]
  have := specPack_l1 w hw X hl hX hx 0 0 0 [] _ 0 rfl (by omega)
  rw [List.take_zero] at this
  exact this

/-! #### inverses -/
theorem inv_eq (S : List Nat) (hm : ∀ x, x < S.length → x ∈ S) : (List.range S.length).map (fun x => ((if S.idxOf x < S.length then S.idxOf x else 0 : Nat) : Int)) = ints (inv S) := by
  unfold inv
  show _ = List.map (fun (x : Nat) => (x : Int)) (List.map _ _)
  rw [List.map_map]
  refine List.map_congr_left fun x hx => ?_
  rw [if_pos (List.idxOf_lt_length_of_mem (hm x (List.mem_range.1 hx)))]; rfl
theorem ints_snoc (X : List Nat) (x : Nat) : ints X ++ [(x : Int)] = ints (X ++ [x]) :=
  (List.map_append (f := fun (x : Nat) => (x : Int)) (l₁ := X) (l₂ := [x])).symm
/-! #### counts -/
end Go.Ev.W
