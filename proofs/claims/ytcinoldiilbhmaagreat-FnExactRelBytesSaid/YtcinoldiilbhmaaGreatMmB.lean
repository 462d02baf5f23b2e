/- What the functions come to, in plain mathematics, part 2. -/
import Derived.Test.YtcinoldiilbhmaaGreatEvC
import Derived.Test.YtcinoldiilbhmaaGreatPd1
import Derived.Test.YtcinoldiilbhmaaGreatPd2
import Derived.Test.YtcinoldiilbhmaaGreatMmA
import Derived.Test.YtcinoldiilbhmaaGreatPd22
import Derived.Test.YtcinoldiilbhmaaGreatPd29
import Derived.Test.YtcinoldiilbhmaaGreatEvGrow
import Derived.Test.YtcinoldiilbhmaaGreatPd5
import Derived.Test.YtcinoldiilbhmaaGreatPd30
/- Patches: both functions. -/
set_option linter.unusedVariables false
set_option linter.unusedSimpArgs false
namespace Go.Ev.W
open Go.Ev

theorem bint_one (b : Bool) : (bint b == (1 : Int)) = b := by cases b <;> rfl
theorem bint_not (b : Bool) : IntKind.i64.wrap ((1 : Int) - bint b) = bint (!b) := by cases b <;> rfl
theorem flip_l0 (bs : List Bool) (hn : bs.length ≤ 5000) (a : Int) (b : List Int) : ∀ (d i : Nat), bs.length - i = d → i ≤ bs.length → impl_BitsFlip_l0 bs.length i a b (bints ((bs.take i).map not ++ bs.drop i)) = some ((bs.length : Int), ints (wrds (bs.map not)))
  | 0, i, h1, h2 => by
    obtain rfl : i = bs.length := by omega
    rw [impl_BitsFlip_l0.eq, bif_ndec (by omega), List.take_length, List.drop_length, List.append_nil, implBitsOf_eq _ (by rw [List.length_map]; omega), Option.bind_some, List.length_map]
  | d + 1, i, h1, h2 => by
    have hi : i < bs.length := by omega
    have hl : ((bs.take i).map not).length = i := by rw [List.length_map, List.length_take]; omega
    have hg : (bints ((bs.take i).map not ++ bs.drop i))[i]? = some (bint bs[i]) := by
      rw [List.getElem?_map, List.getElem?_append_right (by omega), hl, Nat.sub_self, List.getElem?_drop, Nat.add_zero, List.getElem?_eq_getElem hi]; rfl
    have hs : (bints ((bs.take i).map not ++ bs.drop i)).set i (bint (!bs[i])) = bints ((bs.take (i + 1)).map not ++ bs.drop (i + 1)) := by
      have e : ((bs.take i).map not ++ bs.drop i).set i (!bs[i]) = (bs.take (i + 1)).map not ++ bs.drop (i + 1) := by
        rw [List.set_append_right _ _ (by omega), hl, Nat.sub_self, List.drop_eq_getElem_cons hi, List.set_cons_zero, List.take_add_one, List.getElem?_eq_getElem hi, List.map_append, List.append_assoc]; rfl
      rw [← e]
      exact (List.map_set (f := bint)).symm
    rw [impl_BitsFlip_l0.eq, bif_dec (by omega)]
    simp only [at?_nat, Int.toNat_natCast, hg, Option.bind_some]
    rw [bint_not, hs, wrapS i (by omega)]
    exact flip_l0 bs hn a b d (i + 1) (by omega) (by omega)
theorem flip_eq (m : Nat) (W : List Nat) (hm : m ≤ 5000) (hl : W.length ≤ 1048576) (hx : ∀ x ∈ W, x < 2 ^ 64) (hv : vOk m W = true) : impl_BitsFlip ((m : Int), ints W) = some ((m : Int), ints (wrds ((bts m W).map not))) := by
  have ht := (okW_iff m W hx).1 (by simp only [vOk, Bool.and_eq_true] at hv; simpa using hv.2)
  have hb := bts_length m W
  rw [impl_BitsFlip.eq]
  try simp only
  rw [implBitsOk_eq _ _ hl hx, hv, Option.bind_some, Bool.not_true, bif_false, bitsList_eq m W hm hx ht, Option.bind_some, bints_len]
  have := flip_l0 (bts m W) (by omega) 0 [] _ 0 rfl (by omega)
  rw [List.take_zero, List.map_nil, List.nil_append, List.drop_zero] at this
  refine this.trans ?_
  rw [hb]
theorem unmarked_l0 (X : List Nat) (m : Nat) (W : List Nat) (hm : m ≤ 5000) (ht : tight m W) (hX : X.length ≤ m) : ∀ (d i : Nat), X.length - i = d → i ≤ X.length → impl_unmarked_l0 (ints X) X.length i m (ints W) (ints (at0 (X.take i) (bts m W))) = some (ints (at0 X (bts m W)))
  | 0, i, h1, h2 => by
    obtain rfl : i = X.length := by omega
    rw [impl_unmarked_l0.eq, bif_ndec (by omega), List.take_length]
  | d + 1, i, h1, h2 => by
    have hi : i < X.length := by omega
    have hb := bts_length m W
    have hbi : (bts m W)[i]'(by omega) = bit W i := by simp [bts]
    have hle := at0_len (X.take i) (bts m W)
    rw [List.length_take] at hle
    have ih := unmarked_l0 X m W hm ht hX d (i + 1) (by omega) (by omega)
    rw [at0_snoc X (bts m W) i hi (by omega), hbi] at ih
    rw [impl_unmarked_l0.eq, bif_dec (by omega), at?_ints _ _ hi, Option.bind_some, bitsAt_eq _ W ht.2.1 i (by omega) (by have := ht.1; unfold nw at this; omega), Option.bind_some, bint_zero, wrapS i (by omega)]
    cases hb : bit W i with
    | true =>
      rw [hb, if_pos rfl, List.append_nil] at ih
      rw [Bool.not_true, bif_false]; exact ih
    | false =>
      rw [hb, if_neg (by simp), ← ints_snoc] at ih
      rw [Bool.not_false, bif_true, bif_dec (by simp only [List.length_cons, List.length_nil, ints_len]; omega)]
      exact ih
theorem unmarked_eq (X : List Nat) (m : Nat) (W : List Nat) (hm : m ≤ 5000) (ht : tight m W) (hX : X.length ≤ m) : impl_unmarked (ints X) ((m : Int), ints W) = some (ints (at0 X (bts m W))) := by
  rw [impl_unmarked.eq, ints_len]
  have := unmarked_l0 X m W hm ht hX _ 0 rfl (by omega)
  rw [List.take_zero] at this
  have e : at0 [] (bts m W) = [] := by cases bts m W <;> rfl
  rw [e] at this
  exact this
theorem zeros_l0 (X : List Nat) (bs : List Bool) (hX : X.length ≤ bs.length) (hb : bs.length ≤ 5000) : ∀ (d i : Nat), X.length - i = d → i ≤ X.length → spec_l14Zeros_l0 (ints X) (bints bs) i (ints (at0 (X.take i) bs)) = some (ints (at0 X bs))
  | 0, i, h1, h2 => by
    obtain rfl : i = X.length := by omega
    rw [spec_l14Zeros_l0.eq, ints_len, bif_ndec (by omega), List.take_length]
  | d + 1, i, h1, h2 => by
    have hi : i < X.length := by omega
    have hle := at0_len (X.take i) bs
    rw [List.length_take] at hle
    have ih := zeros_l0 X bs hX hb d (i + 1) (by omega) (by omega)
    rw [at0_snoc X bs i hi (by omega)] at ih
    rw [spec_l14Zeros_l0.eq, ints_len, bif_dec (by omega), at?_bints bs i (by omega), Option.bind_some, bint_zero, wrapS i (by omega)]
    cases hb : bs[i] with
    | true =>
      rw [hb, if_pos rfl, List.append_nil] at ih
      rw [Bool.not_true, bif_false]; exact ih
    | false =>
      rw [hb, if_neg (by simp), ← ints_snoc] at ih
      rw [Bool.not_false, bif_true, at?_ints _ _ hi, Option.bind_some, bif_dec (by simp only [List.length_cons, List.length_nil, ints_len]; omega)]
      exact ih
theorem zeros_eq (X : List Nat) (bs : List Bool) (hX : X.length ≤ bs.length) (hb : bs.length ≤ 5000) : spec_l14Zeros (ints X) (bints bs) = some (ints (at0 X bs)) := by
  rw [spec_l14Zeros.eq]
  have := zeros_l0 X bs hX hb _ 0 rfl (by omega)
  rw [List.take_zero] at this
  have e : at0 [] bs = [] := by cases bs <;> rfl
  rw [e] at this
  exact this

/-! #### the interleaving -/
section
variable (bs : List Bool) (T R : List Nat) (hz : zer bs bs.length = R.length) (ho : one bs bs.length = T.length)
include hz ho
theorem pat_step (i : Nat) (hi : i < bs.length) : (∃ y, (pat bs T R)[i]? = some y ∧ ints ((pat bs T R).take i) ++ [(y : Int)] = ints ((pat bs T R).take (i + 1)) ∧ (bs[i] = true → ∃ h : one bs i < T.length, y = T[one bs i] ∧ one bs (i + 1) = one bs i + 1 ∧ zer bs (i + 1) = zer bs i) ∧
    (bs[i] = false → ∃ h : zer bs i < R.length, y = R[zer bs i] ∧ one bs (i + 1) = one bs i ∧ zer bs (i + 1) = zer bs i + 1)) := by
  have hl := pat_len bs T R
  have hp := pat_snoc bs T R i hi hz ho
  have h1 := one_succ bs i hi
  have h2 := zer_succ bs i hi
  have m1 := one_mono bs (i + 1) (bs.length - (i + 1)) (by omega)
  have m2 := zer_mono bs (i + 1) (bs.length - (i + 1)) (by omega)
  rw [show i + 1 + (bs.length - (i + 1)) = bs.length by omega] at m1 m2
  have hpi : i < (pat bs T R).length := by omega
  refine ⟨(pat bs T R)[i], List.getElem?_eq_getElem hpi, by rw [ints_snoc, ← take_snoc _ i hpi], fun hb => ?_, fun hb => ?_⟩
  · rw [hb, if_pos rfl] at h1 h2 hp
    have hlt : one bs i < T.length := by omega
    rw [List.getElem?_eq_getElem hpi, List.getElem?_eq_getElem hlt] at hp
    injection hp with hp
    exact ⟨hlt, hp, h1, by omega⟩
  · rw [hb] at h1 h2 hp
    simp only [Bool.false_eq_true, if_false] at h1 h2 hp
    have hlt : zer bs i < R.length := by omega
    rw [List.getElem?_eq_getElem hpi, List.getElem?_eq_getElem hlt] at hp
    injection hp with hp
    exact ⟨hlt, hp, by omega, h2⟩
variable (hn : bs.length ≤ 5000)
include hn
theorem implPatch_l3 : ∀ (d i : Nat), bs.length - i = d → i ≤ bs.length → impl_PatchDo_l3 (one bs i) (T.length - one bs i) (ints (R.drop (zer bs i))) bs.length i (ints T) (ints ((pat bs T R).take i)) (bints bs) = some (ints (pat bs T R), true)
  | 0, i, h1, h2 => by
    obtain rfl : i = bs.length := by omega
    rw [impl_PatchDo_l3.eq, bif_ndec (by omega), List.take_of_length_le (by rw [pat_len]; omega)]
  | d + 1, i, h1, h2 => by
    have hi : i < bs.length := by omega
    obtain ⟨y, _, p2, p3, p4⟩ := pat_step bs T R hz ho i hi
    have ih := implPatch_l3 d (i + 1) (by omega) (by omega)
    rw [impl_PatchDo_l3.eq, bif_dec (by omega)]
    simp only [at?_bints bs i hi, get?_bints bs i hi, Int.toNat_natCast, Option.bind_some, bint_one]
    have hol : (ints ((pat bs T R).take i)).length ≤ 5000 := by rw [ints_len, List.length_take, pat_len]; omega
    cases hb : bs[i] with
    | true =>
      obtain ⟨q1, q2, q3, q4⟩ := p3 hb
      rw [q3, q4] at ih
      rw [bif_true, bif_dec (by omega), getElem?_ints _ _ q1, Option.bind_some, bif_dec (by simp only [List.length_cons, List.length_nil]; omega), bif_dec (by omega), wrapS i (by omega), ← q2, p2, show T.length - one bs i - 1 = T.length - (one bs i + 1) by omega]
      exact ih
    | false =>
      obtain ⟨q1, q2, q3, q4⟩ := p4 hb
      rw [q3, q4] at ih
      have hd : R.drop (zer bs i) = R[zer bs i] :: R.drop (zer bs i + 1) := List.drop_eq_getElem_cons q1
      have hdl : (R.drop (zer bs i)).length = R.length - zer bs i := List.length_drop ..
      have ht : ((ints (R.drop (zer bs i))).take (ints (R.drop (zer bs i))).length).drop 1 = ints (R.drop (zer bs i + 1)) := by
        rw [List.take_length, hd]; rfl
      have ha : at? (ints (R.drop (zer bs i))) 0 = some ((R[zer bs i] : Nat) : Int) := by rw [at?_zero, hd]; rfl
      rw [bif_false, ha, Option.bind_some, bif_dec (by simp only [List.length_cons, List.length_nil]; omega), bif_dec (by rw [ints_len]; omega), wrapS i (by omega), ht, ← q2, p2]
      exact ih
theorem implPatch_l2 : ∀ (d i : Nat), bs.length - i = d → i ≤ bs.length → one bs i = 0 → impl_PatchDo_l2 (ints (R.drop (zer bs i))) bs.length i (ints T) (ints ((pat bs T R).take i)) (bints bs) = some (ints (pat bs T R), true)
  | 0, i, h1, h2, h0 => by
    obtain rfl : i = bs.length := by omega
    rw [impl_PatchDo_l2.eq, bif_ndec (by omega), List.take_of_length_le (by rw [pat_len]; omega)]
  | d + 1, i, h1, h2, h0 => by
    have hi : i < bs.length := by omega
    obtain ⟨y, _, p2, p3, p4⟩ := pat_step bs T R hz ho i hi
    rw [impl_PatchDo_l2.eq, bif_dec (by omega)]
    simp only [at?_bints bs i hi, get?_bints bs i hi, Int.toNat_natCast, Option.bind_some, bint_one]
    have hol : (ints ((pat bs T R).take i)).length ≤ 5000 := by rw [ints_len, List.length_take, pat_len]; omega
    cases hb : bs[i] with
    | true =>
      obtain ⟨q1, q2, q3, q4⟩ := p3 hb
      have ih := implPatch_l3 bs T R hz ho hn d (i + 1) (by omega) (by omega)
      rw [q3, q4, h0] at ih
      simp only [h0] at q1 q2
      rw [bif_true, at?_zero, getElem?_ints _ 0 q1, Option.bind_some, Option.bind_some, bif_dec (by simp only [List.length_cons, List.length_nil]; omega), bif_dec (by rw [ints_len]; omega), wrapS i (by omega), ← q2, p2, ints_len]
      exact ih
    | false =>
      obtain ⟨q1, q2, q3, q4⟩ := p4 hb
      have ih := implPatch_l2 d (i + 1) (by omega) (by omega) (by omega)
      rw [q4] at ih
      have hd : R.drop (zer bs i) = R[zer bs i] :: R.drop (zer bs i + 1) := List.drop_eq_getElem_cons q1
      have hdl : (R.drop (zer bs i)).length = R.length - zer bs i := List.length_drop ..
      have ht : ((ints (R.drop (zer bs i))).take (ints (R.drop (zer bs i))).length).drop 1 = ints (R.drop (zer bs i + 1)) := by
        rw [List.take_length, hd]; rfl
      have ha : at? (ints (R.drop (zer bs i))) 0 = some ((R[zer bs i] : Nat) : Int) := by rw [at?_zero, hd]; rfl
      rw [bif_false, ha, Option.bind_some, bif_dec (by simp only [List.length_cons, List.length_nil]; omega), bif_dec (by rw [ints_len]; omega), wrapS i (by omega), ht, ← q2, p2]
      exact ih
theorem specPatch_l3 (a : Int) (b : List Int) (c : Int) (e : List Int) : ∀ (d i : Nat), bs.length - i = d → i ≤ bs.length → spec_PatchDo_l3 (one bs i : Nat) i a b c e (ints R) (bints bs) (ints T) (ints ((pat bs T R).take i)) = some (ints (pat bs T R), true)
  | 0, i, h1, h2 => by
    obtain rfl : i = bs.length := by omega
    rw [spec_PatchDo_l3.eq, bints_len, bif_ndec (by omega), List.take_of_length_le (by rw [pat_len]; omega)]
  | d + 1, i, h1, h2 => by
    have hi : i < bs.length := by omega
    obtain ⟨y, _, p2, p3, p4⟩ := pat_step bs T R hz ho i hi
    have ih := specPatch_l3 a b c e d (i + 1) (by omega) (by omega)
    have hzo := zer_one bs i (by omega)
    rw [spec_PatchDo_l3.eq, bints_len, bif_dec (by omega)]
    simp only [at?_bints bs i hi, get?_bints bs i hi, Int.toNat_natCast, Option.bind_some, bint_one]
    have hol : (ints ((pat bs T R).take i)).length ≤ 5000 := by rw [ints_len, List.length_take, pat_len]; omega
    cases hb : bs[i] with
    | true =>
      obtain ⟨q1, q2, q3, q4⟩ := p3 hb
      rw [q3] at ih
      rw [bif_true, at?_ints _ _ q1, Option.bind_some, getElem?_ints _ _ q1, Option.bind_some, bif_dec (by simp only [List.length_cons, List.length_nil]; omega), wrapS i (by omega), wrapS (one bs i) (by omega), ← q2, p2]
      exact ih
    | false =>
      obtain ⟨q1, q2, q3, q4⟩ := p4 hb
      rw [q3] at ih
      rw [bif_false, wrapI (x := (i : Int) - ((one bs i : Nat) : Int)) (by omega) (by omega), show (i : Int) - ((one bs i : Nat) : Int) = ((zer bs i : Nat) : Int) by omega, at?_ints _ _ q1, Option.bind_some, bif_dec (by simp only [List.length_cons, List.length_nil]; omega), wrapS i (by omega), ← q2, p2]
      exact ih
end
theorem specPatch_l1 (A : List Nat) (bs : List Bool) (hA : A.length = bs.length) (hn : bs.length ≤ 5000) (a : Int) (b : List Int) (c : Int) (e : List Int) (r : List Int) (y : List Int) : ∀ (d i : Nat), bs.length - i = d → i ≤ bs.length →
    spec_PatchDo_l1 (ints A) i a b c e r (bints bs) y (ints (at1 (A.take i) bs)) = (spec_Rank (c, e) (1 : Int) c).bind fun y4 => bif y4 != ((ints (at1 A bs)).length : Int) then some (([] : List Int), false) else
        (spec_Rank (c, e) (0 : Int) c).bind fun y5 => bif y5 != (r.length : Int) then some (([] : List Int), false) else spec_PatchDo_l2 a b c e r y (ints (at1 A bs))
  | 0, i, h1, h2 => by
    obtain rfl : i = bs.length := by omega
    rw [spec_PatchDo_l1.eq, bints_len, bif_ndec (by omega), List.take_of_length_le (by omega)]
  | d + 1, i, h1, h2 => by
    have hi : i < bs.length := by omega
    have hle : (at1 (A.take i) bs).length ≤ (A.take i).length := by
      have : ∀ (X : List Nat) (bs : List Bool), (at1 X bs).length ≤ X.length := by
        intro X
        induction X with
        | nil => intro bs; cases bs <;> simp [at1]
        | cons x X ih =>
          intro bs
          cases bs with
          | nil => simp [at1]
          | cons b bs =>
            have := ih bs
            rw [at1, List.length_append, List.length_cons]
            cases b <;> simp <;> omega
      exact this _ _
    rw [List.length_take] at hle
    have ih := specPatch_l1 A bs hA hn a b c e r y d (i + 1) (by omega) (by omega)
    rw [at1_snoc A bs i (by omega) hi] at ih
    rw [← ih, spec_PatchDo_l1.eq, bints_len, bif_dec (by omega)]
    simp only [at?_bints bs i hi, get?_bints bs i hi, Int.toNat_natCast, Option.bind_some, bint_one]
    cases hb : bs[i] with
    | true =>
      rw [bif_true, at?_ints _ i (by omega), Option.bind_some, bif_dec (by simp only [List.length_cons, List.length_nil, ints_len]; omega), wrapS i (by omega), if_pos rfl, ints_snoc]
    | false =>
      rw [bif_false, wrapS i (by omega), if_neg (by simp), List.append_nil]
/-- What a patch comes to. -/
def pOkB (A : List Nat) (n1 : Int) (W1 : List Nat) (n2 : Int) (W2 : List Nat) (R : List Nat) : Bool :=
  vOk n1 W1 && (vOk n2 W2 && (decide (n1 = A.length) && (decide (n2 ≤ 301) && (decide (one (bts n1.toNat W1) n1.toNat = one (bts n2.toNat W2) n2.toNat) && decide (zer (bts n2.toNat W2) n2.toNat = R.length)))))
def pVal (A : List Nat) (n1 : Int) (W1 : List Nat) (n2 : Int) (W2 : List Nat) (R : List Nat) : List Nat := pat (bts n2.toNat W2) (at1 A (bts n1.toNat W1)) R
section
variable (A : List Nat) (hA : A.length ≤ 301) (n1 : Int) (W1 : List Nat) (n2 : Int) (W2 : List Nat) (R : List Nat) (l1 : W1.length ≤ 1048576) (x1 : ∀ x ∈ W1, x < 2 ^ 64) (l2 : W2.length ≤ 1048576) (x2 : ∀ x ∈ W2, x < 2 ^ 64)
include hA l1 x1 l2 x2
theorem specPatch_eq : spec_PatchDo (ints A) (n1, ints W1, n2, ints W2, ints R) = some (bif pOkB A n1 W1 n2 W2 R then (ints (pVal A n1 W1 n2 W2 R), true) else ([], false)) := by
  rw [spec_PatchDo.eq, spec_l12Right.eq, ints_len, decide_eq_true (by omega), Option.bind_some, Bool.not_true, bif_false]
  try simp only
  rw [specBitsOk_eq _ _ l1 x1, Option.bind_some, specBitsOk_eq _ _ l2 x2]
  unfold pOkB
  cases hv1 : vOk n1 W1 with
  | false => rfl
  | true =>
    rw [Bool.not_true, bif_false, Option.bind_some, Bool.true_and]
    cases hv2 : vOk n2 W2 with
    | false => rfl
    | true =>
      rw [Bool.not_true, bif_false, Bool.true_and]
      by_cases h1 : n1 = (A.length : Int)
      · rw [bif_nne h1, decide_eq_true h1, Bool.true_and]
        by_cases h2 : n2 ≤ 301
        · rw [bif_ndec (by omega), decide_eq_true h2, Bool.true_and, spec_PatchDo_l0.eq]
          have b1 := hv1; have b2 := hv2
          simp only [vOk, Bool.and_eq_true, decide_eq_true_eq] at b1 b2
          obtain ⟨m1, rfl⟩ : ∃ m : Nat, n1 = m := ⟨n1.toNat, by omega⟩
          obtain ⟨m2, rfl⟩ : ∃ m : Nat, n2 = m := ⟨n2.toNat, by omega⟩
          simp only [Int.toNat_natCast] at b1 b2 ⊢
          have t1 := (okW_iff m1 W1 x1).1 b1.2
          have t2 := (okW_iff m2 W2 x2).1 b2.2
          have e1 := bts_length m1 W1
          have e2 := bts_length m2 W2
          have hA1 : A.length = (bts m1 W1).length := by omega
          rw [l01List_eq m1 W1 (by omega) (by have := t1.1; unfold nw at this; omega) x1, Option.bind_some, l01List_eq m2 W2 (by omega) (by have := t2.1; unfold nw at this; omega) x2, Option.bind_some]
          have h3 := specPatch_l1 A (bts m1 W1) hA1 (by omega) m1 (ints W1) m2 (ints W2) (ints R) (bints (bts m2 W2)) _ 0 rfl (by omega)
          rw [List.take_zero] at h3
          have e0 : at1 [] (bts m1 W1) = [] := by cases bts m1 W1 <;> rfl
          rw [e0] at h3
          refine h3.trans ?_
          have r1 := rankB_eq m2 W2 true (by omega) l2 x2 hv2
          have r0 := rankB_eq m2 W2 false (by omega) l2 x2 hv2
          rw [bef_true] at r1
          rw [bef_false] at r0
          rw [show bint true = 1 from rfl] at r1
          rw [show bint false = 0 from rfl] at r0
          have hal := at1_len A (bts m1 W1) hA1
          rw [e1] at hal
          rw [r1, Option.bind_some, ints_len, hal]
          by_cases h4 : one (bts m1 W1) m1 = one (bts m2 W2) m2
          · rw [bif_nne (by omega), decide_eq_true h4, Bool.true_and, r0, Option.bind_some, ints_len]
            by_cases h5 : zer (bts m2 W2) m2 = R.length
            · rw [bif_nne (by omega), decide_eq_true h5, bif_true, spec_PatchDo_l2.eq]
              have h6 := specPatch_l3 (bts m2 W2) (at1 A (bts m1 W1)) R (by rw [e2]; exact h5) (by rw [e2]; omega) (by omega) m1 (ints W1) m2 (ints W2) _ 0 rfl (by omega)
              rw [one_zero, List.take_zero] at h6
              refine h6.trans ?_
              unfold pVal
              simp only [Int.toNat_natCast]
            · rw [bif_ne (by omega), decide_eq_false h5]; rfl
          · rw [bif_ne (by omega), decide_eq_false h4]; rfl
        · rw [bif_dec (by omega), decide_eq_false h2]; rfl
      · rw [bif_ne h1, decide_eq_false h1]; rfl
theorem implPatchDo_eq : impl_PatchDo (ints A) (n1, ints W1, n2, ints W2, ints R) = some (bif pOkB A n1 W1 n2 W2 R then (ints (pVal A n1 W1 n2 W2 R), true) else ([], false)) := by
  rw [impl_PatchDo.eq, ints_len, bif_ndec (by omega)]
  try simp only
  rw [implBitsOk_eq _ _ l1 x1, Option.bind_some, implBitsOk_eq _ _ l2 x2]
  unfold pOkB
  cases hv1 : vOk n1 W1 with
  | false => rfl
  | true =>
    rw [Bool.not_true, bif_false, Option.bind_some, Bool.true_and]
    cases hv2 : vOk n2 W2 with
    | false => rfl
    | true =>
      rw [Bool.not_true, bif_false, Bool.true_and]
      by_cases h1 : n1 = (A.length : Int)
      · rw [bif_nne h1, decide_eq_true h1, Bool.true_and]
        by_cases h2 : n2 ≤ 301
        · rw [bif_ndec (by omega), decide_eq_true h2, Bool.true_and, impl_PatchDo_l0.eq]
          have b1 := hv1; have b2 := hv2
          simp only [vOk, Bool.and_eq_true, decide_eq_true_eq] at b1 b2
          obtain ⟨m1, rfl⟩ : ∃ m : Nat, n1 = m := ⟨n1.toNat, by omega⟩
          obtain ⟨m2, rfl⟩ : ∃ m : Nat, n2 = m := ⟨n2.toNat, by omega⟩
          simp only [Int.toNat_natCast] at b1 b2 ⊢
          have t1 := (okW_iff m1 W1 x1).1 b1.2
          have t2 := (okW_iff m2 W2 x2).1 b2.2
          have e1 := bts_length m1 W1
          have e2 := bts_length m2 W2
          have hA1 : A.length = (bts m1 W1).length := by omega
          have c1 := countB_eq (bts m1 W1) true (by omega)
          have c2 := countB_eq (bts m2 W2) true (by omega)
          rw [bef_true, e1, show bint true = 1 from rfl] at c1
          rw [bef_true, e2, show bint true = 1 from rfl] at c2
          have hal := at1_len A (bts m1 W1) hA1
          rw [e1] at hal
          have hzo := zer_one (bts m2 W2) m2 (by omega)
          rw [bitsList_eq m2 W2 (by omega) x2 t2, Option.bind_some, c2, Option.bind_some, bitsList_eq m1 W1 (by omega) x1 t1, Option.bind_some, c1, Option.bind_some]
          by_cases h4 : one (bts m1 W1) m1 = one (bts m2 W2) m2
          · rw [bif_nne (by omega), decide_eq_true h4, Bool.true_and, wrapI (by omega) (by omega), ints_len]
            by_cases h5 : zer (bts m2 W2) m2 = R.length
            · have ht' := wrds_tight ((bts m1 W1).map not)
              rw [List.length_map, e1] at ht'
              have hbt : bts m1 (wrds ((bts m1 W1).map not)) = (bts m1 W1).map not := by
                have := bts_wrds ((bts m1 W1).map not)
                rw [List.length_map, e1] at this
                exact this
              rw [bif_nne (by omega), decide_eq_true h5, bif_true, impl_PatchDo_l1.eq, flip_eq m1 W1 (by omega) l1 x1 hv1, Option.bind_some]
              try simp only
              rw [unmarked_eq A m1 _ (by omega) ht' (by omega), hbt, at0_not, Option.bind_some, bitsList_eq m2 W2 (by omega) x2 t2, Option.bind_some, bints_len]
              have h6 := implPatch_l2 (bts m2 W2) (at1 A (bts m1 W1)) R (by rw [e2]; exact h5) (by rw [e2]; omega) (by omega) _ 0 rfl (by omega) (one_zero _)
              rw [zer_zero, List.take_zero, List.drop_zero] at h6
              refine h6.trans ?_
              unfold pVal
              simp only [Int.toNat_natCast]
            · rw [bif_ne (by omega), decide_eq_false h5]; rfl
          · rw [bif_ne (by omega), decide_eq_false h4]; rfl
        · rw [bif_dec (by omega), decide_eq_false h2]; rfl
      · rw [bif_ne h1, decide_eq_false h1]; rfl
end
end Go.Ev.W

/- Indexes: the text of a valid one. -/
set_option linter.unusedVariables false
set_option linter.unusedSimpArgs false
namespace Go.Ev.W
open Go.Ev

/-! #### equalities -/
theorem equalU_eq (X Y : List Int) (h : X.length < 4611686018427387904) : slices_Equal_uint64_uint64 X Y = some (decide (X = Y)) := by
  rw [slices_Equal_uint64_uint64.eq]
  exact eq_list X Y _ fun hl => eq_loop (fun x y => some (!(x != y))) X Y hl h (fun x _ y _ => by rw [bne, Bool.not_not]; exact congrArg some (by rw [Bool.eq_iff_iff]; simp)) (slices_Equal_uint64_uint64_l0 X Y X.length) (fun i => by rw [slices_Equal_uint64_uint64_l0.eq]; simp only [Option.bind_some, Bool.not_not])
theorem dec_pair {α β : Type} [DecidableEq α] [DecidableEq β] (a c : α) (b d : β) : decide ((a, b) = (c, d)) = (decide (a = c) && decide (b = d)) := by
  rw [Bool.eq_iff_iff]; simp
theorem sameBits_eq (a : Int) (x : List Int) (b : Int) (y : List Int) (h : x.length < 4611686018427387904) : impl_sameBits (a, x) (b, y) = some (decide ((a, x) = (b, y))) := by
  rw [impl_sameBits.eq, dec_pair, beq_dec]
  try simp only
  rw [equalU_eq _ _ h]
  cases decide (a = b) <;> rfl
theorem samePacked_eq (a b c : Int) (x : List Int) (d e f : Int) (y : List Int) (h : x.length < 4611686018427387904) : impl_samePacked (a, b, c, x) (d, e, f, y) = some (decide ((a, b, c, x) = (d, e, f, y))) := by
  rw [impl_samePacked.eq, dec_pair, dec_pair, beq_dec, beq_dec]
  try simp only
  rw [sameBits_eq _ _ _ _ h]
  cases decide (a = d) <;> cases decide (b = e) <;> rfl
theorem sameLv_eq (X Y : Lv) (h : X.length < 4611686018427387904) (hw : ∀ p ∈ X, p.2.length < 4611686018427387904) : impl_Bits_sameBits X Y () = some (decide (X = Y)) := by
  rw [impl_Bits_sameBits.eq]
  exact eq_list X Y _ fun hl => eq_loop (fun x y => impl_sameBits x y) X Y hl h (fun x hx y _ => sameBits_eq _ _ _ _ (hw x hx)) (impl_Bits_sameBits_l0 Y X X.length) (fun i => impl_Bits_sameBits_l0.eq Y X X.length i)
theorem sameWave_eq (a : Int) (Z : List Int) (L : Lv) (b : Int) (Y : List Int) (M : Lv) (hZ : Z.length < 4611686018427387904) (h : L.length < 4611686018427387904) (hw : ∀ p ∈ L, p.2.length < 4611686018427387904) : impl_sameWave (a, Z, L) (b, Y, M) = some (decide ((a, Z, L) = (b, Y, M))) := by
  rw [impl_sameWave.eq, dec_pair, dec_pair, beq_dec]
  try simp only
  rw [equalI_eq _ _ hZ, Option.bind_some, sameLv_eq _ _ h hw]
  cases decide (a = b) <;> cases decide (Z = Y) <;> rfl
theorem l03_l1 (a b : Int) (X Y : List Int) (hl : X.length = Y.length) (h : X.length < 4611686018427387904) : spec_l03Same_l1 0 a X b Y = some (decide (X = Y)) :=
  eq_loop (fun x y => some (!(x != y))) X Y hl h (fun x _ y _ => by rw [bne, Bool.not_not]; exact congrArg some (by rw [Bool.eq_iff_iff]; simp)) (fun i => spec_l03Same_l1 i a X b Y) (fun i => by rw [spec_l03Same_l1.eq]; simp only [Option.bind_some, Bool.not_not])
theorem l03Same_eq (a : Int) (x : List Int) (b : Int) (y : List Int) (h : x.length < 4611686018427387904) : spec_l03Same (a, x) (b, y) = some (decide ((a, x) = (b, y))) := by
  rw [spec_l03Same.eq, dec_pair]
  try simp only
  by_cases h1 : a = b
  · rw [bif_nne h1, decide_eq_true h1, Bool.true_and, eq_list x y _ fun hl => by rw [spec_l03Same_l0.eq]; exact l03_l1 a b x y hl h]
  · rw [bif_ne h1, decide_eq_false h1]; rfl
theorem l09Packs_eq (a b c : Int) (x : List Int) (d e f : Int) (y : List Int) (h : x.length < 4611686018427387904) : spec_l09Packs (a, b, c, x) (d, e, f, y) = some (decide ((a, b, c, x) = (d, e, f, y))) := by
  rw [spec_l09Packs.eq, dec_pair, dec_pair, beq_dec, beq_dec]
  try simp only
  rw [l03Same_eq _ _ _ _ h]
  cases decide (a = d) <;> cases decide (b = e) <;> rfl

/-- What of an index must be short. -/
structure ShortFm (f : FmT) : Prop where
  z : f.2.2.2.1.length < 4611686018427387904
  l : f.2.2.2.2.1.length < 4611686018427387904
  w : ∀ p ∈ f.2.2.2.2.1, p.2.length < 4611686018427387904
  c : f.2.2.2.2.2.1.length < 4611686018427387904
  m : f.2.2.2.2.2.2.2.1.length < 4611686018427387904
  s : f.2.2.2.2.2.2.2.2.2.2.2.1.length < 4611686018427387904
  i : f.2.2.2.2.2.2.2.2.2.2.2.2.2.2.2.length < 4611686018427387904
theorem fm_dec (f g : FmT) : decide (f = g) = (decide (f.1 = g.1) && (decide (f.2.1 = g.2.1) && (decide ((f.2.2.1, f.2.2.2.1, f.2.2.2.2.1) = (g.2.2.1, g.2.2.2.1, g.2.2.2.2.1)) && (decide (f.2.2.2.2.2.1 = g.2.2.2.2.2.1) && (decide ((f.2.2.2.2.2.2.1, f.2.2.2.2.2.2.2.1) = (g.2.2.2.2.2.2.1, g.2.2.2.2.2.2.2.1)) &&
    (decide ((f.2.2.2.2.2.2.2.2.1, f.2.2.2.2.2.2.2.2.2.1, f.2.2.2.2.2.2.2.2.2.2.1, f.2.2.2.2.2.2.2.2.2.2.2.1) = (g.2.2.2.2.2.2.2.2.1, g.2.2.2.2.2.2.2.2.2.1, g.2.2.2.2.2.2.2.2.2.2.1, g.2.2.2.2.2.2.2.2.2.2.2.1)) && decide (f.2.2.2.2.2.2.2.2.2.2.2.2 = g.2.2.2.2.2.2.2.2.2.2.2.2))))))) := by
  obtain ⟨a1, a2, a3, a4, a5, a6, a7, a8, a9, a10, a11, a12, a13⟩ := f
  obtain ⟨b1, b2, b3, b4, b5, b6, b7, b8, b9, b10, b11, b12, b13⟩ := g
  simp only [dec_pair, Bool.and_assoc]
theorem sameFm_eq (f g : FmT) (h : ShortFm f) : impl_sameFm f g = some (decide (f = g)) := by
  rw [impl_sameFm.eq, fm_dec, sameWave_eq _ _ _ _ _ _ h.z h.l h.w, equalI_eq _ _ h.c, sameBits_eq _ _ _ _ h.m, samePacked_eq _ _ _ _ _ _ _ _ h.s, samePacked_eq _ _ _ _ _ _ _ _ h.i, beq_dec, beq_dec]
  simp only [Option.bind_some]
  cases decide (f.1 = g.1)
  · rfl
  cases decide (f.2.1 = g.2.1)
  · rfl
  cases decide ((f.2.2.1, f.2.2.2.1, f.2.2.2.2.1) = (g.2.2.1, g.2.2.2.1, g.2.2.2.2.1))
  · rfl
  cases decide (f.2.2.2.2.2.1 = g.2.2.2.2.2.1)
  · rfl
  cases decide ((f.2.2.2.2.2.2.1, f.2.2.2.2.2.2.2.1) = (g.2.2.2.2.2.2.1, g.2.2.2.2.2.2.2.1))
  · rfl
  cases decide ((f.2.2.2.2.2.2.2.2.1, f.2.2.2.2.2.2.2.2.2.1, f.2.2.2.2.2.2.2.2.2.2.1, f.2.2.2.2.2.2.2.2.2.2.2.1) = (g.2.2.2.2.2.2.2.2.1, g.2.2.2.2.2.2.2.2.2.1, g.2.2.2.2.2.2.2.2.2.2.1, g.2.2.2.2.2.2.2.2.2.2.2.1))
  · rfl
  rfl
theorem wLv_len : ∀ (d l : Nat) (X : List Nat), (wLv d l X).1.length = d ∧ (wLv d l X).2.length = d
  | 0, l, X => ⟨rfl, rfl⟩
  | d + 1, l, X => by
    have := wLv_len d (l + 1) (wlo l X ++ whi l X)
    rw [wLv]
    exact ⟨by rw [List.length_cons, this.1], by rw [List.length_cons, this.2]⟩
theorem wLv_words : ∀ (d l : Nat) (X : List Nat), ∀ p ∈ (wLv d l X).2, p.2.length = nw X.length
  | 0, l, X, p, h => by cases h
  | d + 1, l, X, p, h => by
    rw [wLv] at h
    have hl := lohi_len l X
    rcases List.mem_cons.1 h with rfl | h
    · rw [wrds_length, wbs_len]
    · rw [wLv_words d (l + 1) _ p h, List.length_append, hl]
theorem pk_words (w : Nat) (X : List Nat) : (pk w X).2.2.2.length = nw (X.length * w) := by
  show (ints (wrds (dgs w X))).length = _
  rw [ints_len, wrds_length, dgs_len]
/-- Sizes of an index. -/
structure SmFm (f : FmT) (k : Nat) : Prop where
  z : f.2.2.2.1.length ≤ k
  l : f.2.2.2.2.1.length ≤ k
  w : ∀ p ∈ f.2.2.2.2.1, p.2.length ≤ k
  c : f.2.2.2.2.2.1.length ≤ k
  m : f.2.2.2.2.2.2.2.1.length ≤ k
  s : f.2.2.2.2.2.2.2.2.2.2.2.1.length ≤ k
  i : f.2.2.2.2.2.2.2.2.2.2.2.2.2.2.2.length ≤ k
theorem SmFm.short {f : FmT} {k : Nat} (h : SmFm f k) (hk : k < 4611686018427387904) : ShortFm f :=
  ⟨by have := h.z; omega, by have := h.l; omega, fun p hp => by have := h.w p hp; omega, by have := h.c; omega, by have := h.m; omega, by have := h.s; omega, by have := h.i; omega⟩
theorem fmV_small (D : List Nat) (hl : D.length ≤ 300) (r : Nat) : SmFm (fmV D r) 1000 := by
  have hb := bwt_len D
  have hs := srt_len' D
  have h1 := wLv_len 9 0 (bwt D)
  have hw := wd_le9 (n := D.length) (by omega)
  have hsa := saL_len r (srt D)
  have hd : D.length / r ≤ D.length := Nat.div_le_self _ _
  have p1 := pk_size (n := (saL r (srt D)).length) (by omega) hw
  have p2 := pk_size (n := (isaL r D.length (srt D)).length) (by rw [isaL_len]; omega) hw
  refine ⟨?_, ?_, fun p hp => ?_, ?_, ?_, ?_, ?_⟩
  · show (ints (wLv 9 0 (bwt D)).1).length ≤ 1000
    rw [ints_len]; omega
  · show (LI (wLv 9 0 (bwt D)).2).length ≤ 1000
    rw [List.length_map]; omega
  · have hp' : p ∈ LI (wLv 9 0 (bwt D)).2 := hp
    obtain ⟨q, hq, rfl⟩ := List.mem_map.1 hp'
    rw [ints_len, wLv_words _ _ _ q hq]
    unfold nw; omega
  · show (ints ((List.range 258).map (ltc (bwt D)))).length ≤ 1000
    rw [ints_len, List.length_map, List.length_range]; omega
  · show (ints (wrds (mkB r (srt D)))).length ≤ 1000
    rw [ints_len, wrds_length, mkB_len]; unfold nw; omega
  · show (pk (wd D.length) (saL r (srt D))).2.2.2.length ≤ 1000
    rw [pk_words]; unfold nw; omega
  · show (pk (wd D.length) (isaL r D.length (srt D))).2.2.2.length ≤ 1000
    rw [pk_words]; unfold nw; omega

/-! #### the text -/
theorem bT_true (X : List Nat) (hX : X.length ≤ 301) (hx : ∀ x ∈ X, x ≤ 256) (h : (bT X).2 = true) : ∃ D : List Nat, bT X = (ints D, true) ∧ bwt D = X ∧ D.length ≤ 300 ∧ ∀ x ∈ D, x < 256 := by
  unfold bT at h ⊢
  cases h0 : decide (X.length = 0) with
  | true => rw [h0] at h; cases h
  | false =>
    rw [h0] at h
    rw [bif_false] at h ⊢
    have hl := wk_len X (X.length - 1) 0 []
    unfold tFin at h ⊢
    cases h1 : decide (bwt (wk X (X.length - 1) 0 []).1 = X) with
    | false => rw [h1] at h; cases h
    | true =>
      rw [bif_true]
      exact ⟨_, rfl, of_decide_eq_true h1, by have := hl.1; simp at this; omega, wk_bytes X hx _ _ _ (by simp)⟩
/-- What both readings come to. -/
def FmOkV (f : FmT) (D : List Nat) : Prop := D.length ≤ 300 ∧ (∀ x ∈ D, x < 256) ∧ 1 ≤ f.2.1 ∧ f.2.1 ≤ 64 ∧ f = fmV D f.2.1.toNat
/-- The wave is valid, and its numbers tell the text. -/
def FmW (f : FmT) (D : List Nat) : Prop := (∃ L, f.2.2.2.2.1 = LI L ∧ (∀ p ∈ L, p.2.length ≤ 1048576) ∧ (∀ p ∈ L, ∀ x ∈ p.2, x < 2 ^ 64) ∧ wOk f.2.2.1 f.2.2.2.1 L = true) ∧ bT (bwt D) = (ints D, true)
theorem implText_short (xs : List Int) (h : xs.length < 4611686018427387904) (hs : sOk xs = false) : impl_BwtText xs = some ([], false) := by
  rw [impl_BwtText.eq, implSymsOk_eq _ h, hs]; rfl
theorem specText_short (xs : List Int) (h : xs.length < 4611686018427387904) (hs : sOk xs = false) : spec_BwtText xs = some ([], false) := by
  rw [spec_BwtText.eq, specSymsOk_eq _ h, hs]; rfl
theorem specWaveList_eq (n : Int) (Z : List Int) (L : List (Int × List Nat)) (hl : ∀ p ∈ L, p.2.length ≤ 1048576) (hx : ∀ p ∈ L, ∀ x ∈ p.2, x < 2 ^ 64) : spec_WaveList (n, Z, LI L) = some (bif wOk n Z L then ints (wList n.toNat L) else []) := by
  rw [spec_WaveList.eq]
  try simp only
  rw [specWaveOk_eq n Z L hl hx, Option.bind_some]
  cases h : wOk n Z L with
  | false => rfl
  | true => rw [Bool.not_true, bif_false, bif_true, l07List_eq n Z L hx h]; rfl
theorem fmRead_eq (f : FmT) (hf : SmFm f 1048576) (hx : ∀ p ∈ f.2.2.2.2.1, ∀ x ∈ p.2, 0 ≤ x ∧ x < ((2 ^ 64 : Nat) : Int)) :
    ∃ (v : Bool) (D : List Nat) (t : List Int), spec_l09Text f = some (bif v then (ints D, true) else ([], false)) ∧ impl_Fm_read f = some (bif v then ints D else t, v) ∧ (v = true → FmOkV f D ∧ FmW f D) := by
  obtain ⟨L, hLX, hL⟩ := lv_of f.2.2.2.2.1 hx
  have hLl : ∀ p ∈ L, p.2.length ≤ 1048576 := LI_len (by rw [← hLX]; exact hf.w)
  have hread := waveRead_eq f.2.2.1 f.2.2.2.1 L hLl hL
  have hlist := specWaveList_eq f.2.2.1 f.2.2.2.1 L hLl hL
  rw [← hLX] at hread hlist
  rw [spec_l09Text.eq, impl_Fm_read.eq, hread, Option.bind_some, specRate_eq, Option.bind_some]
  have bad : ∀ s i, s = some (([] : List Int), false) → (∃ t, i = some ((t : List Int), false)) → ∃ (v : Bool) (D : List Nat) (t : List Int), s = some (bif v then (ints D, true) else ([], false)) ∧ i = some (bif v then ints D else t, v) ∧ (v = true → FmOkV f D ∧ FmW f D) :=
    fun s i h1 ⟨t, h2⟩ => ⟨false, [], t, h1, h2, fun h => by cases h⟩
  cases hr : decide (1 ≤ f.2.1) && decide (f.2.1 ≤ 64) with
  | false =>
    refine bad _ _ rfl ⟨[], ?_⟩
    cases wOk f.2.2.1 f.2.2.2.1 L with
    | false => rfl
    | true => rw [bif_true, Bool.not_true, bif_false, implRate_eq, hr]; rfl
  | true =>
    rw [Bool.not_true, bif_false]
    simp only [Bool.and_eq_true, decide_eq_true_eq] at hr
    cases hw : wOk f.2.2.1 f.2.2.2.1 L with
    | false =>
      refine bad _ _ ?_ ⟨[], rfl⟩
      by_cases hn : f.2.2.1 > 301
      · rw [bif_dec hn]
      · rw [bif_ndec hn, spec_l09Text_l0.eq, hlist, hw, Option.bind_some, bif_false]
        have := specBwtText_eq [] (by simp) (by simp)
        rw [show ints [] = ([] : List Int) from rfl] at this
        rw [this]; rfl
    | true =>
      obtain ⟨w1, w2, w3, w4, w5⟩ := wOk_at hw
      have hwl := wList_len f.2.2.1.toNat L
      rw [bif_true, Bool.not_true, bif_false, implRate_eq, decide_eq_true hr.1, decide_eq_true hr.2, Option.bind_some, Bool.and_true, Bool.not_true, bif_false]
      have hints : (ints (snds (rows (L.map lvb) (start f.2.2.1.toNat)))) = ints (wList f.2.2.1.toNat L) := rfl
      simp only [hints]
      obtain ⟨X, hXe⟩ : ∃ X, X = wList f.2.2.1.toNat L := ⟨_, rfl⟩
      have hinv := wave_inv f.2.2.1 f.2.2.2.1 L hL hw
      rw [hw] at hlist
      rw [← hXe] at hwl hlist hinv ⊢
      by_cases hn : f.2.2.1 > 301
      · refine bad _ _ (by rw [bif_dec hn]) ⟨[], ?_⟩
        have hs : sOk (ints X) = false := by
          unfold sOk
          rw [decide_eq_false (by rw [ints_len]; omega)]; rfl
        rw [implText_short _ (by rw [ints_len]; omega) hs]; rfl
      · rw [bif_ndec hn, spec_l09Text_l0.eq, hlist, Option.bind_some, bif_true]
        cases hs : sOk (ints X) with
        | false =>
          refine bad _ _ ?_ ⟨[], ?_⟩
          · rw [specText_short _ (by rw [ints_len]; omega) hs]; rfl
          · rw [implText_short _ (by rw [ints_len]; omega) hs]; rfl
        | true =>
          have hX : X.length ≤ 301 := by omega
          have hXx : ∀ x ∈ X, x ≤ 256 := by
            simp only [sOk, Bool.and_eq_true, decide_eq_true_eq, List.all_eq_true] at hs
            intro x hx
            have := hs.2 (x : Int) (List.mem_map.2 ⟨x, hx, rfl⟩)
            omega
          rw [specBwtText_eq X hX hXx, implBwtText_eq X hX hXx, Option.bind_some, Option.bind_some]
          cases hb : (bT X).2 with
          | false => exact bad _ _ rfl ⟨_, rfl⟩
          | true =>
            obtain ⟨D, d1, d2, d3, d4⟩ := bT_true X hX hXx hb
            obtain ⟨r, hre⟩ : ∃ r : Nat, f.2.1 = r := ⟨f.2.1.toNat, by omega⟩
            have hfm := implFm_eq D d3 d4 r (by omega) (by omega)
            have hfs := specFm_eq D d3 d4 r (by omega) (by omega)
            rw [← hre] at hfm hfs
            rw [d1, Bool.not_true, bif_false, bif_true]
            simp only [hfm, hfs, Option.bind_some]
            have hsm := fmV_small D d3 r
            have hse := sameFm_eq (fmV D r) f (hsm.short (by omega))
            refine ⟨decide (fmV D r = f), D, ints D, ?_, ?_, fun h => ⟨⟨d3, d4, hr.1, hr.2, ?_⟩, ⟨L, hLX, hLl, hL, hw⟩, by rw [d2]; exact d1⟩⟩
            · have hwv : (f.2.2.1, f.2.2.2.1, f.2.2.2.2.1) = ((fmV D r).2.2.1, (fmV D r).2.2.2.1, (fmV D r).2.2.2.2.1) := by
                show _ = (((bwt D).length : Int), ints (wLv 9 0 (bwt D)).1, LI (wLv 9 0 (bwt D)).2)
                rw [d2, hinv.1, hinv.2, ← hLX, hwl, Int.toNat_of_nonneg w1]
              have hdec : decide (fmV D r = f) = decide (f = fmV D r) := by rw [Bool.eq_iff_iff, decide_eq_true_eq, decide_eq_true_eq]; exact eq_comm
              have hr2 : (fmV D r).2.1 = (r : Int) := rfl
              rw [hdec, fm_dec, hwv, decide_eq_true rfl, hre, hr2, decide_eq_true rfl, Bool.true_and, Bool.true_and,
                same_eq _ _ (by have := hf.c; omega), l03Same_eq _ _ _ _ (by have := hf.m; omega), l09Packs_eq _ _ _ _ _ _ _ _ (by have := hf.s; omega), l09Packs_eq _ _ _ _ _ _ _ _ (by have := hf.i; omega)]
              simp only [Option.bind_some, bne, beq_dec]
              cases decide (f.1 = (fmV D r).1)
              · rfl
              cases decide (f.2.2.2.2.2.1 = (fmV D r).2.2.2.2.2.1)
              · rfl
              cases decide ((f.2.2.2.2.2.2.1, f.2.2.2.2.2.2.2.1) = ((fmV D r).2.2.2.2.2.2.1, (fmV D r).2.2.2.2.2.2.2.1))
              · rfl
              cases decide ((f.2.2.2.2.2.2.2.2.1, f.2.2.2.2.2.2.2.2.2.1, f.2.2.2.2.2.2.2.2.2.2.1, f.2.2.2.2.2.2.2.2.2.2.2.1) = ((fmV D r).2.2.2.2.2.2.2.2.1, (fmV D r).2.2.2.2.2.2.2.2.2.1, (fmV D r).2.2.2.2.2.2.2.2.2.2.1, (fmV D r).2.2.2.2.2.2.2.2.2.2.2.1))
              · rfl
              cases decide (f.2.2.2.2.2.2.2.2.2.2.2.2 = (fmV D r).2.2.2.2.2.2.2.2.2.2.2.2) <;> rfl
            · show (impl_sameFm (fmV D r) f).bind _ = _
              rw [hse]
              cases decide (fmV D r = f) <;> rfl
            · rw [hre, Int.toNat_natCast]; exact (of_decide_eq_true h).symm
end Go.Ev.W

/- What the laws' own helpers come to: marks in waves. -/
set_option linter.unusedVariables false
set_option linter.unusedSimpArgs false
namespace Go.Ev.W
open Go.Ev

def mBS : Int → List Nat → Lv
  | _, [] => []
  | k, m :: ms => (k, markF IntKind.u64.wrap (k + 1) m) :: mBS (k + 1 + m) ms
def mBE : Int → List Nat → Int
  | k, [] => k
  | k, m :: ms => mBE (k + 1 + m) ms
theorem mBE_eq : ∀ (k : Int) (ms : List Nat), mBE k ms = k + (ms.length + ms.sum : Nat)
  | k, [] => by simp [mBE]
  | k, m :: ms => by rw [mBE, mBE_eq, List.length_cons, List.sum_cons]; omega
theorem markBitsS_l : ∀ (ms : List Nat) (P : Lv) (Q : Lv) (k : Int), Q.map (fun p => p.2.length) = ms → 0 ≤ k → P.length + Q.length ≤ 1048576 → (∀ m ∈ ms, m ≤ 1048576) → k + ((ms.length + ms.sum : Nat) : Int) ≤ 4000000000 →
    laws_markBitsS_l0 k P.length (P ++ Q) = some (mBE k ms, P ++ mBS k ms)
  | [], P, Q, k, hq, hk, hl, hm, hs => by
    have : Q = [] := by simpa using hq
    subst this
    rw [laws_markBitsS_l0.eq, bif_ndec (by rw [List.length_append]; simp)]
    rfl
  | m :: ms, P, Q, k, hq, hk, hl, hm, hs => by
    cases Q with
    | nil => simp at hq
    | cons q Q =>
      rw [List.map_cons] at hq
      injection hq with h1 h2
      have hmm : m ≤ 1048576 := hm m List.mem_cons_self
      rw [List.length_cons, List.sum_cons] at hs
      have hi : P.length < (P ++ q :: Q).length := by rw [List.length_append, List.length_cons]; omega
      have hg : (P ++ q :: Q)[P.length]? = some q := by rw [List.getElem?_append_right (Nat.le_refl _), Nat.sub_self]; rfl
      have hset : ∀ (y z : Int × List Int), (P ++ y :: Q).set P.length z = P ++ z :: Q := fun y z => by rw [List.set_append_right _ _ (Nat.le_refl _), Nat.sub_self]; rfl
      have hg2 : ∀ y : Int × List Int, (P ++ y :: Q)[P.length]? = some y := fun y => by rw [List.getElem?_append_right (Nat.le_refl _), Nat.sub_self]; rfl
      rw [List.length_cons] at hl
      rw [laws_markBitsS_l0.eq, bif_dec (by omega)]
      simp only [at?_nat, Int.toNat_natCast, hg, hset, hg2, Option.bind_some]
      rw [wrapI (by omega) (by omega), markUint64S_eq _ _ (by omega) (by omega), Option.bind_some, wrapS _ (by omega)]
      have ih := markBitsS_l ms (P ++ [(k, markF IntKind.u64.wrap (k + 1) m)]) Q (k + 1 + m) h2 (by omega) (by rw [List.length_append, List.length_cons, List.length_nil]; omega) (fun x hx => hm x (List.mem_cons_of_mem _ hx)) (by omega)
      rw [List.length_append, List.length_cons, List.length_nil, List.append_assoc, List.append_assoc] at ih
      simp only [h1]
      exact ih
abbrev lens (L : Lv) : List Nat := L.map fun p => p.2.length
theorem Small.sum {Z : List Int} {L : Lv} (h : Small Z L) : Z.length + (lens L).length + (lens L).sum ≤ 1048576 := by
  have := h.s
  rw [List.length_map]; exact this
theorem Small.lw {Z : List Int} {L : Lv} (h : Small Z L) : ∀ m ∈ lens L, m ≤ 1048576 := by
  intro m hm
  obtain ⟨p, hp, rfl⟩ := List.mem_map.1 hm
  exact h.w p hp
theorem markWave_eq (n : Int) (Z : List Int) (L : Lv) (k : Int) (hk : 0 ≤ k) (hk2 : k ≤ 1000000000) (h : Small Z L) :
    laws_markWave (n, Z, L) k = some (mBE (k + Z.length) (lens L), (n, markF id k Z.length, mBS (k + Z.length) (lens L))) := by
  rw [laws_markWave.eq]
  have := h.z
  have := h.l
  have hs := h.sum
  try simp only
  rw [markIntS_eq _ _ hk (by omega), Option.bind_some, laws_markBitsS.eq]
  have := markBitsS_l (lens L) [] L (k + Z.length) rfl (by omega) (by simp; omega) h.lw (by omega)
  simp only [List.length_nil, List.nil_append] at this ⊢
  have e : ((0 : Nat) : Int) = 0 := rfl
  rw [e] at this
  rw [this, Option.bind_some]
end Go.Ev.W

/- Indexes: the laws' helpers. -/
set_option linter.unusedVariables false
set_option linter.unusedSimpArgs false
namespace Go.Ev.W
open Go.Ev

theorem szPacked_eq (v : Int × Int × Int × List Int) (k : Int) (hk : 0 ≤ k) (hk2 : k ≤ 1048576) (h : v.2.2.2.length ≤ maxLen) : laws_szPacked v k = some (if k - v.2.2.2.length < 0 then -1 else k - v.2.2.2.length) := by
  rw [laws_szPacked.eq, szBits_eq _ _ hk hk2 h, Option.bind_some, szcase]
  by_cases hc : k - (v.2.2.2.length : Int) < 0
  · rw [bif_dec hc, if_pos hc]
  · rw [bif_ndec hc]
theorem toPacked_eq (a b c : Int) (x : List Int) (h : x.length ≤ 1048576) : laws_toPacked (a, b, c, x) = some (a, b, c, x) := by
  rw [laws_toPacked.eq, toBits_eq _ _ h, Option.bind_some]
theorem szWave_ok2 (n : Int) (Z : List Int) (L : Lv) (hz : Z.length ≤ maxLen) (h : L.length ≤ maxLen) (hw : ∀ p ∈ L, p.2.length ≤ maxLen) : ∃ r, laws_szWave (n, Z, L) 1048576 = some r ∧ r ≤ 1048576 ∧ (r < 0 ∨ (¬ r < 0 ∧ Small Z L)) := by
  obtain ⟨r, h1, h2⟩ := szWave_ok n Z L hz h hw
  refine ⟨r, h1, ?_, h2⟩
  rw [laws_szWave.eq] at h1
  simp only at h1
  rw [szIntS_eq _ _ (by omega) (by omega) hz, Option.bind_some, szcase] at h1
  by_cases hc : (1048576 : Int) - (Z.length : Int) < 0
  · rw [bif_dec hc] at h1; injection h1 with h1; omega
  · rw [bif_ndec hc, if_neg hc] at h1
    obtain ⟨q, k1, k2⟩ := szBitsS_ok L (1048576 - Z.length) (by omega) (by omega) h hw
    rw [k1, Option.bind_some] at h1
    by_cases hr : q < 0
    · rw [bif_dec hr] at h1; injection h1 with h1; omega
    · rw [bif_ndec hr] at h1; injection h1 with h1
      rcases k2 with k2 | ⟨_, k2⟩ <;> omega
/-- What the guard gives. -/
structure GdFm (f : FmT) : Prop where
  sm : SmFm f 1048576
  wv : Small f.2.2.2.1 f.2.2.2.2.1
theorem szFm_ok3 (f : FmT) (hz : f.2.2.2.1.length ≤ maxLen) (hl : f.2.2.2.2.1.length ≤ maxLen) (hw : ∀ p ∈ f.2.2.2.2.1, p.2.length ≤ maxLen) (hc : f.2.2.2.2.2.1.length ≤ maxLen) (hm : f.2.2.2.2.2.2.2.1.length ≤ maxLen) (hs : f.2.2.2.2.2.2.2.2.2.2.2.1.length ≤ maxLen) (hi : f.2.2.2.2.2.2.2.2.2.2.2.2.2.2.2.length ≤ maxLen) :
    ∃ r, laws_szFm f 1048576 = some r ∧ (r < 0 ∨ (¬ r < 0 ∧ GdFm f ∧ r ≤ 1048576)) := by
  rw [laws_szFm.eq]
  obtain ⟨r1, h1, hr1, h2⟩ := szWave_ok2 f.2.2.1 f.2.2.2.1 f.2.2.2.2.1 hz hl hw
  rw [h1, Option.bind_some]
  by_cases c1 : r1 < 0
  · rw [bif_dec c1]; exact ⟨-1, rfl, .inl (by omega)⟩
  have hsm : Small f.2.2.2.1 f.2.2.2.2.1 := h2.elim (fun h => absurd h c1) fun h => h.2
  rw [bif_ndec c1, szIntS_eq _ _ (by omega) hr1 hc, Option.bind_some, szcase]
  by_cases c2 : r1 - (f.2.2.2.2.2.1.length : Int) < 0
  · rw [bif_dec c2]; exact ⟨-1, rfl, .inl (by omega)⟩
  rw [bif_ndec c2, if_neg c2, szBits_eq _ _ (by omega) (by omega) hm, Option.bind_some, szcase]
  try simp only
  by_cases c3 : r1 - (f.2.2.2.2.2.1.length : Int) - (f.2.2.2.2.2.2.2.1.length : Int) < 0
  · rw [bif_dec c3]; exact ⟨-1, rfl, .inl (by omega)⟩
  rw [bif_ndec c3, if_neg c3, szPacked_eq _ _ (by omega) (by omega) hs, Option.bind_some, szcase]
  try simp only
  by_cases c4 : r1 - (f.2.2.2.2.2.1.length : Int) - (f.2.2.2.2.2.2.2.1.length : Int) - (f.2.2.2.2.2.2.2.2.2.2.2.1.length : Int) < 0
  · rw [bif_dec c4]; exact ⟨-1, rfl, .inl (by omega)⟩
  rw [bif_ndec c4, if_neg c4, szPacked_eq _ _ (by omega) (by omega) hi, Option.bind_some, szcase]
  by_cases c5 : r1 - (f.2.2.2.2.2.1.length : Int) - (f.2.2.2.2.2.2.2.1.length : Int) - (f.2.2.2.2.2.2.2.2.2.2.2.1.length : Int) - (f.2.2.2.2.2.2.2.2.2.2.2.2.2.2.2.length : Int) < 0
  · rw [bif_dec c5]; exact ⟨-1, rfl, .inl (by omega)⟩
  rw [bif_ndec c5, if_neg c5]
  exact ⟨_, rfl, .inr ⟨c5, ⟨⟨hsm.z, hsm.l, hsm.w, by omega, by omega, by omega, by omega⟩, hsm⟩, by omega⟩⟩
theorem toFm_eq (f : FmT) (h : GdFm f) : laws_toFm f = some f := by
  rw [laws_toFm.eq, toWave_eq _ _ _ h.wv, Option.bind_some, toIntS_eq _ h.sm.c, Option.bind_some, toBits_eq _ _ h.sm.m, Option.bind_some, toPacked_eq _ _ _ _ h.sm.s, Option.bind_some, toPacked_eq _ _ _ _ h.sm.i, Option.bind_some]
theorem eqPacked_v (v w : Int × Int × Int × List Int) (h : v.2.2.2.length < 4611686018427387904) : laws_eqPacked v w = some (decide (v = w)) := eqPacked_eq v.1 v.2.1 v.2.2.1 v.2.2.2 w.1 w.2.1 w.2.2.1 w.2.2.2 h
theorem eqFm_eq (f g : FmT) (h : GdFm f) : laws_eqFm f g = some (decide (f = g)) := by
  rw [laws_eqFm.eq, fm_dec, eqWave_eq _ _ _ _ _ _ h.wv, eqIntS_eq _ _ (by have := h.sm.c; omega), eqBits_eq _ _ _ _ (by have := h.sm.m; omega), eqPacked_eq _ _ _ _ _ _ _ _ (by have := h.sm.s; omega), eqPacked_v _ _ (by have := h.sm.i; omega)]
  simp only [Option.bind_some, bne, beq_dec]
  cases decide (f.1 = g.1)
  · rfl
  cases decide (f.2.1 = g.2.1)
  · rfl
  cases decide ((f.2.2.1, f.2.2.2.1, f.2.2.2.2.1) = (g.2.2.1, g.2.2.2.1, g.2.2.2.2.1))
  · rfl
  cases decide (f.2.2.2.2.2.1 = g.2.2.2.2.2.1)
  · rfl
  cases decide ((f.2.2.2.2.2.2.1, f.2.2.2.2.2.2.2.1) = (g.2.2.2.2.2.2.1, g.2.2.2.2.2.2.2.1))
  · rfl
  cases decide ((f.2.2.2.2.2.2.2.2.1, f.2.2.2.2.2.2.2.2.2.1, f.2.2.2.2.2.2.2.2.2.2.1, f.2.2.2.2.2.2.2.2.2.2.2.1) = (g.2.2.2.2.2.2.2.2.1, g.2.2.2.2.2.2.2.2.2.1, g.2.2.2.2.2.2.2.2.2.2.1, g.2.2.2.2.2.2.2.2.2.2.2.1))
  · rfl
  cases decide (f.2.2.2.2.2.2.2.2.2.2.2.2 = g.2.2.2.2.2.2.2.2.2.2.2.2) <;> rfl
theorem markPacked_v (v : Int × Int × Int × List Int) (k : Int) (hk : 0 ≤ k) (h : k + (v.2.2.2.length : Int) < 4611686018427387904) : laws_markPacked v k = some (k + v.2.2.2.length, (v.1, v.2.1, v.2.2.1, markF IntKind.u64.wrap k v.2.2.2.length)) :=
  markPacked_eq v.1 v.2.1 v.2.2.1 v.2.2.2 k hk h
theorem markFm_ok (f : FmT) (h : GdFm f) : ∃ r g, laws_markFm f 1 = some (r, g) ∧ 0 ≤ r ∧ r ≤ 100000000 := by
  have hs := h.wv.sum
  have hE := mBE_eq (1 + f.2.2.2.1.length) (lens f.2.2.2.2.1)
  have := h.sm.c
  have := h.sm.m
  have := h.sm.s
  have := h.sm.i
  rw [laws_markFm.eq, markWave_eq _ _ _ 1 (by omega) (by omega) h.wv, Option.bind_some]
  try simp only
  rw [markIntS_eq _ _ (by omega) (by omega), Option.bind_some]
  try simp only
  rw [markBits_eq _ _ _ (by omega) (by omega), Option.bind_some]
  try simp only
  rw [markPacked_eq _ _ _ _ _ (by omega) (by omega), Option.bind_some]
  try simp only
  rw [markPacked_v _ _ (by omega) (by omega), Option.bind_some]
  exact ⟨_, _, rfl, by omega, by omega⟩
end Go.Ev.W

/- Relative indexes: equality and the laws' helpers. -/
set_option linter.unusedVariables false
set_option linter.unusedSimpArgs false
namespace Go.Ev.W
open Go.Ev

abbrev RelT := Int × Int × Int × (List Int) × Int × (List Int) × Int × (List Int) × (List (Int × (List Int))) × Int × (List Int) × (List (Int × (List Int))) × FmT11
instance decRelA : DecidableEq (Int × (List Int) × (List (Int × (List Int))) × FmT11) := @instDecidableEqProd Int _ inferInstance decFm13
instance decRelB : DecidableEq (Int × (List Int) × (List (Int × (List Int))) × Int × (List Int) × (List (Int × (List Int))) × FmT11) := @instDecidableEqProd Int _ inferInstance (@instDecidableEqProd (List Int) _ inferInstance (@instDecidableEqProd (List (Int × (List Int))) _ inferInstance decRelA))
instance decRelC : DecidableEq (Int × (List Int) × Int × (List Int) × Int × (List Int) × (List (Int × (List Int))) × Int × (List Int) × (List (Int × (List Int))) × FmT11) := @instDecidableEqProd Int _ inferInstance (@instDecidableEqProd (List Int) _ inferInstance (@instDecidableEqProd Int _ inferInstance (@instDecidableEqProd (List Int) _ inferInstance decRelB)))
instance decRel : DecidableEq RelT := @instDecidableEqProd Int _ inferInstance (@instDecidableEqProd Int _ inferInstance decRelC)
theorem rel_dec (x y : RelT) : decide (x = y) = (decide (x.1 = y.1) && (decide (x.2.1 = y.2.1) && (decide ((x.2.2.1, x.2.2.2.1) = (y.2.2.1, y.2.2.2.1)) && (decide ((x.2.2.2.2.1, x.2.2.2.2.2.1) = (y.2.2.2.2.1, y.2.2.2.2.2.1)) && (decide ((x.2.2.2.2.2.2.1, x.2.2.2.2.2.2.2.1, x.2.2.2.2.2.2.2.2.1) = (y.2.2.2.2.2.2.1, y.2.2.2.2.2.2.2.1, y.2.2.2.2.2.2.2.2.1)) && (decide ((x.2.2.2.2.2.2.2.2.2.1, x.2.2.2.2.2.2.2.2.2.2.1, x.2.2.2.2.2.2.2.2.2.2.2.1) = (y.2.2.2.2.2.2.2.2.2.1, y.2.2.2.2.2.2.2.2.2.2.1, y.2.2.2.2.2.2.2.2.2.2.2.1)) && (decide (x.2.2.2.2.2.2.2.2.2.2.2.2.1 = y.2.2.2.2.2.2.2.2.2.2.2.2.1) && (decide ((x.2.2.2.2.2.2.2.2.2.2.2.2.2.1, x.2.2.2.2.2.2.2.2.2.2.2.2.2.2.1) = (y.2.2.2.2.2.2.2.2.2.2.2.2.2.1, y.2.2.2.2.2.2.2.2.2.2.2.2.2.2.1)) && (decide ((x.2.2.2.2.2.2.2.2.2.2.2.2.2.2.2.1, x.2.2.2.2.2.2.2.2.2.2.2.2.2.2.2.2.1, x.2.2.2.2.2.2.2.2.2.2.2.2.2.2.2.2.2.1, x.2.2.2.2.2.2.2.2.2.2.2.2.2.2.2.2.2.2.1) = (y.2.2.2.2.2.2.2.2.2.2.2.2.2.2.2.1, y.2.2.2.2.2.2.2.2.2.2.2.2.2.2.2.2.1, y.2.2.2.2.2.2.2.2.2.2.2.2.2.2.2.2.2.1, y.2.2.2.2.2.2.2.2.2.2.2.2.2.2.2.2.2.2.1)) && decide (x.2.2.2.2.2.2.2.2.2.2.2.2.2.2.2.2.2.2.2 = y.2.2.2.2.2.2.2.2.2.2.2.2.2.2.2.2.2.2.2)))))))))) := by
  obtain ⟨a1, a2, a3, a4, a5, a6, a7, a8, a9, a10, a11, a12, a13, a14, a15, a16, a17, a18, a19, a20⟩ := x
  obtain ⟨b1, b2, b3, b4, b5, b6, b7, b8, b9, b10, b11, b12, b13, b14, b15, b16, b17, b18, b19, b20⟩ := y
  simp only [dec_pair, Bool.and_assoc]
/-- Sizes. -/
structure SmRel (x : RelT) (k : Nat) : Prop where
  ref : x.2.2.2.1.length ≤ k
  inn : x.2.2.2.2.2.1.length ≤ k
  z1 : x.2.2.2.2.2.2.2.1.length ≤ k
  l1 : x.2.2.2.2.2.2.2.2.1.length ≤ k
  z2 : x.2.2.2.2.2.2.2.2.2.2.1.length ≤ k
  l2 : x.2.2.2.2.2.2.2.2.2.2.2.1.length ≤ k
  c : x.2.2.2.2.2.2.2.2.2.2.2.2.1.length ≤ k
  m : x.2.2.2.2.2.2.2.2.2.2.2.2.2.2.1.length ≤ k
  s : x.2.2.2.2.2.2.2.2.2.2.2.2.2.2.2.2.2.2.1.length ≤ k
  i : x.2.2.2.2.2.2.2.2.2.2.2.2.2.2.2.2.2.2.2.2.2.2.length ≤ k
  v1 : ∀ p ∈ x.2.2.2.2.2.2.2.2.1, p.2.length ≤ k
  v2 : ∀ p ∈ x.2.2.2.2.2.2.2.2.2.2.2.1, p.2.length ≤ k
structure GdRel (x : RelT) : Prop where
  sm : SmRel x 1048576
  wv1 : Small x.2.2.2.2.2.2.2.1 x.2.2.2.2.2.2.2.2.1
  wv2 : Small x.2.2.2.2.2.2.2.2.2.2.1 x.2.2.2.2.2.2.2.2.2.2.2.1
theorem samePacked_v (v w : Int × Int × Int × List Int) (h : v.2.2.2.length < 4611686018427387904) : impl_samePacked v w = some (decide (v = w)) := samePacked_eq v.1 v.2.1 v.2.2.1 v.2.2.2 w.1 w.2.1 w.2.2.1 w.2.2.2 h
theorem sameRel_eq (x y : RelT) (k : Nat) (hk : k < 4611686018427387904) (h : SmRel x k) : impl_sameRel x y = some (decide (x = y)) := by
  rw [impl_sameRel.eq, rel_dec, sameBits_eq _ _ _ _ (by have := h.ref; omega), sameBits_eq _ _ _ _ (by have := h.inn; omega), sameWave_eq _ _ _ _ _ _ (by have := h.z1; omega) (by have := h.l1; omega) (fun p hp => by have := h.v1 p hp; omega), sameWave_eq _ _ _ _ _ _ (by have := h.z2; omega) (by have := h.l2; omega) (fun p hp => by have := h.v2 p hp; omega), equalI_eq _ _ (by have := h.c; omega), sameBits_eq _ _ _ _ (by have := h.m; omega), samePacked_eq _ _ _ _ _ _ _ _ (by have := h.s; omega), samePacked_v _ _ (by have := h.i; omega), beq_dec, beq_dec]
  simp only [Option.bind_some]
  cases decide (x.1 = y.1)
  · rfl
  cases decide (x.2.1 = y.2.1)
  · rfl
  cases decide ((x.2.2.1, x.2.2.2.1) = (y.2.2.1, y.2.2.2.1))
  · rfl
  cases decide ((x.2.2.2.2.1, x.2.2.2.2.2.1) = (y.2.2.2.2.1, y.2.2.2.2.2.1))
  · rfl
  cases decide ((x.2.2.2.2.2.2.1, x.2.2.2.2.2.2.2.1, x.2.2.2.2.2.2.2.2.1) = (y.2.2.2.2.2.2.1, y.2.2.2.2.2.2.2.1, y.2.2.2.2.2.2.2.2.1))
  · rfl
  cases decide ((x.2.2.2.2.2.2.2.2.2.1, x.2.2.2.2.2.2.2.2.2.2.1, x.2.2.2.2.2.2.2.2.2.2.2.1) = (y.2.2.2.2.2.2.2.2.2.1, y.2.2.2.2.2.2.2.2.2.2.1, y.2.2.2.2.2.2.2.2.2.2.2.1))
  · rfl
  cases decide (x.2.2.2.2.2.2.2.2.2.2.2.2.1 = y.2.2.2.2.2.2.2.2.2.2.2.2.1)
  · rfl
  cases decide ((x.2.2.2.2.2.2.2.2.2.2.2.2.2.1, x.2.2.2.2.2.2.2.2.2.2.2.2.2.2.1) = (y.2.2.2.2.2.2.2.2.2.2.2.2.2.1, y.2.2.2.2.2.2.2.2.2.2.2.2.2.2.1))
  · rfl
  cases decide ((x.2.2.2.2.2.2.2.2.2.2.2.2.2.2.2.1, x.2.2.2.2.2.2.2.2.2.2.2.2.2.2.2.2.1, x.2.2.2.2.2.2.2.2.2.2.2.2.2.2.2.2.2.1, x.2.2.2.2.2.2.2.2.2.2.2.2.2.2.2.2.2.2.1) = (y.2.2.2.2.2.2.2.2.2.2.2.2.2.2.2.1, y.2.2.2.2.2.2.2.2.2.2.2.2.2.2.2.2.1, y.2.2.2.2.2.2.2.2.2.2.2.2.2.2.2.2.2.1, y.2.2.2.2.2.2.2.2.2.2.2.2.2.2.2.2.2.2.1))
  · rfl
  rfl
theorem szWave_gen (n : Int) (Z : List Int) (L : Lv) (k : Int) (hk : 0 ≤ k) (hk2 : k ≤ 1048576) (hz : Z.length ≤ maxLen) (h : L.length ≤ maxLen) (hw : ∀ p ∈ L, p.2.length ≤ maxLen) : ∃ r, laws_szWave (n, Z, L) k = some r ∧ r ≤ k ∧ (r < 0 ∨ (¬ r < 0 ∧ Small Z L)) := by
  rw [laws_szWave.eq]
  simp only
  rw [szIntS_eq _ _ hk hk2 hz, Option.bind_some, szcase]
  by_cases hc : k - (Z.length : Int) < 0
  · rw [bif_dec hc]; exact ⟨-1, rfl, by omega, .inl (by omega)⟩
  · rw [bif_ndec hc, if_neg hc]
    obtain ⟨r, h1, h2⟩ := szBitsS_ok L (k - Z.length) (by omega) (by omega) h hw
    rw [h1, Option.bind_some]
    by_cases hr : r < 0
    · rw [bif_dec hr]; exact ⟨-1, rfl, by omega, .inl (by omega)⟩
    · rw [bif_ndec hr]
      rcases h2 with h2 | ⟨_, h2⟩
      · omega
      · exact ⟨r, rfl, by omega, .inr ⟨hr, ⟨by omega, by omega, fun p hp => by have := sum_ge (List.mem_map.2 ⟨p, hp, rfl⟩ : p.2.length ∈ L.map fun p => p.2.length); omega, by omega⟩⟩⟩
theorem szRel_ok (x : RelT) (k : Int) (hk : 0 ≤ k) (hk2 : k ≤ 1048576) (href : x.2.2.2.1.length ≤ maxLen) (hinn : x.2.2.2.2.2.1.length ≤ maxLen) (hz1 : x.2.2.2.2.2.2.2.1.length ≤ maxLen) (hl1 : x.2.2.2.2.2.2.2.2.1.length ≤ maxLen) (hz2 : x.2.2.2.2.2.2.2.2.2.2.1.length ≤ maxLen) (hl2 : x.2.2.2.2.2.2.2.2.2.2.2.1.length ≤ maxLen) (hc : x.2.2.2.2.2.2.2.2.2.2.2.2.1.length ≤ maxLen) (hm : x.2.2.2.2.2.2.2.2.2.2.2.2.2.2.1.length ≤ maxLen) (hs : x.2.2.2.2.2.2.2.2.2.2.2.2.2.2.2.2.2.2.1.length ≤ maxLen) (hi : x.2.2.2.2.2.2.2.2.2.2.2.2.2.2.2.2.2.2.2.2.2.2.length ≤ maxLen) (hv1 : ∀ p ∈ x.2.2.2.2.2.2.2.2.1, p.2.length ≤ maxLen) (hv2 : ∀ p ∈ x.2.2.2.2.2.2.2.2.2.2.2.1, p.2.length ≤ maxLen) : ∃ r, laws_szRel x k = some r ∧ (r < 0 ∨ (¬ r < 0 ∧ GdRel x)) := by
  rw [laws_szRel.eq]
  rw [szBits_eq _ _ (by omega) (by omega) href, Option.bind_some, szcase]
  try simp only
  by_cases c1 : k - (x.2.2.2.1.length : Int) < 0
  · rw [bif_dec c1]; exact ⟨-1, rfl, .inl (by omega)⟩
  rw [bif_ndec c1, if_neg c1]
  rw [szBits_eq _ _ (by omega) (by omega) hinn, Option.bind_some, szcase]
  try simp only
  by_cases c2 : k - (x.2.2.2.1.length : Int) - (x.2.2.2.2.2.1.length : Int) < 0
  · rw [bif_dec c2]; exact ⟨-1, rfl, .inl (by omega)⟩
  rw [bif_ndec c2, if_neg c2]
  obtain ⟨r3, k3, e3, f3⟩ := szWave_gen x.2.2.2.2.2.2.1 x.2.2.2.2.2.2.2.1 x.2.2.2.2.2.2.2.2.1 (k - (x.2.2.2.1.length : Int) - (x.2.2.2.2.2.1.length : Int)) (by omega) (by omega) hz1 hl1 hv1
  rw [k3, Option.bind_some]
  by_cases c3 : r3 < 0
  · rw [bif_dec c3]; exact ⟨-1, rfl, .inl (by omega)⟩
  have s3 := f3.elim (fun h => absurd h c3) fun h => h.2
  rw [bif_ndec c3]
  obtain ⟨r4, k4, e4, f4⟩ := szWave_gen x.2.2.2.2.2.2.2.2.2.1 x.2.2.2.2.2.2.2.2.2.2.1 x.2.2.2.2.2.2.2.2.2.2.2.1 (r3) (by omega) (by omega) hz2 hl2 hv2
  rw [k4, Option.bind_some]
  by_cases c4 : r4 < 0
  · rw [bif_dec c4]; exact ⟨-1, rfl, .inl (by omega)⟩
  have s4 := f4.elim (fun h => absurd h c4) fun h => h.2
  rw [bif_ndec c4]
  rw [szIntS_eq _ _ (by omega) (by omega) hc, Option.bind_some, szcase]
  try simp only
  by_cases c5 : r4 - (x.2.2.2.2.2.2.2.2.2.2.2.2.1.length : Int) < 0
  · rw [bif_dec c5]; exact ⟨-1, rfl, .inl (by omega)⟩
  rw [bif_ndec c5, if_neg c5]
  rw [szBits_eq _ _ (by omega) (by omega) hm, Option.bind_some, szcase]
  try simp only
  by_cases c6 : r4 - (x.2.2.2.2.2.2.2.2.2.2.2.2.1.length : Int) - (x.2.2.2.2.2.2.2.2.2.2.2.2.2.2.1.length : Int) < 0
  · rw [bif_dec c6]; exact ⟨-1, rfl, .inl (by omega)⟩
  rw [bif_ndec c6, if_neg c6]
  rw [szPacked_eq _ _ (by omega) (by omega) hs, Option.bind_some, szcase]
  try simp only
  by_cases c7 : r4 - (x.2.2.2.2.2.2.2.2.2.2.2.2.1.length : Int) - (x.2.2.2.2.2.2.2.2.2.2.2.2.2.2.1.length : Int) - (x.2.2.2.2.2.2.2.2.2.2.2.2.2.2.2.2.2.2.1.length : Int) < 0
  · rw [bif_dec c7]; exact ⟨-1, rfl, .inl (by omega)⟩
  rw [bif_ndec c7, if_neg c7]
  rw [szPacked_eq _ _ (by omega) (by omega) hi, Option.bind_some, szcase]
  try simp only
  by_cases c8 : r4 - (x.2.2.2.2.2.2.2.2.2.2.2.2.1.length : Int) - (x.2.2.2.2.2.2.2.2.2.2.2.2.2.2.1.length : Int) - (x.2.2.2.2.2.2.2.2.2.2.2.2.2.2.2.2.2.2.1.length : Int) - (x.2.2.2.2.2.2.2.2.2.2.2.2.2.2.2.2.2.2.2.2.2.2.length : Int) < 0
  · rw [bif_dec c8]; exact ⟨-1, rfl, .inl (by omega)⟩
  rw [bif_ndec c8, if_neg c8]
  exact ⟨_, rfl, .inr ⟨c8, ⟨⟨by omega, by omega, s3.z, s3.l, s4.z, s4.l, by omega, by omega, by omega, by omega, s3.w, s4.w⟩, s3, s4⟩⟩⟩
theorem toRel_eq (x : RelT) (h : GdRel x) : laws_toRel x = some x := by
  rw [laws_toRel.eq, toBits_eq _ _ h.sm.ref, Option.bind_some, toBits_eq _ _ h.sm.inn, Option.bind_some, toWave_eq _ _ _ h.wv1, Option.bind_some, toWave_eq _ _ _ h.wv2, Option.bind_some, toIntS_eq _ h.sm.c, Option.bind_some, toBits_eq _ _ h.sm.m, Option.bind_some, toPacked_eq _ _ _ _ h.sm.s, Option.bind_some, toPacked_eq _ _ _ _ h.sm.i, Option.bind_some]
theorem eqRel_eq (x y : RelT) (h : GdRel x) : laws_eqRel x y = some (decide (x = y)) := by
  rw [laws_eqRel.eq, rel_dec, eqBits_eq _ _ _ _ (by have := h.sm.ref; omega), eqBits_eq _ _ _ _ (by have := h.sm.inn; omega), eqWave_eq _ _ _ _ _ _ h.wv1, eqWave_eq _ _ _ _ _ _ h.wv2, eqIntS_eq _ _ (by have := h.sm.c; omega), eqBits_eq _ _ _ _ (by have := h.sm.m; omega), eqPacked_eq _ _ _ _ _ _ _ _ (by have := h.sm.s; omega), eqPacked_v _ _ (by have := h.sm.i; omega)]
  simp only [Option.bind_some, bne, beq_dec]
  cases decide (x.1 = y.1)
  · rfl
  cases decide (x.2.1 = y.2.1)
  · rfl
  cases decide ((x.2.2.1, x.2.2.2.1) = (y.2.2.1, y.2.2.2.1))
  · rfl
  cases decide ((x.2.2.2.2.1, x.2.2.2.2.2.1) = (y.2.2.2.2.1, y.2.2.2.2.2.1))
  · rfl
  cases decide ((x.2.2.2.2.2.2.1, x.2.2.2.2.2.2.2.1, x.2.2.2.2.2.2.2.2.1) = (y.2.2.2.2.2.2.1, y.2.2.2.2.2.2.2.1, y.2.2.2.2.2.2.2.2.1))
  · rfl
  cases decide ((x.2.2.2.2.2.2.2.2.2.1, x.2.2.2.2.2.2.2.2.2.2.1, x.2.2.2.2.2.2.2.2.2.2.2.1) = (y.2.2.2.2.2.2.2.2.2.1, y.2.2.2.2.2.2.2.2.2.2.1, y.2.2.2.2.2.2.2.2.2.2.2.1))
  · rfl
  cases decide (x.2.2.2.2.2.2.2.2.2.2.2.2.1 = y.2.2.2.2.2.2.2.2.2.2.2.2.1)
  · rfl
  cases decide ((x.2.2.2.2.2.2.2.2.2.2.2.2.2.1, x.2.2.2.2.2.2.2.2.2.2.2.2.2.2.1) = (y.2.2.2.2.2.2.2.2.2.2.2.2.2.1, y.2.2.2.2.2.2.2.2.2.2.2.2.2.2.1))
  · rfl
  cases decide ((x.2.2.2.2.2.2.2.2.2.2.2.2.2.2.2.1, x.2.2.2.2.2.2.2.2.2.2.2.2.2.2.2.2.1, x.2.2.2.2.2.2.2.2.2.2.2.2.2.2.2.2.2.1, x.2.2.2.2.2.2.2.2.2.2.2.2.2.2.2.2.2.2.1) = (y.2.2.2.2.2.2.2.2.2.2.2.2.2.2.2.1, y.2.2.2.2.2.2.2.2.2.2.2.2.2.2.2.2.1, y.2.2.2.2.2.2.2.2.2.2.2.2.2.2.2.2.2.1, y.2.2.2.2.2.2.2.2.2.2.2.2.2.2.2.2.2.2.1))
  · rfl
  cases decide (x.2.2.2.2.2.2.2.2.2.2.2.2.2.2.2.2.2.2.2 = y.2.2.2.2.2.2.2.2.2.2.2.2.2.2.2.2.2.2.2) <;> rfl
theorem markRel_ok (x : RelT) (h : GdRel x) (k : Int) (hk : 0 ≤ k) (hk2 : k ≤ 100000000) : ∃ r g, laws_markRel x k = some (r, g) ∧ 0 ≤ r ∧ r ≤ 1000000000 := by
  have := h.sm.ref
  have := h.sm.inn
  have := h.sm.c
  have := h.sm.m
  have := h.sm.s
  have := h.sm.i
  have s1 := h.wv1.sum
  have s2 := h.wv2.sum
  have hE1 := mBE_eq (k + x.2.2.2.1.length + x.2.2.2.2.2.1.length + x.2.2.2.2.2.2.2.1.length) (lens x.2.2.2.2.2.2.2.2.1)
  rw [laws_markRel.eq, markBits_eq _ _ _ hk (by omega), Option.bind_some]
  try simp only
  rw [markBits_eq _ _ _ (by omega) (by omega), Option.bind_some]
  try simp only
  rw [markWave_eq _ _ _ _ (by omega) (by omega) h.wv1, Option.bind_some]
  try simp only
  have hE2 := mBE_eq (mBE (k + x.2.2.2.1.length + x.2.2.2.2.2.1.length + x.2.2.2.2.2.2.2.1.length) (lens x.2.2.2.2.2.2.2.2.1) + x.2.2.2.2.2.2.2.2.2.2.1.length) (lens x.2.2.2.2.2.2.2.2.2.2.2.1)
  rw [markWave_eq _ _ _ _ (by omega) (by omega) h.wv2, Option.bind_some]
  try simp only
  rw [markIntS_eq _ _ (by omega) (by omega), Option.bind_some]
  try simp only
  rw [markBits_eq _ _ _ (by omega) (by omega), Option.bind_some]
  try simp only
  rw [markPacked_eq _ _ _ _ _ (by omega) (by omega), Option.bind_some]
  try simp only
  rw [markPacked_v _ _ (by omega) (by omega), Option.bind_some]
  exact ⟨_, _, rfl, by omega, by omega⟩
end Go.Ev.W

/- Checksums and frames: both functions. -/
set_option linter.unusedVariables false
set_option linter.unusedSimpArgs false
namespace Go.Ev.W
open Go.Ev

def crcS (c : Nat) : Nat := if c % 2 = 1 then c / 2 ^^^ 3988292384 else c / 2
def crcN : Nat → Nat → Nat
  | 0, c => c
  | k + 1, c => crcN k (crcS c)
def crcV (D : List Nat) (c : Nat) : Nat := D.foldl (fun c x => crcN 8 (c ^^^ x)) c
def crc (D : List Nat) : Nat := crcV D 4294967295 ^^^ 4294967295
theorem crcS_lt {c : Nat} (h : c < 4294967296) : crcS c < 4294967296 := by
  unfold crcS
  split
  · exact Nat.xor_lt_two_pow (n := 32) (by omega) (by omega)
  · omega
theorem crcN_lt : ∀ (k : Nat) {c : Nat}, c < 4294967296 → crcN k c < 4294967296
  | 0, _, h => h
  | k + 1, _, h => crcN_lt k (crcS_lt h)
theorem xor_lt32 {a b : Nat} (ha : a < 4294967296) (hb : b < 4294967296) : a ^^^ b < 4294967296 := Nat.xor_lt_two_pow (n := 32) ha hb
theorem crcV_lt : ∀ (D : List Nat) (c : Nat), (∀ x ∈ D, x < 256) → c < 4294967296 → crcV D c < 4294967296
  | [], c, _, h => h
  | x :: D, c, hD, h => crcV_lt D _ (fun y hy => hD y (List.mem_cons_of_mem _ hy)) (crcN_lt 8 (xor_lt32 h (by have := hD x List.mem_cons_self; omega)))
theorem crc_lt (D : List Nat) (hD : ∀ x ∈ D, x < 256) : crc D < 4294967296 := xor_lt32 (crcV_lt D _ hD (by omega)) (by omega)
theorem wrap32 {z : Nat} (h : z < 4294967296) : IntKind.u32.wrap (z : Int) = z := IntWalk.u32_in z ⟨by omega, by omega⟩
theorem specCrc_l1 (D : List Nat) (i : Nat) : ∀ (d k c : Nat), 8 - k = d → k ≤ 8 → c < 4294967296 → spec_Crc_l1 (ints D) c i k = spec_Crc_l0 (ints D) (crcN d c : Nat) (IntKind.i64.wrap ((i : Int) + 1))
  | 0, k, c, h1, h2, h3 => by
    rw [spec_Crc_l1.eq, bif_ndec (by omega)]; rfl
  | d + 1, k, c, h1, h2, h3 => by
    have e1 : (c : Int).tmod 2 = ((c % 2 : Nat) : Int) := rfl
    have e2 : (c : Int).tdiv 2 = ((c / 2 : Nat) : Int) := rfl
    have h4 := bv_xor 64 (c / 2) 3988292384 (by omega) (by omega)
    rw [show ((3988292384 : Nat) : Int) = 3988292384 from rfl] at h4
    have h5 := xor_lt32 (a := c / 2) (b := 3988292384) (by omega) (by omega)
    have ih := specCrc_l1 D i d (k + 1) (crcS c) (by omega) (by omega) (crcS_lt h3)
    rw [spec_Crc_l1.eq, bif_dec (by omega), e1, e2, wrapIn (z := c / 2) (by omega), wrapS k (by omega)]
    unfold crcS at ih
    by_cases h : c % 2 = 1
    · rw [if_pos h] at ih
      rw [bif_eq (by omega), h4, wrapIn (by omega), ih]
      show _ = spec_Crc_l0 _ (crcN d (crcS c) : Nat) _
      unfold crcS; rw [if_pos h]
    · rw [if_neg h] at ih
      rw [bif_neq (by omega), ih]
      show _ = spec_Crc_l0 _ (crcN d (crcS c) : Nat) _
      unfold crcS; rw [if_neg h]
theorem specCrc_l0 (D : List Nat) (hl : D.length ≤ 16000) (hD : ∀ x ∈ D, x < 256) : ∀ (d i c : Nat), D.length - i = d → i ≤ D.length → c < 4294967296 → spec_Crc_l0 (ints D) c i = some ((crcV (D.drop i) c ^^^ 4294967295 : Nat) : Int)
  | 0, i, c, h1, h2, h3 => by
    have h4 := bv_xor 64 c 4294967295 (by omega) (by omega)
    rw [show ((4294967295 : Nat) : Int) = 4294967295 from rfl] at h4
    have h5 := xor_lt32 (a := c) (b := 4294967295) (by omega) (by omega)
    rw [spec_Crc_l0.eq, List.length_map, bif_ndec (by omega), h4, wrapIn (by omega), List.drop_eq_nil_of_le (by omega)]; rfl
  | d + 1, i, c, h1, h2, h3 => by
    have hi : i < D.length := by omega
    have hx := hD _ (List.getElem_mem hi)
    have h4 := bv_xor 64 c D[i] (by omega) (by omega)
    have h5 := xor_lt32 (a := c) (b := D[i]) (by omega) (by omega)
    rw [spec_Crc_l0.eq, List.length_map, bif_dec (by omega), at?_ints _ _ hi, Option.bind_some, wrapIn (z := D[i]) (by omega), h4, wrapIn (by omega)]
    have h6 := specCrc_l1 D i 8 0 (c ^^^ D[i]) rfl (by omega) h5
    refine h6.trans ?_
    rw [wrapS i (by omega), specCrc_l0 D hl hD d (i + 1) _ (by omega) (by omega) (crcN_lt 8 h5), List.drop_eq_getElem_cons hi]; rfl
theorem specCrc_eq (D : List Nat) (hl : D.length ≤ 16000) (hD : ∀ x ∈ D, x < 256) : spec_Crc (ints D) = some ((crc D : Nat) : Int) := by
  rw [spec_Crc.eq, List.length_map, bif_ndec (by omega)]
  exact specCrc_l0 D hl hD _ 0 4294967295 rfl (by omega) (by omega)
theorem implCrc_l1 (D : List Nat) (n i : Int) : ∀ (d k c : Nat), 8 - k = d → k ≤ 8 → c < 4294967296 → impl_crc_l1 c (ints D) n i k = impl_crc_l0 (crcN d c : Nat) (ints D) n (IntKind.i64.wrap (i + 1))
  | 0, k, c, h1, h2, h3 => by
    rw [impl_crc_l1.eq, bif_ndec (by omega)]; rfl
  | d + 1, k, c, h1, h2, h3 => by
    have e1 : (c : Int).fdiv (2 ^ 1) = ((c / 2 : Nat) : Int) := fdiv_nat c 1
    have h6 := bv_and 32 c 1 (by omega) (by omega)
    rw [show ((1 : Nat) : Int) = 1 from rfl, Nat.and_one_is_mod] at h6
    have ih := implCrc_l1 D n i d (k + 1) (crcS c) (by omega) (by omega) (crcS_lt h3)
    rw [impl_crc_l1.eq, bif_dec (by omega), e1, h6, wrap32 (z := c % 2) (by omega), wrapS k (by omega)]
    have hx : IntKind.u32.wrap (((BitVec.ofInt 32 ((c / 2 : Nat) : Int)) ^^^ (BitVec.ofInt 32 (IntKind.u32.wrap (((c % 2 : Nat) : Int) * 3988292384)))).toNat : Int) = ((crcS c : Nat) : Int) := by
      unfold crcS
      rcases Nat.mod_two_eq_zero_or_one c with h | h
      · rw [h, if_neg (by omega), show (((0 : Nat) : Int) * 3988292384) = ((0 : Nat) : Int) by omega, wrap32 (z := 0) (by omega)]
        have h4 := bv_xor 32 (c / 2) 0 (by omega) (by omega)
        rw [h4, Nat.xor_zero, wrap32 (by omega)]
      · rw [h, if_pos rfl, show (((1 : Nat) : Int) * 3988292384) = ((3988292384 : Nat) : Int) by omega, wrap32 (z := 3988292384) (by omega)]
        have h4 := bv_xor 32 (c / 2) 3988292384 (by omega) (by omega)
        rw [h4, wrap32 (xor_lt32 (by omega) (by omega))]
    rw [hx]
    exact ih
theorem implCrc_l0 (D : List Nat) (hl : D.length ≤ 16000) (hD : ∀ x ∈ D, x < 256) : ∀ (d i c : Nat), D.length - i = d → i ≤ D.length → c < 4294967296 → impl_crc_l0 c (ints D) D.length i = some ((crcV (D.drop i) c ^^^ 4294967295 : Nat) : Int)
  | 0, i, c, h1, h2, h3 => by
    have h4 := bv_xor 32 c 4294967295 (by omega) (by omega)
    rw [show ((4294967295 : Nat) : Int) = 4294967295 from rfl] at h4
    have h5 := xor_lt32 (a := c) (b := 4294967295) (by omega) (by omega)
    rw [impl_crc_l0.eq, bif_ndec (by omega), h4, wrap32 h5, wrapIn (by omega), List.drop_eq_nil_of_le (by omega)]; rfl
  | d + 1, i, c, h1, h2, h3 => by
    have hi : i < D.length := by omega
    have hx := hD _ (List.getElem_mem hi)
    have h4 := bv_xor 32 c D[i] (by omega) (by omega)
    have h5 := xor_lt32 (a := c) (b := D[i]) (by omega) (by omega)
    rw [impl_crc_l0.eq, bif_dec (by omega), at?_ints _ _ hi, Option.bind_some, wrap32 (z := D[i]) (by omega), h4, wrap32 h5]
    have h6 := implCrc_l1 D D.length i 8 0 (c ^^^ D[i]) rfl (by omega) h5
    refine h6.trans ?_
    rw [wrapS i (by omega), implCrc_l0 D hl hD d (i + 1) _ (by omega) (by omega) (crcN_lt 8 h5), List.drop_eq_getElem_cons hi]; rfl
theorem implCrc_eq (D : List Nat) (hl : D.length ≤ 16000) (hD : ∀ x ∈ D, x < 256) : impl_crc (ints D) = some ((crc D : Nat) : Int) := by
  rw [impl_crc.eq, List.length_map]
  exact implCrc_l0 D hl hD _ 0 4294967295 rfl (by omega) (by omega)

/-! #### frames -/
def four (n : Nat) : List Nat := [n % 256, n / 256 % 256, n / 65536 % 256, n / 16777216 % 256]
theorem byte_wrap (n : Nat) : IntKind.u8.wrap (n : Int) = ((n % 256 : Nat) : Int) := by
  show (let m := (n : Int) % (2 ^ 8 : Int); if false && m ≥ (2 ^ 7 : Int) then m - 2 ^ 8 else m) = _
  simp
theorem specFour_eq (n : Nat) (h : n < 4294967296) : spec_l04Four n = some (ints (four n)) := by
  have e1 : (n : Int).tmod 256 = ((n % 256 : Nat) : Int) := rfl
  have e2 : (n : Int).tdiv 256 = ((n / 256 : Nat) : Int) := rfl
  have e3 : (n : Int).tdiv 65536 = ((n / 65536 : Nat) : Int) := rfl
  have e4 : (n : Int).tdiv 16777216 = ((n / 16777216 : Nat) : Int) := rfl
  have f2 : ((n / 256 : Nat) : Int).tmod 256 = ((n / 256 % 256 : Nat) : Int) := rfl
  have f3 : ((n / 65536 : Nat) : Int).tmod 256 = ((n / 65536 % 256 : Nat) : Int) := rfl
  have f4 : ((n / 16777216 : Nat) : Int).tmod 256 = ((n / 16777216 % 256 : Nat) : Int) := rfl
  rw [spec_l04Four.eq, e1, e2, e3, e4, wrapIn (z := n / 256) (by omega), wrapIn (z := n / 65536) (by omega), wrapIn (z := n / 16777216) (by omega), f2, f3, f4, wrapBn (by omega), wrapBn (by omega), wrapBn (by omega), wrapBn (by omega)]; rfl
theorem implFour_step (n : Nat) (i : Nat) (hi : i < 4) (out : List Int) (ho : out.length ≤ 1000000) : impl_FrameOf_l0 n i out = impl_FrameOf_l0 n (i + 1 : Nat) (out ++ [((n / 2 ^ (8 * i) % 256 : Nat) : Int)]) := by
  have e : min (8 * i) 64 = 8 * i := by omega
  rw [impl_FrameOf_l0.eq, bif_dec (by omega), wrapI (x := 8 * (i : Int)) (by omega) (by omega), show (8 : Int) * (i : Int) = ((8 * i : Nat) : Int) by omega, bif_ndec (by omega), Int.toNat_natCast, e, fdiv_nat, byte_wrap, bif_dec (by simp only [List.length_cons, List.length_nil]; omega), wrapS i (by omega)]
theorem implFour_eq (n : Nat) (out : List Int) (ho : out.length ≤ 900000) : impl_FrameOf_l0 n 0 out = some (out ++ ints (four n)) := by
  have h0 := implFour_step n 0 (by omega) out (by omega)
  have h1 := implFour_step n 1 (by omega) (out ++ [((n / 2 ^ (8 * 0) % 256 : Nat) : Int)]) (by simp; omega)
  have h2 := implFour_step n 2 (by omega) (out ++ [((n / 2 ^ (8 * 0) % 256 : Nat) : Int)] ++ [((n / 2 ^ (8 * 1) % 256 : Nat) : Int)]) (by simp; omega)
  have h3 := implFour_step n 3 (by omega) (out ++ [((n / 2 ^ (8 * 0) % 256 : Nat) : Int)] ++ [((n / 2 ^ (8 * 1) % 256 : Nat) : Int)] ++ [((n / 2 ^ (8 * 2) % 256 : Nat) : Int)]) (by simp; omega)
  have e0 : ((0 : Nat) : Int) = 0 := rfl
  rw [e0] at h0
  refine (h0.trans (h1.trans (h2.trans h3))).trans ?_
  rw [impl_FrameOf_l0.eq, bif_ndec (by omega)]
  simp [four]
def frH (k : Nat) (B : List Nat) : List Nat := [90, k] ++ Var B.length ++ B
def frame (k : Nat) (B : List Nat) : List Nat := if B.length ≤ 8000 then frH k B ++ four (crc (frH k B)) else []
theorem frH_len (k : Nat) (B : List Nat) (h : B.length ≤ 8000) : (frH k B).length ≤ 8010 := by
  have := Var_len B.length
  unfold frH
  simp only [List.length_append, List.length_cons, List.length_nil]; omega
theorem frH_bytes (k : Nat) (B : List Nat) (hk : k < 256) (hB : ∀ x ∈ B, x < 256) : ∀ x ∈ frH k B, x < 256 := by
  intro x hx
  unfold frH at hx
  rcases List.mem_append.1 hx with hx | hx
  · rcases List.mem_append.1 hx with hx | hx
    · simp at hx; omega
    · exact Var_bytes _ x hx
  · exact hB x hx
theorem frame_len (k : Nat) (B : List Nat) : (frame k B).length ≤ 8020 := by
  unfold frame
  split
  · rename_i h
    have := frH_len k B h
    rw [List.length_append]; simp [four]; omega
  · simp
theorem frH_ints (k : Nat) (B : List Nat) (hk : k < 256) : (([(90 : Int), IntKind.u8.wrap k] : List Int) ++ ints (Var B.length)) ++ ints B = ints (frH k B) := by
  rw [wrapBn hk]
  unfold frH
  simp only [List.map_append]; rfl
theorem specFrame_eq (k : Nat) (B : List Nat) (hk : k < 256) (hB : ∀ x ∈ B, x < 256) : spec_FrameOf ((k : Int), ints B) = some (ints (frame k B)) := by
  have hv := Var_len B.length
  have e : spec_FrameOk ((k : Int), ints B) = some (decide (B.length ≤ 8000)) := by
    rw [spec_FrameOk.eq]
    try simp only
    rw [bif_dec (by omega), bif_dec (by omega), List.length_map]
    congr 1
    rw [Bool.eq_iff_iff, decide_eq_true_eq, decide_eq_true_eq]; omega
  rw [spec_FrameOf.eq]
  try simp only
  rw [e, Option.bind_some]
  unfold frame
  by_cases h : B.length ≤ 8000
  · have hH := frH_len k B h
    have hb := frH_bytes k B hk hB
    have hl : (ints (frH k B)).length = (frH k B).length := List.length_map ..
    rw [decide_eq_true h, Bool.not_true, bif_false, if_pos h, List.length_map, specVarOf_eq, Option.bind_some, bif_dec (by simp only [List.length_cons, List.length_nil, List.length_map]; omega), bif_dec (by simp only [List.length_append, List.length_cons, List.length_nil, List.length_map]; omega), frH_ints k B hk, specCrc_eq _ (by omega) hb, Option.bind_some, specFour_eq _ (crc_lt _ hb), Option.bind_some, bif_dec (by rw [hl]; simp [four]; omega)]
    simp only [List.map_append]
  · rw [decide_eq_false h, Bool.not_false, bif_true, if_neg h]; rfl
theorem implFrame_eq (k : Nat) (B : List Nat) (hk : k < 256) (hB : ∀ x ∈ B, x < 256) : impl_FrameOf ((k : Int), ints B) = some (ints (frame k B)) := by
  have hv := Var_len B.length
  have e : impl_FrameOk ((k : Int), ints B) = some (decide (B.length ≤ 8000)) := by
    rw [impl_FrameOk.eq]
    try simp only
    rw [withinN_eq, decide_eq_true (show (0 : Int) ≤ k by omega), decide_eq_true (show (k : Int) ≤ 255 by omega), Option.bind_some, Bool.and_true, bif_true, List.length_map]
    congr 1
    rw [Bool.eq_iff_iff, decide_eq_true_eq, decide_eq_true_eq]; omega
  rw [impl_FrameOf.eq]
  try simp only
  rw [e, Option.bind_some]
  unfold frame
  by_cases h : B.length ≤ 8000
  · have hH := frH_len k B h
    have hb := frH_bytes k B hk hB
    have hl : (ints (frH k B)).length = (frH k B).length := List.length_map ..
    rw [decide_eq_true h, Bool.not_true, bif_false, if_pos h, List.length_map, implVarOf_eq, Option.bind_some, bif_dec (by simp only [List.length_cons, List.length_nil, List.length_map]; omega), bif_dec (by simp only [List.length_append, List.length_cons, List.length_nil, List.length_map]; omega), frH_ints k B hk, implCrc_eq _ (by omega) hb, Option.bind_some, implFour_eq _ _ (by omega)]
    simp only [List.map_append]
  · rw [decide_eq_false h, Bool.not_false, bif_true, if_neg h]; rfl
end Go.Ev.W

/- Joining byte slices. -/
set_option linter.unusedVariables false
set_option linter.unusedSimpArgs false
namespace Go.Ev.W
open Go.Ev

theorem grow_eq (n : Int) (h0 : 0 ≤ n) (h : n ≤ 140737488355328) : slices_Grow_byte_byte [] n = some [] := by
  unfold slices_Grow_byte_byte growF
  simp only [List.isEmpty_nil, Bool.true_and]
  rw [decide_eq_true h0, decide_eq_true (show n.toNat * 1 ≤ 140737488355328 by omega), decide_eq_true (show n.toNat ≤ 4611686018427387904 by omega)]
  rfl
theorem sum_take_le : ∀ (L : List Nat) (i : Nat), (L.take i).sum ≤ L.sum
  | [], i => by simp
  | x :: L, 0 => by simp
  | x :: L, i + 1 => by simp only [List.take_succ_cons, List.sum_cons]; have := sum_take_le L i; omega
theorem take_step {α : Type} (l : List α) (i : Nat) (h : i < l.length) : l.take (i + 1) = l.take i ++ [l[i]] := by
  rw [List.take_add_one, List.getElem?_eq_getElem h]; rfl
theorem concat_l1 (X : List (List Int)) (hn : X.length ≤ 1000000) (hs : (X.map List.length).sum ≤ 1000000000) : ∀ (d i : Nat), X.length - i = d → i ≤ X.length →
    slices_Concat_byte_byte_l1 X X.length i (X.take i).flatten = some X.flatten := by
  intro d
  induction d with
  | zero =>
    intro i h1 h2
    obtain rfl : i = X.length := by omega
    rw [slices_Concat_byte_byte_l1.eq, bif_ndec (by omega), List.take_length]
  | succ d ih =>
    intro i h1 h2
    rw [slices_Concat_byte_byte_l1.eq, bif_dec (by omega), at?_lt X i (by omega), Option.bind_some]
    have e : (X.take (i + 1)).flatten = (X.take i).flatten ++ X[i] := by rw [take_step _ _ (by omega), List.flatten_append, List.flatten_cons, List.flatten_nil, List.append_nil]
    have hb := sum_take_le (X.map List.length) (i + 1)
    rw [← List.map_take, ← List.length_flatten, e, List.length_append] at hb
    rw [bif_dec (by omega), ← e, wrapI (by omega) (by omega)]
    exact ih (i + 1) (by omega) (by omega)
theorem concat_l0 (X : List (List Int)) (hn : X.length ≤ 1000000) (hs : (X.map List.length).sum ≤ 1000000000) : ∀ (d i : Nat), X.length - i = d → i ≤ X.length →
    slices_Concat_byte_byte_l0 X ((((X.map List.length).take i).sum : Nat) : Int) X X.length i = some X.flatten := by
  intro d
  induction d with
  | zero =>
    intro i h1 h2
    obtain rfl : i = X.length := by omega
    rw [slices_Concat_byte_byte_l0.eq, bif_ndec (by omega)]
    have hb := sum_take_le (X.map List.length) X.length
    rw [grow_eq _ (by omega) (by omega), Option.bind_some]
    exact concat_l1 X hn hs _ 0 rfl (by omega)
  | succ d ih =>
    intro i h1 h2
    have hi : i < X.length := by omega
    rw [slices_Concat_byte_byte_l0.eq, bif_dec (by omega), at?_lt X i hi, Option.bind_some]
    have e : ((X.map List.length).take (i + 1)).sum = ((X.map List.length).take i).sum + X[i].length := by rw [take_step _ _ (by rw [List.length_map]; omega), List.sum_append, List.sum_cons, List.sum_nil, List.getElem_map, Nat.add_zero]
    have hb := sum_take_le (X.map List.length) (i + 1)
    rw [e] at hb
    rw [wrapI (by omega) (by omega), bif_ndec (by omega), wrapI (by omega) (by omega)]
    have := ih (i + 1) (by omega) (by omega)
    rw [e] at this
    exact this
theorem concat_eq (X : List (List Int)) (hn : X.length ≤ 1000000) (hs : (X.map List.length).sum ≤ 1000000000) : slices_Concat_byte_byte X = some X.flatten := by
  rw [slices_Concat_byte_byte.eq]
  exact concat_l0 X hn hs _ 0 rfl (by omega)
end Go.Ev.W

/- Packed numbers as bytes: both functions. -/
set_option linter.unusedVariables false
set_option linter.unusedSimpArgs false
namespace Go.Ev.W
open Go.Ev

def pB (w n b : Int) (W : List Nat) : List Nat := bif pOk w n b W then Var w ++ Var n ++ bb b W else []
theorem pB_len (w n b : Int) (W : List Nat) : (pB w n b W).length ≤ 1000 := by
  unfold pB
  cases h : pOk w n b W with
  | false => simp
  | true =>
    simp only [pOk, vOk, Bool.and_eq_true, decide_eq_true_eq] at h
    have := bb_len b W h.1.2.1.2
    have h1 := Var_len w
    have h2 := Var_len n
    rw [bif_true, List.length_append, List.length_append]; omega
theorem specPackBytes_eq (w n b : Int) (W : List Nat) (hl : W.length ≤ 1048576) (hx : ∀ x ∈ W, x < 2 ^ 64) : spec_PackBytes (w, n, b, ints W) = some (ints (pB w n b W)) := by
  rw [spec_PackBytes.eq]
  try simp only
  rw [specPackOk_eq w n b W hl hx, Option.bind_some]
  unfold pB
  cases h : pOk w n b W with
  | false => rfl
  | true =>
    have hv : vOk b W = true := by simp only [pOk, Bool.and_eq_true] at h; exact h.1.2
    have hb : b ≤ 5000 := by simp only [vOk, Bool.and_eq_true, decide_eq_true_eq] at hv; exact hv.1.2
    have h1 := Var_len w
    have h2 := Var_len n
    have h3 := bb_len b W hb
    rw [Bool.not_true, bif_false, specVarOf_eq, Option.bind_some, specVarOf_eq, Option.bind_some, bif_dec (by simp only [List.length_map]; omega), specBitsBytes_eq b W hl hx, Option.bind_some, hv, bif_true, bif_dec (by simp only [List.length_map, List.length_append]; omega), bif_true]
    simp only [List.map_append]
theorem implPackBytes_eq (w n b : Int) (W : List Nat) (hl : W.length ≤ 1048576) (hx : ∀ x ∈ W, x < 2 ^ 64) : impl_PackBytes (w, n, b, ints W) = some (ints (pB w n b W)) := by
  rw [impl_PackBytes.eq]
  try simp only
  rw [implPackOk_eq w n b W hl hx, Option.bind_some]
  unfold pB
  cases h : pOk w n b W with
  | false => rfl
  | true =>
    have hv : vOk b W = true := by simp only [pOk, Bool.and_eq_true] at h; exact h.1.2
    have hv' := hv
    simp only [vOk, Bool.and_eq_true, decide_eq_true_eq] at hv'
    obtain ⟨⟨hb0, hb⟩, hw⟩ := hv'
    have h1 := Var_len w
    have h2 := Var_len n
    have h3 := bb_len b W hb
    obtain ⟨m, rfl⟩ : ∃ m : Nat, b = m := ⟨b.toNat, by omega⟩
    rw [Bool.not_true, bif_false, implVarOf_eq, Option.bind_some, implVarOf_eq, Option.bind_some, bitsBytes_eq m W (by omega) ((okW_iff m W hx).1 (by simpa using hw)), Option.bind_some, concat_eq _ (by simp) (by simp only [List.map_cons, List.map_nil, List.sum_cons, List.sum_nil, List.length_map]; omega), Option.bind_some, bif_true]
    simp only [List.map_append, List.flatten_cons, List.flatten_nil, List.append_nil, List.append_assoc]
end Go.Ev.W

/- An index as bytes: both functions. -/
set_option linter.unusedVariables false
set_option linter.unusedSimpArgs false
namespace Go.Ev.W
open Go.Ev

/-- The bytes of packed numbers. -/
def pkB (w : Nat) (X : List Nat) : List Nat := pB w X.length ((X.length * w : Nat) : Int) (wrds (dgs w X))
theorem specPk_eq (w : Nat) (X : List Nat) (hl : X.length * w ≤ 5000) : spec_PackBytes (pk w X) = some (ints (pkB w X)) :=
  specPackBytes_eq _ _ _ _ (by rw [wrds_length, dgs_len]; unfold nw; omega) (wrds_tight _).2.1
theorem implPk_eq (w : Nat) (X : List Nat) (hl : X.length * w ≤ 5000) : impl_PackBytes (pk w X) = some (ints (pkB w X)) :=
  implPackBytes_eq _ _ _ _ (by rw [wrds_length, dgs_len]; unfold nw; omega) (wrds_tight _).2.1
def mkBy (r : Nat) (S : List Nat) : List Nat := bb (mkB r S).length (wrds (mkB r S))
def fmEnds (D : List Nat) (r : Nat) : List Nat := mkBy r (srt D) ++ pkB (wd D.length) (saL r (srt D)) ++ pkB (wd D.length) (isaL r D.length (srt D))
theorem pB_bytes (w n b : Int) (W : List Nat) : ∀ x ∈ pB w n b W, x < 256 := by
  intro x hx
  unfold pB at hx
  cases h : pOk w n b W with
  | false => rw [h] at hx; cases hx
  | true =>
    rw [h, bif_true] at hx
    rcases List.mem_append.1 hx with hx | hx
    · rcases List.mem_append.1 hx with hx | hx
      · exact Var_bytes _ x hx
      · exact Var_bytes _ x hx
    · exact bb_bytes _ _ x hx
theorem lv_bytes (L : List (Int × List Nat)) : ∀ x ∈ (L.map fun p => bb p.1 p.2).flatten, x < 256 := by
  intro x hx
  obtain ⟨l, hl, h2⟩ := List.mem_flatten.1 hx
  obtain ⟨p, _, rfl⟩ := List.mem_map.1 hl
  exact bb_bytes _ _ x h2
theorem fmEnds_bytes (D : List Nat) (r : Nat) : ∀ x ∈ fmEnds D r, x < 256 := by
  intro x hx
  unfold fmEnds at hx
  rcases List.mem_append.1 hx with hx | hx
  · rcases List.mem_append.1 hx with hx | hx
    · exact bb_bytes _ _ x hx
    · exact pB_bytes _ _ _ _ x hx
  · exact pB_bytes _ _ _ _ x hx
theorem fmEnds_len (D : List Nat) (r : Nat) (hl : D.length ≤ 300) : (fmEnds D r).length ≤ 2700 := by
  have hs := srt_len' D
  have h1 := bb_len ((mkB r (srt D)).length : Int) (wrds (mkB r (srt D))) (by rw [mkB_len]; omega)
  have h2 := pB_len (wd D.length : Nat) (saL r (srt D)).length (((saL r (srt D)).length * wd D.length : Nat) : Int) (wrds (dgs (wd D.length) (saL r (srt D))))
  have h3 := pB_len (wd D.length : Nat) (isaL r D.length (srt D)).length (((isaL r D.length (srt D)).length * wd D.length : Nat) : Int) (wrds (dgs (wd D.length) (isaL r D.length (srt D))))
  unfold fmEnds mkBy pkB
  simp only [List.length_append]; omega
theorem ints_app3 (a b c : List Nat) : (ints a ++ ints b) ++ ints c = ints (a ++ b ++ c) := by simp only [List.map_append]
/-- The three last parts. -/
theorem specEnds_eq (D : List Nat) (hl : D.length ≤ 300) (r : Nat) : spec_l16Ends (((mkB r (srt D)).length : Int), ints (wrds (mkB r (srt D)))) (pk (wd D.length) (saL r (srt D))) (pk (wd D.length) (isaL r D.length (srt D))) = some (ints (fmEnds D r)) := by
  have hs := srt_len' D
  have hw := wd_le9 (n := D.length) (by omega)
  have hsa := saL_len r (srt D)
  have hd : D.length / r ≤ D.length := Nat.div_le_self _ _
  have h1 := specPk_eq (wd D.length) (saL r (srt D)) (pk_size (by omega) hw)
  have h2 := specPk_eq (wd D.length) (isaL r D.length (srt D)) (pk_size (by rw [isaL_len]; omega) hw)
  have h3 := vOk_wrds (mkB r (srt D)) (by rw [mkB_len]; omega)
  have hle := fmEnds_len D r hl
  have hbb := bb_len ((mkB r (srt D)).length : Int) (wrds (mkB r (srt D))) (by rw [mkB_len]; omega)
  unfold fmEnds at hle
  simp only [List.length_append] at hle
  rw [spec_l16Ends.eq]
  show ((spec_BitsBytes (((mkB r (srt D)).length : Int), ints (wrds (mkB r (srt D))))).bind fun y1 => (spec_PackBytes (pk (wd D.length) (saL r (srt D)))).bind fun y2 => bif decide ((y1.length + y2.length) * 1 ≤ 140737488355328) then (spec_PackBytes (pk (wd D.length) (isaL r D.length (srt D)))).bind fun y3 => bif decide (((y1 ++ y2).length + y3.length) * 1 ≤ 140737488355328) then some ((y1 ++ y2) ++ y3) else none else none) = _
  rw [specBitsBytes_eq _ _ (by rw [wrds_length, mkB_len]; unfold nw; omega) (wrds_tight _).2.1, h3, bif_true, h1, h2]
  simp only [Option.bind_some]
  unfold mkBy at hle
  rw [bif_dec (by simp only [ints_len]; omega), bif_dec (by simp only [List.length_append, ints_len]; omega), ints_app3]; rfl
theorem fmB_len (r : Nat) (n : Int) (Z : List Int) (L : List (Int × List Nat)) (h : wOk n Z L = true) : ((L.map fun p => bb p.1 p.2).flatten).length ≤ 6300 := by
  obtain ⟨_, _, _, h4, h5⟩ := wOk_at h
  have := wB_parts L fun p hp => (h5 p hp).1
  omega
end Go.Ev.W

/- The index of a text is valid. -/
set_option linter.unusedVariables false
set_option linter.unusedSimpArgs false
namespace Go.Ev.W
open Go.Ev

theorem wLv_words64 (X : List Nat) : ∀ (d l : Nat) (Y : List Nat), ∀ p ∈ (wLv d l Y).2, ∀ x ∈ p.2, x < 2 ^ 64
  | 0, l, Y, p, h, _, _ => by cases h
  | d + 1, l, Y, p, h, x, hx => by
    rw [wLv] at h
    rcases List.mem_cons.1 h with rfl | h
    · exact (wrds_tight (wbs l Y)).2.1 x hx
    · exact wLv_words64 X d (l + 1) _ p h x hx
end Go.Ev.W

/- Relative indexes: the text of a valid one. -/
set_option linter.unusedVariables false
set_option linter.unusedSimpArgs false
namespace Go.Ev.W
open Go.Ev

/-- The words of an argument. -/
structure XWords (x : RelT) : Prop where
  ref : ∀ y ∈ x.2.2.2.1, 0 ≤ y ∧ y < ((2 ^ 64 : Nat) : Int)
  inn : ∀ y ∈ x.2.2.2.2.2.1, 0 ≤ y ∧ y < ((2 ^ 64 : Nat) : Int)
  w1 : ∀ p ∈ x.2.2.2.2.2.2.2.2.1, ∀ y ∈ p.2, 0 ≤ y ∧ y < ((2 ^ 64 : Nat) : Int)
  w2 : ∀ p ∈ x.2.2.2.2.2.2.2.2.2.2.2.1, ∀ y ∈ p.2, 0 ≤ y ∧ y < ((2 ^ 64 : Nat) : Int)
/-- What a valid relative index is. -/
def relV (R D : List Nat) (x : RelT) (W1 W2 : List Nat) : RelT :=
  ((D.length : Int), x.2.1, x.2.2.1, x.2.2.2.1, x.2.2.2.2.1, x.2.2.2.2.2.1, (wvV (at0 (bwt R) (bts x.2.2.1.toNat W1))).1, (wvV (at0 (bwt R) (bts x.2.2.1.toNat W1))).2.1, (wvV (at0 (bwt R) (bts x.2.2.1.toNat W1))).2.2,
    (wvV (at0 (bwt D) (bts x.2.2.2.2.1.toNat W2))).1, (wvV (at0 (bwt D) (bts x.2.2.2.2.1.toNat W2))).2.1, (wvV (at0 (bwt D) (bts x.2.2.2.2.1.toNat W2))).2.2, (fmV D x.2.1.toNat).2.2.2.2.2)
/-- What both readings come to. -/
structure RelOkV (f : FmT) (x : RelT) (R D : List Nat) : Prop where
  dl : D.length ≤ 300
  db : ∀ y ∈ D, y < 256
  r1 : 1 ≤ x.2.1
  r2 : x.2.1 ≤ 64
  fv : FmOkV f R ∧ FmW f R
  ft : spec_l09Text f = some (ints R, true)
  fi : impl_Fm_read f = some (ints R, true)
  ref : ∃ W1, x.2.2.2.1 = ints W1 ∧ W1.length ≤ 1048576 ∧ (∀ y ∈ W1, y < 2 ^ 64) ∧ vOk x.2.2.1 W1 = true
  inn : ∃ W2, x.2.2.2.2.2.1 = ints W2 ∧ W2.length ≤ 1048576 ∧ (∀ y ∈ W2, y < 2 ^ 64) ∧ vOk x.2.2.2.2.1 W2 = true
  wv1 : ∃ L, x.2.2.2.2.2.2.2.2.1 = LI L ∧ (∀ p ∈ L, p.2.length ≤ 1048576) ∧ (∀ p ∈ L, ∀ y ∈ p.2, y < 2 ^ 64) ∧ wOk x.2.2.2.2.2.2.1 x.2.2.2.2.2.2.2.1 L = true
  wv2 : ∃ L, x.2.2.2.2.2.2.2.2.2.2.2.1 = LI L ∧ (∀ p ∈ L, p.2.length ≤ 1048576) ∧ (∀ p ∈ L, ∀ y ∈ p.2, y < 2 ^ 64) ∧ wOk x.2.2.2.2.2.2.2.2.2.1 x.2.2.2.2.2.2.2.2.2.2.1 L = true
  tail : x.2.2.2.2.2.2.2.2.2.2.2.2 = (fmV D x.2.1.toNat).2.2.2.2.2
theorem waves_eq (n : Int) (Z : List Int) (L : List (Int × List Nat)) (hl : ∀ p ∈ L, p.2.length ≤ 1048576) (hx : ∀ p ∈ L, ∀ x ∈ p.2, x < 2 ^ 64) (Y : List Nat) (hY : Y.length ≤ 1000) (hy : ∀ y ∈ Y, y ≤ 511) :
    spec_l14Waves (n, Z, LI L) (wvV Y) = some (decide ((n, Z, LI L) = wvV Y)) := by
  have hb := wave_back Y hY hy
  have hiff := waves_iff n Z L hx Y hY hy
  have hYl : ∀ p ∈ (wLv 9 0 Y).2, p.2.length ≤ 1048576 := fun p hp => by rw [wLv_words 9 0 Y p hp]; unfold nw; omega
  have hY64 := wLv_words64 [] 9 0 Y
  rw [spec_l14Waves.eq]
  show ((spec_WaveOk (n, Z, LI L)).bind fun y1 => bif y1 then (spec_WaveOk ((Y.length : Int), ints (wLv 9 0 Y).1, LI (wLv 9 0 Y).2)).bind fun y2 => bif y2 then (spec_l07List (n, Z, LI L)).bind fun y3 => (spec_l07List ((Y.length : Int), ints (wLv 9 0 Y).1, LI (wLv 9 0 Y).2)).bind fun y4 => (spec_l01Same y3 y4).bind fun y5 => some y5 else some false else some false) = _
  rw [specWaveOk_eq n Z L hl hx, Option.bind_some]
  cases hw : wOk n Z L with
  | false =>
    rw [bif_false]
    congr 1
    symm
    rw [decide_eq_false_iff_not]
    intro h
    rw [(hiff.2 h).1] at hw; cases hw
  | true =>
    rw [bif_true, specWaveOk_eq _ _ _ hYl hY64, hb.1, Option.bind_some, bif_true, l07List_eq n Z L hx hw, l07List_eq _ _ _ hY64 hb.1, Option.bind_some, Option.bind_some, Int.toNat_natCast, hb.2, same_eq _ _ (by rw [ints_len, wList_len]; have := (wOk_at hw).2.1; omega), Option.bind_some, dec_ints]
    congr 1
    rw [Bool.eq_iff_iff, decide_eq_true_eq, decide_eq_true_eq]
    exact ⟨fun h => hiff.1 ⟨hw, h⟩, fun h => (hiff.2 h).2⟩
theorem wave_small {Y : List Nat} {k : Nat} (h : Y.length ≤ k) (hk : k ≤ 400) : (wvV Y).2.1.length ≤ 1000 ∧ (wvV Y).2.2.length ≤ 1000 ∧ ∀ p ∈ (wvV Y).2.2, p.2.length ≤ 1000 := by
  have h1 := wLv_len' 9 0 Y
  refine ⟨?_, ?_, fun p hp => ?_⟩
  · show (ints (wLv 9 0 Y).1).length ≤ 1000
    rw [ints_len]; omega
  · show (LI (wLv 9 0 Y).2).length ≤ 1000
    rw [List.length_map]; omega
  · have hp' : p ∈ LI (wLv 9 0 Y).2 := hp
    obtain ⟨q, hq, rfl⟩ := List.mem_map.1 hp'
    rw [ints_len, wLv_words _ _ _ q hq]
    unfold nw; omega
theorem relRead_eq (f : FmT) (hf : SmFm f 1048576) (hw : ∀ p ∈ f.2.2.2.2.1, ∀ x ∈ p.2, 0 ≤ x ∧ x < ((2 ^ 64 : Nat) : Int)) (x : RelT) (hx : SmRel x 1048576) (xw : XWords x) :
    ∃ (v : Bool) (D : List Nat) (t : List Int), spec_l14Text f x = some (bif v then (ints D, true) else ([], false)) ∧ impl_Rel_read x f = some (bif v then ints D else t, v) ∧ (v = true → ∃ R, RelOkV f x R D) := by
  have bad : ∀ s i, s = some (([] : List Int), false) → (∃ t, i = some ((t : List Int), false)) → ∃ (v : Bool) (D : List Nat) (t : List Int), s = some (bif v then (ints D, true) else ([], false)) ∧ i = some (bif v then ints D else t, v) ∧ (v = true → ∃ R, RelOkV f x R D) :=
    fun s i h1 ⟨t, h2⟩ => ⟨false, [], t, h1, h2, fun h => by cases h⟩
  obtain ⟨v1, R, t1, f1, f2, f3⟩ := fmRead_eq f hf hw
  obtain ⟨L2, l2e, l2x⟩ := lv_of x.2.2.2.2.2.2.2.2.2.2.2.1 xw.w2
  have l2l : ∀ p ∈ L2, p.2.length ≤ 1048576 := LI_len (by rw [← l2e]; exact hx.v2)
  obtain ⟨L1, l1e, l1x⟩ := lv_of x.2.2.2.2.2.2.2.2.1 xw.w1
  have l1l : ∀ p ∈ L1, p.2.length ≤ 1048576 := LI_len (by rw [← l1e]; exact hx.v1)
  obtain ⟨W1, w1e, w1x⟩ := ints_of x.2.2.2.1 (2 ^ 64) xw.ref
  obtain ⟨W2, w2e, w2x⟩ := ints_of x.2.2.2.2.2.1 (2 ^ 64) xw.inn
  have w1l : W1.length ≤ 1048576 := by have := hx.ref; rw [w1e, ints_len] at this; exact this
  have w2l : W2.length ≤ 1048576 := by have := hx.inn; rw [w2e, ints_len] at this; exact this
  have hrd := waveRead_eq x.2.2.2.2.2.2.2.2.2.1 x.2.2.2.2.2.2.2.2.2.2.1 L2 l2l l2x
  have hok := specWaveOk_eq x.2.2.2.2.2.2.2.2.2.1 x.2.2.2.2.2.2.2.2.2.2.1 L2 l2l l2x
  have hls := specWaveList_eq x.2.2.2.2.2.2.2.2.2.1 x.2.2.2.2.2.2.2.2.2.2.1 L2 l2l l2x
  rw [← l2e] at hrd hok hls
  have hbk := specBitsOk_eq x.2.2.1 W1 w1l w1x
  rw [← w1e] at hbk
  rw [spec_l14Text.eq, impl_Rel_read.eq]
  show ∃ v D t, (spec_l09Text f).bind _ = _ ∧ (impl_Fm_read f).bind _ = _ ∧ _
  cases v1 with
  | false =>
    rw [show spec_l09Text f = some (([] : List Int), false) from f1, show impl_Fm_read f = some (t1, false) from f2, hrd]
    exact bad _ _ rfl ⟨[], rfl⟩
  | true =>
    have f1' : spec_l09Text f = some (ints R, true) := f1
    have f2' : impl_Fm_read f = some (ints R, true) := f2
    obtain ⟨k1, k2⟩ := f3 rfl
    obtain ⟨d1, d2, d3, d4, d5⟩ := k1
    have hbl := bwt_len R
    have hble := bwt_le R d2
    rw [f1', f2', hrd, Option.bind_some, Option.bind_some, Option.bind_some, Bool.not_true, bif_false, bif_false, specRate_eq, Option.bind_some, implRate_eq]
    cases hr : decide (1 ≤ x.2.1) && decide (x.2.1 ≤ 64) with
    | false =>
      refine bad _ _ rfl ?_
      cases wOk x.2.2.2.2.2.2.2.2.2.1 x.2.2.2.2.2.2.2.2.2.2.1 L2 <;> exact ⟨[], rfl⟩
    | true =>
      simp only [Bool.and_eq_true, decide_eq_true_eq] at hr
      rw [Bool.not_true, bif_false, hok, Option.bind_some]
      cases hwo : wOk x.2.2.2.2.2.2.2.2.2.1 x.2.2.2.2.2.2.2.2.2.2.1 L2 with
      | false => exact bad _ _ rfl ⟨[], rfl⟩
      | true =>
        rw [hwo, bif_true] at hls
        rw [Bool.not_true, bif_false, bif_true, hbk, Option.bind_some]
        simp only [Bool.not_true, bif_false, Option.bind_some]
        rw [impl_patched.eq]
        try simp only
        rw [implBwt_eq R d1 d2, Option.bind_some]
        obtain ⟨Q, hQ⟩ : ∃ Q, Q = wList x.2.2.2.2.2.2.2.2.2.1.toNat L2 := ⟨_, rfl⟩
        have hQl := wList_len x.2.2.2.2.2.2.2.2.2.1.toNat L2
        obtain ⟨wa, wb, wc, wd', we⟩ := wOk_at hwo
        have hQ511 := wList_le x.2.2.2.2.2.2.2.2.2.1.toNat L2 wd'
        have hinv := wave_inv _ _ L2 l2x hwo
        have hints : ints (snds (rows (L2.map lvb) (start x.2.2.2.2.2.2.2.2.2.1.toNat))) = ints Q := by rw [hQ]; rfl
        rw [← hQ] at hQl hQ511 hinv hls
        rw [hints]
        have hp1 := implPatchDo_eq (bwt R) (by omega) x.2.2.1 W1 x.2.2.2.2.1 W2 Q w1l w1x w2l w2x
        have hp2 := specPatch_eq (bwt R) (by omega) x.2.2.1 W1 x.2.2.2.2.1 W2 Q w1l w1x w2l w2x
        rw [← w1e, ← w2e] at hp1 hp2
        rw [hp1, Option.bind_some]
        have bt0 := specBwtText_eq [] (by simp) (by simp)
        rw [show ints [] = ([] : List Int) from rfl] at bt0
        cases hpo : pOkB (bwt R) x.2.2.1 W1 x.2.2.2.2.1 W2 Q with
        | false =>
          refine bad _ _ ?_ ⟨[], rfl⟩
          cases hvo : vOk x.2.2.1 W1 with
          | false => rfl
          | true =>
            rw [Bool.not_true, bif_false]
            by_cases hn : x.2.2.1 = IntKind.i64.wrap (((ints R).length : Int) + 1)
            · rw [bif_nne hn, spec_l14Text_l0.eq, specBwt_eq R d1 d2, Option.bind_some, hls, Option.bind_some, hp2, hpo, bif_false, Option.bind_some, bt0]; rfl
            · rw [bif_ne hn]
        | true =>
          have hpo' := hpo
          unfold pOkB at hpo'
          simp only [Bool.and_eq_true, decide_eq_true_eq] at hpo'
          obtain ⟨o1, o2, o3, o4, o5, o6⟩ := hpo'
          have o2' := o2
          simp only [vOk, Bool.and_eq_true, decide_eq_true_eq] at o2'
          have b2l := bts_length x.2.2.2.2.1.toNat W2
          have b1l := bts_length x.2.2.1.toNat W1
          have hal := at1_len (bwt R) (bts x.2.2.1.toNat W1) (by omega)
          rw [b1l] at hal
          rw [hpo] at hp2
          have hXl : (pVal (bwt R) x.2.2.1 W1 x.2.2.2.2.1 W2 Q).length ≤ 301 := by unfold pVal; rw [pat_len]; omega
          have hXlen : (pVal (bwt R) x.2.2.1 W1 x.2.2.2.2.1 W2 Q).length = x.2.2.2.2.1.toNat := by unfold pVal; rw [pat_len, b2l]
          have hat0 : at0 (pVal (bwt R) x.2.2.1 W1 x.2.2.2.2.1 W2 Q) (bts x.2.2.2.2.1.toNat W2) = Q := pat_at0 _ _ _ (by rw [b2l]; exact o6)
          obtain ⟨X, hXe⟩ : ∃ X, X = pVal (bwt R) x.2.2.1 W1 x.2.2.2.2.1 W2 Q := ⟨_, rfl⟩
          rw [← hXe] at hXl hXlen hat0 hp2 ⊢
          rw [o1, Bool.not_true, bif_false, bif_nne (show x.2.2.1 = IntKind.i64.wrap (((ints R).length : Int) + 1) by rw [ints_len, wrapS _ (by omega)]; omega), spec_l14Text_l0.eq, specBwt_eq R d1 d2, Option.bind_some, hls, Option.bind_some, hp2, bif_true, Option.bind_some]
          simp only [Bool.not_true, bif_false]
          cases hs : sOk (ints X) with
          | false =>
            rw [specText_short _ (by rw [ints_len]; omega) hs, implText_short _ (by rw [ints_len]; omega) hs]
            exact bad _ _ rfl ⟨[], rfl⟩
          | true =>
            have hXx : ∀ y ∈ X, y ≤ 256 := by
              simp only [sOk, Bool.and_eq_true, decide_eq_true_eq, List.all_eq_true] at hs
              intro y hy
              have := hs.2 (y : Int) (List.mem_map.2 ⟨y, hy, rfl⟩)
              omega
            rw [specBwtText_eq X hXl hXx, implBwtText_eq X hXl hXx, Option.bind_some, Option.bind_some]
            cases hb : (bT X).2 with
            | false => exact bad _ _ rfl ⟨(bT X).1, by simp only [Option.bind_some, hb]; rfl⟩
            | true =>
              obtain ⟨D, e1, e2, e3, e4⟩ := bT_true X hXl hXx hb
              have hbD := bwt_len D
              obtain ⟨r, hre⟩ : ∃ r : Nat, x.2.1 = r := ⟨x.2.1.toNat, by omega⟩
              have hfm := implFm_eq D e3 e4 r (by omega) (by omega)
              have hfs := specFm_eq D e3 e4 r (by omega) (by omega)
              rw [← hre] at hfm hfs
              have t1' := (okW_iff x.2.2.1.toNat W1 w1x).1 (by have := o1; simp only [vOk, Bool.and_eq_true] at this; exact this.2)
              have t2' := (okW_iff x.2.2.2.2.1.toNat W2 w2x).1 o2'.2
              have hn1 : ((x.2.2.1.toNat : Nat) : Int) = x.2.2.1 := by omega
              have hn2 : ((x.2.2.2.2.1.toNat : Nat) : Int) = x.2.2.2.2.1 := by omega
              have hY1 := at0_len (bwt R) (bts x.2.2.1.toNat W1)
              have hY1x : ∀ y ∈ at0 (bwt R) (bts x.2.2.1.toNat W1), y ≤ 511 := fun y hy => by have := hble y (at0_mem _ _ y hy); omega
              have hY2 : at0 (bwt D) (bts x.2.2.2.2.1.toNat W2) = Q := by rw [e2]; exact hat0
              have hY2l := at0_len X (bts x.2.2.2.2.1.toNat W2)
              rw [hat0] at hY2l
              have u1 := unmarked_eq (bwt R) x.2.2.1.toNat W1 (by omega) t1' (by omega)
              have u2 := unmarked_eq (bwt D) x.2.2.2.2.1.toNat W2 (by omega) t2' (by rw [e2]; omega)
              rw [hn1, ← w1e] at u1
              rw [hn2, ← w2e, hY2] at u2
              have hl1 := l01List_eq x.2.2.1.toNat W1 (by omega) (by have := t1'.1; unfold nw at this; omega) w1x
              rw [hn1, ← w1e] at hl1
              have z1 := zeros_eq (bwt R) (bts x.2.2.1.toNat W1) (by omega) (by omega)
              have v1i := implWaveOf_eq (at0 (bwt R) (bts x.2.2.1.toNat W1)) (by omega) hY1x
              have v1s := specWaveOf_eq (at0 (bwt R) (bts x.2.2.1.toNat W1)) (by omega) hY1x
              have v2i := implWaveOf_eq Q (by omega) hQ511
              have hwq : wvV Q = (x.2.2.2.2.2.2.2.2.2.1, x.2.2.2.2.2.2.2.2.2.2.1, x.2.2.2.2.2.2.2.2.2.2.2.1) := by
                unfold wvV
                rw [hinv.1, hinv.2, ← l2e, hQl, Int.toNat_of_nonneg wa]
              have hwv := waves_eq x.2.2.2.2.2.2.1 x.2.2.2.2.2.2.2.1 L1 l1l l1x (at0 (bwt R) (bts x.2.2.1.toNat W1)) (by omega) hY1x
              rw [← l1e] at hwv
              have hV : impl_relOf (ints R) (ints D) (x.2.2.1, x.2.2.2.1) (x.2.2.2.2.1, x.2.2.2.2.2.1) x.2.1 = some (relV R D x W1 W2, ints R, ints D) := by
                rw [impl_relOf.eq, hfm, Option.bind_some, implBwt_eq R d1 d2, Option.bind_some]
                try simp only
                rw [u1, Option.bind_some, v1i, Option.bind_some, implBwt_eq D e3 e4, Option.bind_some, u2, Option.bind_some, v2i, Option.bind_some]
                unfold relV
                rw [hY2, hre]; rfl
              have hsm := fmV_small D e3 r
              have q1 := wave_small hY1 (by omega)
              have q2 := wave_small (Y := Q) (k := 301) (by omega) (by omega)
              have hsr : SmRel (relV R D x W1 W2) 2000000 := by
                unfold relV
                rw [hY2, hre, Int.toNat_natCast]
                have a1 := hx.ref
                have a2 := hx.inn
                exact ⟨by show x.2.2.2.1.length ≤ _; omega, by show x.2.2.2.2.2.1.length ≤ _; omega, by have := q1.1; show (wvV _).2.1.length ≤ _; omega, by have := q1.2.1; show (wvV _).2.2.length ≤ _; omega, by have := q2.1; show (wvV _).2.1.length ≤ _; omega, by have := q2.2.1; show (wvV _).2.2.length ≤ _; omega, by have := hsm.c; show (fmV D r).2.2.2.2.2.1.length ≤ _; omega, by have := hsm.m; show (fmV D r).2.2.2.2.2.2.2.1.length ≤ _; omega, by have := hsm.s; show (fmV D r).2.2.2.2.2.2.2.2.2.2.2.1.length ≤ _; omega, by have := hsm.i; show (fmV D r).2.2.2.2.2.2.2.2.2.2.2.2.2.2.2.length ≤ _; omega, fun p hp => by have := q1.2.2 p hp; omega, fun p hp => by have := q2.2.2 p hp; omega⟩
              have hse := sameRel_eq (relV R D x W1 W2) x 2000000 (by omega) hsr
              rw [e1]
              simp only [Option.bind_some, bif_true, hV, Bool.not_true, bif_false]
              refine ⟨decide (relV R D x W1 W2 = x), D, ints D, ?_, ?_, fun h => ⟨R, ?_⟩⟩
              · have hdec : decide (relV R D x W1 W2 = x) = decide (x = relV R D x W1 W2) := by rw [Bool.eq_iff_iff, decide_eq_true_eq, decide_eq_true_eq]; exact eq_comm
                rw [hdec, rel_dec, spec_l14Text_l1.eq, hfs, Option.bind_some, specBwt_eq R d1 d2, Option.bind_some, hl1, Option.bind_some, z1, Option.bind_some, v1s, Option.bind_some]
                have g2 : decide (x.2.1 = (relV R D x W1 W2).2.1) = true := decide_eq_true rfl
                have g3 : decide ((x.2.2.1, x.2.2.2.1) = ((relV R D x W1 W2).2.2.1, (relV R D x W1 W2).2.2.2.1)) = true := decide_eq_true rfl
                have g4 : decide ((x.2.2.2.2.1, x.2.2.2.2.2.1) = ((relV R D x W1 W2).2.2.2.2.1, (relV R D x W1 W2).2.2.2.2.2.1)) = true := decide_eq_true rfl
                have g6 : decide ((x.2.2.2.2.2.2.2.2.2.1, x.2.2.2.2.2.2.2.2.2.2.1, x.2.2.2.2.2.2.2.2.2.2.2.1) = ((relV R D x W1 W2).2.2.2.2.2.2.2.2.2.1, (relV R D x W1 W2).2.2.2.2.2.2.2.2.2.2.1, (relV R D x W1 W2).2.2.2.2.2.2.2.2.2.2.2.1)) = true := by
                  refine decide_eq_true ?_
                  rw [← hwq, ← hY2]; rfl
                rw [g2, g3, g4, g6, Bool.true_and, Bool.true_and, Bool.true_and, Bool.true_and]
                have hrt : x.2.1.toNat = r := by omega
                have c1 : (relV R D x W1 W2).1 = (fmV D r).1 := rfl
                have c2 : (relV R D x W1 W2).2.2.2.2.2.2.2.2.2.2.2.2 = (fmV D r).2.2.2.2.2 := by unfold relV; rw [hrt]
                have c3 : ((relV R D x W1 W2).2.2.2.2.2.2.1, (relV R D x W1 W2).2.2.2.2.2.2.2.1, (relV R D x W1 W2).2.2.2.2.2.2.2.2.1) = wvV (at0 (bwt R) (bts x.2.2.1.toNat W1)) := rfl
                rw [c3, c1]
                simp only [c2]
                rw [same_eq _ _ (by have := hx.c; omega), l03Same_eq _ _ _ _ (by have := hx.m; omega), l09Packs_eq _ _ _ _ _ _ _ _ (by have := hx.s; omega), l09Packs_eq _ _ _ _ _ _ _ _ (by have := hx.i; omega)]
                have hwv' : spec_l14Waves (x.2.2.2.2.2.2.1, x.2.2.2.2.2.2.2.1, x.2.2.2.2.2.2.2.2.1) (((at0 (bwt R) (bts x.2.2.1.toNat W1)).length : Int), ints (wLv 9 0 (at0 (bwt R) (bts x.2.2.1.toNat W1))).1, LI (wLv 9 0 (at0 (bwt R) (bts x.2.2.1.toNat W1))).2) = _ := hwv
                simp only [Option.bind_some, bne, beq_dec, hwv']
                cases decide (x.1 = (fmV D r).1)
                · rfl
                cases decide (x.2.2.2.2.2.2.2.2.2.2.2.2.1 = (fmV D r).2.2.2.2.2.1)
                · simp only [Bool.true_and, Bool.false_and, Bool.and_false, Bool.not_false, Bool.not_true, bif_true, bif_false]
                cases decide ((x.2.2.2.2.2.2.2.2.2.2.2.2.2.1, x.2.2.2.2.2.2.2.2.2.2.2.2.2.2.1) = ((fmV D r).2.2.2.2.2.2.1, (fmV D r).2.2.2.2.2.2.2.1))
                · simp only [Bool.true_and, Bool.false_and, Bool.and_false, Bool.not_false, Bool.not_true, bif_true, bif_false]
                cases decide ((x.2.2.2.2.2.2.2.2.2.2.2.2.2.2.2.1, x.2.2.2.2.2.2.2.2.2.2.2.2.2.2.2.2.1, x.2.2.2.2.2.2.2.2.2.2.2.2.2.2.2.2.2.1, x.2.2.2.2.2.2.2.2.2.2.2.2.2.2.2.2.2.2.1) = ((fmV D r).2.2.2.2.2.2.2.2.1, (fmV D r).2.2.2.2.2.2.2.2.2.1, (fmV D r).2.2.2.2.2.2.2.2.2.2.1, (fmV D r).2.2.2.2.2.2.2.2.2.2.2.1))
                · simp only [Bool.true_and, Bool.false_and, Bool.and_false, Bool.not_false, Bool.not_true, bif_true, bif_false]
                cases decide (x.2.2.2.2.2.2.2.2.2.2.2.2.2.2.2.2.2.2.2 = (fmV D r).2.2.2.2.2.2.2.2.2.2.2.2)
                · simp only [Bool.true_and, Bool.false_and, Bool.and_false, Bool.not_false, Bool.not_true, bif_true, bif_false]
                cases decide ((x.2.2.2.2.2.2.1, x.2.2.2.2.2.2.2.1, x.2.2.2.2.2.2.2.2.1) = wvV (at0 (bwt R) (bts x.2.2.1.toNat W1))) <;> rfl
              · show (impl_sameRel (relV R D x W1 W2) x).bind _ = _
                rw [hse]
                cases decide (relV R D x W1 W2 = x) <;> rfl
              · have h := of_decide_eq_true h
                have hw1 : (x.2.2.2.2.2.2.1, x.2.2.2.2.2.2.2.1, x.2.2.2.2.2.2.2.2.1) = wvV (at0 (bwt R) (bts x.2.2.1.toNat W1)) := by
                  have h' := congrArg (fun y : RelT => (y.2.2.2.2.2.2.1, y.2.2.2.2.2.2.2.1, y.2.2.2.2.2.2.2.2.1)) h
                  exact h'.symm
                have ht : x.2.2.2.2.2.2.2.2.2.2.2.2 = (fmV D x.2.1.toNat).2.2.2.2.2 := (congrArg (fun y : RelT => y.2.2.2.2.2.2.2.2.2.2.2.2) h).symm
                rw [l1e] at hw1
                exact ⟨e3, e4, hr.1, hr.2, ⟨⟨d1, d2, d3, d4, d5⟩, k2⟩, f1', f2', ⟨W1, w1e, w1l, w1x, o1⟩, ⟨W2, w2e, w2l, w2x, o2⟩, ⟨L1, l1e, l1l, l1x, ((waves_iff _ _ L1 l1x _ (by omega) hY1x).2 hw1).1⟩, ⟨L2, l2e, l2l, l2x, hwo⟩, ht⟩
end Go.Ev.W

/- The law of FmText. -/
set_option linter.unusedVariables false
set_option linter.unusedSimpArgs false
namespace Go.Ev.W
open Go.Ev
end Go.Ev.W

/- A relative index as bytes: both functions. -/
set_option linter.unusedVariables false
set_option linter.unusedSimpArgs false
namespace Go.Ev.W
open Go.Ev

def relH (R : List Nat) : List Nat := Var R.length ++ four (crc R)
theorem relH_len (R : List Nat) : (relH R).length ≤ 10 := by
  have := Var_len R.length
  unfold relH
  rw [List.length_append]; simp [four]; omega
theorem four_bytes (n : Nat) : ∀ x ∈ four n, x < 256 := by
  intro x hx
  simp only [four, List.mem_cons, List.not_mem_nil, or_false] at hx
  omega
theorem relFour_step (n : Nat) (i : Nat) (hi : i < 4) (out : List Int) (ho : out.length ≤ 1000000) : impl_relHead_l0 n i out = impl_relHead_l0 n (i + 1 : Nat) (out ++ [((n / 2 ^ (8 * i) % 256 : Nat) : Int)]) := by
  have e : min (8 * i) 64 = 8 * i := by omega
  rw [impl_relHead_l0.eq, bif_dec (by omega), wrapI (x := 8 * (i : Int)) (by omega) (by omega), show (8 : Int) * (i : Int) = ((8 * i : Nat) : Int) by omega, bif_ndec (by omega), Int.toNat_natCast, e, fdiv_nat, byte_wrap, bif_dec (by simp only [List.length_cons, List.length_nil]; omega), wrapS i (by omega)]
theorem relFour_eq (n : Nat) (out : List Int) (ho : out.length ≤ 900000) : impl_relHead_l0 n 0 out = some (out ++ ints (four n)) := by
  have h0 := relFour_step n 0 (by omega) out (by omega)
  have h1 := relFour_step n 1 (by omega) (out ++ [((n / 2 ^ (8 * 0) % 256 : Nat) : Int)]) (by simp; omega)
  have h2 := relFour_step n 2 (by omega) (out ++ [((n / 2 ^ (8 * 0) % 256 : Nat) : Int)] ++ [((n / 2 ^ (8 * 1) % 256 : Nat) : Int)]) (by simp; omega)
  have h3 := relFour_step n 3 (by omega) (out ++ [((n / 2 ^ (8 * 0) % 256 : Nat) : Int)] ++ [((n / 2 ^ (8 * 1) % 256 : Nat) : Int)] ++ [((n / 2 ^ (8 * 2) % 256 : Nat) : Int)]) (by simp; omega)
  have e0 : ((0 : Nat) : Int) = 0 := rfl
  rw [e0] at h0
  refine (h0.trans (h1.trans (h2.trans h3))).trans ?_
  rw [impl_relHead_l0.eq, bif_ndec (by omega)]
  simp [four]
theorem relHead_eq (R : List Nat) (hl : R.length ≤ 300) (hb : ∀ x ∈ R, x < 256) : impl_relHead (ints R) = some (ints (relH R)) := by
  have := Var_len R.length
  rw [impl_relHead.eq, ints_len, implVarOf_eq, Option.bind_some, implCrc_eq R (by omega) hb, Option.bind_some, relFour_eq _ _ (by rw [ints_len]; omega)]
  unfold relH
  simp only [List.map_append]
theorem relPrint_eq (f : FmT) (R : List Nat) (hl : R.length ≤ 300) (hb : ∀ x ∈ R, x < 256) (h : spec_l09Text f = some (ints R, true)) : spec_l16Print f = some (ints (relH R)) := by
  have := Var_len R.length
  rw [spec_l16Print.eq]
  show (spec_l09Text f).bind _ = _
  rw [h, Option.bind_some]
  simp only [ints_len]
  rw [specVarOf_eq, Option.bind_some, specCrc_eq R (by omega) hb, Option.bind_some, specFour_eq _ (crc_lt R hb), Option.bind_some, bif_dec (by simp [four]; omega)]
  unfold relH
  simp only [List.map_append]
def relBd (R : List Nat) (r : Nat) (b1 b2 w1 w2 E : List Nat) : List Nat := relH R ++ Var r ++ b1 ++ b2 ++ w1 ++ w2 ++ E
theorem relBd_bytes (R : List Nat) (r : Nat) (b1 b2 w1 w2 E : List Nat) (h1 : ∀ x ∈ b1, x < 256) (h2 : ∀ x ∈ b2, x < 256) (h3 : ∀ x ∈ w1, x < 256) (h4 : ∀ x ∈ w2, x < 256) (h5 : ∀ x ∈ E, x < 256) : ∀ x ∈ relBd R r b1 b2 w1 w2 E, x < 256 := by
  intro x hx
  simp only [relBd, relH, List.mem_append] at hx
  rcases hx with ((((((hx | hx) | hx) | hx) | hx) | hx) | hx) | hx
  · exact Var_bytes _ x hx
  · exact four_bytes _ x hx
  · exact Var_bytes _ x hx
  · exact h1 x hx
  · exact h2 x hx
  · exact h3 x hx
  · exact h4 x hx
  · exact h5 x hx
theorem ints_append (a b : List Nat) : ints a ++ ints b = ints (a ++ b) := by simp only [List.map_append]
theorem relBytes_both (f : FmT) (hf : SmFm f 1048576) (hw : ∀ p ∈ f.2.2.2.2.1, ∀ x ∈ p.2, 0 ≤ x ∧ x < ((2 ^ 64 : Nat) : Int)) (x : RelT) (hx : SmRel x 1048576) (xw : XWords x) : ∃ Q, spec_RelBytes f x = some Q ∧ impl_RelBytes f x = some Q ∧ Q.length ≤ 8020 := by
  obtain ⟨v, D, t, h1, h2, h3⟩ := relRead_eq f hf hw x hx xw
  have hok1 : spec_RelOk f x = some v := by
    rw [spec_RelOk.eq]
    show (spec_l14Text f x).bind _ = _
    rw [h1]; cases v <;> rfl
  have hok2 : impl_RelOk f x = some v := by
    rw [impl_RelOk.eq]
    show (impl_Rel_read x f).bind _ = _
    rw [h2]; rfl
  rw [spec_RelBytes.eq, impl_RelBytes.eq]
  show ∃ Q, (spec_RelOk f x).bind _ = _ ∧ (impl_RelOk f x).bind _ = _ ∧ _
  rw [hok1, hok2, Option.bind_some, Option.bind_some]
  cases v with
  | false => exact ⟨[], rfl, rfl, by simp⟩
  | true =>
    obtain ⟨R, hk⟩ := h3 rfl
    have rl := hk.fv.1.1
    have rb := hk.fv.1.2.1
    obtain ⟨W1, a1, a2, a3, a4⟩ := hk.ref
    obtain ⟨W2, b1, b2, b3, b4⟩ := hk.inn
    obtain ⟨L1, c1, c2, c3, c4⟩ := hk.wv1
    obtain ⟨L2, d1, d2, d3, d4⟩ := hk.wv2
    have r1 := hk.r1
    have r2 := hk.r2
    obtain ⟨r, hr⟩ : ∃ r : Nat, x.2.1 = r := ⟨x.2.1.toNat, by omega⟩
    have htl := hk.tail
    rw [hr, Int.toNat_natCast] at htl
    have hE : spec_l16Ends (x.2.2.2.2.2.2.2.2.2.2.2.2.2.1, x.2.2.2.2.2.2.2.2.2.2.2.2.2.2.1) (x.2.2.2.2.2.2.2.2.2.2.2.2.2.2.2.1, x.2.2.2.2.2.2.2.2.2.2.2.2.2.2.2.2.1, x.2.2.2.2.2.2.2.2.2.2.2.2.2.2.2.2.2.1, x.2.2.2.2.2.2.2.2.2.2.2.2.2.2.2.2.2.2.1) x.2.2.2.2.2.2.2.2.2.2.2.2.2.2.2.2.2.2.2 = some (ints (fmEnds D r)) := by
      rw [htl]; exact specEnds_eq D hk.dl r
    have hs := srt_len' D
    have hwd := wd_le9 (n := D.length) (by have := hk.dl; omega)
    have hsa := saL_len r (srt D)
    have hdv : D.length / r ≤ D.length := Nat.div_le_self _ _
    have hdl := hk.dl
    have hM : impl_bitsBytes (x.2.2.2.2.2.2.2.2.2.2.2.2.2.1, x.2.2.2.2.2.2.2.2.2.2.2.2.2.2.1) = some (ints (mkBy r (srt D))) := by
      rw [htl]; exact bitsBytes_eq (mkB r (srt D)).length _ (by rw [mkB_len]; omega) (wrds_tight _)
    have hS : impl_PackBytes (x.2.2.2.2.2.2.2.2.2.2.2.2.2.2.2.1, x.2.2.2.2.2.2.2.2.2.2.2.2.2.2.2.2.1, x.2.2.2.2.2.2.2.2.2.2.2.2.2.2.2.2.2.1, x.2.2.2.2.2.2.2.2.2.2.2.2.2.2.2.2.2.2.1) = some (ints (pkB (wd D.length) (saL r (srt D)))) := by
      rw [htl]; exact implPk_eq (wd D.length) (saL r (srt D)) (pk_size (by omega) hwd)
    have hI : impl_PackBytes x.2.2.2.2.2.2.2.2.2.2.2.2.2.2.2.2.2.2.2 = some (ints (pkB (wd D.length) (isaL r D.length (srt D)))) := by
      rw [htl]; exact implPk_eq (wd D.length) (isaL r D.length (srt D)) (pk_size (by rw [isaL_len]; omega) hwd)
    have b4s := b4
    have a4s := a4
    simp only [vOk, Bool.and_eq_true, decide_eq_true_eq] at a4s b4s
    have hB1s : spec_BitsBytes (x.2.2.1, x.2.2.2.1) = some (ints (bb x.2.2.1 W1)) := by rw [a1, specBitsBytes_eq _ W1 a2 a3, a4, bif_true]
    have hB2s : spec_BitsBytes (x.2.2.2.2.1, x.2.2.2.2.2.1) = some (ints (bb x.2.2.2.2.1 W2)) := by rw [b1, specBitsBytes_eq _ W2 b2 b3, b4, bif_true]
    have n1 : ((x.2.2.1.toNat : Nat) : Int) = x.2.2.1 := by omega
    have n2 : ((x.2.2.2.2.1.toNat : Nat) : Int) = x.2.2.2.2.1 := by omega
    have hB1i : impl_bitsBytes (x.2.2.1, x.2.2.2.1) = some (ints (bb x.2.2.1 W1)) := by
      have := bitsBytes_eq x.2.2.1.toNat W1 (by omega) ((okW_iff _ W1 a3).1 a4s.2)
      rw [n1] at this
      rw [a1]; exact this
    have hB2i : impl_bitsBytes (x.2.2.2.2.1, x.2.2.2.2.2.1) = some (ints (bb x.2.2.2.2.1 W2)) := by
      have := bitsBytes_eq x.2.2.2.2.1.toNat W2 (by omega) ((okW_iff _ W2 b3).1 b4s.2)
      rw [n2] at this
      rw [b1]; exact this
    have hW1s : spec_WaveBytes (x.2.2.2.2.2.2.1, x.2.2.2.2.2.2.2.1, x.2.2.2.2.2.2.2.2.1) = some (ints ((L1.map fun p => bb p.1 p.2).flatten)) := by
      rw [c1, specWaveBytes_eq _ _ L1 c2 c3]; unfold wB; rw [c4, bif_true]
    have hW2s : spec_WaveBytes (x.2.2.2.2.2.2.2.2.2.1, x.2.2.2.2.2.2.2.2.2.2.1, x.2.2.2.2.2.2.2.2.2.2.2.1) = some (ints ((L2.map fun p => bb p.1 p.2).flatten)) := by
      rw [d1, specWaveBytes_eq _ _ L2 d2 d3]; unfold wB; rw [d4, bif_true]
    obtain ⟨_, _, _, p4, p5⟩ := wOk_at c4
    obtain ⟨_, _, _, q4, q5⟩ := wOk_at d4
    have hW1i : impl_waveBytes (x.2.2.2.2.2.2.1, x.2.2.2.2.2.2.2.1, x.2.2.2.2.2.2.2.2.1) = some (ints ((L1.map fun p => bb p.1 p.2).flatten)) := by
      rw [c1]; exact implwaveBytes_eq _ _ L1 p4 c3 (fun p hp => (p5 p hp).1)
    have hW2i : impl_waveBytes (x.2.2.2.2.2.2.2.2.2.1, x.2.2.2.2.2.2.2.2.2.2.1, x.2.2.2.2.2.2.2.2.2.2.2.1) = some (ints ((L2.map fun p => bb p.1 p.2).flatten)) := by
      rw [d1]; exact implwaveBytes_eq _ _ L2 q4 d3 (fun p hp => (q5 p hp).1)
    have hP := relPrint_eq f R rl rb hk.ft
    have hH := relHead_eq R rl rb
    have hT : impl_FmText f = some (ints R) := by
      rw [impl_FmText.eq]
      show (impl_Fm_read f).bind _ = _
      rw [hk.fi]; rfl
    have s1 := relH_len R
    have s2 := Var_len (r : Int)
    have s3 := bb_len x.2.2.1 W1 (by omega)
    have s4 := bb_len x.2.2.2.2.1 W2 (by omega)
    have s5 := fmB_len r _ _ L1 c4
    have s6 := fmB_len r _ _ L2 d4
    have s7 := fmEnds_len D r hdl
    have hbb := relBd_bytes R r (bb x.2.2.1 W1) (bb x.2.2.2.2.1 W2) ((L1.map fun p => bb p.1 p.2).flatten) ((L2.map fun p => bb p.1 p.2).flatten) (fmEnds D r) (bb_bytes _ _) (bb_bytes _ _) (lv_bytes L1) (lv_bytes L2) (fmEnds_bytes D r)
    have hFs := specFrame_eq 2 _ (by omega) hbb
    have hFi := implFrame_eq 2 _ (by omega) hbb
    rw [show ((2 : Nat) : Int) = 2 from rfl] at hFs hFi
    rw [Bool.not_true, bif_false, bif_false]
    refine ⟨ints (frame 2 (relBd R r (bb x.2.2.1 W1) (bb x.2.2.2.2.1 W2) ((L1.map fun p => bb p.1 p.2).flatten) ((L2.map fun p => bb p.1 p.2).flatten) (fmEnds D r))), ?_, ?_, by rw [ints_len]; exact frame_len _ _⟩
    · show (spec_l16Print f).bind _ = _
      rw [hP, Option.bind_some, hr, specVarOf_eq, Option.bind_some, bif_dec (by simp only [ints_len]; omega), hB1s, Option.bind_some, bif_dec (by simp only [List.length_append, ints_len]; omega), hB2s, Option.bind_some, bif_dec (by simp only [List.length_append, ints_len]; omega), hW1s, Option.bind_some, bif_dec (by simp only [List.length_append, ints_len]; omega), hW2s, Option.bind_some, bif_dec (by simp only [List.length_append, ints_len]; omega)]
      show (spec_l16Ends _ _ _).bind _ = _
      rw [hE, Option.bind_some, bif_dec (by simp only [List.length_append, ints_len]; omega)]
      simp only [ints_append]
      unfold relBd at hFs ⊢
      rw [hFs]; rfl
    · show (impl_FmText f).bind _ = _
      rw [hT, Option.bind_some]
      show (impl_relBytes (ints R) x).bind _ = _
      rw [impl_relBytes.eq, hH, Option.bind_some, hr, implVarOf_eq, Option.bind_some, hB1i, Option.bind_some, hB2i, Option.bind_some, hW1i, Option.bind_some, hW2i, Option.bind_some, hM, Option.bind_some, hS, Option.bind_some]
      show ((impl_PackBytes x.2.2.2.2.2.2.2.2.2.2.2.2.2.2.2.2.2.2.2).bind _).bind _ = _
      unfold fmEnds at s7
      simp only [List.length_append] at s7
      rw [hI, Option.bind_some, concat_eq _ (by simp) (by simp only [List.map_cons, List.map_nil, List.sum_cons, List.sum_nil, List.length_map]; omega), Option.bind_some]
      have e : ([ints (relH R), ints (Var r), ints (bb x.2.2.1 W1), ints (bb x.2.2.2.2.1 W2), ints ((L1.map fun p => bb p.1 p.2).flatten), ints ((L2.map fun p => bb p.1 p.2).flatten), ints (mkBy r (srt D)), ints (pkB (wd D.length) (saL r (srt D))), ints (pkB (wd D.length) (isaL r D.length (srt D)))] : List (List Int)).flatten = ints (relBd R r (bb x.2.2.1 W1) (bb x.2.2.2.2.1 W2) ((L1.map fun p => bb p.1 p.2).flatten) ((L2.map fun p => bb p.1 p.2).flatten) (fmEnds D r)) := by
        unfold relBd fmEnds
        simp only [List.flatten_cons, List.flatten_nil, List.append_nil, List.map_append, List.append_assoc]
      rw [e, hFi]; rfl
end Go.Ev.W

/- The law of RelBytes. -/
set_option linter.unusedVariables false
set_option linter.unusedSimpArgs false
namespace Go.Ev.W
open Go.Ev
theorem law_RelBytes (a : FmT × RelT) (hx : goodA tab laws_FnExactRelBytes.as a) : laws_FnExactRelBytes.fn a = some true := by
  obtain ⟨f, x⟩ := a
  show laws_FnExactRelBytes f x = some true
  have hz : f.2.2.2.1.length ≤ maxLen := hx.1.2.2.2.1.1
  have hl : f.2.2.2.2.1.length ≤ maxLen := hx.1.2.2.2.2.1.1
  have hw : ∀ p ∈ f.2.2.2.2.1, p.2.length ≤ maxLen := fun p hp => (hx.1.2.2.2.2.1.2 p hp).2.1
  have hw2 : ∀ p ∈ f.2.2.2.2.1, ∀ x ∈ p.2, 0 ≤ x ∧ x < ((2 ^ 64 : Nat) : Int) := fun p hp => words_in (d := 2) (hx.1.2.2.2.2.1.2 p hp).2
  have hc : f.2.2.2.2.2.1.length ≤ maxLen := hx.1.2.2.2.2.2.1.1
  have hm : f.2.2.2.2.2.2.2.1.length ≤ maxLen := hx.1.2.2.2.2.2.2.2.1.1
  have hs : f.2.2.2.2.2.2.2.2.2.2.2.1.length ≤ maxLen := hx.1.2.2.2.2.2.2.2.2.2.2.2.1.1
  have hi : f.2.2.2.2.2.2.2.2.2.2.2.2.2.2.2.length ≤ maxLen := hx.1.2.2.2.2.2.2.2.2.2.2.2.2.2.2.2.1
  have xref : x.2.2.2.1.length ≤ maxLen := hx.2.2.2.2.1.1
  have xinn : x.2.2.2.2.2.1.length ≤ maxLen := hx.2.2.2.2.2.2.1.1
  have xz1 : x.2.2.2.2.2.2.2.1.length ≤ maxLen := hx.2.2.2.2.2.2.2.2.1.1
  have xl1 : x.2.2.2.2.2.2.2.2.1.length ≤ maxLen := hx.2.2.2.2.2.2.2.2.2.1.1
  have xz2 : x.2.2.2.2.2.2.2.2.2.2.1.length ≤ maxLen := hx.2.2.2.2.2.2.2.2.2.2.2.1.1
  have xl2 : x.2.2.2.2.2.2.2.2.2.2.2.1.length ≤ maxLen := hx.2.2.2.2.2.2.2.2.2.2.2.2.1.1
  have xc : x.2.2.2.2.2.2.2.2.2.2.2.2.1.length ≤ maxLen := hx.2.2.2.2.2.2.2.2.2.2.2.2.2.1.1
  have xm : x.2.2.2.2.2.2.2.2.2.2.2.2.2.2.1.length ≤ maxLen := hx.2.2.2.2.2.2.2.2.2.2.2.2.2.2.2.1.1
  have xs : x.2.2.2.2.2.2.2.2.2.2.2.2.2.2.2.2.2.2.1.length ≤ maxLen := hx.2.2.2.2.2.2.2.2.2.2.2.2.2.2.2.2.2.2.2.1.1
  have xi : x.2.2.2.2.2.2.2.2.2.2.2.2.2.2.2.2.2.2.2.2.2.2.length ≤ maxLen := hx.2.2.2.2.2.2.2.2.2.2.2.2.2.2.2.2.2.2.2.2.2.2.2.1
  have xv1 : ∀ p ∈ x.2.2.2.2.2.2.2.2.1, p.2.length ≤ maxLen := fun p hp => (hx.2.2.2.2.2.2.2.2.2.1.2 p hp).2.1
  have xv2 : ∀ p ∈ x.2.2.2.2.2.2.2.2.2.2.2.1, p.2.length ≤ maxLen := fun p hp => (hx.2.2.2.2.2.2.2.2.2.2.2.2.1.2 p hp).2.1
  have xw : XWords x := ⟨words_of hx.2.2.2.2.1, words_of hx.2.2.2.2.2.2.1, fun p hp => words_in (d := 2) (hx.2.2.2.2.2.2.2.2.2.1.2 p hp).2, fun p hp => words_in (d := 2) (hx.2.2.2.2.2.2.2.2.2.2.2.2.1.2 p hp).2⟩
  obtain ⟨r, h1, h2⟩ := szFm_ok3 f hz hl hw hc hm hs hi
  rw [laws_FnExactRelBytes.eq]
  show (laws_szFm f 1048576).bind _ = _
  rw [h1, Option.bind_some]
  rcases h2 with h2 | ⟨h2, hg, hr⟩
  · rw [bif_dec h2]
  rw [bif_ndec h2]
  obtain ⟨q, k1, k2⟩ := szRel_ok x r (by omega) hr xref xinn xz1 xl1 xz2 xl2 xc xm xs xi xv1 xv2
  show (laws_szRel x r).bind _ = _
  rw [k1, Option.bind_some]
  rcases k2 with k2 | ⟨k2, hgx⟩
  · rw [bif_dec k2]
  rw [bif_ndec k2]
  obtain ⟨R, hsp, him, hR⟩ := relBytes_both f hg.sm hw2 x hgx.sm xw
  have ht := toFm_eq f hg
  have he := eqFm_eq f f hg
  rw [decide_eq_true rfl] at he
  have htx := toRel_eq x hgx
  have hex := eqRel_eq x x hgx
  rw [decide_eq_true rfl] at hex
  obtain ⟨m, g, hm1, hm2, hm3⟩ := markFm_ok f hg
  obtain ⟨m', g', hm4, hm5, hm6⟩ := markRel_ok x hgx m hm2 (by omega)
  have hm7 : decide (m' < 0) = false := decide_eq_false (by omega)
  obtain ⟨a1, a2, a3, a4, a5, a6, a7, a8, a9, a10, a11, a12, a13, a14, a15, a16⟩ := f
  obtain ⟨b1, b2, b3, b4, b5, b6, b7, b8, b9, b10, b11, b12, b13, b14, b15, b16, b17, b18, b19, b20, b21, b22, b23⟩ := x
  simp (disch := omega) only [ht, htx, hsp, him, he, hex, hm1, hm4, hm7, eqByteS_eq, markByteS_eq, heldByteS_eq, laws_FnExactRelBytes_l0.eq, Option.bind_some, bne_self_eq_false, beq_self_eq_true, bif_false, decide_true, Bool.not_true, one_lt]
end Go.Ev.W
