/- Sparse lists of numbers: the value, and the reference's function. -/
import Derived.Test.YtmobcecmjpfpiaaEvC
import Derived.Test.YtmobcecmjpfpiaaPp1
import Derived.Test.YtmobcecmjpfpiaaPp2
import Derived.Test.YtmobcecmjpfpiaaMSp1
set_option linter.unusedVariables false
set_option linter.unusedSimpArgs false
namespace Go.Ev.W
open Go.Ev

abbrev SpV := Int × Int × Int × Int × Int × (List Int) × Int × (List Int)
def spW (U : Nat) (X : List Nat) : Nat := lwd X.length U
def spH (U : Nat) (X : List Nat) : List Bool := hiB (2 ^ spW U X) (U / 2 ^ spW U X) 0 X
def spL (U : Nat) (X : List Nat) : List Nat := X.map (· % 2 ^ spW U X)
def spVW (U n w : Nat) (L : List Nat) (H : List Bool) : SpV := ((U : Int), (n : Int), (w : Int), (L.length : Int), ((L.length * w : Nat) : Int), ints (wrds (dgs w L)), (H.length : Int), ints (wrds H))
def spV (U : Nat) (X : List Nat) : SpV := spVW U X.length (spW U X) (spL U X) (spH U X)
def spZ : SpV × Bool := ((0, 0, 0, 0, 0, [], 0, []), false)
def spR (U : Nat) (X : List Nat) : SpV × Bool := bif decide (X.length + U / 2 ^ spW U X + 1 ≤ 5000) && decide (X.length * spW U X ≤ 5000) then (spV U X, true) else spZ
/-- Below a bound, and none greater than the next. -/
def fineL (U : Nat) (X : List Nat) : Prop := ∀ j, j < X.length → X.getD j 0 < U ∧ (0 < j → X.getD (j - 1) 0 ≤ X.getD j 0)
instance (U : Nat) (X : List Nat) : Decidable (fineL U X) := by unfold fineL; exact inferInstance
def spOf (U : Int) (X : List Nat) : SpV × Bool := bif decide (0 ≤ U) && decide (U ≤ 1000000) && decide (fineL U.toNat X) then spR U.toNat X else spZ
theorem fineL_sorted {U : Nat} {X : List Nat} (h : fineL U X) : X.Pairwise (· ≤ ·) := by
  rw [List.pairwise_iff_getElem]
  have key : ∀ (d i : Nat), i + d < X.length → X.getD i 0 ≤ X.getD (i + d) 0 := by
    intro d
    induction d with
    | zero => intro i _; exact Nat.le_refl _
    | succ d ih =>
      intro i hi
      have := (h (i + (d + 1)) hi).2 (by omega)
      rw [show i + (d + 1) - 1 = i + d by omega] at this
      exact Nat.le_trans (ih i (by omega)) this
  intro i j hi hj hij
  have := key (j - i) i (by omega)
  rw [show i + (j - i) = j by omega, List.getD_eq_getElem?_getD, List.getD_eq_getElem?_getD, List.getElem?_eq_getElem hi, List.getElem?_eq_getElem hj] at this
  exact this
theorem fineL_lt {U : Nat} {X : List Nat} (h : fineL U X) : ∀ x ∈ X, x < U := by
  intro x hx
  obtain ⟨i, hi, rfl⟩ := List.mem_iff_getElem.1 hx
  have := (h i hi).1
  rwa [List.getD_eq_getElem?_getD, List.getElem?_eq_getElem hi] at this
theorem fineL_ris {U : Nat} {X : List Nat} (h : fineL U X) : Ris (2 ^ spW U X) (U / 2 ^ spW U X) 0 X :=
  Ris_of _ _ (Nat.two_pow_pos _) 0 X (Nat.zero_le _) (fun x hx => ⟨Nat.zero_le _, Nat.div_le_div_right (Nat.le_of_lt (fineL_lt h x hx))⟩) (fineL_sorted h)

theorem specPack_no (w : Nat) (hw : w ≤ 32) (L : List Nat) (hl : L.length ≤ 5000) (h : L.length * w > 5000) : spec_PackOf (ints L) w = some ((0, 0, 0, []), false) := by
  have h6 : ((L.length : Nat) : Int) * (w : Int) = ((L.length * w : Nat) : Int) := by simp
  have h7 : L.length * w ≤ 5000 * 32 := Nat.mul_le_mul hl hw
  rw [spec_PackOf.eq, bif_ndec (by omega), bif_ndec (by omega), ints_len, bif_ndec (by omega), h6, wrapI (x := ((L.length * w : Nat) : Int)) (by omega) (by omega), bif_dec (by omega)]
theorem specBits_no (B : List Bool) (h : B.length > 5000) : spec_BitsOf (bints B) = some ((0, []), false) := by
  rw [spec_BitsOf.eq, bints_len, bif_dec (by omega)]
section
variable (U n : Nat) (hU : U ≤ 1000000) (hn : n ≤ 5000)
include hU hn
theorem sp_exit (L : List Nat) (B : List Bool) (hL : L.length ≤ 5000) (hx : ∀ x ∈ L, x < 2 ^ lwd n U) :
    ((spec_l03Width (n : Int) U).bind fun y4 => (spec_PackOf (ints L) y4).bind fun y5 => (spec_BitsOf (bints B)).bind fun y6 =>
      bif !y5.2 then some spZ else bif !y6.2 then some spZ else some (((U : Int), (n : Int), y5.1.1, y5.1.2.1, y5.1.2.2.1, y5.1.2.2.2, y6.1.1, y6.1.2), true))
    = some (bif decide (B.length ≤ 5000) && decide (L.length * lwd n U ≤ 5000) then (spVW U n (lwd n U) L B, true) else spZ) := by
  have hw := lwd_le n U hU
  rw [specLw_eq n U hU (by omega), Option.bind_some]
  by_cases h1 : L.length * lwd n U ≤ 5000
  · rw [specPack_eq _ (by omega) L hL h1 hx, Option.bind_some, decide_eq_true h1]
    by_cases h2 : B.length ≤ 5000
    · rw [specBitsOf_eq B h2, decide_eq_true h2]; rfl
    · rw [specBits_no B (by omega), decide_eq_false h2]; rfl
  · rw [specPack_no _ (by omega) L hL (by omega), Option.bind_some, decide_eq_false h1, Bool.and_false]
    by_cases h2 : B.length ≤ 5000
    · rw [specBitsOf_eq B h2]; rfl
    · rw [specBits_no B (by omega)]; rfl
end
section
variable (U : Nat) (X : List Nat) (hU : U ≤ 1000000) (hn : X.length ≤ 5000) (hf : fineL U X) (a1 a2 a3 a4 a5 a6 : Int) (b1 b2 : List Int)
include hU hn hf
theorem spH_len : (spH U X).length = X.length + U / 2 ^ spW U X + 1 := by
  have _ := hU
  have _ := hn
  have := (hiB_len _ _ _ _ (fineL_ris hf)).2
  unfold spH; omega
theorem spRest (i : Nat) (hi : i ≤ X.length) (h : i < X.length) (q : Nat) (hR : Ris (2 ^ spW U X) (U / 2 ^ spW U X) q (X.drop i)) : q ≤ U / 2 ^ spW U X := by
  have _ := hU
  have _ := hn
  rw [List.drop_eq_getElem_cons h] at hR
  exact Nat.le_trans hR.1 (Nat.div_le_div_right (Nat.le_of_lt (fineL_lt hf _ (List.getElem_mem h))))
theorem sp_l2 (i q : Nat) (B : List Bool) (hi : i ≤ X.length) (hR : Ris (2 ^ spW U X) (U / 2 ^ spW U X) q (X.drop i)) (hB : B ++ hiB (2 ^ spW U X) (U / 2 ^ spW U X) q (X.drop i) = spH U X)
    (ih : q ≤ U / 2 ^ spW U X → spec_SparseOf_l4 (ints X) U ((2 ^ spW U X : Nat) : Int) i q a1 a2 a3 a4 a5 a6 b1 b2 (ints ((X.take i).map (· % 2 ^ spW U X))) (bints B) = some (spR U X)) :
    spec_SparseOf_l2 (ints X) U ((2 ^ spW U X : Nat) : Int) i q a1 a2 a3 a4 a5 a6 b1 b2 (ints ((X.take i).map (· % 2 ^ spW U X))) (bints B) = some (spR U X) := by
  have hp := Nat.two_pow_pos (spW U X)
  have hQ : U / 2 ^ spW U X ≤ U := Nat.div_le_self _ _
  have e : (U : Int).tdiv ((2 ^ spW U X : Nat) : Int) = ((U / 2 ^ spW U X : Nat) : Int) := rfl
  have hl : ((X.take i).map (· % 2 ^ spW U X)).length ≤ 5000 := by rw [List.length_map, List.length_take]; omega
  have hx : ∀ x ∈ (X.take i).map (· % 2 ^ spW U X), x < 2 ^ lwd X.length U := by
    intro x hx
    obtain ⟨y, _, rfl⟩ := List.mem_map.1 hx
    exact Nat.mod_lt _ hp
  have hex := sp_exit U X.length hU hn _ B hl hx
  have hHl := spH_len U X hU hn hf
  rw [spec_SparseOf_l2.eq, bif_ndec (by omega), e, wrapIn (by omega), ints_len, bints_len]
  by_cases hq : q ≤ U / 2 ^ spW U X
  · rw [bif_dec (by omega)]
    by_cases hb : B.length ≤ 5000
    · rw [bif_dec (by omega), spec_SparseOf_l3.eq]
      exact ih hq
    · rw [bif_ndec (by omega)]
      refine hex.trans ?_
      have : B.length ≤ (spH U X).length := by rw [← hB, List.length_append]; omega
      unfold spR
      rw [decide_eq_false hb, decide_eq_false (show ¬ (X.length + U / 2 ^ spW U X + 1 ≤ 5000) by omega)]; rfl
  · rw [bif_ndec (by omega)]
    refine hex.trans ?_
    have hi2 : i = X.length := by
      rcases Nat.lt_or_ge i X.length with h | h
      · exact absurd (spRest U X hU hn hf i hi h q hR) hq
      · omega
    subst hi2
    rw [List.drop_length] at hB hR
    have hR' : q ≤ U / 2 ^ spW U X + 1 := hR
    rw [hiB, show U / 2 ^ spW U X + 1 - q = 0 by omega, List.replicate_zero, List.append_nil] at hB
    subst hB
    unfold spR spV
    rw [List.take_length, List.length_map, hHl]; rfl
theorem sp_l4 : ∀ (m i q : Nat) (B : List Bool), (U / 2 ^ spW U X + 1 - q) + (X.length - i) = m → i ≤ X.length → q ≤ U / 2 ^ spW U X → Ris (2 ^ spW U X) (U / 2 ^ spW U X) q (X.drop i) →
    B ++ hiB (2 ^ spW U X) (U / 2 ^ spW U X) q (X.drop i) = spH U X →
    spec_SparseOf_l4 (ints X) U ((2 ^ spW U X : Nat) : Int) i q a1 a2 a3 a4 a5 a6 b1 b2 (ints ((X.take i).map (· % 2 ^ spW U X))) (bints B) = some (spR U X)
  | 0, i, q, B, hm, hi, hq, hR, hB => by omega
  | m + 1, i, q, B, hm, hi, hq, hR, hB => by
    have hp := Nat.two_pow_pos (spW U X)
    have hQ : U / 2 ^ spW U X ≤ U := Nat.div_le_self _ _
    have hHl := spH_len U X hU hn hf
    have hBl : B.length ≤ (spH U X).length := by rw [← hB, List.length_append]; omega
    have hzero : (∀ x, (X.drop i).head? = some x → x / 2 ^ spW U X ≠ q) →
        spec_SparseOf_l2 (ints X) U ((2 ^ spW U X : Nat) : Int) i ((q + 1 : Nat) : Int) a1 a2 a3 a4 a5 a6 b1 b2 (ints ((X.take i).map (· % 2 ^ spW U X))) (bints B ++ [0]) = some (spR U X) := by
      intro h
      obtain ⟨h1, h2⟩ := hiB_zero _ _ q _ hq hR h
      have e : bints B ++ [0] = bints (B ++ [false]) := by rw [← bints_app]; rfl
      have hB2 : (B ++ [false]) ++ hiB (2 ^ spW U X) (U / 2 ^ spW U X) (q + 1) (X.drop i) = spH U X := by rw [← hB, h1, List.append_assoc]; rfl
      rw [e]
      exact sp_l2 U X hU hn hf a1 a2 a3 a4 a5 a6 b1 b2 i (q + 1) _ hi h2 hB2 fun hq2 => sp_l4 m i (q + 1) _ (by omega) hi hq2 h2 hB2
    rw [spec_SparseOf_l4.eq, ints_len, bints_len]
    by_cases h : i < X.length
    · have hd := List.drop_eq_getElem_cons h
      have hxl := fineL_lt hf _ (List.getElem_mem h)
      have hxd : X[i] / 2 ^ spW U X ≤ X[i] := Nat.div_le_self _ _
      have hxm : X[i] % 2 ^ spW U X ≤ X[i] := Nat.mod_le _ _
      have e1 : ((X[i] : Nat) : Int).tdiv ((2 ^ spW U X : Nat) : Int) = ((X[i] / 2 ^ spW U X : Nat) : Int) := rfl
      have e2 : ((X[i] : Nat) : Int).tmod ((2 ^ spW U X : Nat) : Int) = ((X[i] % 2 ^ spW U X : Nat) : Int) := rfl
      rw [bif_dec (by omega), at?_ints X i h, Option.bind_some, bif_ndec (by omega), e1, wrapIn (by omega)]
      by_cases hxq : X[i] / 2 ^ spW U X = q
      · rw [bif_eq (by rw [hxq]), spec_SparseOf_l5.eq, at?_ints X i h, Option.bind_some, bif_ndec (by omega), e2, ints_len, bints_len, bif_dec (by rw [List.length_map, List.length_take]; simp only [List.length_cons, List.length_nil]; omega), bif_dec (by simp only [List.length_cons, List.length_nil]; omega), wrapS i (by omega), ints_snoc]
        have e3 : bints B ++ [1] = bints (B ++ [true]) := by rw [← bints_app]; rfl
        have e4 : (X.take i).map (· % 2 ^ spW U X) ++ [X[i] % 2 ^ spW U X] = (X.take (i + 1)).map (· % 2 ^ spW U X) := by rw [take_snoc X i h, List.map_append]; rfl
        rw [e3, e4]
        rw [hd] at hR hB
        refine sp_l4 m (i + 1) q _ (by omega) (by omega) hq (by rw [← hxq]; exact hR.2) ?_
        rw [← hB, hiB_one _ _ q _ _ hxq, List.append_assoc]; rfl
      · rw [bif_neq (by omega), bif_dec (by simp only [List.length_cons, List.length_nil]; omega), wrapS q (by omega)]
        exact hzero fun x hx => by
          rw [hd] at hx
          obtain rfl : X[i] = x := Option.some.inj hx
          exact hxq
    · rw [bif_ndec (by omega), bif_dec (by simp only [List.length_cons, List.length_nil]; omega), wrapS q (by omega)]
      exact hzero fun x hx => by
        rw [List.drop_eq_nil_of_le (by omega)] at hx; cases hx
end
theorem fineSpec (U : Nat) (X : List Nat) (hU : U ≤ 1000000) (hn : X.length ≤ 5000) (hX : ∀ x ∈ X, x < 4611686018427387904) (a1 a2 a3 a4 a5 a6 : Int) (b1 b2 : List Int) : ∀ (d i : Nat), X.length - i = d → i ≤ X.length →
    spec_SparseOf_l1 (ints X) U i a1 a2 a3 a4 a5 a6 b1 b2 = bif decide (∀ j, j < X.length → i ≤ j → X.getD j 0 < U ∧ (0 < j → X.getD (j - 1) 0 ≤ X.getD j 0)) then spec_SparseOf_l1 (ints X) U X.length a1 a2 a3 a4 a5 a6 b1 b2 else some spZ
  | 0, i, h1, h2 => by
    obtain rfl : i = X.length := by omega
    rw [bif_dec (fun j h3 h4 => by omega)]
  | d + 1, i, h1, h2 => by
    have h : i < X.length := by omega
    have hg : X.getD i 0 = X[i] := by rw [List.getD_eq_getElem?_getD, List.getElem?_eq_getElem h]; rfl
    have hx := hX _ (List.getElem_mem h)
    rw [spec_SparseOf_l1.eq, ints_len, bif_dec (by omega), at?_ints X i h, Option.bind_some, bif_ndec (by omega), Option.bind_some]
    have hrec := fineSpec U X hU hn hX a1 a2 a3 a4 a5 a6 b1 b2 d (i + 1) (by omega) (by omega)
    have hiff : X.getD i 0 < U ∧ (0 < i → X.getD (i - 1) 0 ≤ X.getD i 0) → ((∀ j, j < X.length → i ≤ j → X.getD j 0 < U ∧ (0 < j → X.getD (j - 1) 0 ≤ X.getD j 0)) ↔ (∀ j, j < X.length → i + 1 ≤ j → X.getD j 0 < U ∧ (0 < j → X.getD (j - 1) 0 ≤ X.getD j 0))) := by
      intro h0
      refine ⟨fun k j hj hij => k j hj (by omega), fun k j hj hij => ?_⟩
      rcases Nat.eq_or_lt_of_le hij with e | e
      · subst e; exact h0
      · exact k j hj e
    by_cases h3 : X[i] < U
    · rw [bif_ndec (by omega), wrapS i (by omega)]
      by_cases h4 : 0 < i
      · have h5 : i - 1 < X.length := by omega
        have hg2 : X.getD (i - 1) 0 = X[i - 1] := by rw [List.getD_eq_getElem?_getD, List.getElem?_eq_getElem h5]; rfl
        rw [bif_dec (by omega), wrapI (x := (i : Int) - 1) (by omega) (by omega), show ((i : Int) - 1) = ((i - 1 : Nat) : Int) by omega, at?_ints X (i - 1) h5, Option.bind_some, Option.bind_some]
        by_cases h6 : X[i - 1] ≤ X[i]
        · rw [bif_ndec (by omega), hrec]
          simp only [hiff ⟨by omega, fun _ => by omega⟩]
        · rw [bif_dec (by omega), bif_ndec (fun k => by have := (k i h (Nat.le_refl _)).2 h4; omega)]; rfl
      · rw [bif_ndec (by omega), hrec]
        simp only [hiff ⟨by omega, fun hh => absurd hh h4⟩]
    · rw [bif_dec (by omega), bif_ndec (fun k => by have := (k i h (Nat.le_refl _)).1; omega)]; rfl
theorem specSparseOf_eq (U : Int) (X : List Nat) (hn : X.length ≤ 5000) (hX : ∀ x ∈ X, x < 4611686018427387904) : spec_SparseOf (ints X) U = some (spOf U X) := by
  rw [spec_SparseOf.eq]
  unfold spOf
  by_cases h1 : U < 0
  · rw [bif_dec h1, decide_eq_false (show ¬ (0 : Int) ≤ U by omega)]; rfl
  by_cases h2 : U > 1000000
  · rw [bif_ndec h1, bif_dec h2, decide_eq_false (show ¬ U ≤ 1000000 by omega), Bool.and_false]; rfl
  obtain ⟨u, rfl⟩ : ∃ u : Nat, U = u := ⟨U.toNat, by omega⟩
  rw [bif_ndec h1, bif_ndec h2, ints_len, bif_ndec (by omega), decide_eq_true (show (0 : Int) ≤ u by omega), decide_eq_true (show (u : Int) ≤ 1000000 by omega), Int.toNat_natCast, spec_SparseOf_l0.eq]
  have hu : u ≤ 1000000 := by omega
  refine (fineSpec u X hu hn hX 0 0 0 0 0 0 [] [] _ 0 rfl (by omega)).trans ?_
  by_cases hf : fineL u X
  · rw [bif_dec (fun j h3 _ => hf j h3), decide_eq_true hf, spec_SparseOf_l1.eq, ints_len, bif_ndec (by omega), specLw_eq _ _ hu (by omega), Option.bind_some, l02Pow_eq _ (by have := lwd_le X.length u hu; omega), Option.bind_some]
    have hd : X.drop 0 = X := rfl
    have := sp_l2 u X hu hn hf 0 0 0 0 0 0 [] [] 0 0 [] (by omega) (by rw [hd]; exact fineL_ris hf) (by rw [hd]; rfl) fun hq => sp_l4 u X hu hn hf 0 0 0 0 0 0 [] [] _ 0 0 [] rfl (by omega) hq (by rw [hd]; exact fineL_ris hf) (by rw [hd]; rfl)
    exact this
  · rw [bif_ndec (fun k => hf fun j h3 => k j h3 (by omega)), decide_eq_false hf]; rfl
end Go.Ev.W
