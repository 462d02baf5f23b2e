/- Sparse lists of numbers: the program's function makes the same. -/
import Derived.Test.YtmobcecmjpfpiaaEvC
import Derived.Test.YtmobcecmjpfpiaaPp1
import Derived.Test.YtmobcecmjpfpiaaMSp2
set_option linter.unusedVariables false
set_option linter.unusedSimpArgs false
namespace Go.Ev.W
open Go.Ev

theorem implPack_no (w : Nat) (hw : w ≤ 32) (L : List Nat) (hl : L.length ≤ 5000) (h : L.length * w > 5000) : impl_PackOf (ints L) w = some ((0, 0, 0, []), false) := by
  have h6 : ((L.length : Nat) : Int) * (w : Int) = ((L.length * w : Nat) : Int) := by simp
  have h7 : L.length * w ≤ 5000 * 32 := Nat.mul_le_mul hl hw
  rw [impl_PackOf.eq, withinN_eq, Option.bind_some, decide_eq_true (show (0 : Int) ≤ w by omega), decide_eq_true (show (w : Int) ≤ 32 by omega), ints_len, bif_ndec (show ¬ ((L.length : Nat) : Int) > 5000 by omega), h6, wrapI (x := ((L.length * w : Nat) : Int)) (by omega) (by omega), bif_dec (show ((L.length * w : Nat) : Int) > 5000 by omega)]; rfl
theorem low_and (x w : Nat) (hx : x < 4611686018427387904) (hw : w ≤ 60) : IntKind.i64.wrap (((BitVec.ofInt 64 (x : Int)) &&& (BitVec.ofInt 64 (IntKind.i64.wrap ((IntKind.i64.wrap ((1 : Int) * 2 ^ w)) - (1 : Int))))).toNat : Int) = ((x % 2 ^ w : Nat) : Int) := by
  have h4 := pw62 (k := w) (by omega)
  have h0 : 0 < 2 ^ w := Nat.two_pow_pos w
  have e1 : (1 : Int) * 2 ^ w = ((2 ^ w : Nat) : Int) := by simp
  have hm : x % 2 ^ w ≤ x := Nat.mod_le _ _
  rw [e1, wrapI (x := ((2 ^ w : Nat) : Int)) (by omega) (by omega), wrapI (x := ((2 ^ w : Nat) : Int) - 1) (by omega) (by omega), show ((2 ^ w : Nat) : Int) - 1 = ((2 ^ w - 1 : Nat) : Int) by omega, bv_and 64 x (2 ^ w - 1) (by omega) (by omega), Nat.and_two_pow_sub_one_eq_mod, wrapIn (by omega)]
section
variable (U : Nat) (X : List Nat) (hU : U ≤ 1000000) (hn : X.length ≤ 5000) (hf : fineL U X) (hT : X.length + U / 2 ^ spW U X + 1 ≤ 5000) (v0 : List Int) (hv : v0.length = X.length) (a1 a2 a3 a4 a5 a6 : Int) (b1 b2 : List Int)
include hU hn hf hT hv
theorem isp_l3 (B : List Bool) : ∀ (d q : Nat), U / 2 ^ spW U X + 1 - q = d → q ≤ U / 2 ^ spW U X + 1 → B.length = X.length + q → B ++ List.replicate d false = spH U X →
    impl_SparseOf_l3 v0 (spW U X) U a1 a2 a3 a4 a5 a6 b1 b2 (ints (spL U X)) (bints B) = some (spR U X) := by
  intro d
  induction d generalizing B with
  | zero =>
    intro q hd hq hB hH
    have hw := lwd_le X.length U hU
    have hLl : (spL U X).length = X.length := List.length_map ..
    have e : min (spW U X) 64 = spW U X := by unfold spW; omega
    have hHl := spH_len U X hU hn hf
    rw [List.replicate_zero, List.append_nil] at hH
    subst hH
    have hx : ∀ x ∈ spL U X, x < 2 ^ spW U X := by
      intro x hx
      obtain ⟨y, _, rfl⟩ := List.mem_map.1 hx
      exact Nat.mod_lt _ (Nat.two_pow_pos _)
    rw [impl_SparseOf_l3.eq, bif_ndec (by omega), ints_len, bints_len, Int.toNat_natCast, e, fdiv_nat, wrapI (x := ((spH U X).length : Int) - ((spL U X).length : Int)) (by omega) (by omega), bif_ndec (by omega)]
    unfold spR
    rw [decide_eq_true hT]
    by_cases h1 : X.length * spW U X ≤ 5000
    · rw [implPack_eq _ (by unfold spW; omega) _ (by omega) (by rw [hLl]; exact h1) hx, Option.bind_some, implBitsOf_eq _ (by omega), decide_eq_true h1, hv]; rfl
    · rw [implPack_no _ (by unfold spW; omega) _ (by omega) (by rw [hLl]; omega), decide_eq_false h1]; rfl
  | succ d ih =>
    intro q hd hq hB hH
    have hw := lwd_le X.length U hU
    have hLl : (spL U X).length = X.length := List.length_map ..
    have e : min (spW U X) 64 = spW U X := by unfold spW; omega
    have e2 : bints B ++ [0] = bints (B ++ [false]) := by rw [← bints_app]; rfl
    rw [impl_SparseOf_l3.eq, bif_ndec (by omega), ints_len, bints_len, Int.toNat_natCast, e, fdiv_nat, wrapI (x := (B.length : Int) - ((spL U X).length : Int)) (by omega) (by omega), bif_dec (by omega), bif_dec (by simp only [List.length_cons, List.length_nil]; omega), e2]
    exact ih (B ++ [false]) (q + 1) (by omega) (by omega) (by simp only [List.length_append, List.length_cons, List.length_nil]; omega) (by rw [List.append_assoc]; exact hH)
theorem isp_l2 (i : Nat) (hi : i < X.length) (L : List Nat) (hL : L.length = i) : ∀ (d q : Nat) (B : List Bool), X[i] / 2 ^ spW U X - q = d → q ≤ X[i] / 2 ^ spW U X → B.length = i + q →
    impl_SparseOf_l2 v0 (spW U X) (X[i] : Nat) (ints X) X.length i U a1 a2 a3 a4 a5 a6 b1 b2 (ints L) (bints B)
     = impl_SparseOf_l1 v0 (spW U X) (ints X) X.length ((i + 1 : Nat) : Int) U a1 a2 a3 a4 a5 a6 b1 b2 (ints (L ++ [X[i] % 2 ^ spW U X])) (bints (B ++ (List.replicate d false ++ [true]))) := by
  intro d
  induction d with
  | zero =>
    intro q B hd hq hB
    have _ := hv
    have _ := hn
    have hw := lwd_le X.length U hU
    have e : min (spW U X) 64 = spW U X := by unfold spW; omega
    have hxl := fineL_lt hf _ (List.getElem_mem hi)
    have hdq : X[i] / 2 ^ spW U X ≤ U / 2 ^ spW U X := Nat.div_le_div_right (by omega)
    have e2 : bints B ++ [1] = bints (B ++ [true]) := by rw [← bints_app]; rfl
    have hla := low_and X[i] (spW U X) (by omega) (by unfold spW; omega)
    rw [impl_SparseOf_l2.eq, bif_ndec (by omega), ints_len, bints_len, Int.toNat_natCast, e, fdiv_nat, wrapI (x := (B.length : Int) - (L.length : Int)) (by omega) (by omega), bif_ndec (by omega), bif_dec (by simp only [List.length_cons, List.length_nil]; omega), bif_ndec (by omega), hla, bif_dec (by simp only [List.length_cons, List.length_nil]; omega), wrapS i (by omega), ints_snoc, e2]
    rfl
  | succ d ih =>
    intro q B hd hq hB
    have hw := lwd_le X.length U hU
    have e : min (spW U X) 64 = spW U X := by unfold spW; omega
    have hxl := fineL_lt hf _ (List.getElem_mem hi)
    have hdq : X[i] / 2 ^ spW U X ≤ U / 2 ^ spW U X := Nat.div_le_div_right (by omega)
    have e2 : bints B ++ [0] = bints (B ++ [false]) := by rw [← bints_app]; rfl
    rw [impl_SparseOf_l2.eq, bif_ndec (by omega), ints_len, bints_len, Int.toNat_natCast, e, fdiv_nat, wrapI (x := (B.length : Int) - (L.length : Int)) (by omega) (by omega), bif_dec (by omega), bif_dec (by simp only [List.length_cons, List.length_nil]; omega), e2, ih (q + 1) (B ++ [false]) (by omega) (by omega) (by simp only [List.length_append, List.length_cons, List.length_nil]; omega), List.append_assoc]
    rfl
theorem isp_l1 : ∀ (d i q : Nat) (B : List Bool), X.length - i = d → i ≤ X.length → B.length = i + q → Ris (2 ^ spW U X) (U / 2 ^ spW U X) q (X.drop i) → B ++ hiB (2 ^ spW U X) (U / 2 ^ spW U X) q (X.drop i) = spH U X →
    impl_SparseOf_l1 v0 (spW U X) (ints X) X.length i U a1 a2 a3 a4 a5 a6 b1 b2 (ints ((X.take i).map (· % 2 ^ spW U X))) (bints B) = some (spR U X) := by
  intro d
  induction d with
  | zero =>
    intro i q B hd hi hB hR hH
    obtain rfl : i = X.length := by omega
    rw [List.drop_length] at hR hH
    rw [impl_SparseOf_l1.eq, bif_ndec (by omega), List.take_length]
    exact isp_l3 U X hU hn hf hT v0 hv a1 a2 a3 a4 a5 a6 b1 b2 B _ q rfl hR hB hH
  | succ d ih =>
    intro i q B hd hi hB hR hH
    have h : i < X.length := by omega
    have hdr := List.drop_eq_getElem_cons h
    rw [hdr] at hR hH
    rw [impl_SparseOf_l1.eq, bif_dec (by omega), at?_ints X i h, Option.bind_some,
      isp_l2 U X hU hn hf hT v0 hv a1 a2 a3 a4 a5 a6 b1 b2 i h _ (by rw [List.length_map, List.length_take]; omega) _ q B rfl hR.1 hB]
    have e4 : (X.take i).map (· % 2 ^ spW U X) ++ [X[i] % 2 ^ spW U X] = (X.take (i + 1)).map (· % 2 ^ spW U X) := by rw [take_snoc X i h, List.map_append]; rfl
    rw [e4]
    have hR1 := hR.1
    refine ih (i + 1) (X[i] / 2 ^ spW U X) _ (by omega) (by omega) ?_ hR.2 ?_
    · simp only [List.length_append, List.length_replicate, List.length_cons, List.length_nil]; omega
    · rw [← hH, hiB, List.append_assoc, List.append_assoc]; rfl
end
theorem less_eq (x y : Int) : cmp_Less_int x y = some (decide (x < y)) := by
  rw [cmp_Less_int.eq, cmp_isNaN_int.eq, bne_self_eq_false]; rfl
theorem sorted_l0 (X : List Nat) (hn : X.length ≤ 5000) : ∀ (i : Nat), i < X.length → slices_IsSorted_int_int_l0 (ints X) i = some (decide (∀ j, j ≤ i → 0 < j → X.getD (j - 1) 0 ≤ X.getD j 0))
  | 0, h => by
    rw [slices_IsSorted_int_int_l0.eq, bif_ndec (by omega), decide_eq_true (fun j h1 h2 => by omega)]
  | i + 1, h => by
    have h5 : i < X.length := by omega
    have hg : X.getD (i + 1) 0 = X[i + 1] := by rw [List.getD_eq_getElem?_getD, List.getElem?_eq_getElem h]; rfl
    have hg2 : X.getD i 0 = X[i] := by rw [List.getD_eq_getElem?_getD, List.getElem?_eq_getElem h5]; rfl
    rw [slices_IsSorted_int_int_l0.eq, bif_dec (by omega), at?_ints X _ h, Option.bind_some, wrapI (x := ((i + 1 : Nat) : Int) - 1) (by omega) (by omega), show (((i + 1 : Nat) : Int) - 1) = (i : Int) by omega, at?_ints X i h5, Option.bind_some, less_eq, Option.bind_some, sorted_l0 X hn i h5]
    by_cases h6 : X[i + 1] < X[i]
    · rw [bif_dec (by omega), decide_eq_false (fun k => by have := k (i + 1) (Nat.le_refl _) (by omega); rw [show i + 1 - 1 = i by omega] at this; omega)]
    · rw [bif_ndec (by omega)]
      congr 1
      refine decide_eq_decide.2 ⟨fun k j hj hp => ?_, fun k j hj hp => k j (by omega) hp⟩
      rcases Nat.eq_or_lt_of_le hj with e | e
      · subst e; rw [show i + 1 - 1 = i by omega]; omega
      · exact k j (by omega) hp
theorem sorted_eq (X : List Nat) (hn : X.length ≤ 5000) : slices_IsSorted_int_int (ints X) = some (decide (∀ j, j < X.length → 0 < j → X.getD (j - 1) 0 ≤ X.getD j 0)) := by
  rw [slices_IsSorted_int_int.eq, ints_len]
  by_cases h : X.length = 0
  · rw [h, decide_eq_true (fun j h1 => by omega), slices_IsSorted_int_int_l0.eq]; rfl
  · rw [wrapI (by omega) (by omega), show ((X.length : Int) - 1) = ((X.length - 1 : Nat) : Int) by omega, sorted_l0 X hn _ (by omega)]
    congr 1
    exact decide_eq_decide.2 ⟨fun k j hj hp => k j (by omega) hp, fun k j hj hp => k j (by omega) hp⟩
theorem sp1_eq (U : Nat) (hU : U ≤ 1000000) (n : Int) : impl_areAll_int_1_SparseOf_1 n U = some (!(decide (0 ≤ n) && decide (n ≤ (U : Int) - 1))) := by
  rw [impl_areAll_int_1_SparseOf_1.eq, impl_SparseOf_1.eq, wrapI (x := (U : Int) - 1) (by omega) (by omega), withinN_eq]; rfl
theorem spAll_eq (U : Nat) (hU : U ≤ 1000000) (xs : List Int) (h : xs.length < 4611686018427387904) : impl_areAll_int_SparseOf_1 xs U = some (xs.all fun n => decide (0 ≤ n) && decide (n ≤ (U : Int) - 1)) := by
  rw [impl_areAll_int_SparseOf_1.eq, slices_ContainsFunc_int_int_areAll_int_1_SparseOf_1.eq, slices_IndexFunc_int_int_areAll_int_1_SparseOf_1.eq]
  obtain ⟨r, h1, h2⟩ := find_loop (fun n : Int => !(decide (0 ≤ n) && decide (n ≤ (U : Int) - 1))) (fun n => impl_areAll_int_1_SparseOf_1 n U) xs h (fun x _ => sp1_eq U hU x) (slices_IndexFunc_int_int_areAll_int_1_SparseOf_1_l0 xs U xs.length) (slices_IndexFunc_int_int_areAll_int_1_SparseOf_1_l0.eq xs U xs.length)
  rw [h1]
  simp only [Option.bind_some, h2, List.any_eq_not_all_not, Bool.not_not]
theorem implSparseOf_eq (U : Int) (X : List Nat) (hn : X.length ≤ 5000) : impl_SparseOf (ints X) U = some (spOf U X) := by
  rw [impl_SparseOf.eq, withinN_eq, Option.bind_some]
  unfold spOf
  by_cases h1 : 0 ≤ U
  rotate_left
  · rw [decide_eq_false h1]; rfl
  by_cases h2 : U ≤ 1000000
  rotate_left
  · rw [decide_eq_false h2, Bool.and_false]; rfl
  obtain ⟨u, rfl⟩ : ∃ u : Nat, U = u := ⟨U.toNat, by omega⟩
  have hu : u ≤ 1000000 := by omega
  rw [decide_eq_true h1, decide_eq_true h2, Bool.and_true, Bool.not_true, bif_false, sorted_eq X hn, Option.bind_some, Int.toNat_natCast, Bool.true_and]
  by_cases h3 : ∀ j, j < X.length → 0 < j → X.getD (j - 1) 0 ≤ X.getD j 0
  rotate_left
  · rw [decide_eq_false h3, decide_eq_false (fun k => h3 fun j hj hp => (k j hj).2 hp)]; rfl
  rw [decide_eq_true h3, Bool.not_true, bif_false, spAll_eq u hu _ (by rw [ints_len]; omega), Option.bind_some]
  by_cases hf : fineL u X
  rotate_left
  · have : ((ints X).all fun n => decide (0 ≤ n) && decide (n ≤ (u : Int) - 1)) = false := by
      rw [Bool.eq_false_iff]
      intro h
      refine hf fun j hj => ⟨?_, fun hp => h3 j hj hp⟩
      have := List.all_eq_true.1 h _ (List.mem_map.2 ⟨X[j], List.getElem_mem hj, rfl⟩)
      rw [Bool.and_eq_true, decide_eq_true_eq, decide_eq_true_eq] at this
      rw [List.getD_eq_getElem?_getD, List.getElem?_eq_getElem hj]
      show X[j] < u
      omega
    rw [this, decide_eq_false hf]; rfl
  have hall : ((ints X).all fun n => decide (0 ≤ n) && decide (n ≤ (u : Int) - 1)) = true := by
    refine List.all_eq_true.2 fun x h => ?_
    obtain ⟨y, hy, rfl⟩ := List.mem_map.1 h
    have := fineL_lt hf y hy
    rw [Bool.and_eq_true, decide_eq_true_eq, decide_eq_true_eq]; omega
  have hw := lwd_le X.length u hu
  have e : min (lwd X.length u) 64 = lwd X.length u := by omega
  have hQ : u / 2 ^ lwd X.length u ≤ u := Nat.div_le_self _ _
  have hQ0 := Nat.zero_le (u / 2 ^ lwd X.length u)
  rw [hall, decide_eq_true hf, Bool.not_true, bif_false, bif_true, impl_SparseOf_l0.eq, ints_len, implLw_eq _ _ hu (by omega), Option.bind_some, bif_ndec (by omega), Int.toNat_natCast, e, fdiv_nat, wrapI (x := ((X.length : Nat) : Int) + _) (by omega) (by omega), wrapI (by omega) (by omega)]
  by_cases hT : X.length + u / 2 ^ spW u X + 1 ≤ 5000
  · rw [bif_ndec (by unfold spW at hT; omega)]
    have hd : X.drop 0 = X := rfl
    exact isp_l1 u X hu hn hf hT (ints X) (ints_len X) 0 0 0 0 0 0 [] [] _ 0 0 [] rfl (by omega) rfl (by rw [hd]; exact fineL_ris hf) (by rw [hd]; rfl)
  · rw [bif_dec (by unfold spW at hT; omega)]
    unfold spR
    rw [decide_eq_false hT]; rfl
end Go.Ev.W
