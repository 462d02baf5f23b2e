/- Packed numbers and their bytes: what the functions come to. -/
import Derived.Test.YthbijcdnjgfndaaEvB
import Derived.Test.YthbijcdnjgfndaaPa30
import Derived.Test.YthbijcdnjgfndaaMRead3
set_option linter.unusedVariables false
set_option linter.unusedSimpArgs false
namespace Go.Ev.W
open Go.Ev

def pOk (w n b : Int) (W : List Nat) : Bool := decide (0 ≤ w) && decide (w ≤ 32) && (decide (0 ≤ n) && decide (n ≤ 5000)) && vOk b W && decide (b = w * n)
theorem mul_le (w n : Int) (h1 : 0 ≤ w) (h2 : w ≤ 32) (h3 : 0 ≤ n) (h4 : n ≤ 5000) : 0 ≤ w * n ∧ w * n ≤ 160000 := by
  refine ⟨Int.mul_nonneg h1 h3, ?_⟩
  have := Int.mul_le_mul h2 h4 h3 (by omega)
  omega
theorem specPackOk_eq (w n b : Int) (W : List Nat) (hl : W.length ≤ 1048576) (hx : ∀ x ∈ W, x < 2 ^ 64) : spec_PackOk (w, n, b, ints W) = some (pOk w n b W) := by
  rw [spec_PackOk.eq]
  unfold pOk
  simp only [specBitsOk_eq b W hl hx, Option.bind_some]
  by_cases h1 : 0 ≤ w
  · rw [bif_dec (show w ≥ 0 from h1), decide_eq_true h1]
    by_cases h2 : w ≤ 32
    · rw [bif_dec h2, decide_eq_true h2]
      by_cases h3 : 0 ≤ n
      · rw [bif_dec (show n ≥ 0 from h3), decide_eq_true h3]
        by_cases h4 : n ≤ 5000
        · have hm := mul_le w n h1 h2 h3 h4
          rw [bif_dec h4, decide_eq_true h4, wrapI (by omega) (by omega), beq_dec]
          cases vOk b W <;> rfl
        · rw [bif_ndec h4, decide_eq_false h4]; rfl
      · rw [bif_ndec (show ¬ n ≥ 0 from h3), decide_eq_false h3]; rfl
    · rw [bif_ndec h2, decide_eq_false h2]; rfl
  · rw [bif_ndec (show ¬ w ≥ 0 from h1), decide_eq_false h1]; rfl
theorem implPackOk_eq (w n b : Int) (W : List Nat) (hl : W.length ≤ 1048576) (hx : ∀ x ∈ W, x < 2 ^ 64) : impl_PackOk (w, n, b, ints W) = some (pOk w n b W) := by
  rw [impl_PackOk.eq]
  unfold pOk
  simp only [implBitsOk_eq b W hl hx, withinN_eq, Option.bind_some]
  by_cases h1 : 0 ≤ w ∧ w ≤ 32
  · rw [decide_eq_true h1.1, decide_eq_true h1.2]
    by_cases h2 : 0 ≤ n ∧ n ≤ 5000
    · have hm := mul_le w n h1.1 h1.2 h2.1 h2.2
      rw [decide_eq_true h2.1, decide_eq_true h2.2, Int.mul_comm n w, wrapI (by omega) (by omega), beq_dec]
      cases vOk b W <;> rfl
    · rw [show (decide (0 ≤ n) && decide (n ≤ 5000)) = false by simp only [Bool.and_eq_false_iff, decide_eq_false_iff_not]; omega]; rfl
  · rw [show (decide (0 ≤ w) && decide (w ≤ 32)) = false by simp only [Bool.and_eq_false_iff, decide_eq_false_iff_not]; omega]; rfl

abbrev Pk := Int × Int × Int × List Int
def badP : Pk × Int × Bool := ((0, 0, 0, []), 0, false)
def PRd (D : List Nat) (a : Int) : Pk × Int × Bool :=
  bif !(VRd D a).2.2 then badP else
  bif !(VRd D (VRd D a).2.1).2.2 then badP else
  bif !(BRd D (VRd D (VRd D a).2.1).2.1).2.2 then badP else
  let r := BRd D (VRd D (VRd D a).2.1).2.1
  bif !pOk (VRd D a).1 (VRd D (VRd D a).2.1).1 r.1.1 (r.1.2.map Int.toNat) then badP else (((VRd D a).1, (VRd D (VRd D a).2.1).1, r.1.1, r.1.2), r.2.1, true)
theorem BRd_ints (D : List Nat) (a : Int) : ∃ W : List Nat, (BRd D a).1.2 = ints W ∧ (∀ x ∈ W, x < 2 ^ 64) ∧ W.length ≤ 100 := by
  have hw := BRd_words D a
  suffices h : ∃ W : List Nat, (BRd D a).1.2 = ints W ∧ (∀ x ∈ W, x < 2 ^ 64) by
    obtain ⟨W, h1, h2⟩ := h
    refine ⟨W, h1, h2, ?_⟩
    rw [h1, List.length_map] at hw
    exact hw
  unfold BRd
  cases (VRd D a).2.2 with
  | false => exact ⟨[], rfl, by simp⟩
  | true =>
    rw [Bool.not_true, bif_false]
    split
    · exact ⟨[], rfl, by simp⟩
    · split
      · exact ⟨[], rfl, by simp⟩
      · unfold brFin
        simp only
        split
        · exact ⟨_, rfl, (wrds_tight _).2.1⟩
        · exact ⟨[], rfl, by simp⟩
theorem toNat_ints (W : List Nat) : (ints W).map Int.toNat = W := by
  unfold ints
  rw [List.map_map]
  exact (List.map_congr_left fun x _ => by simp).trans (List.map_id W)
theorem specPackRead_eq (D : List Nat) (hD : ByteL D) (hl : D.length ≤ 1048576) (a : Int) : spec_PackRead (ints D) a = some (PRd D a) := by
  rw [spec_PackRead.eq, specVarRead_eq D hD hl, Option.bind_some]
  unfold PRd
  cases h1 : (VRd D a).2.2 with
  | false => rfl
  | true =>
    rw [Bool.not_true, bif_false, bif_false, specVarRead_eq D hD hl, Option.bind_some]
    cases h2 : (VRd D (VRd D a).2.1).2.2 with
    | false => rfl
    | true =>
      rw [Bool.not_true, bif_false, bif_false, specBitsRead_eq D hD hl, Option.bind_some]
      obtain ⟨W, w1, w2, w3⟩ := BRd_ints D (VRd D (VRd D a).2.1).2.1
      cases h3 : (BRd D (VRd D (VRd D a).2.1).2.1).2.2 with
      | false => rfl
      | true =>
        simp only [Bool.not_true, bif_false]
        rw [w1, toNat_ints, specPackOk_eq _ _ _ W (by omega) w2, Option.bind_some]
        cases pOk (VRd D a).1 (VRd D (VRd D a).2.1).1 (BRd D (VRd D (VRd D a).2.1).2.1).1.1 W <;> rfl
theorem implPackRead_eq (D : List Nat) (hD : ByteL D) (hl : D.length ≤ 1048576) (a : Int) : impl_PackRead (ints D) a = some (PRd D a) := by
  rw [impl_PackRead.eq, implVarRead_eq D hD hl, Option.bind_some]
  unfold PRd
  cases h1 : (VRd D a).2.2 with
  | false => rfl
  | true =>
    rw [Bool.not_true, bif_false, bif_false, implVarRead_eq D hD hl, Option.bind_some]
    cases h2 : (VRd D (VRd D a).2.1).2.2 with
    | false => rfl
    | true =>
      rw [Bool.not_true, bif_false, bif_false, implBitsRead_eq D hD hl, Option.bind_some]
      obtain ⟨W, w1, w2, w3⟩ := BRd_ints D (VRd D (VRd D a).2.1).2.1
      cases h3 : (BRd D (VRd D (VRd D a).2.1).2.1).2.2 with
      | false => rfl
      | true =>
        simp only [Bool.not_true, bif_false]
        rw [w1, toNat_ints, implPackOk_eq _ _ _ W (by omega) w2, Option.bind_some]
        cases pOk (VRd D a).1 (VRd D (VRd D a).2.1).1 (BRd D (VRd D (VRd D a).2.1).2.1).1.1 W <;> rfl
theorem PRd_words (D : List Nat) (a : Int) : (PRd D a).1.2.2.2.length ≤ 100 := by
  unfold PRd badP
  have := BRd_words D (VRd D (VRd D a).2.1).2.1
  cases (VRd D a).2.2 with
  | false => simp
  | true =>
    cases (VRd D (VRd D a).2.1).2.2 with
    | false => simp
    | true =>
      cases (BRd D (VRd D (VRd D a).2.1).2.1).2.2 with
      | false => simp
      | true =>
        simp only [Bool.not_true, bif_false]
        cases pOk (VRd D a).1 (VRd D (VRd D a).2.1).1 (BRd D (VRd D (VRd D a).2.1).2.1).1.1 ((BRd D (VRd D (VRd D a).2.1).2.1).1.2.map Int.toNat) with
        | false => simp
        | true => exact this
theorem eqPacked_eq (a b c : Int) (x : List Int) (d e f : Int) (y : List Int) (h : x.length < 4611686018427387904) : laws_eqPacked (a, b, c, x) (d, e, f, y) = some (decide ((a, b, c, x) = (d, e, f, y))) := by
  rw [laws_eqPacked.eq]
  by_cases h1 : a = d
  · rw [bif_nne h1]
    by_cases h2 : b = e
    · rw [bif_nne h2]
      simp only
      rw [eqBits_eq _ _ _ _ h, Option.bind_some]
      by_cases h3 : (c, x) = (f, y)
      · rw [decide_eq_true h3, decide_eq_true (by rw [h1, h2, h3])]; rfl
      · rw [decide_eq_false h3, decide_eq_false (by intro h; exact h3 (Prod.mk.inj (Prod.mk.inj h).2).2)]; rfl
    · rw [bif_ne h2, decide_eq_false (by intro h; exact h2 (Prod.mk.inj (Prod.mk.inj h).2).1)]
  · rw [bif_ne h1, decide_eq_false (by intro h; exact h1 (Prod.mk.inj h).1)]
theorem markPacked_eq (a b c : Int) (xs : List Int) (k : Int) (hk : 0 ≤ k) (h : k + (xs.length : Int) < 4611686018427387904) : laws_markPacked (a, b, c, xs) k = some (k + xs.length, (a, b, c, markF IntKind.u64.wrap k xs.length)) := by
  rw [laws_markPacked.eq, markBits_eq _ _ _ hk h, Option.bind_some]
theorem heldPacked_eq (a b c : Int) (n : Nat) (k : Int) (hk : 0 ≤ k) (h : k + (n : Int) < 4611686018427387904) : laws_heldPacked (a, b, c, markF IntKind.u64.wrap k n) k = some (k + n) := by
  rw [laws_heldPacked.eq, heldBits_eq _ n k hk h, Option.bind_some, bif_ndec (by omega)]
theorem law_PackRead (x : List Int × Int) (hx : goodA tab laws_FnExactPackRead.as x) : laws_FnExactPackRead.fn x = some true := by
  obtain ⟨xs, a⟩ := x
  show laws_FnExactPackRead xs a = some true
  have hg : AllP (α := Tup [CT.int .u8]) (allL (goodC 4) [CT.int .u8]) xs := hx.1
  rw [laws_FnExactPackRead.eq]
  by_cases h : (xs.length : Int) > 1048576
  · rw [bif_dec h]
  rw [bif_ndec h]
  obtain ⟨D, rfl, hD⟩ := ints_of xs 256 (bytes_of hg)
  have hl : D.length ≤ 1048576 := by rw [List.length_map] at h; omega
  have hil : (ints D).length = D.length := List.length_map ..
  have hs := specPackRead_eq D hD hl a
  have hi := implPackRead_eq D hD hl a
  have hw := PRd_words D a
  obtain ⟨R, hR⟩ : ∃ R, R = PRd D a := ⟨_, rfl⟩
  rw [← hR] at hs hi hw
  clear hR
  obtain ⟨⟨p, n, b, W⟩, e, ok⟩ := R
  simp only at hw
  simp (disch := omega) only [toByteS_eq, hs, hi, eqByteS_eq, eqPacked_eq, markPacked_eq, markByteS_eq, heldPacked_eq, laws_FnExactPackRead_l0.eq, laws_FnExactPackRead_l1.eq, laws_FnExactPackRead_l2.eq, Option.bind_some, decide_true, Bool.not_true, cond_false, beq_self_eq_true, bne_self_eq_false, one_lt]
end Go.Ev.W
