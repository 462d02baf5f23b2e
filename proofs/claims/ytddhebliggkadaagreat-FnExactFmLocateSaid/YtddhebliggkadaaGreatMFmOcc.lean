/- Where a word occurs: both functions. -/
import Derived.Test.YtddhebliggkadaaGreatEvC
import Derived.Test.YtddhebliggkadaaGreatPc1
import Derived.Test.YtddhebliggkadaaGreatPc11
import Derived.Test.YtddhebliggkadaaGreatPc12
import Derived.Test.YtddhebliggkadaaGreatPc21
import Derived.Test.YtddhebliggkadaaGreatMFm4
import Derived.Test.YtddhebliggkadaaGreatMRead
set_option linter.unusedVariables false
set_option linter.unusedSimpArgs false
namespace Go.Ev.W
open Go.Ev

def bgn (X P : List Nat) : Bool := decide (X.take P.length = P)
theorem bgn_len {X P : List Nat} (h : bgn X P = true) : P.length ≤ X.length := by
  have h := of_decide_eq_true h
  rw [← h, List.length_take]; omega
theorem bgn_cmp : ∀ (X P : List Nat), bgn X P = true → ¬ cmpN X P < 0
  | [], [], _ => by show ¬ (0 : Int) < 0; omega
  | [], _ :: _, h => by have := bgn_len h; simp at this
  | _ :: _, [], _ => by show ¬ (1 : Int) < 0; omega
  | a :: X, b :: P, h => by
    have h1 := of_decide_eq_true h
    rw [List.length_cons, List.take_succ_cons] at h1
    injection h1 with h2 h3
    rw [cmpN, h2, if_neg (by omega), if_neg (by omega)]
    exact bgn_cmp X P (decide_eq_true h3)
theorem ints_takeN (X : List Nat) (n : Nat) : (ints X).take n = ints (X.take n) := (List.map_take).symm
theorem ints_dropN (X : List Nat) (n : Nat) : (ints X).drop n = ints (X.drop n) := (List.map_drop).symm
theorem drop_ints (D : List Nat) (a : Nat) : ((ints D).take D.length).drop a = ints (D.drop a) := by
  rw [ints_takeN, ints_dropN, List.take_of_length_le (Nat.le_refl _)]
theorem specBegins_eq (X P : List Nat) (hX : ByteL X) (hP : ByteL P) : spec_l05Begins (ints X) (ints P) = some (bgn X P) := by
  rw [spec_l05Begins.eq, ints_len, ints_len]
  by_cases h : P.length ≤ X.length
  · rw [bif_dec (by omega), bif_dec (by omega), Int.toNat_natCast, List.drop_zero, ints_takeN, strOf_eq _ _ (fun x hx => hX x (List.mem_of_mem_take hx)) hP]; rfl
  · rw [bif_ndec (by omega)]
    congr 1
    symm
    cases hb : bgn X P with
    | false => rfl
    | true => exact absurd (bgn_len hb) h
theorem prefix_eq (X P : List Nat) (hX : ByteL X) (hP : ByteL P) : bytes_HasPrefix (ints X) (ints P) = some (bgn X P) := by
  rw [bytes_HasPrefix.eq, ints_len, ints_len]
  by_cases h : P.length ≤ X.length
  · rw [bif_dec (by omega), bif_dec (by omega), Int.toNat_natCast, List.drop_zero, ints_takeN, bytes_Equal.eq, strOf_eq _ _ (fun x hx => hX x (List.mem_of_mem_take hx)) hP]; rfl
  · rw [bif_ndec (by omega)]
    congr 1
    symm
    cases hb : bgn X P with
    | false => rfl
    | true => exact absurd (bgn_len hb) h
theorem compare_eq (X P : List Nat) (hX : ByteL X) (hP : ByteL P) : bytes_Compare (ints X) (ints P) = some (cmpN X P) := by
  have e3 : bytealg_Compare (ints X) (ints P) = some (cmpN X P) := by
    unfold bytealg_Compare
    rw [show ((ints X).map fun x => x) = ints X from List.map_id _, show ((ints P).map fun x => x) = ints P from List.map_id _, cmpB_eq _ _ hX hP]
  rw [bytes_Compare.eq, e3]; rfl
def occ (D P : List Nat) (i : Nat) : List Nat := (List.range i).filter fun j => bgn (D.drop j) P
def low (D P : List Nat) (i : Nat) : Nat := ((List.range i).filter fun j => decide (cmpN (D.drop j) P < 0)).length
theorem rf_snoc (p : Nat → Bool) (i : Nat) : (List.range (i + 1)).filter p = (List.range i).filter p ++ (if p i then [i] else []) := by
  rw [List.range_succ, List.filter_append]
  cases h : p i <;> simp [h]
theorem occ_snoc (D P : List Nat) (i : Nat) : occ D P (i + 1) = occ D P i ++ (if bgn (D.drop i) P then [i] else []) := rf_snoc _ i
theorem low_snoc (D P : List Nat) (i : Nat) : low D P (i + 1) = low D P i + (if cmpN (D.drop i) P < 0 then 1 else 0) := by
  unfold low
  rw [rf_snoc, List.length_append]
  by_cases h : cmpN (D.drop i) P < 0
  · rw [decide_eq_true h, if_pos rfl, if_pos h]; rfl
  · rw [decide_eq_false h, if_neg h]; rfl
theorem occ_len (D P : List Nat) (i : Nat) : (occ D P i).length ≤ i := by
  unfold occ
  have := List.length_filter_le (fun j => bgn (D.drop j) P) (List.range i)
  rw [List.length_range] at this; exact this
theorem low_le (D P : List Nat) (i : Nat) : low D P i ≤ i := by
  unfold low
  have := List.length_filter_le (fun j => decide (cmpN (D.drop j) P < 0)) (List.range i)
  rw [List.length_range] at this; exact this
section
variable (D P : List Nat) (hl : D.length ≤ 300) (hD : ByteL D) (hP : ByteL P)
include hl hD hP
theorem specOcc_l0 : ∀ (d i : Nat), D.length + 1 - i = d → i ≤ D.length + 1 → spec_Occurs_l0 (ints D) (ints P) i (ints (occ D P i)) = some (ints (occ D P (D.length + 1)))
  | 0, i, h1, h2 => by
    obtain rfl : i = D.length + 1 := by omega
    rw [spec_Occurs_l0.eq, specTextOk_eq, decide_eq_true hl, Option.bind_some, bif_true, ints_len, bif_ndec (by omega)]
  | d + 1, i, h1, h2 => by
    have ho := occ_len D P i
    have ih := specOcc_l0 d (i + 1) (by omega) (by omega)
    rw [occ_snoc] at ih
    rw [spec_Occurs_l0.eq, specTextOk_eq, decide_eq_true hl, Option.bind_some, bif_true, ints_len, bif_dec (by omega), spec_Occurs_l1.eq, ints_len, bif_dec (by omega), Int.toNat_natCast, drop_ints, specBegins_eq _ _ (fun x hx => hD x (List.mem_of_mem_drop hx)) hP, Option.bind_some, wrapS i (by omega)]
    cases hb : bgn (D.drop i) P with
    | true =>
      rw [hb, if_pos rfl, ← ints_snoc] at ih
      rw [bif_true, bif_dec (by simp only [List.length_cons, List.length_nil, ints_len]; omega)]
      exact ih
    | false =>
      rw [hb, if_neg (by simp), List.append_nil] at ih
      rw [bif_false]
      exact ih
theorem specOcc_eq : spec_Occurs (ints D) (ints P) = some (ints (occ D P (D.length + 1))) := by
  rw [spec_Occurs.eq]
  exact specOcc_l0 D P hl hD hP _ 0 rfl (by omega)
theorem implOcc_l0 : ∀ (d i : Nat), D.length + 1 - i = d → i ≤ D.length + 1 → impl_Occurs_l0 (ints D) (ints P) (D.length + 1 : Nat) i (ints (occ D P i)) = some (ints (occ D P (D.length + 1)))
  | 0, i, h1, h2 => by
    obtain rfl : i = D.length + 1 := by omega
    rw [impl_Occurs_l0.eq, bif_ndec (by omega)]
  | d + 1, i, h1, h2 => by
    have ho := occ_len D P i
    have ih := implOcc_l0 d (i + 1) (by omega) (by omega)
    rw [occ_snoc] at ih
    rw [impl_Occurs_l0.eq, bif_dec (by omega), ints_len, bif_dec (by omega), Int.toNat_natCast, drop_ints, prefix_eq _ _ (fun x hx => hD x (List.mem_of_mem_drop hx)) hP, Option.bind_some, wrapS i (by omega)]
    cases hb : bgn (D.drop i) P with
    | true =>
      rw [hb, if_pos rfl, ← ints_snoc] at ih
      rw [bif_true, bif_dec (by simp only [List.length_cons, List.length_nil, ints_len]; omega)]
      exact ih
    | false =>
      rw [hb, if_neg (by simp), List.append_nil] at ih
      rw [bif_false]
      exact ih
theorem implOcc_eq : impl_Occurs (ints D) (ints P) = some (ints (occ D P (D.length + 1))) := by
  have e : impl_TextOk (ints D) = some true := by
    rw [impl_TextOk.eq, ints_len, decide_eq_true (by omega)]
  rw [impl_Occurs.eq, e, Option.bind_some, Bool.not_true, bif_false, ints_len, wrapS _ (by omega)]
  exact implOcc_l0 D P hl hD hP _ 0 rfl (by omega)
theorem specRows_l0 (hPl : P.length ≤ 1048576) : ∀ (d i : Nat), D.length + 1 - i = d → i ≤ D.length + 1 → spec_RowsOf_l0 (ints D) (ints P) (low D P i : Nat) i = some (((low D P (D.length + 1) : Nat) : Int), ((low D P (D.length + 1) + (occ D P (D.length + 1)).length : Nat) : Int))
  | 0, i, h1, h2 => by
    obtain rfl : i = D.length + 1 := by omega
    have ho := occ_len D P (D.length + 1)
    have hw := low_le D P (D.length + 1)
    rw [spec_RowsOf_l0.eq, ints_len, bif_ndec (by omega), specOcc_eq D P hl hD hP, Option.bind_some, ints_len, wrapI (by omega) (by omega)]
    congr 2
  | d + 1, i, h1, h2 => by
    have hw := low_le D P i
    have ih := specRows_l0 hPl d (i + 1) (by omega) (by omega)
    rw [low_snoc] at ih
    rw [spec_RowsOf_l0.eq, ints_len, bif_dec (by omega), bif_dec (by omega), Int.toNat_natCast, drop_ints, l05Cmp_eq _ _ (by rw [List.length_drop]; omega) (by omega), Option.bind_some, wrapS i (by omega), wrapS (low D P i) (by omega)]
    by_cases hc : cmpN (D.drop i) P < 0
    · rw [if_pos hc] at ih
      rw [bif_dec hc]; exact ih
    · rw [if_neg hc, Nat.add_zero] at ih
      rw [bif_ndec hc]; exact ih
theorem specRows_eq (hPl : P.length ≤ 1048576) : spec_RowsOf (ints D) (ints P) = some (((low D P (D.length + 1) : Nat) : Int), ((low D P (D.length + 1) + (occ D P (D.length + 1)).length : Nat) : Int)) := by
  rw [spec_RowsOf.eq, specTextOk_eq, decide_eq_true hl, Option.bind_some, Bool.not_true, bif_false]
  exact specRows_l0 D P hl hD hP hPl _ 0 rfl (by omega)
theorem implRows_l0 : ∀ (d i : Nat), D.length + 1 - i = d → i ≤ D.length + 1 → impl_rowsOf_l0 (ints D) (ints P) (low D P i : Nat) ((occ D P i).length : Nat) (D.length + 1 : Nat) i = some (((low D P (D.length + 1) : Nat) : Int), ((low D P (D.length + 1) + (occ D P (D.length + 1)).length : Nat) : Int))
  | 0, i, h1, h2 => by
    obtain rfl : i = D.length + 1 := by omega
    have ho := occ_len D P (D.length + 1)
    have hw := low_le D P (D.length + 1)
    rw [impl_rowsOf_l0.eq, bif_ndec (by omega), wrapI (by omega) (by omega)]
    congr 2
  | d + 1, i, h1, h2 => by
    have hw := low_le D P i
    have ho := occ_len D P i
    have hDd : ByteL (D.drop i) := fun x hx => hD x (List.mem_of_mem_drop hx)
    have ih := implRows_l0 d (i + 1) (by omega) (by omega)
    rw [low_snoc, occ_snoc] at ih
    rw [impl_rowsOf_l0.eq, bif_dec (by omega), ints_len, bif_dec (by omega), Int.toNat_natCast, drop_ints, prefix_eq _ _ hDd hP, Option.bind_some, wrapS i (by omega), wrapS (low D P i) (by omega), wrapS (occ D P i).length (by omega)]
    cases hb : bgn (D.drop i) P with
    | true =>
      have hc := bgn_cmp _ _ hb
      rw [hb, if_pos rfl, if_neg hc, Nat.add_zero, List.length_append] at ih
      rw [bif_true]; exact ih
    | false =>
      rw [hb, if_neg (show ¬ (false = true) by simp), List.append_nil] at ih
      rw [bif_false, bif_dec (by omega), compare_eq _ _ hDd hP, Option.bind_some]
      by_cases hc : cmpN (D.drop i) P < 0
      · rw [if_pos hc] at ih
        rw [bif_dec hc]; exact ih
      · rw [if_neg hc, Nat.add_zero] at ih
        rw [bif_ndec hc]; exact ih
theorem implRows_eq : impl_rowsOf (ints D) (ints P) = some (((low D P (D.length + 1) : Nat) : Int), ((low D P (D.length + 1) + (occ D P (D.length + 1)).length : Nat) : Int)) := by
  rw [impl_rowsOf.eq, ints_len, wrapS _ (by omega)]
  exact implRows_l0 D P hl hD hP _ 0 rfl (by omega)
end
end Go.Ev.W
