/- Symbols: which lists are valid; how many are less than each. -/
import Derived.Test.YtmobcecmjpfpiaaGreatEvC
import Derived.Test.YtmobcecmjpfpiaaGreatPz1
import Derived.Test.YtmobcecmjpfpiaaGreatMBwt
set_option linter.unusedVariables false
set_option linter.unusedSimpArgs false
namespace Go.Ev.W
open Go.Ev

def sOk (X : List Int) : Bool := decide (X.length ≤ 301) && X.all fun x => decide (0 ≤ x) && decide (x ≤ 256)
theorem withinS_eq (n a b : Int) : impl_within n a b = some (decide (a ≤ n) && decide (n ≤ b)) := by
  rw [impl_within.eq, Bool.cond_decide]
  by_cases h : a ≤ n <;> simp [h]
theorem syms1_eq (n : Int) : impl_areAll_int_1_SymsOk_1 n () = some (!(decide (0 ≤ n) && decide (n ≤ 256))) := by
  rw [impl_areAll_int_1_SymsOk_1.eq, impl_SymsOk_1.eq, withinS_eq]; rfl
theorem implSymsOk_eq (xs : List Int) (h : xs.length < 4611686018427387904) : impl_SymsOk xs = some (sOk xs) := by
  rw [impl_SymsOk.eq, Bool.cond_decide]
  have e : impl_areAll_int_SymsOk_1 xs () = some (xs.all fun x => decide (0 ≤ x) && decide (x ≤ 256)) := by
    rw [impl_areAll_int_SymsOk_1.eq, slices_ContainsFunc_int_int_areAll_int_1_SymsOk_1.eq, slices_IndexFunc_int_int_areAll_int_1_SymsOk_1.eq]
    obtain ⟨r, h1, h2⟩ := find_loop (fun n : Int => !(decide (0 ≤ n) && decide (n ≤ 256))) (fun n => impl_areAll_int_1_SymsOk_1 n ()) xs h (fun x _ => syms1_eq x) (slices_IndexFunc_int_int_areAll_int_1_SymsOk_1_l0 xs xs.length) (slices_IndexFunc_int_int_areAll_int_1_SymsOk_1_l0.eq xs xs.length)
    rw [h1]
    simp only [Option.bind_some, h2, List.any_eq_not_all_not, Bool.not_not]
  rw [e]
  unfold sOk
  by_cases hl : xs.length ≤ 301
  · rw [if_pos (by omega)]; simp [hl]
  · rw [if_neg (by omega)]; simp [hl]
theorem specSymsOk_eq (xs : List Int) (h : xs.length < 4611686018427387904) : spec_SymsOk xs = some (sOk xs) := by
  rw [spec_SymsOk.eq, Bool.cond_decide]
  unfold sOk
  by_cases hl : xs.length ≤ 301
  · rw [if_neg (by omega)]
    rw [all_loop (fun x : Int => decide (0 ≤ x) && decide (x ≤ 256)) xs (spec_SymsOk_l0 xs)]
    · simp [hl]
    · intro i hi
      rw [spec_SymsOk_l0.eq]
      simp only [at?_lt, hi, Int.ofNat_lt, decide_true, cond_true, Option.bind_some, wrapS i (by omega), Bool.cond_decide]
      by_cases h1 : xs[i] < 0
      · rw [if_pos h1, decide_eq_false (by omega)]; rfl
      · rw [if_neg h1, decide_eq_true (show 0 ≤ xs[i] by omega)]
        by_cases h2 : xs[i] > 256
        · rw [if_pos h2, decide_eq_false (by omega)]; rfl
        · rw [if_neg h2, decide_eq_true (by omega)]; rfl
    · rw [spec_SymsOk_l0.eq]; simp
  · rw [if_pos (by omega)]; simp [hl]
theorem sOk_nat {xs : List Int} (h : sOk xs = true) : ∃ X : List Nat, xs = ints X ∧ X.length ≤ 301 ∧ ∀ x ∈ X, x ≤ 256 := by
  simp only [sOk, Bool.and_eq_true, decide_eq_true_eq, List.all_eq_true] at h
  obtain ⟨X, rfl, hX⟩ := ints_of xs 257 fun x hx => by have := h.2 x hx; omega
  exact ⟨X, rfl, by rw [← List.length_map (f := fun (x : Nat) => (x : Int))]; exact h.1, fun x hx => by have := hX x hx; omega⟩
def ltc (X : List Nat) (c : Nat) : Nat := (X.filter fun x => decide (x < c)).length
def hst (X : List Nat) (c : Nat) : Nat := (X.filter fun x => decide (x + 1 = c)).length
theorem ltc_le (X : List Nat) (c : Nat) : ltc X c ≤ X.length := List.length_filter_le ..
theorem hst_le (X : List Nat) (c : Nat) : hst X c ≤ X.length := List.length_filter_le ..
theorem ltc_succ : ∀ (X : List Nat) (c : Nat), ltc X (c + 1) = hst X (c + 1) + ltc X c
  | [], _ => rfl
  | x :: X, c => by
    have ih := ltc_succ X c
    unfold ltc hst at ih ⊢
    rw [List.filter_cons, List.filter_cons, List.filter_cons]
    by_cases h1 : x < c
    · rw [if_pos (by simp; omega), if_neg (by simp; omega), if_pos (by simpa using h1), List.length_cons, List.length_cons, ih]; omega
    · by_cases h2 : x = c
      · rw [if_pos (by simp; omega), if_pos (by simp; omega), if_neg (by simp; omega), List.length_cons, List.length_cons, ih]; omega
      · rw [if_neg (by simp; omega), if_neg (by simp; omega), if_neg (by simp; omega), ih]
theorem ltc_zero (X : List Nat) : ltc X 0 = 0 := by unfold ltc; simp
theorem hst_snoc (X : List Nat) (x c : Nat) : hst (X ++ [x]) c = hst X c + (if x + 1 = c then 1 else 0) := by
  unfold hst
  rw [List.filter_append, List.length_append]
  by_cases h : x + 1 = c <;> simp [h]
theorem mapr_get {α : Type} (f : Nat → α) (n i : Nat) (h : i < n) : ((List.range n).map f)[i]? = some (f i) := by simp [h]
theorem mapr_set {α : Type} (f : Nat → α) (n i : Nat) (v : α) : ((List.range n).map f).set i v = (List.range n).map fun c => if c = i then v else f c := by
  apply List.ext_getElem (by simp)
  intro j h1 h2
  rw [List.getElem_set]
  by_cases h : i = j
  · subst h; simp
  · rw [if_neg h]; simp [Ne.symm h]
theorem counts_l1 (X : List Nat) (hX : X.length ≤ 301) : ∀ (d k : Nat), 258 - k = d → 1 ≤ k → k ≤ 258 → impl_counts_l1 k ((List.range 258).map fun c => (((if c < k then ltc X c else hst X c) : Nat) : Int)) = some (ints ((List.range 258).map (ltc X))) := by
  intro d
  induction d with
  | zero =>
    intro k h1 h2 h3
    obtain rfl : k = 258 := by omega
    rw [impl_counts_l1.eq, bif_ndec (by omega)]
    refine congrArg some ?_
    show _ = List.map (fun (x : Nat) => (x : Int)) (List.map (ltc X) (List.range 258))
    rw [List.map_map]
    refine List.map_congr_left fun c hc => ?_
    rw [if_pos (List.mem_range.1 hc)]; rfl
  | succ d ih =>
    intro k h1 h2 h3
    have hk : k < 258 := by omega
    have hl1 := ltc_le X (k - 1)
    have hl2 := hst_le X k
    rw [impl_counts_l1.eq, bif_dec (by omega), wrapI (x := (k : Int) - 1) (by omega) (by omega), show (k : Int) - 1 = ((k - 1 : Nat) : Int) by omega]
    simp only [at?_nat, Int.toNat_natCast, mapr_get _ 258 k hk, mapr_get _ 258 (k - 1) (show k - 1 < 258 by omega), Option.bind_some]
    rw [if_neg (show ¬ k < k by omega), if_pos (show k - 1 < k by omega), wrapS k (by omega), wrapI (by omega) (by omega), mapr_set]
    have e := ltc_succ X (k - 1)
    rw [show k - 1 + 1 = k by omega] at e
    have e2 : (List.range 258).map (fun c => if c = k then ((hst X k : Nat) : Int) + ((ltc X (k - 1) : Nat) : Int) else (((if c < k then ltc X c else hst X c) : Nat) : Int)) = (List.range 258).map fun c => (((if c < k + 1 then ltc X c else hst X c) : Nat) : Int) := by
      apply List.map_congr_left
      intro c _
      by_cases h4 : c = k
      · subst h4; rw [if_pos rfl, if_pos (by omega), e]; omega
      · rw [if_neg h4]
        by_cases h5 : c < k
        · rw [if_pos h5, if_pos (by omega)]
        · rw [if_neg h5, if_neg (by omega)]
    rw [e2]
    exact ih (k + 1) (by omega) (by omega) (by omega)
theorem counts_l0 (X : List Nat) (hX : X.length ≤ 301) (hx : ∀ x ∈ X, x ≤ 256) : ∀ (d i : Nat), X.length - i = d → i ≤ X.length → impl_counts_l0 (ints X) X.length i ((List.range 258).map fun c => ((hst (X.take i) c : Nat) : Int)) = some (ints ((List.range 258).map (ltc X))) := by
  intro d
  induction d with
  | zero =>
    intro i h1 h2
    obtain rfl : i = X.length := by omega
    rw [impl_counts_l0.eq, bif_ndec (by omega), List.take_length]
    have := counts_l1 X hX 257 1 (by omega) (by omega) (by omega)
    have e0 : (List.range 258).map (fun c => ((hst X c : Nat) : Int)) = (List.range 258).map fun c => (((if c < 1 then ltc X c else hst X c) : Nat) : Int) := by
      refine List.map_congr_left fun c _ => ?_
      by_cases h : c < 1
      · obtain rfl : c = 0 := by omega
        rw [if_pos h, ltc_zero]
        have : hst X 0 = 0 := by unfold hst; simp
        rw [this]
      · rw [if_neg h]
    rw [e0]
    exact this
  | succ d ih =>
    intro i h1 h2
    have hi : i < X.length := by omega
    have hxi := hx _ (List.getElem_mem hi)
    have hle := hst_le (X.take i) (X[i] + 1)
    rw [List.length_take] at hle
    rw [impl_counts_l0.eq, bif_dec (by omega), at?_ints _ _ hi, Option.bind_some, wrapS X[i] (by omega)]
    simp only [at?_nat, Int.toNat_natCast, mapr_get _ 258 (X[i] + 1) (show X[i] + 1 < 258 by omega), Option.bind_some]
    rw [wrapS i (by omega), wrapS (hst (X.take i) (X[i] + 1)) (by omega), mapr_set]
    have e2 : (List.range 258).map (fun c => if c = X[i] + 1 then ((hst (X.take i) (X[i] + 1) + 1 : Nat) : Int) else ((hst (X.take i) c : Nat) : Int)) = (List.range 258).map fun c => ((hst (X.take (i + 1)) c : Nat) : Int) := by
      apply List.map_congr_left
      intro c _
      have et : X.take (i + 1) = X.take i ++ [X[i]] := by rw [List.take_add_one, List.getElem?_eq_getElem hi]; rfl
      rw [et, hst_snoc]
      by_cases h4 : c = X[i] + 1
      · subst h4; rw [if_pos rfl, if_pos rfl]
      · rw [if_neg h4, if_neg (Ne.symm h4)]; rfl
    rw [e2]
    exact ih (i + 1) (by omega) (by omega)
theorem counts_eq (X : List Nat) (hX : X.length ≤ 301) (hx : ∀ x ∈ X, x ≤ 256) : impl_counts (ints X) = some (ints ((List.range 258).map (ltc X))) := by
  rw [impl_counts.eq, List.length_map]
  have := counts_l0 X hX hx _ 0 rfl (by omega)
  rw [List.take_zero] at this
  have e0 : List.replicate 258 (0 : Int) = (List.range 258).map (fun c => ((hst [] c : Nat) : Int)) := by
    refine List.ext_getElem (by rw [List.length_replicate, List.length_map, List.length_range]) fun j h1 h2 => ?_
    rw [List.getElem_replicate, List.getElem_map]; rfl
  rw [e0]
  exact this
end Go.Ev.W
