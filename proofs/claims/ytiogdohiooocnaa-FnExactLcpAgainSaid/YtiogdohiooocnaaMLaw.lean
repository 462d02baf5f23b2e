/- What the laws' own helpers come to. -/
import Derived.Test.YtiogdohiooocnaaEvC
import Derived.Test.YtiogdohiooocnaaPb1
import Derived.Test.YtiogdohiooocnaaPb16
import Derived.Test.YtiogdohiooocnaaPb24
import Derived.Test.YtiogdohiooocnaaPb25
import Derived.Test.YtiogdohiooocnaaPb27
import Derived.Test.YtiogdohiooocnaaPb9
set_option linter.unusedVariables false
set_option linter.unusedSimpArgs false
namespace Go.Ev.W
open Go.Ev

theorem toIntS_eq (xs : List Int) (h : xs.length ≤ 1048576) : laws_toIntS xs = some xs := by
  rw [laws_toIntS.eq]
  have e1 : (decide ((0 : Int) ≤ (xs.length : Int)) && decide (((xs.length : Int).toNat) * 8 ≤ 140737488355328)) = true := by simp; omega
  rw [e1, cond_true, copy_loop some id xs (by omega) (fun _ _ => rfl) (laws_toIntS_l0 xs) (laws_toIntS_l0.eq xs) _ (by simp), List.map_id]
theorem eqIntS_eq (xs ys : List Int) (h : xs.length < 4611686018427387904) : laws_eqIntS xs ys = some (decide (xs = ys)) := by
  rw [laws_eqIntS.eq]
  exact eq_list xs ys _ fun hl => eq_loop (fun x y => some (!(x != y))) xs ys hl h (fun x _ y _ => by rw [bne, Bool.not_not]; exact congrArg some (by rw [Bool.eq_iff_iff]; simp)) (laws_eqIntS_l0 xs ys) (fun i => by rw [laws_eqIntS_l0.eq]; simp only [Option.bind_some, Bool.not_not])
theorem markIntS_eq (xs : List Int) (k : Int) (hk : 0 ≤ k) (h : k + (xs.length : Int) < 4611686018427387904) : laws_markIntS xs k = some (k + xs.length, markF id k xs.length) := by
  rw [laws_markIntS.eq]
  exact mark_loop id xs k hk h laws_markIntS_l0 laws_markIntS_l0.eq
theorem heldIntS_eq (n : Nat) (k : Int) (hk : 0 ≤ k) (h : k + (n : Int) < 4611686018427387904) : laws_heldIntS (markF id k n) k = some (k + n) := by
  rw [laws_heldIntS.eq]
  exact held_loop id n k hk h (fun y v => y != v) (fun k => by simp) (laws_heldIntS_l0 _) (laws_heldIntS_l0.eq _)
/-! #### copies -/
theorem toCopyS_eq (xs : List (Int × Int × Int)) (h : xs.length ≤ 1048576) : laws_toCopyS xs = some xs := by
  rw [laws_toCopyS.eq]
  have e1 : (decide ((0 : Int) ≤ (xs.length : Int)) && decide (((xs.length : Int).toNat) * 24 ≤ 140737488355328)) = true := by simp; omega
  rw [e1, cond_true, copy_loop (fun y => laws_toCopy y) id xs (by omega) (fun x _ => laws_toCopy.eq x) (laws_toCopyS_l0 xs) (laws_toCopyS_l0.eq xs) _ (by simp), List.map_id]
theorem eqCopy_eq (x y : Int × Int × Int) : laws_eqCopy x y = some (decide (x = y)) := by
  rw [laws_eqCopy.eq]
  obtain ⟨a, b, c⟩ := x
  obtain ⟨d, e, f⟩ := y
  by_cases h1 : a = d
  · rw [bif_nne h1]
    by_cases h2 : b = e
    · rw [bif_nne h2]
      by_cases h3 : c = f
      · rw [bif_nne h3]; simp [h1, h2, h3]
      · rw [bif_ne h3]; simp [h3]
    · rw [bif_ne h2]; simp [h2]
  · rw [bif_ne h1]; simp [h1]
theorem eqCopyS_eq (xs ys : List (Int × Int × Int)) (h : xs.length < 4611686018427387904) : laws_eqCopyS xs ys = some (decide (xs = ys)) := by
  rw [laws_eqCopyS.eq]
  exact eq_list xs ys _ fun hl => eq_loop (fun x y => laws_eqCopy x y) xs ys hl h (fun x _ y _ => eqCopy_eq x y) (laws_eqCopyS_l0 xs ys) (laws_eqCopyS_l0.eq xs ys)
def mkCopy (k : Int) : Int × Int × Int := (k, k + 1, k + 2)
def markC (k : Int) (n : Nat) : List (Int × Int × Int) := (List.range n).map fun (i : Nat) => mkCopy (k + 3 * (i : Int))
theorem markC_length (k : Int) (n : Nat) : (markC k n).length = n := by simp [markC]
theorem markCopyS_eq (xs : List (Int × Int × Int)) (k : Int) (hk : 0 ≤ k) (hn : k + 3 * (xs.length : Int) < 4611686018427387904) : laws_markCopyS xs k = some (k + 3 * xs.length, markC k xs.length) := by
  rw [laws_markCopyS.eq]
  have key : ∀ (d i : Nat), xs.length - i = d → i ≤ xs.length → ∀ acc : List (Int × Int × Int), acc.length = xs.length → acc.take i = markC k i → laws_markCopyS_l0 (k + 3 * (i : Int)) i acc = some (k + 3 * xs.length, markC k xs.length) := by
    intro d
    induction d with
    | zero =>
      intro i hd hi acc ha ht
      have e : i = xs.length := by omega
      rw [laws_markCopyS_l0.eq]
      have : ¬ ((i : Int) < (acc.length : Int)) := by omega
      simp only [this, decide_false, cond_false]
      rw [List.take_of_length_le (by omega)] at ht
      rw [ht, e]
    | succ d ih =>
      intro i hd hi acc ha ht
      have hlt : i < acc.length := by omega
      rw [laws_markCopyS_l0.eq]
      have w1 : IntKind.i64.wrap (k + 3 * (i : Int) + 1) = k + 3 * (i : Int) + 1 := wrapI (by omega) (by omega)
      have w2 : IntKind.i64.wrap (k + 3 * (i : Int) + 1 + 1) = k + 3 * (i : Int) + 2 := by rw [wrapI (by omega) (by omega)]; omega
      have w3 : IntKind.i64.wrap (k + 3 * (i : Int) + 2 + 1) = k + 3 * ((i + 1 : Nat) : Int) := by rw [wrapI (by omega) (by omega)]; omega
      simp only [Int.toNat_natCast, at?_nat, List.getElem_set_self, List.length_set, hlt, List.getElem?_eq_getElem, Option.bind_some, wrapS i (by omega), Int.ofNat_lt, decide_true, cond_true, w1, w2, w3, List.set_set]
      refine ih (i + 1) (by omega) (by omega) _ (by simp [ha]) ?_
      have e2 : markC k (i + 1) = markC k i ++ [mkCopy (k + 3 * (i : Int))] := by simp [markC, List.range_succ]
      rw [e2, ← ht, take_set acc i hlt]
      rfl
  have := key xs.length 0 (by omega) (by omega) xs rfl (by simp [markC])
  simpa using this
theorem heldCopyS_eq (n : Nat) (k : Int) (hk : 0 ≤ k) (hn : k + 3 * (n : Int) < 4611686018427387904) : laws_heldCopyS (markC k n) k = some (k + 3 * n) := by
  rw [laws_heldCopyS.eq]
  have key : ∀ (d i : Nat), n - i = d → i ≤ n → laws_heldCopyS_l0 (markC k n) (k + 3 * (i : Int)) i = some (k + 3 * n) := by
    intro d
    induction d with
    | zero =>
      intro i hd hi
      have e : i = n := by omega
      subst e
      rw [laws_heldCopyS_l0.eq, markC_length]
      simp
    | succ d ih =>
      intro i hd hi
      have hlt : i < (markC k n).length := by rw [markC_length]; omega
      have e : (markC k n)[i] = mkCopy (k + 3 * (i : Int)) := by simp [markC]
      have w1 : IntKind.i64.wrap (k + 3 * (i : Int) + 1) = k + 3 * (i : Int) + 1 := wrapI (by omega) (by omega)
      have w2 : IntKind.i64.wrap (k + 3 * (i : Int) + 1 + 1) = k + 3 * (i : Int) + 2 := by rw [wrapI (by omega) (by omega)]; omega
      have w3 : IntKind.i64.wrap (k + 3 * (i : Int) + 2 + 1) = k + 3 * ((i + 1 : Nat) : Int) := by rw [wrapI (by omega) (by omega)]; omega
      rw [laws_heldCopyS_l0.eq]
      simp only [at?_lt, hlt, Option.bind_some, wrapS i (by omega), Int.ofNat_lt, decide_true, cond_true, e, mkCopy, bne_self_eq_false, cond_false, w1, w2, w3]
      exact ih (i + 1) (by omega) (by omega)
  have := key n 0 (by omega) (by omega)
  simpa using this
theorem szCopyS_eq (xs : List (Int × Int × Int)) (k : Int) (hk : 0 ≤ k) (hk2 : k ≤ 1048576) (h : xs.length ≤ maxLen) : laws_szCopyS xs k = some (if k - xs.length < 0 then -1 else k - xs.length) := by
  unfold maxLen at h
  rw [laws_szCopyS.eq, wrapI (by omega) (by omega), Bool.cond_decide]
  split <;> rfl
end Go.Ev.W
