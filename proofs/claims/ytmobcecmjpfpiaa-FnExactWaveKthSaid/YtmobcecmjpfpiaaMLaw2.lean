/- What the laws' helpers come to: bytes, words, bits, packed numbers. -/
import Derived.Test.YtmobcecmjpfpiaaEvC
import Derived.Test.YtmobcecmjpfpiaaPp1
import Derived.Test.YtmobcecmjpfpiaaPp2
import Derived.Test.YtmobcecmjpfpiaaMLaw
set_option linter.unusedVariables false
set_option linter.unusedSimpArgs false
namespace Go.Ev.W
open Go.Ev

theorem beq_dec {α : Type} [BEq α] [LawfulBEq α] [DecidableEq α] (x y : α) : (x == y) = decide (x = y) := by rw [Bool.eq_iff_iff]; simp
theorem bne_t (x y : Int) : some (!(x != y)) = some (decide (x = y)) := by rw [bne, Bool.not_not, beq_dec]
/-! #### bytes -/
/-! #### words -/
theorem toUint64S_eq (xs : List Int) (h : xs.length ≤ 1048576) : laws_toUint64S xs = some xs := by
  rw [laws_toUint64S.eq]
  have e1 : (decide ((0 : Int) ≤ (xs.length : Int)) && decide (((xs.length : Int).toNat) * 8 ≤ 140737488355328)) = true := by simp; omega
  rw [e1, cond_true, copy_loop some id xs (by omega) (fun _ _ => rfl) (laws_toUint64S_l0 xs) (laws_toUint64S_l0.eq xs) _ (by simp), List.map_id]
theorem eqUint64S_eq (xs ys : List Int) (h : xs.length < 4611686018427387904) : laws_eqUint64S xs ys = some (decide (xs = ys)) := by
  rw [laws_eqUint64S.eq]
  exact eq_list xs ys _ fun hl => eq_loop (fun x y => some (!(x != y))) xs ys hl h (fun x _ y _ => bne_t x y) (laws_eqUint64S_l0 xs ys) (fun i => by rw [laws_eqUint64S_l0.eq]; simp only [Option.bind_some, Bool.not_not])
theorem markUint64S_eq (xs : List Int) (k : Int) (hk : 0 ≤ k) (h : k + (xs.length : Int) < 4611686018427387904) : laws_markUint64S xs k = some (k + xs.length, markF IntKind.u64.wrap k xs.length) := by
  rw [laws_markUint64S.eq]
  exact mark_loop _ xs k hk h laws_markUint64S_l0 laws_markUint64S_l0.eq
theorem szUint64S_eq (xs : List Int) (k : Int) (hk : 0 ≤ k) (hk2 : k ≤ 1048576) (h : xs.length ≤ maxLen) : laws_szUint64S xs k = some (if k - xs.length < 0 then -1 else k - xs.length) := by
  unfold maxLen at h
  rw [laws_szUint64S.eq, wrapI (by omega) (by omega), Bool.cond_decide]
  split <;> rfl
/-! #### bits -/
theorem toBits_eq (n : Int) (xs : List Int) (h : xs.length ≤ 1048576) : laws_toBits (n, xs) = some (n, xs) := by
  rw [laws_toBits.eq, toUint64S_eq _ h, Option.bind_some]
theorem eqBits_eq (a : Int) (x : List Int) (b : Int) (y : List Int) (h : x.length < 4611686018427387904) : laws_eqBits (a, x) (b, y) = some (decide ((a, x) = (b, y))) := by
  rw [laws_eqBits.eq]
  by_cases h1 : a = b
  · rw [bif_nne h1, eqUint64S_eq _ _ h, Option.bind_some]
    by_cases h2 : x = y
    · rw [decide_eq_true h2, decide_eq_true (by rw [h1, h2])]; rfl
    · rw [decide_eq_false h2, decide_eq_false (by intro h; exact h2 (Prod.mk.inj h).2)]; rfl
  · rw [bif_ne h1, decide_eq_false (by intro h; exact h1 (Prod.mk.inj h).1)]
theorem markBits_eq (n : Int) (xs : List Int) (k : Int) (hk : 0 ≤ k) (h : k + (xs.length : Int) < 4611686018427387904) : laws_markBits (n, xs) k = some (k + xs.length, (n, markF IntKind.u64.wrap k xs.length)) := by
  rw [laws_markBits.eq, markUint64S_eq _ _ hk h, Option.bind_some]
theorem szBits_eq (v : Int × List Int) (k : Int) (hk : 0 ≤ k) (hk2 : k ≤ 1048576) (h : v.2.length ≤ maxLen) : laws_szBits v k = some (if k - v.2.length < 0 then -1 else k - v.2.length) := by
  rw [laws_szBits.eq, szUint64S_eq _ _ hk hk2 h, Option.bind_some]
  split
  · rfl
  · rw [bif_ndec (by omega)]
theorem szcase (k : Int) (n : Nat) : decide ((if k - (n : Int) < 0 then -1 else k - (n : Int)) < 0) = decide (k - (n : Int) < 0) := by
  by_cases h : k - (n : Int) < 0
  · rw [if_pos h, decide_eq_true h]; rfl
  · rw [if_neg h]
/-- Words of an argument. -/
theorem words_of {xs : List Int} (h : AllP (α := Tup [CT.int .u64]) (allL (goodC 4) [CT.int .u64]) xs) : ∀ x ∈ xs, 0 ≤ x ∧ x < ((2 ^ 64 : Nat) : Int) := by
  intro x hx
  have := h.2 x hx
  have : (Lit.int .u64 x).wf = true := this
  simp only [Lit.wf, Bool.and_eq_true, decide_eq_true_eq] at this
  have e : IntKind.u64.max = 18446744073709551615 := rfl
  have e2 : IntKind.u64.min = 0 := rfl
  rw [e, e2] at this
  omega
theorem bytes_of {xs : List Int} (h : AllP (α := Tup [CT.int .u8]) (allL (goodC 4) [CT.int .u8]) xs) : ∀ x ∈ xs, 0 ≤ x ∧ x < ((256 : Nat) : Int) := by
  intro x hx
  have := h.2 x hx
  have : (Lit.int .u8 x).wf = true := this
  simp only [Lit.wf, Bool.and_eq_true, decide_eq_true_eq] at this
  have e : IntKind.u8.max = 255 := rfl
  have e2 : IntKind.u8.min = 0 := rfl
  rw [e, e2] at this
  omega
end Go.Ev.W
