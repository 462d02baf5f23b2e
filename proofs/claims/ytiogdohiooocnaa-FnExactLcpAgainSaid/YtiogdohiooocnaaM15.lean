/- Copies: what the functions come to. -/
import Derived.Test.YtiogdohiooocnaaEvC
import Derived.Test.YtiogdohiooocnaaPb24
import Derived.Test.YtiogdohiooocnaaPb27
import Derived.Test.YtiogdohiooocnaaPb6
import Derived.Test.YtiogdohiooocnaaMLaw
set_option linter.unusedVariables false
set_option linter.unusedSimpArgs false
namespace Go.Ev.W
open Go.Ev

/-- Numbers of a list that may be copied. -/
def okN (n : Int) : Bool := decide (-1000000 ≤ n) && decide (n ≤ 1000000)
def okC (xs : List Int) : Bool := decide (xs.length ≤ 301) && xs.all okN
theorem okC_len {xs : List Int} (h : okC xs = true) : xs.length ≤ 301 := by simp only [okC, Bool.and_eq_true, decide_eq_true_eq] at h; exact h.1
theorem okC_mem {xs : List Int} (h : okC xs = true) : ∀ x ∈ xs, -1000000 ≤ x ∧ x ≤ 1000000 := by
  simp only [okC, Bool.and_eq_true, decide_eq_true_eq, List.all_eq_true, okN] at h; exact h.2

theorem within_eq (n a b : Int) : impl_within n a b = some (decide (a ≤ n) && decide (n ≤ b)) := by
  rw [impl_within.eq, Bool.cond_decide]
  by_cases h : a ≤ n <;> simp [h]
theorem areAll1_eq (n : Int) : impl_areAll_int_1_areCopied_1 n () = some (!okN n) := by
  rw [impl_areAll_int_1_areCopied_1.eq, impl_areCopied_1.eq, within_eq]; rfl
theorem areCopied_eq (xs : List Int) (h : xs.length < 4611686018427387904) : impl_areCopied xs = some (okC xs) := by
  rw [impl_areCopied.eq, Bool.cond_decide]
  have e : impl_areAll_int_areCopied_1 xs () = some (xs.all okN) := by
    rw [impl_areAll_int_areCopied_1.eq, slices_ContainsFunc_int_int_areAll_int_1_areCopied_1.eq, slices_IndexFunc_int_int_areAll_int_1_areCopied_1.eq]
    obtain ⟨r, h1, h2⟩ := find_loop (fun n => !okN n) (fun n => impl_areAll_int_1_areCopied_1 n ()) xs h (fun x _ => areAll1_eq x) (slices_IndexFunc_int_int_areAll_int_1_areCopied_1_l0 xs xs.length) (slices_IndexFunc_int_int_areAll_int_1_areCopied_1_l0.eq xs xs.length)
    rw [h1]
    simp only [Option.bind_some, h2, List.any_eq_not_all_not, Bool.not_not]
  rw [e]
  unfold okC
  by_cases hl : xs.length ≤ 301
  · rw [if_pos (by omega)]; simp [hl]
  · rw [if_neg (by omega)]; simp [hl]
theorem l15Right_eq (xs : List Int) (h : xs.length < 4611686018427387904) : spec_l15Right xs = some (okC xs) := by
  rw [spec_l15Right.eq, Bool.cond_decide]
  unfold okC
  by_cases hl : xs.length ≤ 301
  · rw [if_neg (by omega)]
    rw [all_loop okN xs (spec_l15Right_l0 xs)]
    · simp [hl]
    · intro i hi
      rw [spec_l15Right_l0.eq]
      simp only [at?_lt, hi, Int.ofNat_lt, decide_true, cond_true, Option.bind_some, wrapS i (by omega), okN, Bool.cond_decide]
      by_cases h1 : xs[i] < -1000000
      · rw [if_pos h1, decide_eq_false (by omega)]; rfl
      · rw [if_neg h1, decide_eq_true (show -1000000 ≤ xs[i] by omega)]
        by_cases h2 : xs[i] > 1000000
        · rw [if_pos h2, decide_eq_false (by omega)]; rfl
        · rw [if_neg h2, decide_eq_true (by omega)]; rfl
    · rw [spec_l15Right_l0.eq]; simp
  · rw [if_pos (by omega)]; simp [hl]
theorem cloneI_eq (xs : List Int) (h : xs.length ≤ 1048576) : slices_Clone_int_int xs = some xs := by
  rw [slices_Clone_int_int.eq]
  have e : decide ((([] : List Int).length + xs.length) * 8 ≤ 140737488355328) = true := by simp; omega
  rw [e, cond_true, List.nil_append]
  cases xs with
  | nil => simp [both_self]
  | cons x xs => rfl

/-! #### sums -/
def sums : Int → List Int → List Int
  | _, [] => []
  | a, x :: r => (a + x) :: sums (a + x) r
theorem sums_length : ∀ (a : Int) (r : List Int), (sums a r).length = r.length
  | _, [] => rfl
  | a, x :: r => by simp [sums, sums_length]
def Und (xs : List Int) : List Int × Bool := bif okC xs then (bif okC (sums 0 xs) then (sums 0 xs, true) else ([], false)) else ([], false)
theorem specUndelta_l0 (xs : List Int) (hx : okC xs = true) : ∀ (d i : Nat), xs.length - i = d → i ≤ xs.length → ∀ (a : Int) (out : List Int), -1000000 * i ≤ a → a ≤ 1000000 * i → out.length = i →
    spec_Undelta_l0 xs a i out = some (bif okC (out ++ sums a (xs.drop i)) then (out ++ sums a (xs.drop i), true) else ([], false)) := by
  have hlen := okC_len hx
  intro d
  induction d with
  | zero =>
    intro i hd hi a out h1 h2 ho
    have e : i = xs.length := by omega
    rw [spec_Undelta_l0.eq, e]
    simp only [Int.lt_irrefl, decide_false, cond_false, List.drop_length, sums, List.append_nil]
    rw [l15Right_eq _ (by omega), Option.bind_some]
    cases okC out <;> rfl
  | succ d ih =>
    intro i hd hi a out h1 h2 ho
    have hlt : i < xs.length := by omega
    have hm := okC_mem hx _ (List.getElem_mem hlt)
    rw [spec_Undelta_l0.eq]
    simp only [at?_lt, hlt, Int.ofNat_lt, decide_true, cond_true, Option.bind_some, wrapS i (by omega)]
    rw [wrapI (by omega) (by omega), decide_eq_true (by simp only [List.length_cons, List.length_nil]; omega), cond_true]
    rw [ih (i + 1) (by omega) (by omega) _ _ (by omega) (by omega) (by simp [ho]), List.drop_eq_getElem_cons hlt]
    simp only [sums, List.append_assoc, List.singleton_append]
theorem specUndelta_eq (xs : List Int) (h : xs.length ≤ 1048576) : spec_Undelta xs = some (Und xs) := by
  rw [spec_Undelta.eq, l15Right_eq _ (by omega), Option.bind_some]
  unfold Und
  cases hx : okC xs with
  | false => rfl
  | true =>
    have := specUndelta_l0 xs hx xs.length 0 (by omega) (by omega) 0 [] (by omega) (by omega) rfl
    simpa using this
theorem implUndelta_l0 : ∀ (r p : List Int) (a : Int), p.length + 1 + r.length ≤ 301 → (∀ x ∈ r, -1000000 ≤ x ∧ x ≤ 1000000) → -1000000 * (p.length + 1) ≤ a → a ≤ 1000000 * (p.length + 1) →
    impl_Undelta_l0 (p.length + 1 : Nat) (p ++ a :: r) = some (bif okC (p ++ a :: sums a r) then (p ++ a :: sums a r, true) else ([], false)) := by
  intro r
  induction r with
  | nil =>
    intro p a h1 h2 h3 h4
    rw [impl_Undelta_l0.eq]
    have e : ¬ (((p.length + 1 : Nat) : Int) < ((p ++ [a]).length : Int)) := by simp
    rw [decide_eq_false e, cond_false, areCopied_eq _ (by simp at h1 ⊢; omega), Option.bind_some]
    simp only [sums]
    cases okC (p ++ [a]) <;> rfl
  | cons x r ih =>
    intro p a h1 h2 h3 h4
    simp only [List.length_cons] at h1
    have hx := h2 x (by simp)
    rw [impl_Undelta_l0.eq]
    have e : ((p.length + 1 : Nat) : Int) < ((p ++ a :: x :: r).length : Int) := by simp; omega
    have g1 : (p ++ a :: x :: r)[p.length + 1]? = some x := by rw [List.getElem?_append_right (by omega)]; simp
    have g2 : (p ++ a :: x :: r)[p.length]? = some a := by rw [List.getElem?_append_right (by omega)]; simp
    have w1 : IntKind.i64.wrap (((p.length + 1 : Nat) : Int) - 1) = (p.length : Nat) := by rw [wrapI (by omega) (by omega)]; omega
    rw [decide_eq_true e, cond_true, w1, wrapS _ (by omega)]
    simp only [at?_nat, Int.toNat_natCast, g1, g2, Option.bind_some]
    rw [wrapI (by omega) (by omega)]
    have e2 : (p ++ a :: x :: r).set (p.length + 1) (x + a) = (p ++ [a]) ++ (x + a) :: r := by
      rw [List.set_append_right _ _ (by omega)]; simp
    have := ih (p ++ [a]) (x + a) (by simp; omega) (fun y hy => h2 y (by simp [hy])) (by simp; omega) (by simp; omega)
    simp only [List.length_append, List.length_cons, List.length_nil, Nat.zero_add] at this
    rw [e2, this, Int.add_comm x a]
    simp [sums]
theorem implUndelta_eq (xs : List Int) (h : xs.length ≤ 1048576) : impl_Undelta xs = some (Und xs) := by
  rw [impl_Undelta.eq, areCopied_eq _ (by omega), Option.bind_some]
  unfold Und
  cases hx : okC xs with
  | false => rfl
  | true =>
    rw [cloneI_eq _ h, Option.bind_some]
    have hl := okC_len hx
    have hm := okC_mem hx
    cases xs with
    | nil => rw [impl_Undelta_l0.eq]; simp only [List.length_nil]; rw [areCopied_eq _ (by simp)]; rfl
    | cons x xs =>
      have hx := hm x (by simp)
      have := implUndelta_l0 xs [] x (by simp at hl ⊢ <;> omega) (fun y hy => hm y (by simp [hy])) (by simp; omega) (by simp; omega)
      simp only [List.length_nil, List.nil_append] at this
      simpa [sums] using this
theorem Und_len (xs : List Int) : (Und xs).1.length ≤ 301 := by
  unfold Und
  cases okC xs with
  | false => simp
  | true =>
    cases h : okC (sums 0 xs) with
    | false => simp
    | true => exact okC_len h
/-! #### differences -/
def difs : Int → List Int → List Int
  | _, [] => []
  | p, x :: r => (x - p) :: difs x r
theorem difs_length : ∀ (a : Int) (r : List Int), (difs a r).length = r.length
  | _, [] => rfl
  | a, x :: r => by simp [difs, difs_length]
def Dif : List Int → List Int
  | [] => []
  | x :: r => x :: difs x r
theorem Dif_length : ∀ xs : List Int, (Dif xs).length = xs.length
  | [] => rfl
  | x :: r => by simp [Dif, difs_length]
def Dels (xs : List Int) : List Int × Bool := bif okC xs then (bif okC (Dif xs) then (Dif xs, true) else ([], false)) else ([], false)
theorem Dels_len (xs : List Int) : (Dels xs).1.length ≤ 301 := by
  unfold Dels
  cases okC xs with
  | false => simp
  | true =>
    cases h : okC (Dif xs) with
    | false => simp
    | true => exact okC_len h
theorem specDeltas_l0 : ∀ (r p : List Int) (a : Int), p.length + 1 + r.length ≤ 301 → (∀ x ∈ r, -1000000 ≤ x ∧ x ≤ 1000000) → -1000000 ≤ a → a ≤ 1000000 → ∀ out : List Int, out.length = p.length + 1 →
    spec_Deltas_l0 (p ++ a :: r) (p.length + 1 : Nat) out = some (bif okC (out ++ difs a r) then (out ++ difs a r, true) else ([], false)) := by
  intro r
  induction r with
  | nil =>
    intro p a h1 h2 h3 h4 out ho
    rw [spec_Deltas_l0.eq]
    have e : ¬ (((p.length + 1 : Nat) : Int) < ((p ++ [a]).length : Int)) := by simp
    rw [decide_eq_false e, cond_false, l15Right_eq _ (by omega), Option.bind_some]
    simp only [difs, List.append_nil]
    cases okC out <;> rfl
  | cons x r ih =>
    intro p a h1 h2 h3 h4 out ho
    simp only [List.length_cons] at h1
    have hx := h2 x (by simp)
    rw [spec_Deltas_l0.eq]
    have e : ((p.length + 1 : Nat) : Int) < ((p ++ a :: x :: r).length : Int) := by simp; omega
    have g1 : (p ++ a :: x :: r)[p.length + 1]? = some x := by rw [List.getElem?_append_right (by omega)]; simp
    have g2 : (p ++ a :: x :: r)[p.length]? = some a := by rw [List.getElem?_append_right (by omega)]; simp
    have w1 : IntKind.i64.wrap (((p.length + 1 : Nat) : Int) - 1) = (p.length : Nat) := by rw [wrapI (by omega) (by omega)]; omega
    rw [bif_dec e, bif_neq (by omega), w1, wrapS _ (by omega)]
    simp only [at?_nat, g1, g2, Option.bind_some]
    rw [wrapI (by omega) (by omega), bif_dec (by simp only [List.length_cons, List.length_nil]; omega)]
    have := ih (p ++ [a]) x (by simp; omega) (fun y hy => h2 y (by simp [hy])) (by omega) (by omega) (out ++ [x - a]) (by simp [ho])
    simp only [List.length_append, List.length_cons, List.length_nil, Nat.zero_add, List.append_assoc, List.singleton_append] at this
    rw [this]
    simp [difs]
theorem specDeltas_eq (xs : List Int) (h : xs.length ≤ 1048576) : spec_Deltas xs = some (Dels xs) := by
  rw [spec_Deltas.eq, l15Right_eq _ (by omega), Option.bind_some]
  unfold Dels
  cases hx : okC xs with
  | false => rfl
  | true =>
    have hl := okC_len hx
    have hm := okC_mem hx
    cases xs with
    | nil => rw [spec_Deltas_l0.eq]; simp only [List.length_nil]; rw [l15Right_eq _ (by simp)]; rfl
    | cons x xs =>
      have hx := hm x (by simp)
      rw [Bool.not_true, bif_false, spec_Deltas_l0.eq, bif_dec (by simp <;> omega), bif_eq rfl]
      simp only [at?_zero, List.getElem?_cons_zero, Option.bind_some]
      rw [bif_dec (by simp), wrapI (by omega) (by omega)]
      have := specDeltas_l0 xs [] x (by simp at hl ⊢ <;> omega) (fun y hy => hm y (by simp [hy])) (by omega) (by omega) [x] rfl
      simp only [List.length_nil, List.nil_append] at this
      simpa [Dif] using this
theorem implDeltas_l0 : ∀ (r p : List Int) (a : Int) (q : List Int), p.length + 1 + r.length ≤ 1048576 → (∀ x ∈ r, -1000000000 ≤ x ∧ x ≤ 1000000000) → -1000000000 ≤ a → a ≤ 1000000000 → q.length = p.length + 1 →
    impl_deltas_l0 (p ++ a :: r) (p.length + 1 : Nat) (q ++ r) = some (q ++ difs a r) := by
  intro r
  induction r with
  | nil =>
    intro p a q h1 h2 h3 h4 hq
    rw [impl_deltas_l0.eq]
    have e : ¬ (((p.length + 1 : Nat) : Int) < ((p ++ [a]).length : Int)) := by simp
    rw [bif_ndec e]; rfl
  | cons x r ih =>
    intro p a q h1 h2 h3 h4 hq
    simp only [List.length_cons] at h1
    have hx := h2 x (by simp)
    rw [impl_deltas_l0.eq]
    have e : ((p.length + 1 : Nat) : Int) < ((p ++ a :: x :: r).length : Int) := by simp; omega
    have g1 : (q ++ x :: r)[p.length + 1]? = some x := by rw [List.getElem?_append_right (by omega)]; simp [hq]
    have g2 : (p ++ a :: x :: r)[p.length]? = some a := by rw [List.getElem?_append_right (by omega)]; simp
    have w1 : IntKind.i64.wrap (((p.length + 1 : Nat) : Int) - 1) = (p.length : Nat) := by rw [wrapI (by omega) (by omega)]; omega
    rw [bif_dec e, w1, wrapS _ (by omega)]
    simp only [at?_nat, Int.toNat_natCast, g1, g2, Option.bind_some]
    rw [wrapI (by omega) (by omega)]
    have e2 : (q ++ x :: r).set (p.length + 1) (x - a) = (q ++ [x - a]) ++ r := by
      rw [List.set_append_right _ _ (by omega), hq]; simp
    have := ih (p ++ [a]) x (q ++ [x - a]) (by simp; omega) (fun y hy => h2 y (by simp [hy])) (by omega) (by omega) (by simp [hq])
    simp only [List.length_append, List.length_cons, List.length_nil, Nat.zero_add, List.append_assoc, List.singleton_append] at this e2 ⊢
    rw [e2, this]
    simp [difs]
theorem deltas_eq (xs : List Int) (h : xs.length ≤ 1048576) (hm : ∀ x ∈ xs, -1000000000 ≤ x ∧ x ≤ 1000000000) : impl_deltas xs = some (Dif xs) := by
  rw [impl_deltas.eq, cloneI_eq _ h, Option.bind_some]
  cases xs with
  | nil => rw [impl_deltas_l0.eq]; rfl
  | cons x xs =>
    have hx := hm x (by simp)
    have := implDeltas_l0 xs [] x [x] (by simp at h ⊢ <;> omega) (fun y hy => hm y (by simp [hy])) (by omega) (by omega) rfl
    simpa [Dif] using this
