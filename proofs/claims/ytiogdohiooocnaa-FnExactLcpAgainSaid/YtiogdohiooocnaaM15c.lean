/- A list by copies of another one: what the functions come to. -/
import Derived.Test.YtiogdohiooocnaaEvC
import Derived.Test.YtiogdohiooocnaaPb25
import Derived.Test.YtiogdohiooocnaaM15b
set_option linter.unusedVariables false
set_option linter.unusedSimpArgs false
namespace Go.Ev.W
open Go.Ev

/-- How many numbers at the beginning are the same. -/
def com : List Int → List Int → Nat
  | x :: a, y :: b => bif x == y then com a b + 1 else 0
  | _, _ => 0
theorem com_le : ∀ (a b : List Int), com a b ≤ a.length ∧ com a b ≤ b.length
  | [], _ => by simp [com]
  | _ :: _, [] => by simp [com]
  | x :: a, y :: b => by
    have := com_le a b
    simp only [com, List.length_cons]
    cases x == y <;> simp <;> omega
/-- The longest copy, the first of those. -/
def bst (b : List Int) : List Int → Nat → Nat × Nat → Nat × Nat
  | [], _, c => c
  | x :: r, i, c => bst b r (i + 1) (bif decide (c.2 < com (x :: r) b) then (i, com (x :: r) b) else c)
theorem bst_le (b : List Int) : ∀ (r : List Int) (i : Nat) (c : Nat × Nat), c.2 ≤ b.length → (bst b r i c).2 ≤ b.length
  | [], _, c, h => h
  | x :: r, i, c, h => bst_le b r (i + 1) _ (by
      have := (com_le (x :: r) b).2
      cases decide (c.2 < com (x :: r) b)
      · exact h
      · exact this)
def mk1 (a b : List Int) : Nat × Nat := bst b.dropLast a 0 (0, 0)
theorem mk1_lt (a b : List Int) (h : 0 < b.length) : (mk1 a b).2 < b.length := by
  have := bst_le b.dropLast a 0 (0, 0) (Nat.zero_le _)
  rw [List.length_dropLast] at this
  unfold mk1
  omega
def cps (a : List Int) : Nat → List Int → List Cp
  | 0, _ => []
  | k + 1, b => if b = [] then [] else (((mk1 a b).1 : Int), ((mk1 a b).2 : Int), b.getD (mk1 a b).2 0) :: cps a k (b.drop ((mk1 a b).2 + 1))
def COf (a b : List Int) : List Cp × Bool := bif okC a then (bif okC b then (cps a b.length b, true) else ([], false)) else ([], false)
theorem cps_len (a : List Int) : ∀ (k : Nat) (b : List Int), (cps a k b).length ≤ b.length
  | 0, b => by simp [cps]
  | k + 1, b => by
    simp only [cps]
    split
    · simp
    · rename_i h
      have hb : 0 < b.length := List.length_pos_iff.2 h
      have := cps_len a k (b.drop ((mk1 a b).2 + 1))
      rw [List.length_drop] at this
      simp only [List.length_cons]
      omega

/-! #### the program's -/
theorem min_if (x y : Nat) : (if (y : Int) < (x : Int) then (y : Int) else (x : Int)) = ((min x y : Nat) : Int) := by
  by_cases h : (y : Int) < (x : Int)
  · rw [if_pos h, Nat.min_eq_right (by omega)]
  · rw [if_neg h, Nat.min_eq_left (by omega)]
theorem sharedAt_eq (a b : List Int) (h : a.length ≤ 1048576) : impl_sharedAt a b = some (com a b : Int) := by
  rw [impl_sharedAt.eq]
  have key : ∀ (d i : Nat), a.length - i = d → i ≤ a.length → i ≤ b.length → impl_sharedAt_l0 a b i = some ((i + com (a.drop i) (b.drop i) : Nat) : Int) := by
    intro d
    induction d with
    | zero =>
      intro i hd hi hb
      rw [impl_sharedAt_l0.eq, min_if, bif_ndec (by omega), drop_nil a (by omega)]
      simp [com]
    | succ d ih =>
      intro i hd hi hb
      rw [impl_sharedAt_l0.eq, min_if]
      by_cases hlt : i < b.length
      · have hla : i < a.length := by omega
        rw [bif_dec (by omega), at?_lt _ _ hla, at?_lt _ _ hlt, Option.bind_some, Option.bind_some, List.drop_eq_getElem_cons hla, List.drop_eq_getElem_cons hlt, wrapS _ (by omega), ih (i + 1) (by omega) (by omega) (by omega)]
        simp only [com]
        cases a[i] == b[i] with
        | true => simp only [cond_true]; congr 2; omega
        | false => simp only [cond_false]; rfl
      · rw [bif_ndec (by omega), drop_nil b (by omega)]
        cases a.drop i <;> simp [com]
  have := key a.length 0 (by omega) (by omega) (by omega)
  simpa using this
theorem implCopyOf_l2 (a b : List Int) (ha : a.length ≤ 301) (hb : 0 < b.length) (hb2 : b.length ≤ 301) (out : List Cp) (ho : out.length + b.length ≤ 301) : ∀ (d i : Nat), a.length - i = d → i ≤ a.length → ∀ c : Nat × Nat, c.2 ≤ b.dropLast.length →
    impl_CopyOf_l2 a b a.length i out c.1 c.2 0 = impl_CopyOf_l1 a (b.drop ((bst b.dropLast (a.drop i) i c).2 + 1)) (out ++ [(((bst b.dropLast (a.drop i) i c).1 : Int), ((bst b.dropLast (a.drop i) i c).2 : Int), b.getD (bst b.dropLast (a.drop i) i c).2 0)]) := by
  intro d
  induction d with
  | zero =>
    intro i hd hi c hc
    rw [List.length_dropLast] at hc
    have hcl : c.2 < b.length := by omega
    rw [impl_CopyOf_l2.eq, bif_ndec (by omega), drop_nil a (by omega), at?_lt _ _ hcl, Option.bind_some, wrapS _ (by omega)]
    simp only [bst, Int.toNat_natCast, List.take_length]
    rw [bif_dec (by simp only [List.length_cons, List.length_nil]; omega), bif_dec (by omega), List.getD_eq_getElem?_getD, List.getElem?_eq_getElem hcl]
    rfl
  | succ d ih =>
    intro i hd hi c hc
    have hla : i < a.length := by omega
    rw [impl_CopyOf_l2.eq, bif_dec (by omega), bif_dec (by omega), wrapI (x := (b.length : Int) - 1) (by omega) (by omega), bif_dec (by omega)]
    have e1 : ((b.length : Int) - 1).toNat = b.length - 1 := by omega
    rw [e1, List.drop_zero, ← List.dropLast_eq_take, List.take_length, Int.toNat_natCast, sharedAt_eq _ _ (by rw [List.length_drop]; omega), Option.bind_some, wrapS _ (by omega)]
    have hle := (com_le (a.drop i) b.dropLast).2
    rw [List.drop_eq_getElem_cons hla] at hle ⊢
    simp only [bst]
    by_cases h : ((com (a[i] :: a.drop (i + 1)) b.dropLast : Nat) : Int) > (c.2 : Int)
    · rw [bif_dec h, bif_dec (show c.2 < com (a[i] :: a.drop (i + 1)) b.dropLast by omega)]
      exact ih (i + 1) (by omega) (by omega) (i, com (a[i] :: a.drop (i + 1)) b.dropLast) hle
    · rw [bif_ndec h, bif_ndec (show ¬ c.2 < com (a[i] :: a.drop (i + 1)) b.dropLast by omega)]
      exact ih (i + 1) (by omega) (by omega) c hc
theorem implCopyOf_l1 (a : List Int) (ha : a.length ≤ 301) : ∀ (k : Nat) (b : List Int), b.length ≤ k → b.length ≤ 301 → ∀ out : List Cp, out.length + b.length ≤ 301 → impl_CopyOf_l1 a b out = some (out ++ cps a k b, true) := by
  intro k
  induction k with
  | zero =>
    intro b hk hb out ho
    rw [impl_CopyOf_l1.eq, bif_ndec (by omega)]
    simp [cps]
  | succ k ih =>
    intro b hk hb out ho
    rw [impl_CopyOf_l1.eq]
    by_cases hb0 : 0 < b.length
    · have hne : b ≠ [] := List.length_pos_iff.1 hb0
      have hlt := mk1_lt a b hb0
      rw [bif_dec (by omega)]
      have := implCopyOf_l2 a b ha hb0 hb out ho a.length 0 (by omega) (by omega) (0, 0) (by simp)
      have e : (↑(0 : Nat) : Int) = 0 := rfl
      simp only [List.drop_zero] at this
      rw [e] at this
      rw [this]
      have hd : (b.drop ((mk1 a b).2 + 1)).length = b.length - ((mk1 a b).2 + 1) := List.length_drop
      show impl_CopyOf_l1 a (b.drop ((mk1 a b).2 + 1)) (out ++ [(((mk1 a b).1 : Int), ((mk1 a b).2 : Int), b.getD (mk1 a b).2 0)]) = _
      rw [ih _ (by omega) (by omega) _ (by simp only [List.length_append, List.length_cons, List.length_nil]; omega)]
      simp only [cps, if_neg hne, List.append_assoc, List.singleton_append]
    · have hne : b = [] := by simpa using hb0
      rw [bif_ndec (by omega), hne]
      simp [cps]
theorem implCopyOf_eq (a b : List Int) (ha : a.length ≤ 1048576) (hb : b.length ≤ 1048576) : impl_CopyOf a b = some (COf a b) := by
  rw [impl_CopyOf.eq, areCopied_eq _ (by omega), Option.bind_some]
  unfold COf
  cases hx : okC a with
  | false => rfl
  | true =>
    rw [Bool.not_true, bif_false, bif_true, areCopied_eq _ (by omega), Option.bind_some]
    cases hy : okC b with
    | false => rfl
    | true =>
      have := implCopyOf_l1 a (okC_len hx) b.length b (Nat.le_refl _) (okC_len hy) [] (by have := okC_len hy; simpa using this)
      rw [impl_CopyOf_l0.eq]
      simpa using this

/-! #### the reference's -/
theorem specCopyOf_l3 (a b : List Int) (ha : a.length ≤ 301) (hb2 : b.length ≤ 301) (at_ i : Nat) (hat : at_ < b.length) (hi : i < a.length) (out : List Cp) (c : Nat × Nat) : ∀ (d n : Nat), a.length + 1 - n = d → i + n ≤ a.length → at_ + n < b.length →
    spec_CopyOf_l3 a b at_ i n out c.1 c.2 0 = (bif decide (c.2 < n + com (a.drop (i + n)) ((b.drop (at_ + n)).dropLast)) then spec_CopyOf_l2 a b at_ (i + 1 : Nat) out i (n + com (a.drop (i + n)) ((b.drop (at_ + n)).dropLast) : Nat) 0 else spec_CopyOf_l2 a b at_ (i + 1 : Nat) out c.1 c.2 0) := by
  intro d
  induction d with
  | zero => intro n hd h1 h2; omega
  | succ d ih =>
    intro n hd h1 h2
    rw [spec_CopyOf_l3.eq, wrapI (x := (i : Int) + n) (by omega) (by omega), wrapI (x := (at_ : Int) + n) (by omega) (by omega), wrapI (x := (b.length : Int) - 1) (by omega) (by omega), wrapS i (by omega), wrapS n (by omega)]
    have fin : com (a.drop (i + n)) ((b.drop (at_ + n)).dropLast) = 0 → (bif decide ((n : Int) > (c.2 : Int)) then spec_CopyOf_l2 a b at_ (i + 1 : Nat) out i n 0 else spec_CopyOf_l2 a b at_ (i + 1 : Nat) out c.1 c.2 0) = (bif decide (c.2 < n + com (a.drop (i + n)) ((b.drop (at_ + n)).dropLast)) then spec_CopyOf_l2 a b at_ (i + 1 : Nat) out i (n + com (a.drop (i + n)) ((b.drop (at_ + n)).dropLast) : Nat) 0 else spec_CopyOf_l2 a b at_ (i + 1 : Nat) out c.1 c.2 0) := by
      intro h0
      simp only [h0, Nat.add_zero]
      by_cases h : c.2 < n
      · rw [bif_dec h, bif_dec (by omega)]
      · rw [bif_ndec h, bif_ndec (by omega)]
    by_cases h3 : i + n < a.length
    · rw [bif_dec (by omega)]
      by_cases h4 : at_ + n + 1 < b.length
      · have h5 : at_ + n < b.length := by omega
        rw [bif_dec (by omega), show (i : Int) + (n : Int) = ((i + n : Nat) : Int) by omega, show (at_ : Int) + (n : Int) = ((at_ + n : Nat) : Int) by omega, at?_lt _ _ h3, at?_lt _ _ h5, Option.bind_some, Option.bind_some]
        have e1 : a.drop (i + n) = a[i + n] :: a.drop (i + (n + 1)) := List.drop_eq_getElem_cons h3
        have e2 : (b.drop (at_ + n)).dropLast = b[at_ + n] :: (b.drop (at_ + (n + 1))).dropLast := by
          rw [List.drop_eq_getElem_cons h5, List.dropLast_cons_of_ne_nil (by intro h; have := congrArg List.length h; simp at this; omega)]
          rfl
        by_cases h6 : a[i + n] = b[at_ + n]
        · rw [bif_eq h6, ih (n + 1) (by omega) (by omega) (by omega), e1, e2]
          have e3 : com (a[i + n] :: a.drop (i + (n + 1))) (b[at_ + n] :: (b.drop (at_ + (n + 1))).dropLast) = com (a.drop (i + (n + 1))) ((b.drop (at_ + (n + 1))).dropLast) + 1 := by
            simp only [com, h6, beq_self_eq_true, cond_true]
          rw [e3, show n + 1 + com (a.drop (i + (n + 1))) ((b.drop (at_ + (n + 1))).dropLast) = n + (com (a.drop (i + (n + 1))) ((b.drop (at_ + (n + 1))).dropLast) + 1) by omega]
        · rw [bif_neq h6]
          refine fin ?_
          rw [e1, e2]
          simp only [com, beq_eq_false_iff_ne.2 h6, cond_false]
      · rw [bif_ndec (by omega)]
        refine fin ?_
        have : (b.drop (at_ + n)).dropLast = [] := List.eq_nil_of_length_eq_zero (by rw [List.length_dropLast, List.length_drop]; omega)
        rw [this]
        cases a.drop (i + n) <;> rfl
    · rw [bif_ndec (by omega)]
      refine fin ?_
      rw [drop_nil a (by omega)]
      rfl
theorem specCopyOf_l2 (a b : List Int) (ha : a.length ≤ 301) (at_ : Nat) (hat : at_ < b.length) (hb2 : b.length ≤ 301) (out : List Cp) (ho : out.length ≤ 301) : ∀ (d i : Nat), a.length - i = d → i ≤ a.length → ∀ c : Nat × Nat, c.2 ≤ (b.drop at_).dropLast.length →
    spec_CopyOf_l2 a b at_ i out c.1 c.2 0 = spec_CopyOf_l1 a b (at_ + ((bst (b.drop at_).dropLast (a.drop i) i c).2 + 1) : Nat) (out ++ [(((bst (b.drop at_).dropLast (a.drop i) i c).1 : Int), ((bst (b.drop at_).dropLast (a.drop i) i c).2 : Int), (b.drop at_).getD (bst (b.drop at_).dropLast (a.drop i) i c).2 0)]) := by
  intro d
  induction d with
  | zero =>
    intro i hd hi c hc
    rw [List.length_dropLast, List.length_drop] at hc
    have hcl : at_ + c.2 < b.length := by omega
    rw [spec_CopyOf_l2.eq, bif_ndec (by omega), drop_nil a (by omega), wrapI (x := (at_ : Int) + c.2) (by omega) (by omega), show (at_ : Int) + (c.2 : Int) = ((at_ + c.2 : Nat) : Int) by omega, at?_lt _ _ hcl, Option.bind_some, wrapS _ (by omega)]
    simp only [bst]
    rw [bif_dec (by simp only [List.length_cons, List.length_nil]; omega), List.getD_eq_getElem?_getD, List.getElem?_drop, List.getElem?_eq_getElem hcl]
    rfl
  | succ d ih =>
    intro i hd hi c hc
    have hla : i < a.length := by omega
    rw [spec_CopyOf_l2.eq, bif_dec (by omega)]
    have e3 := specCopyOf_l3 a b ha hb2 at_ i hat hla out c (a.length + 1) 0 (by omega) (by omega) (by omega)
    have e0 : ((0 : Nat) : Int) = 0 := rfl
    simp only [Nat.add_zero, Nat.zero_add, e0] at e3
    rw [e3]
    have hle := (com_le (a.drop i) (b.drop at_).dropLast).2
    rw [List.drop_eq_getElem_cons hla] at hle ⊢
    simp only [bst]
    by_cases h : c.2 < com (a[i] :: a.drop (i + 1)) (b.drop at_).dropLast
    · rw [bif_dec h, bif_dec h]
      exact ih (i + 1) (by omega) (by omega) (i, com (a[i] :: a.drop (i + 1)) (b.drop at_).dropLast) hle
    · rw [bif_ndec h, bif_ndec h]
      exact ih (i + 1) (by omega) (by omega) c hc
theorem specCopyOf_l1 (a b : List Int) (ha : a.length ≤ 301) (hb2 : b.length ≤ 301) : ∀ (k at_ : Nat), b.length - at_ ≤ k → at_ ≤ b.length → ∀ out : List Cp, out.length ≤ at_ → spec_CopyOf_l1 a b at_ out = some (out ++ cps a k (b.drop at_), true) := by
  intro k
  induction k with
  | zero =>
    intro at_ hk hb out ho
    rw [spec_CopyOf_l1.eq, bif_ndec (by omega)]
    simp [cps]
  | succ k ih =>
    intro at_ hk hb out ho
    rw [spec_CopyOf_l1.eq]
    by_cases hb0 : at_ < b.length
    · have hl : (b.drop at_).length = b.length - at_ := List.length_drop
      have hne : b.drop at_ ≠ [] := List.length_pos_iff.1 (by omega)
      have hlt := mk1_lt a (b.drop at_) (by omega)
      rw [bif_dec (by omega)]
      have := specCopyOf_l2 a b ha at_ hb0 hb2 out (by omega) a.length 0 (by omega) (by omega) (0, 0) (by simp)
      have e : ((0 : Nat) : Int) = 0 := rfl
      simp only [List.drop_zero] at this
      rw [e] at this
      rw [this]
      show spec_CopyOf_l1 a b ((at_ + ((mk1 a (b.drop at_)).2 + 1) : Nat) : Int) (out ++ [(((mk1 a (b.drop at_)).1 : Int), ((mk1 a (b.drop at_)).2 : Int), (b.drop at_).getD (mk1 a (b.drop at_)).2 0)]) = _
      rw [ih _ (by omega) (by omega) _ (by simp only [List.length_append, List.length_cons, List.length_nil]; omega)]
      simp only [cps, if_neg hne, List.append_assoc, List.singleton_append, List.drop_drop]
    · rw [bif_ndec (by omega), List.drop_eq_nil_of_le (by omega)]
      simp [cps]
theorem specCopyOf_eq (a b : List Int) (ha : a.length ≤ 1048576) (hb : b.length ≤ 1048576) : spec_CopyOf a b = some (COf a b) := by
  rw [spec_CopyOf.eq, l15Right_eq _ (by omega), Option.bind_some]
  unfold COf
  cases hx : okC a with
  | false => rfl
  | true =>
    rw [Bool.not_true, bif_false, bif_true, l15Right_eq _ (by omega), Option.bind_some]
    cases hy : okC b with
    | false => rfl
    | true =>
      have := specCopyOf_l1 a b (okC_len hx) (okC_len hy) b.length 0 (by omega) (by omega) [] (by simp)
      rw [spec_CopyOf_l0.eq]
      simpa using this
theorem COf_len (a b : List Int) : (COf a b).1.length ≤ 301 := by
  unfold COf
  cases okC a with
  | false => simp
  | true =>
    cases hy : okC b with
    | false => simp
    | true =>
      have := cps_len a b.length b
      have := okC_len hy
      simp only [bif_true]
      omega
theorem one_lt2 (a b : Nat) : decide ((1 : Int) + (a : Int) + (b : Int) < 0) = false := decide_eq_false (by omega)
theorem one_lt_3 (a : Nat) : decide ((1 : Int) + 3 * (a : Int) < 0) = false := decide_eq_false (by omega)
