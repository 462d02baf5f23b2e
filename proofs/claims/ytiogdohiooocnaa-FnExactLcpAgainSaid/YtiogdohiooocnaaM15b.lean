/- Lists made by copies: what the functions come to. -/
import Derived.Test.YtiogdohiooocnaaEvC
import Derived.Test.YtiogdohiooocnaaPb27
import Derived.Test.YtiogdohiooocnaaM15
set_option linter.unusedVariables false
set_option linter.unusedSimpArgs false
namespace Go.Ev.W
open Go.Ev
set_option linter.unusedVariables false

abbrev Cp := Int × Int × Int
/-- May this copy be made? -/
def okCp (n : Int) (out : List Int) (c : Cp) : Bool := decide (0 ≤ c.1 ∧ c.1 ≤ n ∧ 0 ≤ c.2.1 ∧ c.2.1 ≤ n - c.1 ∧ (out.length : Int) + c.2.1 < 301)
def addCp (a out : List Int) (c : Cp) : List Int := out ++ (a.drop c.1.toNat).take c.2.1.toNat ++ [c.2.2]
def doC (a : List Int) : List Cp → List Int → Option (List Int)
  | [], out => some out
  | c :: r, out => bif okCp a.length out c then doC a r (addCp a out c) else none
def fin (o : Option (List Int)) : List Int × Bool := match o with | some out => (bif okC out then (out, true) else ([], false)) | none => ([], false)
def CDo (a : List Int) (l : List Cp) : List Int × Bool := bif okC a then fin (doC a l []) else ([], false)

theorem okCp_iff {n : Int} {out : List Int} {c : Cp} : okCp n out c = true ↔ 0 ≤ c.1 ∧ c.1 ≤ n ∧ 0 ≤ c.2.1 ∧ c.2.1 ≤ n - c.1 ∧ (out.length : Int) + c.2.1 < 301 := by simp [okCp]
theorem addCp_length {a out : List Int} {c : Cp} (h : okCp a.length out c = true) : (addCp a out c).length = out.length + c.2.1.toNat + 1 := by
  rw [okCp_iff] at h
  obtain ⟨f, n, x⟩ := c
  simp only at h
  simp only [addCp, List.length_append, List.length_take, List.length_drop, List.length_cons, List.length_nil]
  omega
theorem doC_len (a : List Int) : ∀ (l : List Cp) (out o : List Int), out.length ≤ 301 → doC a l out = some o → o.length ≤ 301 ∧ out.length + l.length ≤ o.length
  | [], out, o, h, e => by cases e; exact ⟨h, by simp⟩
  | c :: r, out, o, h, e => by
    simp only [doC] at e
    cases hc : okCp a.length out c with
    | false => rw [hc] at e; cases e
    | true =>
      rw [hc] at e
      have hl := addCp_length hc
      rw [okCp_iff] at hc
      have := doC_len a r _ o (by omega) e
      simp only [List.length_cons]
      omega
theorem take_drop_eq (a : List Int) (f n : Int) (h0 : 0 ≤ f) (h1 : 0 ≤ n) : (a.take (f + n).toNat).drop f.toNat = (a.drop f.toNat).take n.toNat := by
  rw [List.drop_take, show (f + n).toNat - f.toNat = n.toNat by omega]
theorem CDo_len (a : List Int) (l : List Cp) : (CDo a l).1.length ≤ 301 := by
  unfold CDo fin
  cases okC a with
  | false => simp
  | true =>
    simp only [cond_true]
    split
    · rename_i out h
      cases hk : okC out with
      | false => simp
      | true => exact okC_len hk
    · simp
theorem specCopyDo_l1 (a : List Int) (l : List Cp) (ha : a.length ≤ 301) (hl : l.length ≤ 301) : ∀ (d i : Nat), l.length - i = d → i ≤ l.length → ∀ out : List Int, out.length ≤ 301 →
    spec_CopyDo_l1 a l i out = some (fin (doC a (l.drop i) out)) := by
  intro d
  induction d with
  | zero =>
    intro i hd hi out ho
    have e : i = l.length := by omega
    rw [spec_CopyDo_l1.eq, e, bif_ndec (by omega), l15Right_eq _ (by omega), Option.bind_some, List.drop_length]
    simp only [doC, fin]
    cases okC out <;> rfl
  | succ d ih =>
    intro i hd hi out ho
    have hlt : i < l.length := by omega
    rw [spec_CopyDo_l1.eq, bif_dec (by omega), at?_lt _ _ hlt, Option.bind_some, List.drop_eq_getElem_cons hlt]
    generalize l[i] = c
    simp only [doC]
    by_cases h1 : c.2.1 < 0
    · rw [bif_dec h1, show okCp a.length out c = false by simp only [okCp, decide_eq_false_iff_not]; omega]; rfl
    rw [bif_ndec h1]
    by_cases h2 : c.1 < 0
    · rw [bif_dec h2, show okCp a.length out c = false by simp only [okCp, decide_eq_false_iff_not]; omega]; rfl
    rw [bif_ndec h2]
    by_cases h3 : c.1 > a.length
    · rw [bif_dec h3, show okCp a.length out c = false by simp only [okCp, decide_eq_false_iff_not]; omega]; rfl
    rw [bif_ndec h3, wrapI (x := (a.length : Int) - c.1) (by omega) (by omega)]
    by_cases h4 : c.2.1 > (a.length : Int) - c.1
    · rw [bif_dec h4, show okCp a.length out c = false by simp only [okCp, decide_eq_false_iff_not]; omega]; rfl
    rw [bif_ndec h4, wrapI (x := (out.length : Int) + c.2.1) (by omega) (by omega), wrapI (x := (out.length : Int) + c.2.1 + 1) (by omega) (by omega)]
    by_cases h5 : (out.length : Int) + c.2.1 + 1 > 301
    · rw [bif_dec h5, show okCp a.length out c = false by simp only [okCp, decide_eq_false_iff_not]; omega]; rfl
    have hok : okCp a.length out c = true := by rw [okCp_iff]; omega
    have hal := addCp_length hok
    rw [bif_ndec h5, wrapI (x := c.1 + c.2.1) (by omega) (by omega), take_drop_eq _ _ _ (by omega) (by omega), hok, bif_true]
    have hl2 : ((a.drop c.1.toNat).take c.2.1.toNat).length ≤ 301 := by rw [List.length_take, List.length_drop]; omega
    rw [bif_dec (by omega), bif_dec (by omega), bif_dec (by omega), bif_dec (by simp only [List.length_append, List.length_cons, List.length_nil]; omega), wrapS _ (by omega)]
    exact ih (i + 1) (by omega) (by omega) (addCp a out c) (by omega)
theorem specCopyDo_eq (a : List Int) (l : List Cp) (ha : a.length ≤ 1048576) : spec_CopyDo a l = some (CDo a l) := by
  rw [spec_CopyDo.eq, l15Right_eq _ (by omega), Option.bind_some]
  unfold CDo
  cases hx : okC a with
  | false => rfl
  | true =>
    rw [Bool.not_true, bif_false, bif_true]
    by_cases h : (l.length : Int) > 301
    · rw [bif_dec h]
      cases hd : doC a l [] with
      | none => rfl
      | some o => have := doC_len a l [] o (by simp) hd; simp only [List.length_nil] at this; omega
    · rw [bif_ndec h, spec_CopyDo_l0.eq]
      have := specCopyDo_l1 a l (okC_len hx) (by omega) l.length 0 (by omega) (by omega) [] (by simp)
      simpa using this
theorem implCopyDo_l0 (a : List Int) (l : List Cp) (ha : a.length ≤ 301) (hl : l.length ≤ maxLen) : ∀ (d i : Nat), l.length - i = d → i ≤ l.length → i ≤ 301 → ∀ out : List Int, out.length ≤ 301 → i ≤ out.length →
    impl_CopyDo_l0 a l l.length i out = some (fin (doC a (l.drop i) out)) := by
  intro d
  induction d with
  | zero =>
    intro i hd hi hi2 out ho hio
    have e : i = l.length := by omega
    rw [impl_CopyDo_l0.eq, e, bif_ndec (by omega), areCopied_eq _ (by omega), Option.bind_some, List.drop_length]
    simp only [doC, fin]
    cases okC out <;> rfl
  | succ d ih =>
    intro i hd hi hi2 out ho hio
    have hlt : i < l.length := by omega
    rw [impl_CopyDo_l0.eq, bif_dec (by omega), at?_lt _ _ hlt, Option.bind_some, List.drop_eq_getElem_cons hlt]
    generalize l[i] = c
    simp only [doC, within_eq, Option.bind_some]
    by_cases h1 : 0 ≤ c.1 ∧ c.1 ≤ a.length
    · rw [decide_eq_true h1.1, decide_eq_true h1.2, Bool.true_and, Bool.not_true, bif_false, wrapI (x := (a.length : Int) - c.1) (by omega) (by omega)]
      by_cases h2 : 0 ≤ c.2.1 ∧ c.2.1 ≤ (a.length : Int) - c.1
      · rw [decide_eq_true h2.1, decide_eq_true h2.2, Bool.true_and, Bool.not_true, bif_false, wrapI (x := (out.length : Int) + c.2.1) (by omega) (by omega)]
        by_cases h5 : (out.length : Int) + c.2.1 ≥ 301
        · rw [bif_dec h5, show okCp a.length out c = false by simp only [okCp, decide_eq_false_iff_not]; omega]; rfl
        have hok : okCp a.length out c = true := by rw [okCp_iff]; omega
        have hal := addCp_length hok
        rw [bif_ndec h5, wrapI (x := c.1 + c.2.1) (by omega) (by omega), take_drop_eq _ _ _ (by omega) (by omega), hok, bif_true]
        have hl2 : ((a.drop c.1.toNat).take c.2.1.toNat).length ≤ 301 := by rw [List.length_take, List.length_drop]; omega
        rw [bif_dec (by omega), bif_dec (by omega), bif_dec (by omega), bif_dec (by simp only [List.length_append, List.length_cons, List.length_nil]; omega), wrapS _ (by omega)]
        exact ih (i + 1) (by omega) (by omega) (by omega) (addCp a out c) (by omega) (by omega)
      · rw [show (decide (0 ≤ c.2.1) && decide (c.2.1 ≤ (a.length : Int) - c.1)) = false by simp only [Bool.and_eq_false_iff, decide_eq_false_iff_not]; omega, Bool.not_false, bif_true, show okCp a.length out c = false by simp only [okCp, decide_eq_false_iff_not]; omega]; rfl
    · rw [show (decide (0 ≤ c.1) && decide (c.1 ≤ (a.length : Int))) = false by simp only [Bool.and_eq_false_iff, decide_eq_false_iff_not]; omega, Bool.not_false, bif_true, show okCp a.length out c = false by simp only [okCp, decide_eq_false_iff_not]; omega]; rfl
theorem implCopyDo_eq (a : List Int) (l : List Cp) (ha : a.length ≤ 1048576) (hl : l.length ≤ maxLen) : impl_CopyDo a l = some (CDo a l) := by
  rw [impl_CopyDo.eq, areCopied_eq _ (by omega), Option.bind_some]
  unfold CDo
  cases hx : okC a with
  | false => rfl
  | true =>
    have := implCopyDo_l0 a l (okC_len hx) hl l.length 0 (by omega) (by omega) (by omega) [] (by simp) (by simp)
    simpa using this
def CAt (a : List Int) (l : List Cp) (k : Int) : Int × Bool := bif (CDo a l).2 && decide (0 ≤ k) then (match (CDo a l).1[k.toNat]? with | some x => (x, true) | none => (0, false)) else (0, false)
theorem sz_case (k : Int) (n : Nat) : decide ((if k - (n : Int) < 0 then -1 else k - (n : Int)) < 0) = decide (k - (n : Int) < 0) := by
  by_cases h : k - (n : Int) < 0
  · rw [if_pos h, decide_eq_true h]; rfl
  · rw [if_neg h]
theorem one_lt3 (a b : Nat) : decide ((1 : Int) + (a : Int) + 3 * (b : Int) < 0) = false := decide_eq_false (by omega)
