/- Copies lead back, and are as few as can be. -/
import Derived.Test.YthbijcdnjgfndaaEvB
import Derived.Test.YthbijcdnjgfndaaPa26
import Derived.Test.YthbijcdnjgfndaaPa27
import Derived.Test.YthbijcdnjgfndaaM15d
set_option linter.unusedVariables false
set_option linter.unusedSimpArgs false
namespace Go.Ev.W
open Go.Ev

theorem com_take : ∀ (a b : List Int) (n : Nat), n ≤ com a b → a.take n = b.take n
  | [], _, n, h => by simp only [com] at h; have : n = 0 := by omega
                      subst this; simp
  | _ :: _, [], n, h => by simp only [com] at h; have : n = 0 := by omega
                           subst this; simp
  | x :: a, y :: b, 0, h => by simp
  | x :: a, y :: b, n + 1, h => by
    simp only [com] at h
    cases he : x == y with
    | false => rw [he, bif_false] at h; omega
    | true =>
      rw [he, bif_true] at h
      have : x = y := by simpa using he
      rw [List.take_succ_cons, List.take_succ_cons, this, com_take a b n (by omega)]
theorem le_com : ∀ (a b : List Int) (n : Nat), n ≤ a.length → n ≤ b.length → a.take n = b.take n → n ≤ com a b
  | _, _, 0, _, _, _ => Nat.zero_le _
  | [], _, n + 1, h, _, _ => by simp at h
  | _ :: _, [], n + 1, _, h, _ => by simp at h
  | x :: a, y :: b, n + 1, h1, h2, h => by
    rw [List.take_succ_cons, List.take_succ_cons] at h
    injection h with h3 h4
    have := le_com a b n (by simpa using h1) (by simpa using h2) h4
    simp only [com, h3, beq_self_eq_true, bif_true]
    omega
def mxc (b : List Int) : List Int → Nat → Nat
  | [], m => m
  | x :: r, m => mxc b r (max m (com (x :: r) b))
theorem bst_mxc (b : List Int) : ∀ (r : List Int) (i : Nat) (c : Nat × Nat), (bst b r i c).2 = mxc b r c.2
  | [], _, _ => rfl
  | x :: r, i, c => by
    simp only [bst, mxc]
    rw [bst_mxc b r]
    by_cases h : c.2 < com (x :: r) b
    · rw [bif_dec h, Nat.max_eq_right (by omega)]
    · rw [bif_ndec h, Nat.max_eq_left (by omega)]
theorem mxc_ge (b : List Int) : ∀ (r : List Int) (m : Nat), m ≤ mxc b r m ∧ ∀ i, i < r.length → com (r.drop i) b ≤ mxc b r m
  | [], m => ⟨Nat.le_refl _, fun i h => by simp at h⟩
  | x :: r, m => by
    have := mxc_ge b r (max m (com (x :: r) b))
    refine ⟨by simp only [mxc]; omega, fun i hi => ?_⟩
    cases i with
    | zero => simp only [mxc, List.drop_zero]; omega
    | succ i => exact this.2 i (by simpa using hi)
theorem bst_ok (a b : List Int) : ∀ (d i : Nat), a.length - i = d → i ≤ a.length → ∀ c : Nat × Nat, c.2 ≤ com (a.drop c.1) b → c.1 ≤ a.length → (bst b (a.drop i) i c).2 ≤ com (a.drop (bst b (a.drop i) i c).1) b ∧ (bst b (a.drop i) i c).1 ≤ a.length := by
  intro d
  induction d with
  | zero =>
    intro i hd hi c h1 h2
    rw [drop_nil a (by omega)]
    exact ⟨h1, h2⟩
  | succ d ih =>
    intro i hd hi c h1 h2
    have hlt : i < a.length := by omega
    have e := List.drop_eq_getElem_cons hlt
    rw [e]
    simp only [bst]
    cases hh : decide (c.2 < com (a[i] :: a.drop (i + 1)) b) with
    | false => exact ih (i + 1) (by omega) (by omega) c h1 h2
    | true => exact ih (i + 1) (by omega) (by omega) (i, com (a[i] :: a.drop (i + 1)) b) (by rw [e]; exact Nat.le_refl _) (by simp only; omega)
theorem mk1_ok (a b : List Int) : (mk1 a b).2 ≤ com (a.drop (mk1 a b).1) b.dropLast ∧ (mk1 a b).1 ≤ a.length := by
  have := bst_ok a b.dropLast a.length 0 (by omega) (by omega) (0, 0) (Nat.zero_le _) (Nat.zero_le _)
  unfold mk1
  simpa using this
theorem mk1_max (a b : List Int) (f n : Nat) (hf : f ≤ a.length) (hn : f + n ≤ a.length) (hb : n < b.length) (h : (a.drop f).take n = b.take n) : n ≤ (mk1 a b).2 := by
  unfold mk1
  rw [bst_mxc]
  by_cases hlt : f < a.length
  · refine Nat.le_trans ?_ ((mxc_ge b.dropLast a 0).2 f hlt)
    refine le_com _ _ n (by rw [List.length_drop]; omega) (by rw [List.length_dropLast]; omega) ?_
    rw [h, List.dropLast_eq_take, List.take_take, Nat.min_eq_left (by omega)]
  · have : n = 0 := by omega
    omega
theorem mk1_take (a b : List Int) (hb : 0 < b.length) : (a.drop (mk1 a b).1).take (mk1 a b).2 = b.take (mk1 a b).2 := by
  have h := (mk1_ok a b).1
  have hl := mk1_lt a b hb
  have := com_take _ _ _ h
  rw [this, List.dropLast_eq_take, List.take_take, Nat.min_eq_left (by omega)]
theorem take_getD (b : List Int) (n : Nat) (h : n < b.length) : b.take n ++ [b.getD n 0] = b.take (n + 1) := by
  rw [List.take_add_one, List.getD_eq_getElem?_getD, List.getElem?_eq_getElem h]; rfl
theorem mk1_fits (a b : List Int) (hb : 0 < b.length) : (mk1 a b).1 + (mk1 a b).2 ≤ a.length := by
  have h := mk1_ok a b
  have := (com_le (a.drop (mk1 a b).1) b.dropLast).1
  rw [List.length_drop] at this
  omega
/-- The copies of CopyOf make the list again. -/
theorem doC_cps (a : List Int) : ∀ (k : Nat) (b out : List Int), b.length ≤ k → out.length + b.length ≤ 301 → doC a (cps a k b) out = some (out ++ b)
  | 0, b, out, hk, ho => by
    have : b = [] := List.length_eq_zero_iff.1 (by omega)
    subst this; simp [cps, doC]
  | k + 1, b, out, hk, ho => by
    by_cases hb : b = []
    · subst hb; simp [cps, doC]
    · have hb0 : 0 < b.length := List.length_pos_iff.2 hb
      have h1 := mk1_lt a b hb0
      have h2 := mk1_fits a b hb0
      have h3 := mk1_take a b hb0
      have hd : (b.drop ((mk1 a b).2 + 1)).length = b.length - ((mk1 a b).2 + 1) := List.length_drop
      simp only [cps, if_neg hb, doC]
      rw [show okCp a.length out (((mk1 a b).1 : Int), ((mk1 a b).2 : Int), b.getD (mk1 a b).2 0) = true by rw [okCp_iff]; simp only; omega, bif_true]
      have e : addCp a out (((mk1 a b).1 : Int), ((mk1 a b).2 : Int), b.getD (mk1 a b).2 0) = out ++ b.take ((mk1 a b).2 + 1) := by
        simp only [addCp, Int.toNat_natCast]
        rw [h3, List.append_assoc, take_getD _ _ h1]
      have ht : (b.take ((mk1 a b).2 + 1)).length ≤ (mk1 a b).2 + 1 := by rw [List.length_take]; omega
      rw [e, doC_cps a k _ _ (by omega) (by rw [List.length_append]; omega), List.append_assoc, List.take_append_drop]
theorem CDo_COf (a b : List Int) (ha : okC a = true) (hb : okC b = true) : CDo a (cps a b.length b) = (b, true) := by
  have hl := okC_len hb
  unfold CDo
  rw [ha, bif_true, doC_cps a b.length b [] (Nat.le_refl _) (by simpa using hl)]
  simp [fin, hb]

/-! #### as few as can be -/
theorem cps_fuel (a : List Int) : ∀ (k : Nat) (b : List Int), b.length ≤ k → cps a k b = cps a b.length b
  | 0, b, h => by have : b = [] := List.length_eq_zero_iff.1 (by omega)
                  subst this; rfl
  | k + 1, b, h => by
    by_cases hb : b = []
    · subst hb; simp [cps]
    · have hb0 : 0 < b.length := List.length_pos_iff.2 hb
      obtain ⟨m, hm⟩ : ∃ m, b.length = m + 1 := ⟨b.length - 1, by omega⟩
      have hd : (b.drop ((mk1 a b).2 + 1)).length = b.length - ((mk1 a b).2 + 1) := List.length_drop
      rw [hm]
      simp only [cps, if_neg hb]
      rw [cps_fuel a k _ (by omega), cps_fuel a m _ (by omega)]
def cnt (a b : List Int) : Nat := (cps a b.length b).length
theorem cnt_nil (a : List Int) : cnt a [] = 0 := rfl
theorem cnt_pos (a b : List Int) (hb : 0 < b.length) : cnt a b = cnt a (b.drop ((mk1 a b).2 + 1)) + 1 := by
  have hne : b ≠ [] := List.length_pos_iff.1 hb
  unfold cnt
  obtain ⟨m, hm⟩ : ∃ m, b.length = m + 1 := ⟨b.length - 1, by omega⟩
  have hd : (b.drop ((mk1 a b).2 + 1)).length = b.length - ((mk1 a b).2 + 1) := List.length_drop
  rw [hm]
  simp only [cps, if_neg hne, List.length_cons]
  rw [cps_fuel a m _ (by omega)]
theorem cnt_drop (a : List Int) : ∀ (m : Nat) (t : List Int), t.length ≤ m → ∀ j, cnt a (t.drop j) ≤ cnt a t := by
  intro m
  induction m with
  | zero =>
    intro t h j
    have : t = [] := List.length_eq_zero_iff.1 (by omega)
    subst this; simp
  | succ m ih =>
    intro t h j
    by_cases ht : 0 < t.length
    · by_cases hj : t.length ≤ j
      · rw [drop_nil t hj, cnt_nil]; exact Nat.zero_le _
      have hp := mk1_lt a t ht
      have hd : ∀ i, (t.drop i).length = t.length - i := fun i => List.length_drop
      rw [cnt_pos a t ht]
      by_cases hjp : (mk1 a t).2 + 1 ≤ j
      · have e : t.drop j = (t.drop ((mk1 a t).2 + 1)).drop (j - ((mk1 a t).2 + 1)) := by
          rw [List.drop_drop]; congr 1; omega
        rw [e]
        exact Nat.le_succ_of_le (ih _ (by rw [hd]; omega) _)
      · have hs0 : 0 < (t.drop j).length := by rw [hd]; omega
        rw [cnt_pos a (t.drop j) hs0]
        have hf := mk1_fits a t ht
        have hns : (mk1 a t).2 - j ≤ (mk1 a (t.drop j)).2 := by
          refine mk1_max a (t.drop j) ((mk1 a t).1 + j) ((mk1 a t).2 - j) (by omega) (by omega) (by rw [hd]; omega) ?_
          have := mk1_take a t ht
          have := congrArg (List.drop j) this
          rw [List.drop_take, List.drop_take, List.drop_drop] at this
          exact this
        have e : (t.drop j).drop ((mk1 a (t.drop j)).2 + 1) = (t.drop ((mk1 a t).2 + 1)).drop (j + (mk1 a (t.drop j)).2 - (mk1 a t).2) := by
          rw [List.drop_drop, List.drop_drop]; congr 1; omega
        rw [e]
        exact Nat.succ_le_succ (ih _ (by rw [hd]; omega) _)
    · have : t = [] := List.length_eq_zero_iff.1 (by omega)
      subst this; simp
theorem cnt_le (a : List Int) : ∀ (l : List Cp) (out o : List Int), doC a l out = some o → ∃ b, o = out ++ b ∧ cnt a b ≤ l.length
  | [], out, o, h => by
    cases h
    exact ⟨[], by simp, Nat.zero_le _⟩
  | c :: r, out, o, h => by
    simp only [doC] at h
    cases hc : okCp a.length out c with
    | false => rw [hc] at h; cases h
    | true =>
      rw [hc, bif_true] at h
      obtain ⟨b, e, hb⟩ := cnt_le a r _ o h
      rw [okCp_iff] at hc
      obtain ⟨f, n, x⟩ := c
      simp only at hc
      obtain ⟨f, rfl⟩ : ∃ f' : Nat, f = f' := ⟨f.toNat, by omega⟩
      obtain ⟨n, rfl⟩ : ∃ n' : Nat, n = n' := ⟨n.toNat, by omega⟩
      simp only [addCp, Int.toNat_natCast] at e
      have hl : ((a.drop f).take n).length = n := by rw [List.length_take, List.length_drop]; omega
      refine ⟨(a.drop f).take n ++ [x] ++ b, by rw [e]; simp [List.append_assoc], ?_⟩
      obtain ⟨t, ht⟩ : ∃ t, t = (a.drop f).take n ++ [x] ++ b := ⟨_, rfl⟩
      rw [← ht]
      have htl : t.length = n + 1 + b.length := by rw [ht]; simp only [List.length_append, hl, List.length_cons, List.length_nil]
      have hm : n ≤ (mk1 a t).2 := mk1_max a t f n (by omega) (by omega) (by omega) (by
        rw [ht, List.append_assoc, List.take_append_of_le_length (by omega), List.take_take, Nat.min_self])
      have hdr : t.drop (n + 1) = b := by
        rw [ht]
        exact List.drop_left' (by rw [List.length_append, hl]; rfl)
      rw [cnt_pos a t (by omega), List.length_cons]
      have e2 : t.drop ((mk1 a t).2 + 1) = b.drop ((mk1 a t).2 - n) := by
        rw [← hdr, List.drop_drop]; congr 1; omega
      rw [e2]
      have := cnt_drop a b.length b (Nat.le_refl _) ((mk1 a t).2 - n)
      omega

/-! #### the laws -/
theorem badCopies_ok {k : Nat} {c : Cur} (h : CurOk k c) (hk : k < 1000000000) (l : List Cp) (hl : l.length ≤ 1000) : ∃ x c', spec_l01Cur_badCopies c l = some (x, c') ∧ x.length = l.length := by
  rw [spec_l01Cur_badCopies.eq]
  by_cases h0 : (l.length : Int) > 0
  · rw [bif_dec h0]
    obtain ⟨x1, c1, e1, g1, a1, b1⟩ := pick_ok h (by omega) (if (l.length : Int) < 200 then (l.length : Int) else 200)
    have hx1 : x1 < l.length := by
      rcases b1 with b1 | b1
      · split at b1 <;> omega
      · omega
    obtain ⟨x2, c2, e2, g2, _⟩ := pick_ok g1 (by omega) 7
    obtain ⟨x3, c3, e3, g3, _⟩ := raw_ok g2 (by omega)
    obtain ⟨x4, c4, e4, g4, _⟩ := pick_ok g3 (by omega) 9
    obtain ⟨x5, c5, e5, g5, a5, b5⟩ := pick_ok g4 (by omega) 2
    obtain ⟨y, y1, y2, y3⟩ := pick_list ([x3, x4] : List Int) x5 a5 (by simp; omega)
    obtain ⟨z, z1, z2, z3⟩ := pick_list l x1 a1 hx1
    simp only [pair_eta, e1, e2, e3, e4, e5, y1, y2, z1, z2, Option.bind_some]
    by_cases q0 : x2 = 0
    · rw [bif_eq q0]; exact ⟨_, _, rfl, by simp⟩
    rw [bif_neq q0]
    by_cases q1 : x2 = 1
    · rw [bif_eq q1]; exact ⟨_, _, rfl, by simp⟩
    rw [bif_neq q1]
    by_cases q2 : x2 = 2
    · rw [bif_eq q2]; exact ⟨_, _, rfl, by simp⟩
    rw [bif_neq q2]; exact ⟨_, _, rfl, rfl⟩
  · rw [bif_ndec h0]; exact ⟨_, _, rfl, rfl⟩
theorem law_CopyFew (xs : List Int) (hx : goodA tab laws_FnCopyFew.as xs) : laws_FnCopyFew.fn xs = some true := by
  show laws_FnCopyFew xs = some true
  rw [laws_FnCopyFew.eq, big_eq, Option.bind_some]
  by_cases h : (xs.length : Int) > 1048576
  · rw [bif_dec h]
  · rw [bif_ndec h]
    obtain ⟨c, e0, g0⟩ := open_ok xs (code_bytes hx h)
    obtain ⟨a, b, c1, e1, g1, ha, hb⟩ := rows_ok g0 (by omega)
    have hol := COf_len a b
    obtain ⟨l, c2, e2, hl⟩ := badCopies_ok g1 (by omega) (COf a b).1 (by omega)
    have ed : spec_DrawCopyDo xs = some (a, l) := by
      rw [spec_DrawCopyDo.eq]; simp only [pair_eta, e0, e1, Option.bind_some]
      rw [specCopyOf_eq _ _ (by omega) (by omega), Option.bind_some, e2, Option.bind_some]
    rw [ed, Option.bind_some]
    simp only
    rw [specCopyDo_eq _ _ (by omega), Option.bind_some, implCopyDo_eq _ _ (by omega) (by unfold maxLen; omega), Option.bind_some, beq_self_eq_true, Bool.not_true, bif_false]
    cases hf : (CDo a l).2 with
    | false => rfl
    | true =>
      have hdl := CDo_len a l
      rw [Bool.not_true, bif_false, implCopyOf_eq _ _ (by omega) (by omega), Option.bind_some, same_eq _ _ (by omega), Option.bind_some, decide_eq_true rfl, bif_true]
      unfold CDo at hf ⊢
      cases hoa : okC a with
      | false => rw [hoa] at hf; exact absurd hf (by simp)
      | true =>
        rw [hoa] at hf
        simp only [bif_true] at hf ⊢
        cases hd : doC a l [] with
        | none => rw [hd] at hf; exact absurd hf (by simp [fin])
        | some o =>
          rw [hd] at hf
          simp only [fin] at hf ⊢
          have hoo : okC o = true := by
            cases hoo : okC o with
            | false => rw [hoo] at hf; exact absurd hf (by simp)
            | true => rfl
          simp only [bif_true, COf, hoa, hoo]
          obtain ⟨b', e, hc⟩ := cnt_le a l [] o hd
          simp only [List.nil_append] at e
          subst e
          have : (cps a o.length o).length ≤ l.length := hc
          rw [decide_eq_true (by omega)]
theorem lpick_ok (code : List Int) (hc : Bytes code) (at_ n : Int) (ha : 0 ≤ at_) (ha2 : at_ ≤ 1000) (hn : 1 ≤ n) : ∃ x, laws_pick code at_ n = some x ∧ 0 ≤ x ∧ x < n := by
  rw [laws_pick.eq]
  by_cases h0 : (code.length : Int) = 0
  · rw [bif_eq h0]; exact ⟨0, rfl, by omega, by omega⟩
  rw [bif_neq h0]
  by_cases h1 : n < 2
  · rw [bif_dec h1]; exact ⟨0, rfl, by omega, by omega⟩
  rw [bif_ndec h1, laws_pick_l0.eq]
  have step : ∀ (i x : Int), 0 ≤ i → i < 3 → 0 ≤ x → x ≤ 10000000 → ∃ y, laws_pick_l1 code at_ n x i = laws_pick_l1 code at_ n y (i + 1) ∧ 0 ≤ y ∧ y ≤ 31 * x + 255 := by
    intro i x hi hi3 hx hx2
    have hm := tmod_range (at_ + i) code.length (by omega) (by omega)
    rw [laws_pick_l1.eq, bif_dec hi3, bif_ndec h0, wrapI (x := at_ + i) (by omega) (by omega), wrapI (x := i + 1) (by omega) (by omega)]
    obtain ⟨y, y1, _, y3⟩ := pick_list code ((at_ + i).tmod code.length) hm.1 hm.2
    have hb := hc.2 y y3
    rw [y1, Option.bind_some, wrapI (x := 31 * x) (by omega) (by omega), wrapI (x := y) (by omega) (by omega), wrapI (x := 31 * x + y) (by omega) (by omega)]
    exact ⟨31 * x + y, rfl, by omega, by omega⟩
  obtain ⟨y1, e1, p1, q1⟩ := step 0 0 (by omega) (by omega) (by omega) (by omega)
  obtain ⟨y2, e2, p2, q2⟩ := step 1 y1 (by omega) (by omega) (by omega) (by omega)
  obtain ⟨y3, e3, p3, q3⟩ := step 2 y2 (by omega) (by omega) (by omega) (by omega)
  rw [e1, show (0 : Int) + 1 = 1 by rfl, e2, show (1 : Int) + 1 = 2 by rfl, e3, show (2 : Int) + 1 = 3 by rfl, laws_pick_l1.eq, bif_ndec (by omega), bif_ndec (by omega), wrapI (by omega) (by omega)]
  have := tmod_range (y3 + at_) n (by omega) (by omega)
  exact ⟨_, rfl, this⟩
theorem back_l4 (k x : Int) (t : Bool) (most run : Int) (a b : List Int) (l : List Cp) (ha : a.length ≤ 301) (hb0 : 0 < b.length) (hb : b.length ≤ 301) (i : Nat) (hi : i < a.length) : ∀ (d n : Nat), a.length + 1 - n = d → i + n ≤ a.length → n < b.length →
    laws_FnCopyBack_l4 k x t most run i n a b l = laws_FnCopyBack_l3 k x t most (max run (n + com (a.drop (i + n)) ((b.drop n).dropLast) : Nat)) (i + 1 : Nat) a b l := by
  intro d
  induction d with
  | zero => intro n hd h1 h2; omega
  | succ d ih =>
    intro n hd h1 h2
    rw [laws_FnCopyBack_l4.eq, wrapI (x := (i : Int) + n) (by omega) (by omega), wrapI (x := (b.length : Int) - 1) (by omega) (by omega), wrapS n (by omega), wrapS i (by omega)]
    have fin : com (a.drop (i + n)) ((b.drop n).dropLast) = 0 → laws_FnCopyBack_l3 k x t most (if (n : Int) > run then (n : Int) else run) (i + 1 : Nat) a b l = laws_FnCopyBack_l3 k x t most (max run (n + com (a.drop (i + n)) ((b.drop n).dropLast) : Nat)) (i + 1 : Nat) a b l := by
      intro h0
      rw [h0, Nat.add_zero]
      congr 1
      split <;> omega
    by_cases h3 : i + n < a.length
    · rw [bif_dec (by omega)]
      by_cases h4 : n + 1 < b.length
      · rw [bif_dec (by omega), show (i : Int) + (n : Int) = ((i + n : Nat) : Int) by omega]
        simp only [Int.toNat_natCast, at?_lt _ _ h3, at?_lt _ _ h2, List.getElem?_eq_getElem h3, List.getElem?_eq_getElem h2, Option.bind_some]
        have e1 : a.drop (i + n) = a[i + n] :: a.drop (i + (n + 1)) := List.drop_eq_getElem_cons h3
        have e2 : (b.drop n).dropLast = b[n] :: (b.drop (n + 1)).dropLast := by
          rw [List.drop_eq_getElem_cons h2, List.dropLast_cons_of_ne_nil (by intro h; have := congrArg List.length h; simp at this; omega)]
        by_cases h6 : a[i + n] = b[n]
        · rw [bif_eq h6, ih (n + 1) (by omega) (by omega) (by omega), e1, e2]
          have e3 : com (a[i + n] :: a.drop (i + (n + 1))) (b[n] :: (b.drop (n + 1)).dropLast) = com (a.drop (i + (n + 1))) ((b.drop (n + 1)).dropLast) + 1 := by
            simp only [com, h6, beq_self_eq_true, bif_true]
          rw [e3, show n + 1 + com (a.drop (i + (n + 1))) ((b.drop (n + 1)).dropLast) = n + (com (a.drop (i + (n + 1))) ((b.drop (n + 1)).dropLast) + 1) by omega]
        · rw [bif_neq h6]
          refine fin ?_
          rw [e1, e2]
          simp only [com, beq_eq_false_iff_ne.2 h6, bif_false]
      · rw [bif_ndec (by omega)]
        refine fin ?_
        have : (b.drop n).dropLast = [] := List.eq_nil_of_length_eq_zero (by rw [List.length_dropLast, List.length_drop]; omega)
        rw [this]
        cases a.drop (i + n) <;> rfl
    · rw [bif_ndec (by omega)]
      refine fin ?_
      rw [drop_nil a (by omega)]
      rfl
theorem back_l3 (k x : Int) (t : Bool) (most : Int) (a b : List Int) (l : List Cp) (ha : a.length ≤ 301) (hb0 : 0 < b.length) (hb : b.length ≤ 301) : ∀ (d i : Nat), a.length - i = d → i ≤ a.length → ∀ run : Nat,
    laws_FnCopyBack_l3 k x t most run i a b l = laws_FnCopyBack_l3 k x t most (mxc b.dropLast (a.drop i) run : Nat) a.length a b l := by
  intro d
  induction d with
  | zero =>
    intro i hd hi run
    rw [drop_nil a (by omega), show i = a.length by omega]
    rfl
  | succ d ih =>
    intro i hd hi run
    have hlt : i < a.length := by omega
    rw [laws_FnCopyBack_l3.eq, bif_dec (by omega)]
    have := back_l4 k x t most run a b l ha hb0 hb i hlt (a.length + 1) 0 (by omega) (by omega) hb0
    have e0 : ((0 : Nat) : Int) = 0 := rfl
    simp only [Nat.add_zero, Nat.zero_add, List.drop_zero, e0] at this
    have e2 : max (run : Int) ((com (a.drop i) b.dropLast : Nat) : Int) = ((max run (com (a.drop i) b.dropLast) : Nat) : Int) := by omega
    rw [this, e2, ih (i + 1) (by omega) (by omega), List.drop_eq_getElem_cons hlt]
    rfl
theorem back_l2 (k x : Int) (t : Bool) (a b : List Int) (l : List Cp) (hl : l.length ≤ 301) : ∀ (d i : Nat), l.length - i = d → i ≤ l.length → ∀ m : Int, ∃ m', laws_FnCopyBack_l2 k x t m i a b l = laws_FnCopyBack_l3 k x t m' 0 0 a b l ∧ m ≤ m' ∧ ∀ c ∈ l.drop i, c.2.1 ≤ m' := by
  intro d
  induction d with
  | zero =>
    intro i hd hi m
    rw [laws_FnCopyBack_l2.eq, bif_ndec (by omega), drop_nil l (by omega)]
    exact ⟨m, rfl, Int.le_refl _, by simp⟩
  | succ d ih =>
    intro i hd hi m
    have hlt : i < l.length := by omega
    rw [laws_FnCopyBack_l2.eq, bif_dec (by omega)]
    simp only [at?_lt _ _ hlt, Int.toNat_natCast, List.getElem?_eq_getElem hlt, Option.bind_some, wrapS i (by omega)]
    obtain ⟨m', e, h1, h2⟩ := ih (i + 1) (by omega) (by omega) (if l[i].2.1 > m then l[i].2.1 else m)
    refine ⟨m', e, by split at h1 <;> omega, fun c hc => ?_⟩
    rw [List.drop_eq_getElem_cons hlt] at hc
    rcases List.mem_cons.1 hc with rfl | hc
    · split at h1 <;> omega
    · exact h2 c hc
theorem law_CopyBack (xs : List Int) (hx : goodA tab laws_FnCopyBack.as xs) : laws_FnCopyBack.fn xs = some true := by
  show laws_FnCopyBack xs = some true
  rw [laws_FnCopyBack.eq, big_eq, Option.bind_some]
  by_cases h : (xs.length : Int) > 1048576
  · rw [bif_dec h]
  · rw [bif_ndec h]
    have hB := code_bytes hx h
    obtain ⟨c, e0, g0⟩ := open_ok xs hB
    obtain ⟨a, b', c1, e1, g1, ha, hb'⟩ := rows_ok g0 (by omega)
    obtain ⟨x2, c2, e2, g2⟩ := once_ok g1 (by omega) 9
    obtain ⟨b, hb, ed⟩ : ∃ b : List Int, b.length ≤ 2000 ∧ spec_DrawCopyOf xs = some (a, b) := by
      rw [spec_DrawCopyOf.eq]; simp only [pair_eta, e0, e1, e2, Option.bind_some]
      cases x2 with
      | false => exact ⟨b', by omega, rfl⟩
      | true =>
        obtain ⟨r, c3, e3, g3, hr⟩ := badRow_ok g2 (by omega)
        exact ⟨r, hr, by simp only [bif_true, e3, Option.bind_some]⟩
    rw [ed, Option.bind_some]
    simp only
    rw [specCopyOf_eq _ _ (by omega) (by omega), Option.bind_some, implCopyOf_eq _ _ (by omega) (by omega), Option.bind_some, beq_self_eq_true, Bool.not_true, bif_false]
    unfold COf
    cases hoa : okC a with
    | false => rfl
    | true =>
      cases hob : okC b with
      | false => rfl
      | true =>
        have hal := okC_len hoa
        have hbl := okC_len hob
        have hcl := cps_len a b.length b
        simp only [bif_true, Bool.not_true, bif_false]
        obtain ⟨l, hl⟩ : ∃ l, l = cps a b.length b := ⟨_, rfl⟩
        have hdo := CDo_COf a b hoa hob
        rw [← hl] at hdo hcl ⊢
        rw [laws_FnCopyBack_l0.eq, bif_dec (by simp only [List.length_nil]; omega), List.nil_append, implCopyDo_eq _ _ (by omega) (by unfold maxLen; omega), Option.bind_some, hdo]
        simp only [Bool.not_true, bif_false]
        rw [same_eq _ _ (by omega), Option.bind_some, decide_eq_true rfl, Bool.not_true, bif_false, laws_FnCopyBack_l1.eq]
        by_cases hb0 : (b.length : Int) = 0
        · rw [bif_eq hb0]
          have : b = [] := List.length_eq_zero_iff.1 (by omega)
          subst this
          rw [hl]; rfl
        · rw [bif_neq hb0]
          obtain ⟨k, ek, k0, k1⟩ := lpick_ok xs hB 3 b.length (by omega) (by omega) (by omega)
          obtain ⟨y, y1, y2, y3⟩ := pick_list b k k0 k1
          have hat : CAt a l k = (y, true) := by
            unfold CAt
            rw [hdo]
            simp only [Bool.true_and, decide_eq_true k0, bif_true, y2]
          rw [ek, Option.bind_some, implCopyAt_eq _ _ _ (by omega) (by unfold maxLen; omega), Option.bind_some, hat]
          simp only
          obtain ⟨m', em, hm1, hm2⟩ := back_l2 k y true a b l (by omega) l.length 0 (by omega) (by omega) 0
          have e0 : ((0 : Nat) : Int) = 0 := rfl
          rw [e0] at em
          rw [em]
          have h3 := back_l3 k y true m' a b l (by omega) (by omega) (by omega) a.length 0 (by omega) (by omega) 0
          rw [e0, List.drop_zero] at h3
          have hlen : 0 < b.length := by omega
          obtain ⟨n, hn⟩ : ∃ n, b.length = n + 1 := ⟨b.length - 1, by omega⟩
          have hne : b ≠ [] := List.length_pos_iff.1 hlen
          have hl0 : ∃ r, l = (((mk1 a b).1 : Int), ((mk1 a b).2 : Int), b.getD (mk1 a b).2 0) :: r := by
            rw [hl, hn]; simp only [cps, if_neg hne]; exact ⟨_, rfl⟩
          obtain ⟨r, hr⟩ := hl0
          have hmx : ((mxc b.dropLast a 0 : Nat) : Int) = ((mk1 a b).2 : Int) := by unfold mk1; rw [bst_mxc]
          rw [h3, laws_FnCopyBack_l3.eq, bif_ndec (by omega), bif_true, y1, Option.bind_some, y2, Option.bind_some, bif_eq rfl, hr, at?_zero]
          simp only [List.getElem?_cons_zero, Option.bind_some]
          have := hm2 (((mk1 a b).1 : Int), ((mk1 a b).2 : Int), b.getD (mk1 a b).2 0) (by rw [hr]; simp)
          simp only at this
          rw [hmx, bif_eq rfl, decide_eq_true (by omega)]
end Go.Ev.W
