/- Drawn lists and copies; the laws over them. -/
import Derived.Test.YthbijcdnjgfndaaEvB
import Derived.Test.YthbijcdnjgfndaaPa21
import Derived.Test.YthbijcdnjgfndaaPa22
import Derived.Test.YthbijcdnjgfndaaPa23
import Derived.Test.YthbijcdnjgfndaaM15c
import Derived.Test.YthbijcdnjgfndaaMCur
set_option linter.unusedVariables false
set_option linter.unusedSimpArgs false
namespace Go.Ev.W
open Go.Ev

theorem rows_l1_ok {k : Nat} {c : Cur} (h : CurOk k c) (hk : k < 100000000000) (a b : List Int) (ha : a.length ≤ 1000) (hb : b.length ≤ 1000) : ∃ x y c', spec_l01Cur_rows_l1 c.1 c.2.1 c.2.2 a b = some (x, y, c') ∧ CurOk (k + 2) c' ∧ x.length ≤ 1000 ∧ y.length ≤ 1000 := by
  rw [spec_l01Cur_rows_l1.eq]
  obtain ⟨x1, c1, e1, g1⟩ := once_ok h (by omega) 60
  simp only [pair_eta, e1, Option.bind_some]
  cases x1 with
  | false => exact ⟨a, b, c1, rfl, g1.mono (by omega), ha, hb⟩
  | true =>
    obtain ⟨x2, c2, e2, g2, a2, b2⟩ := pick_ok g1 (by omega) 2
    simp only [bif_true, e2, Option.bind_some]
    rw [wrapI (x := 301 + x2) (by omega) (by omega), decide_eq_true (show 0 ≤ 301 + x2 by omega), Bool.true_and, bif_dec (by omega)]
    exact ⟨_, b, c2, rfl, g2, by rw [List.length_replicate]; omega, hb⟩
theorem rows_l0_ok (a : List Int) (ha : a.length ≤ 100) : ∀ (d i k : Nat) (c : Cur) (out : List Int), a.length - i = d → i ≤ a.length → CurOk k c → k + 3 * d < 10000000000 → out.length + 2 * d ≤ 1000 →
    ∃ x y c', spec_l01Cur_rows_l0 i c.1 c.2.1 c.2.2 a out = some (x, y, c') ∧ CurOk (k + 3 * d + 3000010) c' ∧ x.length ≤ 1000 ∧ y.length ≤ 1000 := by
  intro d
  induction d with
  | zero =>
    intro i k c out hd hi h hk ho
    obtain ⟨x1, c1, e1, g1⟩ := once_ok h (by omega) 5
    rw [spec_l01Cur_rows_l0.eq, bif_ndec (by omega)]
    simp only [pair_eta, e1, Option.bind_some]
    cases x1 with
    | false =>
      obtain ⟨x, y, c', e, g, r⟩ := rows_l1_ok g1 (by omega) a out (by omega) (by omega)
      exact ⟨x, y, c', e, g.mono (by omega), r⟩
    | true =>
      obtain ⟨l, c2, e2, g2, a2, b2⟩ := numbers_ok g1 (by omega) 14 4 (by omega) (by omega)
      simp only [bif_true, e2, Option.bind_some]
      obtain ⟨x, y, c', e, g, r⟩ := rows_l1_ok g2 (by omega) a l (by omega) (by omega)
      exact ⟨x, y, c', e, g.mono (by omega), r⟩
  | succ d ih =>
    intro i k c out hd hi h hk ho
    have hlt : i < a.length := by omega
    obtain ⟨x1, c1, e1, g1⟩ := once_ok h (by omega) 5
    rw [spec_l01Cur_rows_l0.eq, bif_dec (by omega)]
    simp only [pair_eta, e1, Option.bind_some, at?_lt _ _ hlt, Int.toNat_natCast, List.getElem?_eq_getElem hlt]
    cases x1 with
    | false =>
      obtain ⟨x3, c3, e3, g3⟩ := once_ok g1 (by omega) 5
      simp only [bif_false, e3, Option.bind_some]
      rw [wrapS _ (by omega), bif_dec (by simp only [List.length_cons, List.length_nil]; omega)]
      cases x3 with
      | false =>
        obtain ⟨x, y, c', e, g, r⟩ := ih (i + 1) (k + 2) c3 (out ++ [a[i]]) (by omega) (by omega) (g3.mono (by omega)) (by omega) (by simp; omega)
        exact ⟨x, y, c', e, g.mono (by omega), r⟩
      | true =>
        obtain ⟨x, y, c', e, g, r⟩ := ih (i + 1) (k + 2) c3 out (by omega) (by omega) (g3.mono (by omega)) (by omega) (by omega)
        exact ⟨x, y, c', e, g.mono (by omega), r⟩
    | true =>
      obtain ⟨x2, c2, e2, g2, _⟩ := pick_ok g1 (by omega) 4
      obtain ⟨x3, c3, e3, g3⟩ := once_ok g2 (by omega) 5
      simp only [bif_true, e2, e3, Option.bind_some]
      rw [wrapS _ (by omega), bif_dec (by simp only [List.length_cons, List.length_nil]; omega), bif_dec (by simp only [List.length_append, List.length_cons, List.length_nil]; omega)]
      cases x3 with
      | false =>
        obtain ⟨x, y, c', e, g, r⟩ := ih (i + 1) (k + 3) c3 (out ++ [x2] ++ [a[i]]) (by omega) (by omega) (g3.mono (by omega)) (by omega) (by simp; omega)
        exact ⟨x, y, c', e, g.mono (by omega), r⟩
      | true =>
        obtain ⟨x, y, c', e, g, r⟩ := ih (i + 1) (k + 3) c3 (out ++ [x2]) (by omega) (by omega) (g3.mono (by omega)) (by omega) (by simp; omega)
        exact ⟨x, y, c', e, g.mono (by omega), r⟩
theorem rows_ok {k : Nat} {c : Cur} (h : CurOk k c) (hk : k < 1000000000) : ∃ x y c', spec_l01Cur_rows c = some (x, y, c') ∧ CurOk (k + 7000000) c' ∧ x.length ≤ 1000 ∧ y.length ≤ 1000 := by
  obtain ⟨x1, c1, e1, g1, a1, b1⟩ := pick_ok h (by omega) 3
  rw [spec_l01Cur_rows.eq]
  simp only [pair_eta, e1, Option.bind_some]
  obtain ⟨y, y1, y2, y3⟩ := pick_list ([2, 4, 30] : List Int) x1 a1 (by simp; omega)
  rw [y1, Option.bind_some, y2, Option.bind_some]
  obtain ⟨l, c2, e2, g2, a2, b2⟩ := numbers_ok g1 (by omega) 14 y (by omega) (by omega)
  simp only [e2, Option.bind_some]
  obtain ⟨x, y, c', e, g, r⟩ := rows_l0_ok l (by omega) l.length 0 (k + 1 + 3000001) c2 [] (by omega) (by omega) g2 (by omega) (by simp; omega)
  exact ⟨x, y, c', e, g.mono (by omega), r⟩
theorem badRow_ok {k : Nat} {c : Cur} (h : CurOk k c) (hk : k < 1000000000) : ∃ x c', spec_l01Cur_badRow c = some (x, c') ∧ CurOk (k + 8000000) c' ∧ x.length ≤ 2000 := by
  obtain ⟨x, y, c1, e1, g1, r1, r2⟩ := rows_ok h hk
  obtain ⟨x2, c2, e2, g2, a2, b2⟩ := pick_ok g1 (by omega) 9
  rw [spec_l01Cur_badRow.eq]
  simp only [pair_eta, e1, e2, Option.bind_some]
  by_cases h1 : x2 = 0
  · rw [bif_eq h1]
    obtain ⟨x3, c3, e3, g3, _⟩ := raw_ok g2 (by omega)
    obtain ⟨x4, c4, e4, g4, a4, b4⟩ := pick_ok g3 (by omega) 3
    simp only [e3, e4, Option.bind_some]
    obtain ⟨y, y1, y2, y3⟩ := pick_list ([x3, 1000000, -1000001] : List Int) x4 a4 (by simp; omega)
    rw [y1, Option.bind_some, y2, Option.bind_some, bif_dec (by simp only [List.length_cons, List.length_nil]; omega)]
    exact ⟨_, c4, rfl, g4.mono (by omega), by simp; omega⟩
  · rw [bif_neq h1]
    by_cases h2 : x2 = 1
    · rw [bif_eq h2, bif_dec (by simp only [List.length_cons, List.length_nil]; omega)]
      exact ⟨_, c2, rfl, g2.mono (by omega), by simp; omega⟩
    · rw [bif_neq h2]
      exact ⟨_, c2, rfl, g2.mono (by omega), by omega⟩
theorem big_eq (xs : List Int) : laws_big xs = some (decide ((xs.length : Int) > 1048576)) := laws_big.eq xs
theorem same_eq (xs ys : List Int) (h : xs.length < 4611686018427387904) : laws_same xs ys = some (decide (xs = ys)) := by
  rw [laws_same.eq]
  exact eq_list xs ys _ fun hl => eq_loop (fun x y => some (!(x != y))) xs ys hl h (fun x _ y _ => by rw [bne, Bool.not_not]; exact congrArg some (by rw [Bool.eq_iff_iff]; simp)) (laws_same_l0 xs ys) (fun i => by rw [laws_same_l0.eq]; simp only [Option.bind_some, Bool.not_not])
/-- What a law that draws is given. -/
theorem code_bytes {xs : List Int} (h : AllP (α := Tup [CT.int .u8]) (allL (goodC 4) [CT.int .u8]) xs) (hl : ¬ (xs.length : Int) > 1048576) : Bytes xs := by
  refine ⟨by omega, fun x hx => ?_⟩
  have := h.2 x hx
  have : (Lit.int .u8 x).wf = true := this
  simp only [Lit.wf, Bool.and_eq_true, decide_eq_true_eq] at this
  exact this
theorem sums_difs : ∀ (r : List Int) (p : Int), sums p (difs p r) = r
  | [], _ => rfl
  | x :: r, p => by simp only [difs, sums]; rw [show p + (x - p) = x by omega, sums_difs r x]
theorem sums_Dif (xs : List Int) : sums 0 (Dif xs) = xs := by
  cases xs with
  | nil => rfl
  | cons x r => simp only [Dif, sums, Int.zero_add, sums_difs]
theorem law_FnDeltas (xs : List Int) (hx : goodA tab laws_FnDeltas.as xs) : laws_FnDeltas.fn xs = some true := by
  show laws_FnDeltas xs = some true
  rw [laws_FnDeltas.eq, big_eq, Option.bind_some]
  by_cases h : (xs.length : Int) > 1048576
  · rw [bif_dec h]
  · rw [bif_ndec h]
    obtain ⟨c, e0, g0⟩ := open_ok xs (code_bytes hx h)
    obtain ⟨l, c1, e1, g1, hl⟩ := badRow_ok g0 (by omega)
    have ed : spec_DrawDeltas xs = some l := by
      rw [spec_DrawDeltas.eq]; simp only [pair_eta, e0, e1, Option.bind_some]
    have hd := Dels_len l
    rw [ed, Option.bind_some, specDeltas_eq _ (by omega), Option.bind_some, implDeltas_eq _ (by omega), Option.bind_some, beq_self_eq_true, Bool.not_true, bif_false]
    cases hf : (Dels l).2 with
    | false => rfl
    | true =>
      rw [Bool.not_true, bif_false, implUndelta_eq _ (by omega), Option.bind_some]
      have hok : okC l = true ∧ okC (Dif l) = true ∧ (Dels l).1 = Dif l := by
        unfold Dels at hf ⊢
        cases h1 : okC l with
        | false => rw [h1] at hf; cases hf
        | true =>
          rw [h1, bif_true] at hf
          cases h2 : okC (Dif l) with
          | false => rw [h2] at hf; cases hf
          | true => exact ⟨rfl, rfl, rfl⟩
      have hu : Und (Dels l).1 = (l, true) := by
        rw [hok.2.2, Und, hok.2.1, sums_Dif, hok.1]; rfl
      rw [hu]
      simp only [bif_true]
      rw [same_eq _ _ (by omega), Option.bind_some]
      simp
end Go.Ev.W
