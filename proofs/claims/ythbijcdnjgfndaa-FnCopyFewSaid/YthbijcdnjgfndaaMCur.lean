/- Drawn inputs: a reader of bytes always gives something, within bounds. -/
import Derived.Test.YthbijcdnjgfndaaEvB
import Derived.Test.YthbijcdnjgfndaaPa21
import Derived.Test.YthbijcdnjgfndaaMLaw
set_option linter.unusedVariables false
set_option linter.unusedSimpArgs false
namespace Go.Ev.W
open Go.Ev

abbrev Cur := List Int × Int × Int
/-- A reader that has been asked at most k times. -/
def CurOk (k : Nat) (c : Cur) : Prop := c.1.length ≤ 1048576 ∧ 0 ≤ c.2.1 ∧ c.2.1 ≤ k ∧ 0 ≤ c.2.2 ∧ c.2.2 ≤ 100000 ∧ ∀ x ∈ c.1, 0 ≤ x ∧ x ≤ 255
theorem CurOk.mono {k m : Nat} {c : Cur} (h : CurOk k c) (hm : k ≤ m) : CurOk m c := by
  obtain ⟨a, b, c, d⟩ := h
  exact ⟨a, b, by omega, d⟩
def Bytes (xs : List Int) : Prop := xs.length ≤ 1048576 ∧ ∀ x ∈ xs, 0 ≤ x ∧ x ≤ 255

theorem tmod_range (x n : Int) (hx : 0 ≤ x) (hn : 0 < n) : 0 ≤ x.tmod n ∧ x.tmod n < n := by
  rw [Int.tmod_eq_emod_of_nonneg hx]
  exact ⟨Int.emod_nonneg _ (by omega), Int.emod_lt_of_pos _ hn⟩
theorem open_ok (xs : List Int) (h : Bytes xs) : ∃ c, spec_l01Open xs = some c ∧ CurOk 0 c := by
  rw [spec_l01Open.eq]
  have := tmod_range (xs.length : Int) 1000 (by omega) (by omega)
  refine ⟨_, rfl, h.1, Int.le_refl _, Int.le_refl _, ?_, ?_, h.2⟩
  · show 0 ≤ IntKind.i64.wrap _; rw [wrapI (by omega) (by omega)]; omega
  · show IntKind.i64.wrap _ ≤ _; rw [wrapI (by omega) (by omega)]; omega
theorem pick_ok {k : Nat} {c : Cur} (h : CurOk k c) (hk : k < 1000000000000) (n : Int) : ∃ x c', spec_l01Cur_pick c n = some (x, c') ∧ CurOk (k + 1) c' ∧ 0 ≤ x ∧ (x < n ∨ x = 0) := by
  obtain ⟨code, at_, seed⟩ := c
  obtain ⟨h1, h2, h3, h4, h5, h6⟩ := h
  simp only at h1 h2 h3 h4 h5 h6
  rw [spec_l01Cur_pick.eq]
  by_cases hn : n < 2
  · rw [bif_dec hn]
    exact ⟨0, _, rfl, ⟨h1, h2, by simp only; omega, h4, h5, h6⟩, Int.le_refl _, .inr rfl⟩
  rw [bif_ndec hn]
  have ha : IntKind.i64.wrap (at_ + 1) = at_ + 1 := wrapI (by omega) (by omega)
  have s1 : IntKind.i64.wrap (seed * 1103) = seed * 1103 := wrapI (by omega) (by omega)
  have s2 : IntKind.i64.wrap (seed * 1103 + 12345) = seed * 1103 + 12345 := wrapI (by omega) (by omega)
  have s3 := tmod_range (seed * 1103 + 12345) 65521 (by omega) (by omega)
  simp only [ha, s1, s2]
  generalize (seed * 1103 + 12345).tmod 65521 = s at s3
  by_cases hlt : at_ < (code.length : Int)
  · obtain ⟨i, rfl⟩ : ∃ i : Nat, at_ = i := ⟨at_.toNat, by omega⟩
    have hi : i < code.length := by omega
    have hb := h6 _ (List.getElem_mem hi)
    rw [bif_dec hlt, at?_lt _ _ hi, Option.bind_some, bif_ndec (by omega), wrapI (by omega) (by omega)]
    have := tmod_range code[i] n hb.1 (by omega)
    exact ⟨_, _, rfl, ⟨h1, by simp only; omega, by simp only; omega, h4, h5, h6⟩, this.1, .inl this.2⟩
  · rw [bif_ndec hlt]
    by_cases hc : (code.length : Int) > 0
    · rw [bif_dec hc, bif_ndec (by omega)]
      have hm := tmod_range at_ code.length h2 (by omega)
      obtain ⟨i, hi⟩ : ∃ i : Nat, at_.tmod code.length = i := ⟨(at_.tmod code.length).toNat, by omega⟩
      rw [hi] at hm ⊢
      have hi : i < code.length := by omega
      have hb := h6 _ (List.getElem_mem hi)
      have hd : 0 ≤ s.tdiv 7 ∧ s.tdiv 7 ≤ s := by
        rw [Int.tdiv_eq_ediv_of_nonneg s3.1]; omega
      rw [at?_lt _ _ hi, Option.bind_some, bif_ndec (by omega), wrapI (x := s.tdiv 7) (by omega) (by omega), wrapI (x := code[i]) (by omega) (by omega), wrapI (by omega) (by omega)]
      have := tmod_range (s.tdiv 7 + code[i]) n (by omega) (by omega)
      exact ⟨_, _, rfl, ⟨h1, by simp only; omega, by simp only; omega, s3.1, by simp only; omega, h6⟩, this.1, .inl this.2⟩
    · rw [bif_ndec hc, bif_ndec (by omega)]
      have := tmod_range 0 n (by omega) (by omega)
      exact ⟨_, _, rfl, ⟨h1, by simp only; omega, by simp only; omega, s3.1, by simp only; omega, h6⟩, this.1, .inl this.2⟩
theorem once_ok {k : Nat} {c : Cur} (h : CurOk k c) (hk : k < 1000000000000) (n : Int) : ∃ x c', spec_l01Cur_once c n = some (x, c') ∧ CurOk (k + 1) c' := by
  obtain ⟨x, c', e, h', _⟩ := pick_ok h hk n
  rw [spec_l01Cur_once.eq]
  simp only [pair_eta, e, Option.bind_some]
  exact ⟨_, _, rfl, h'⟩
theorem size_ok {k : Nat} {c : Cur} (h : CurOk k c) (hk : k < 1000000000000) (n : Int) (hn : 0 ≤ n) (hn2 : n ≤ 1000000) : ∃ x c', spec_l01Cur_size c n = some (x, c') ∧ CurOk (k + 1) c' ∧ 0 ≤ x ∧ x ≤ n := by
  have hl := h.1
  have hd : (c.1.length : Int).tdiv 8 = (c.1.length : Int) / 8 := Int.tdiv_eq_ediv_of_nonneg (by omega)
  rw [spec_l01Cur_size.eq]
  simp only [pair_eta]
  rw [hd, wrapI (x := (c.1.length : Int) / 8) (by omega) (by omega), wrapI (x := 1 + (c.1.length : Int) / 8) (by omega) (by omega)]
  obtain ⟨m, hm⟩ : ∃ m, m = (if 1 + (c.1.length : Int) / 8 < n then 1 + (c.1.length : Int) / 8 else n) := ⟨_, rfl⟩
  rw [← hm]
  have hmn : 0 ≤ m ∧ m ≤ n := by rw [hm]; split <;> omega
  rw [wrapI (by omega) (by omega)]
  obtain ⟨x, c', e, h', h1, h2⟩ := pick_ok h hk (m + 1)
  rw [e, Option.bind_some]
  exact ⟨x, c', rfl, h', h1, by omega⟩
theorem wide_ok {k : Nat} {c : Cur} (h : CurOk k c) (hk : k + 3 < 1000000000000) (n : Int) (hn : 0 < n) : ∃ x c', spec_l01Cur_wide c n = some (x, c') ∧ CurOk (k + 3) c' ∧ 0 ≤ x ∧ x < n := by
  obtain ⟨x1, c1, e1, g1, a1, b1⟩ := pick_ok h (by omega) 256
  obtain ⟨x2, c2, e2, g2, a2, b2⟩ := pick_ok g1 (by omega) 256
  obtain ⟨x3, c3, e3, g3, a3, b3⟩ := pick_ok g2 (by omega) 256
  rw [spec_l01Cur_wide.eq]
  simp only [pair_eta, e1, e2, e3, Option.bind_some]
  rw [bif_ndec (by omega), wrapI (x := 65536 * x1) (by omega) (by omega), wrapI (x := 256 * x2) (by omega) (by omega), wrapI (x := 65536 * x1 + 256 * x2) (by omega) (by omega), wrapI (by omega) (by omega)]
  have := tmod_range (65536 * x1 + 256 * x2 + x3) n (by omega) hn
  exact ⟨_, _, rfl, g3, this.1, this.2⟩
theorem numbers_l0_ok (top : Int) : ∀ (m k : Nat) (c : Cur) (out : List Int), CurOk k c → k + 3 * m < 1000000000000 → out.length + m ≤ 1000000 → (∀ x ∈ out, 0 ≤ x ∧ x < max 1 top) →
    ∃ l c', spec_l01Cur_numbers_l0 top m c.1 c.2.1 c.2.2 out = some (l, c') ∧ CurOk (k + 3 * m) c' ∧ l.length = out.length + m ∧ ∀ x ∈ l, 0 ≤ x ∧ x < max 1 top := by
  intro m
  induction m with
  | zero =>
    intro k c out h hk ho hx
    rw [spec_l01Cur_numbers_l0.eq, bif_ndec (by omega)]
    exact ⟨out, c, rfl, h, rfl, hx⟩
  | succ m ih =>
    intro k c out h hk ho hx
    rw [spec_l01Cur_numbers_l0.eq, bif_dec (by omega)]
    have e0 : (if top > 1 then top else 1) = max 1 top := by split <;> omega
    obtain ⟨x, c', e, h', h1, h2⟩ := wide_ok h (by omega) (max 1 top) (by omega)
    simp only [pair_eta, e0, e, Option.bind_some]
    rw [bif_dec (by simp only [List.length_cons, List.length_nil]; omega), wrapI (by omega) (by omega), show ((m + 1 : Nat) : Int) - 1 = m by omega]
    obtain ⟨l, c2, e2, g1, g2, g3⟩ := ih (k + 3) c' (out ++ [x]) h' (by omega) (by simp; omega) (by
      intro y hy
      rcases List.mem_append.1 hy with hy | hy
      · exact hx y hy
      · rw [List.mem_singleton.1 hy]; exact ⟨h1, h2⟩)
    exact ⟨l, c2, e2, g1.mono (by omega), by rw [g2]; simp; omega, g3⟩
theorem numbers_ok {k : Nat} {c : Cur} (h : CurOk k c) (hk : k < 100000000000) (n top : Int) (hn : 0 ≤ n) (hn2 : n ≤ 1000000) : ∃ l c', spec_l01Cur_numbers c n top = some (l, c') ∧ CurOk (k + 3000001) c' ∧ (l.length : Int) ≤ n ∧ ∀ x ∈ l, 0 ≤ x ∧ x < max 1 top := by
  obtain ⟨x, c1, e1, g1, a1, b1⟩ := size_ok h (by omega) n hn hn2
  obtain ⟨m, rfl⟩ : ∃ m : Nat, x = m := ⟨x.toNat, by omega⟩
  rw [spec_l01Cur_numbers.eq]
  simp only [pair_eta, e1, Option.bind_some]
  obtain ⟨l, c2, e2, h1, h2, h3⟩ := numbers_l0_ok top m (k + 1) c1 [] g1 (by omega) (by simp; omega) (by simp)
  exact ⟨l, c2, e2, h1.mono (by omega), by rw [h2]; simpa using b1, h3⟩
theorem pick_list {α : Type} (xs : List α) (x : Int) (h0 : 0 ≤ x) (h1 : x < xs.length) : ∃ y, at? xs x = some y ∧ xs[x.toNat]? = some y ∧ y ∈ xs := by
  have hlt : x.toNat < xs.length := by omega
  exact ⟨xs[x.toNat], by rw [at?_int _ _ h0, List.getElem?_eq_getElem hlt], List.getElem?_eq_getElem hlt, List.getElem_mem hlt⟩
theorem raw_ok {k : Nat} {c : Cur} (h : CurOk k c) (hk : k < 100000000000) : ∃ x c', spec_l01Cur_raw c = some (x, c') ∧ CurOk (k + 2) c' ∧ -9223372036854775808 ≤ x ∧ x ≤ 9223372036854775807 := by
  obtain ⟨x1, c1, e1, g1, a1, b1⟩ := pick_ok h (by omega) 8
  rw [spec_l01Cur_raw.eq]
  simp only [pair_eta, e1, Option.bind_some]
  by_cases h1 : x1 = 0
  · obtain ⟨x2, c2, e2, g2, a2, b2⟩ := pick_ok g1 (by omega) 256
    rw [bif_eq h1]
    simp only [e2, Option.bind_some]
    exact ⟨_, c2, rfl, g2, by rw [wrapI (by omega) (by omega)]; omega, by rw [wrapI (by omega) (by omega)]; omega⟩
  rw [bif_neq h1]
  by_cases h2 : x1 = 1
  · obtain ⟨x2, c2, e2, g2, a2, b2⟩ := pick_ok g1 (by omega) 8
    rw [bif_eq h2]
    simp only [e2, Option.bind_some]
    obtain ⟨y, y1, y2, y3⟩ := pick_list ([9223372036854775807, -9223372036854775808, 4611686018427387904, 4294967295, 4294967296, -1000, 1000, 257] : List Int) x2 a2 (by simp; omega)
    rw [y1, Option.bind_some, y2, Option.bind_some]
    refine ⟨y, c2, rfl, g2, ?_⟩
    simp only [List.mem_cons, List.not_mem_nil, or_false] at y3
    omega
  · obtain ⟨x2, c2, e2, g2, a2, b2⟩ := pick_ok g1 (by omega) 14
    rw [bif_neq h2]
    simp only [e2, Option.bind_some]
    exact ⟨_, c2, rfl, g2, by rw [wrapI (by omega) (by omega)]; omega, by rw [wrapI (by omega) (by omega)]; omega⟩
end Go.Ev.W
