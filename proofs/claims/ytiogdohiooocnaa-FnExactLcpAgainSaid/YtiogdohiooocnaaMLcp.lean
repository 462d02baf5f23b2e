/- The common beginnings of neighbouring suffixes. -/
import Derived.Test.YtiogdohiooocnaaEvC
import Derived.Test.YtiogdohiooocnaaPb24
import Derived.Test.YtiogdohiooocnaaMSuf2
import Derived.Test.YtiogdohiooocnaaM15c
set_option linter.unusedVariables false
set_option linter.unusedSimpArgs false
namespace Go.Ev.W
open Go.Ev

theorem common_eq (a b : List Int) (h : a.length ≤ 1048576) : impl_common a b = some (com a b : Int) := by
  rw [impl_common.eq]
  have key : ∀ (d i : Nat), a.length - i = d → i ≤ a.length → i ≤ b.length → impl_common_l0 a b i = some ((i + com (a.drop i) (b.drop i) : Nat) : Int) := by
    intro d
    induction d with
    | zero =>
      intro i hd hi hb
      rw [impl_common_l0.eq, min_if, bif_ndec (by omega), drop_nil a (by omega)]
      simp [com]
    | succ d ih =>
      intro i hd hi hb
      rw [impl_common_l0.eq, min_if]
      by_cases hlt : i < b.length
      · have hla : i < a.length := by omega
        rw [bif_dec (by omega), at?_lt _ _ hla, at?_lt _ _ hlt, Option.bind_some, Option.bind_some, List.drop_eq_getElem_cons hla, List.drop_eq_getElem_cons hlt, wrapS _ (by omega), ih (i + 1) (by omega) (by omega) (by omega)]
        simp only [com]
        cases a[i] == b[i] with
        | true => simp only [cond_true]; congr 2; omega
        | false => simp only [cond_false]; rfl
      · rw [bif_ndec (by omega), drop_nil b (by omega)]
        cases a.drop i <;> simp [com]
  have := key a.length 0 (by omega) (by omega) (by omega)
  simpa using this
theorem l05Common_eq (a b : List Int) (h : a.length ≤ 1048576) : spec_l05Common a b = some (com a b : Int) := by
  rw [spec_l05Common.eq]
  have key : ∀ (d i : Nat), a.length - i = d → i ≤ a.length → i ≤ b.length → spec_l05Common_l0 a b i = some ((i + com (a.drop i) (b.drop i) : Nat) : Int) := by
    intro d
    induction d with
    | zero =>
      intro i hd hi hb
      rw [spec_l05Common_l0.eq, bif_ndec (by omega), drop_nil a (by omega)]
      simp [com]
    | succ d ih =>
      intro i hd hi hb
      rw [spec_l05Common_l0.eq, bif_dec (by omega)]
      by_cases hlt : i < b.length
      · have hla : i < a.length := by omega
        rw [bif_dec (by omega), at?_lt _ _ hla, at?_lt _ _ hlt, Option.bind_some, Option.bind_some, List.drop_eq_getElem_cons hla, List.drop_eq_getElem_cons hlt, wrapS _ (by omega), ih (i + 1) (by omega) (by omega) (by omega)]
        simp only [com]
        cases a[i] == b[i] with
        | true => simp only [cond_true]; congr 2; omega
        | false => simp only [cond_false]; rfl
      · rw [bif_ndec (by omega), drop_nil b (by omega)]
        cases a.drop i <;> simp [com]
  have := key a.length 0 (by omega) (by omega) (by omega)
  simpa using this
/-- Entry i of the list. -/
def lcpA (D : List Nat) (i : Nat) : Nat := if i = 0 then 0 else com (ints (D.drop ((srt D).getD (i - 1) 0))) (ints (D.drop ((srt D).getD i 0)))
def lcps (D : List Nat) : List Nat := (List.range (D.length + 1)).map (lcpA D)
theorem srt_len (D : List Nat) : (srt D).length = D.length + 1 := by have := (srt_SS D).length (by omega); omega
theorem lcpA_le (D : List Nat) (i : Nat) : lcpA D i ≤ D.length := by
  unfold lcpA
  split
  · omega
  · have := (com_le (ints (D.drop ((srt D).getD (i - 1) 0))) (ints (D.drop ((srt D).getD i 0)))).1
    rw [List.length_map, List.length_drop] at this
    omega
theorem lcpA_pos (D : List Nat) (i : Nat) (h0 : 0 < i) (hi : i < (srt D).length) : lcpA D i = com (ints (D.drop ((srt D)[i - 1]'(by omega)))) (ints (D.drop (srt D)[i])) := by
  unfold lcpA
  rw [if_neg (by omega), List.getD_eq_getElem?_getD, List.getD_eq_getElem?_getD, List.getElem?_eq_getElem hi, List.getElem?_eq_getElem (show i - 1 < (srt D).length by omega)]
  rfl
theorem take_all (D : List Nat) (a : Nat) : ((ints D).take D.length).drop a = ints (D.drop a) := by
  rw [List.take_of_length_le (by rw [List.length_map]; omega)]; exact (List.map_drop).symm
theorem specLcp_l0 (D : List Nat) (hD : D.length ≤ 300) : ∀ (d i : Nat), D.length + 1 - i = d → i ≤ D.length + 1 → spec_LcpRows_l0 (ints D) i (ints (srt D)) (ints ((List.range i).map (lcpA D))) = some (ints (lcps D)) := by
  have hl := srt_len D
  intro d
  induction d with
  | zero =>
    intro i h1 h2
    obtain rfl : i = D.length + 1 := by omega
    rw [spec_LcpRows_l0.eq, show (ints (srt D)).length = D.length + 1 by rw [List.length_map, hl], bif_ndec (by omega)]; rfl
  | succ d ih =>
    intro i h1 h2
    have hll : (ints (srt D)).length = D.length + 1 := by rw [List.length_map, hl]
    have hout : (ints ((List.range i).map (lcpA D))).length = i := by rw [List.length_map, List.length_map, List.length_range]
    have hnext : ints ((List.range i).map (lcpA D)) ++ [((lcpA D i : Nat) : Int)] = ints ((List.range (i + 1)).map (lcpA D)) := by
      rw [List.range_succ, List.map_append]
      exact (List.map_append (f := fun (x : Nat) => (x : Int)) (l₁ := (List.range i).map (lcpA D)) (l₂ := [lcpA D i])).symm
    rw [spec_LcpRows_l0.eq, hll, bif_dec (by omega)]
    by_cases h0 : i = 0
    · subst h0
      rw [bif_eq (show ((0 : Nat) : Int) = 0 from rfl), bif_dec (by rw [hout]; simp), wrapS 0 (by omega)]
      have := ih 1 (by omega) (by omega)
      rw [← hnext] at this
      exact this
    · have hi : i < (srt D).length := by omega
      have hi1 : i - 1 < (srt D).length := by omega
      have hm := ((srt_SS D).mem _).1 (List.getElem_mem hi)
      have hm1 := ((srt_SS D).mem _).1 (List.getElem_mem hi1)
      rw [bif_neq (by omega), wrapI (by omega) (by omega), show (i : Int) - 1 = ((i - 1 : Nat) : Int) by omega, at?_ints _ _ hi1, Option.bind_some, Int.toNat_natCast, getElem?_ints _ _ hi1, Option.bind_some, List.length_map, bif_dec (by omega), at?_ints _ _ hi, Option.bind_some, Int.toNat_natCast, getElem?_ints _ _ hi, Option.bind_some, bif_dec (by omega), Int.toNat_natCast, Int.toNat_natCast, take_all, take_all,
        l05Common_eq _ _ (by rw [List.length_map, List.length_drop]; omega), Option.bind_some, ← lcpA_pos D i (by omega) hi, bif_dec (by rw [hout]; simp only [List.length_cons, List.length_nil]; omega), wrapS i (by omega), hnext]
      exact ih (i + 1) (by omega) (by omega)
theorem specLcp_eq (D : List Nat) (hD : D.length ≤ 300) : spec_LcpRows (ints D) = some (ints (lcps D)) := by
  rw [spec_LcpRows.eq, specSuf_eq D hD, Option.bind_some]
  exact specLcp_l0 D hD _ 0 rfl (by omega)
theorem implLcp_l0 (D : List Nat) (hD : D.length ≤ 300) : ∀ (d i : Nat), D.length + 1 - i = d → 1 ≤ i → i ≤ D.length + 1 → ∀ acc : List Int, acc.length = D.length + 1 → acc.take i = ints ((List.range i).map (lcpA D)) → impl_lcpRows_l0 (ints D) i (ints (srt D)) acc = some (ints (lcps D)) := by
  have hl := srt_len D
  intro d
  induction d with
  | zero =>
    intro i h1 h2 h3 acc ha ht
    obtain rfl : i = D.length + 1 := by omega
    rw [impl_lcpRows_l0.eq, show (ints (srt D)).length = D.length + 1 by rw [List.length_map, hl], bif_ndec (by omega)]
    rw [List.take_of_length_le (by omega)] at ht
    rw [ht]; rfl
  | succ d ih =>
    intro i h1 h2 h3 acc ha ht
    have hll : (ints (srt D)).length = D.length + 1 := by rw [List.length_map, hl]
    have hi : i < (srt D).length := by omega
    have hi1 : i - 1 < (srt D).length := by omega
    have hia : i < acc.length := by omega
    have hm := ((srt_SS D).mem _).1 (List.getElem_mem hi)
    have hm1 := ((srt_SS D).mem _).1 (List.getElem_mem hi1)
    rw [impl_lcpRows_l0.eq, hll, bif_dec (by omega), wrapI (by omega) (by omega), show (i : Int) - 1 = ((i - 1 : Nat) : Int) by omega, at?_ints _ _ hi1, Option.bind_some, Int.toNat_natCast, getElem?_ints _ _ hi1, Option.bind_some, List.length_map, bif_dec (by omega), at?_ints _ _ hi, Option.bind_some, Int.toNat_natCast, getElem?_ints _ _ hi, Option.bind_some, bif_dec (by omega), Int.toNat_natCast, Int.toNat_natCast, take_all, take_all,
      common_eq _ _ (by rw [List.length_map, List.length_drop]; omega), Option.bind_some, at?_lt acc i hia, Option.bind_some, List.getElem?_eq_getElem hia, Option.bind_some, ← lcpA_pos D i (by omega) hi, wrapS i (by omega)]
    refine ih (i + 1) (by omega) (by omega) (by omega) _ (by simpa using ha) ?_
    rw [take_set acc i hia, ht, List.range_succ, List.map_append]
    exact (List.map_append (f := fun (x : Nat) => (x : Int)) (l₁ := (List.range i).map (lcpA D)) (l₂ := [lcpA D i])).symm
theorem implLcp_eq (D : List Nat) (hD : D.length ≤ 300) (hb : ∀ x ∈ D, x < 256) : impl_lcpRows (ints D) = some (ints (lcps D)) := by
  have hl := srt_len D
  have hll : (ints (srt D)).length = D.length + 1 := by rw [List.length_map, hl]
  rw [impl_lcpRows.eq, implSuf_eq D hD hb, Option.bind_some, hll]
  have e1 : (decide ((0 : Int) ≤ ((D.length + 1 : Nat) : Int)) && decide ((((D.length + 1 : Nat) : Int).toNat) * 8 ≤ 140737488355328)) = true := by
    rw [Bool.and_eq_true, decide_eq_true_eq, decide_eq_true_eq, Int.toNat_natCast]; omega
  rw [e1, bif_true, Int.toNat_natCast]
  have := implLcp_l0 D hD (D.length) 1 (by omega) (by omega) (by omega) (List.replicate (D.length + 1) 0) (by simp) (by rfl)
  exact this
theorem lcps_len (D : List Nat) : (ints (lcps D)).length = D.length + 1 := by rw [List.length_map]; unfold lcps; rw [List.length_map, List.length_range]
theorem lcps_le (D : List Nat) : ∀ x ∈ ints (lcps D), 0 ≤ x ∧ x ≤ (D.length : Int) := by
  intro x hx
  obtain ⟨y, hy, rfl⟩ := List.mem_map.1 hx
  unfold lcps at hy
  obtain ⟨i, _, rfl⟩ := List.mem_map.1 hy
  have := lcpA_le D i
  omega
theorem okC_small {xs : List Int} (hl : xs.length ≤ 301) (h : ∀ x ∈ xs, -1000000 ≤ x ∧ x ≤ 1000000) : okC xs = true := by
  simp only [okC, Bool.and_eq_true, decide_eq_true_eq, List.all_eq_true, okN]
  exact ⟨hl, h⟩
theorem difs_small : ∀ (p : Int) (xs : List Int), 0 ≤ p → p ≤ 300 → (∀ x ∈ xs, 0 ≤ x ∧ x ≤ 300) → ∀ y ∈ difs p xs, -300 ≤ y ∧ y ≤ 300
  | _, [], _, _, _, y, hy => by cases hy
  | p, x :: xs, h1, h2, h, y, hy => by
    have hx := h x List.mem_cons_self
    rcases List.mem_cons.1 hy with rfl | hy
    · omega
    · exact difs_small x xs hx.1 hx.2 (fun z hz => h z (List.mem_cons_of_mem _ hz)) y hy
theorem Dels_small {xs : List Int} (hl : xs.length ≤ 301) (h : ∀ x ∈ xs, 0 ≤ x ∧ x ≤ 300) : Dels xs = (Dif xs, true) := by
  unfold Dels
  rw [okC_small hl (fun x hx => by have := h x hx; omega), bif_true, okC_small (by rw [Dif_length]; exact hl) ?_, bif_true]
  intro y hy
  cases xs with
  | nil => cases hy
  | cons x xs =>
    have hx := h x List.mem_cons_self
    rcases List.mem_cons.1 hy with rfl | hy
    · omega
    · have := difs_small x xs hx.1 hx.2 (fun z hz => h z (List.mem_cons_of_mem _ hz)) y hy
      omega
end Go.Ev.W
