/- Waves: a valid wave is the wave of its numbers. -/
import Derived.Test.YtmobcecmjpfpiaaEvC
import Derived.Test.YtmobcecmjpfpiaaMWave4
import Derived.Test.YtmobcecmjpfpiaaMWaveOf2
set_option linter.unusedVariables false
set_option linter.unusedSimpArgs false
namespace Go.Ev.W
open Go.Ev

theorem path_val : ∀ (bss : List (List Bool)) (k v : Nat), (path bss (k, v)).2 = v * 2 ^ bss.length + (path bss (k, 0)).2
  | [], k, v => by show v = v * 2 ^ 0 + 0; omega
  | bs :: bss, k, v => by
    have h1 : path (bs :: bss) (k, v) = path bss (nxt bs k, 2 * v + (bs.getD k false).toNat) := rfl
    have h2 : path (bs :: bss) (k, 0) = path bss (nxt bs k, 2 * 0 + (bs.getD k false).toNat) := rfl
    rw [h1, h2, path_val bss _ (2 * v + _), path_val bss _ (2 * 0 + _), List.length_cons, Nat.pow_succ]
    rw [Nat.mul_zero, Nat.zero_add, Nat.add_mul, Nat.add_assoc, Nat.mul_comm 2 v, Nat.mul_assoc, Nat.mul_comm 2]
theorem path_lt : ∀ (bss : List (List Bool)) (k : Nat), (path bss (k, 0)).2 < 2 ^ bss.length
  | [], k => by show 0 < 2 ^ 0; omega
  | bs :: bss, k => by
    have h2 : path (bs :: bss) (k, 0) = path bss (nxt bs k, 2 * 0 + (bs.getD k false).toNat) := rfl
    have h3 := path_lt bss (nxt bs k)
    have hb : (bs.getD k false).toNat ≤ 1 := by cases bs.getD k false <;> simp
    have h4 := Nat.mul_le_mul_right (2 ^ bss.length) hb
    rw [h2, path_val, List.length_cons, Nat.pow_succ, Nat.mul_zero, Nat.zero_add]; omega
theorem filt_at {α : Type} (p : α → Bool) (X : List α) (k : Nat) (hk : k < X.length) (h : p X[k] = true) : (X.filter p)[((X.take k).filter p).length]? = some X[k] := by
  have e : X.filter p = (X.take k).filter p ++ X[k] :: (X.drop (k + 1)).filter p := by
    conv => lhs; rw [← List.take_append_drop k X, List.filter_append, List.drop_eq_getElem_cons hk, List.filter_cons, if_pos h]
  rw [e, List.getElem?_append_right (Nat.le_refl _), Nat.sub_self]; rfl
theorem zer_at (bs : List Bool) (m : Nat) : ∀ n, n ≤ bs.length → m < zer bs n → ∃ k, ∃ h : k < bs.length, bs[k] = false ∧ zer bs k = m
  | 0, _, h => by rw [zer_zero] at h; omega
  | n + 1, hn, h => by
    by_cases h1 : m < zer bs n
    · exact zer_at bs m n (by omega) h1
    · rw [zer_succ bs n (by omega)] at h
      refine ⟨n, by omega, ?_⟩
      cases hb : bs[n] with
      | false => rw [hb] at h; simp at h; exact ⟨rfl, by omega⟩
      | true => rw [hb] at h; simp at h; omega
theorem one_at (bs : List Bool) (m : Nat) : ∀ n, n ≤ bs.length → m < one bs n → ∃ k, ∃ h : k < bs.length, bs[k] = true ∧ one bs k = m
  | 0, _, h => by rw [one_zero] at h; omega
  | n + 1, hn, h => by
    by_cases h1 : m < one bs n
    · exact one_at bs m n (by omega) h1
    · rw [one_succ bs n (by omega)] at h
      refine ⟨n, by omega, ?_⟩
      cases hb : bs[n] with
      | true => rw [hb] at h; simp at h; exact ⟨rfl, by omega⟩
      | false => rw [hb] at h; simp at h; omega
theorem nxt_onto (bs : List Bool) (m : Nat) (hm : m < bs.length) : ∃ k, k < bs.length ∧ nxt bs k = m := by
  have h1 := zer_one bs bs.length (Nat.le_refl _)
  by_cases h : m < zer bs bs.length
  · obtain ⟨k, hk, h2, h3⟩ := zer_at bs m _ (Nat.le_refl _) h
    refine ⟨k, hk, ?_⟩
    unfold nxt
    rw [List.getD_eq_getElem?_getD, List.getElem?_eq_getElem hk, Option.getD_some, h2, if_neg (by simp), h3]
  · obtain ⟨k, hk, h2, h3⟩ := one_at bs (m - zer bs bs.length) _ (Nat.le_refl _) (by omega)
    refine ⟨k, hk, ?_⟩
    unfold nxt
    rw [List.getD_eq_getElem?_getD, List.getElem?_eq_getElem hk, Option.getD_some, h2, if_pos rfl, h3]; omega
theorem zer_wbs (l : Nat) (X : List Nat) (k : Nat) : zer (wbs l X) k = ((X.take k).filter fun x => !wbit l x).length := by
  unfold zer wbs
  rw [← List.map_take, List.filter_map, List.length_map]; rfl
theorem one_wbs (l : Nat) (X : List Nat) (k : Nat) : one (wbs l X) k = ((X.take k).filter fun x => wbit l x).length := by
  unfold one wbs
  rw [← List.map_take, List.filter_map, List.length_map]; rfl
theorem wbs_len (l : Nat) (X : List Nat) : (wbs l X).length = X.length := List.length_map ..
/-- The k-th number stands at its next place. -/
theorem part_at (l : Nat) (X : List Nat) (k : Nat) (hk : k < X.length) : (wlo l X ++ whi l X)[nxt (wbs l X) k]? = some X[k] := by
  have hz : zer (wbs l X) (wbs l X).length = (wlo l X).length := by rw [zer_wbs, wbs_len, List.take_length]; rfl
  have hb : (wbs l X).getD k false = wbit l X[k] := by
    rw [List.getD_eq_getElem?_getD]; unfold wbs; rw [List.getElem?_map, List.getElem?_eq_getElem hk]; rfl
  unfold nxt
  rw [hb]
  cases h : wbit l X[k] with
  | true =>
    rw [if_pos rfl, hz, List.getElem?_append_right (by omega), Nat.add_sub_cancel_left, one_wbs]
    exact filt_at (fun x => wbit l x) X k hk h
  | false =>
    have h2 := filt_at (fun x => !wbit l x) X k hk (by simp [h])
    rw [if_neg (by simp), zer_wbs]
    obtain ⟨h3, _⟩ := List.getElem?_eq_some_iff.1 h2
    show (List.filter (fun x => !wbit l x) X ++ whi l X)[_]? = _
    rw [List.getElem?_append_left h3]
    exact h2
theorem wLv_inv (N : Nat) : ∀ (d l : Nat) (L : List (Int × List Nat)) (Z : List Int), L.length = d → Z.length = d → d + l = 9 → ((L.zip Z).all fun q => lOk N q.1 q.2) = true → (∀ p ∈ L, ∀ x ∈ p.2, x < 2 ^ 64) → ∀ X : List Nat, X.length = N →
    (∀ k (hk : k < X.length), X[k] % 2 ^ d = (path (L.map lvb) (k, 0)).2) → ints (wLv d l X).1 = Z ∧ (wLv d l X).2 = L
  | 0, l, L, Z, h1, h2, _, _, _, X, _, _ => by
    rw [List.length_eq_zero_iff.1 h1, List.length_eq_zero_iff.1 h2]; exact ⟨rfl, rfl⟩
  | d + 1, l, [], _, h1, _, _, _, _, X, _, _ => by cases h1
  | d + 1, l, p :: L, [], _, h2, _, _, _, X, _, _ => by cases h2
  | d + 1, l, p :: L, z :: Z, h1, h2, h3, h4, h5, X, h6, h7 => by
    rw [List.length_cons] at h1 h2
    rw [List.zip_cons_cons, List.all_cons, Bool.and_eq_true] at h4
    obtain ⟨h8, h9⟩ := h4
    simp only [lOk, Bool.and_eq_true, decide_eq_true_eq] at h8
    obtain ⟨⟨h10, h11⟩, h12⟩ := h8
    have hx := h5 p List.mem_cons_self
    have hbl : (lvb p).length = N := by unfold lvb; rw [bts_length, h11, Int.toNat_natCast]
    have key : ∀ k (hk : k < X.length), X[k] / 2 ^ d % 2 = ((lvb p).getD k false).toNat ∧ X[k] % 2 ^ d = (path (L.map lvb) (nxt (lvb p) k, 0)).2 := by
      intro k hk
      have h := h7 k hk
      have e : path ((p :: L).map lvb) (k, 0) = path (L.map lvb) (nxt (lvb p) k, 2 * 0 + ((lvb p).getD k false).toNat) := rfl
      have hlt := path_lt (L.map lvb) (nxt (lvb p) k)
      rw [e, path_val, Nat.mul_zero, Nat.zero_add, List.length_map] at h
      rw [List.length_map] at hlt
      have hd : L.length = d := by omega
      rw [hd] at h hlt
      have hb : ((lvb p).getD k false).toNat ≤ 1 := by cases (lvb p).getD k false <;> simp
      constructor
      · have h13 := Nat.mod_mul_right_div_self X[k] (2 ^ d) 2
        rw [← Nat.pow_succ, h, Nat.add_comm, Nat.add_mul_div_right _ _ (Nat.two_pow_pos d), Nat.div_eq_of_lt hlt, Nat.zero_add] at h13
        exact h13.symm
      · have h13 : X[k] % 2 ^ (d + 1) % 2 ^ d = X[k] % 2 ^ d := Nat.mod_mod_of_dvd _ ⟨2, Nat.pow_succ ..⟩
        rw [h, Nat.add_comm, Nat.add_mul_mod_self_right, Nat.mod_eq_of_lt hlt] at h13
        exact h13.symm
    have hw : wbs l X = lvb p := by
      apply List.ext_getElem (by rw [wbs_len, hbl, h6])
      intro k hk1 hk2
      have hk : k < X.length := by rwa [wbs_len] at hk1
      have h := (key k hk).1
      rw [List.getD_eq_getElem?_getD, List.getElem?_eq_getElem hk2, Option.getD_some] at h
      have e : (wbs l X)[k] = wbit l X[k] := by simp [wbs]
      rw [e]
      unfold wbit
      rw [show 8 - l = d by omega, h]
      cases (lvb p)[k] <;> rfl
    have hlo := lohi_len l X
    have htt := (okW_iff N p.2 hx).1 (by have := h10; rw [h11] at this; simp only [vOk, Bool.and_eq_true] at this; simpa using this.2)
    have hwr : wrds (wbs l X) = p.2 := by
      rw [hw]; unfold lvb; rw [h11, Int.toNat_natCast]; exact wrds_bts N p.2 htt
    have hz : ((wlo l X).length : Int) = z := by
      rw [← h12, ← hw, zer_wbs, wbs_len, List.take_length]; rfl
    have ih := wLv_inv N d (l + 1) L Z (by omega) (by omega) (by omega) h9 (fun q hq => h5 q (List.mem_cons_of_mem _ hq)) (wlo l X ++ whi l X) (by rw [List.length_append]; omega) (by
      intro m hm
      rw [List.length_append, hlo, h6] at hm
      obtain ⟨k, hk1, hk2⟩ := nxt_onto (lvb p) m (by omega)
      have hk : k < X.length := by omega
      have h := part_at l X k hk
      rw [hw, hk2, List.getElem?_eq_getElem (by rw [List.length_append]; omega)] at h
      injection h with h
      rw [h, (key k hk).2, hk2])
    rw [wLv]
    refine ⟨?_, ?_⟩
    · show ((wlo l X).length : Int) :: ints (wLv d (l + 1) (wlo l X ++ whi l X)).1 = _
      rw [ih.1, hz]
    · show ((X.length : Int), wrds (wbs l X)) :: (wLv d (l + 1) (wlo l X ++ whi l X)).2 = _
      rw [ih.2, hwr, h6, ← h11]
theorem wLv_len' : ∀ (d l : Nat) (X : List Nat), (wLv d l X).1.length = d ∧ (wLv d l X).2.length = d
  | 0, l, X => ⟨rfl, rfl⟩
  | d + 1, l, X => by
    have := wLv_len' d (l + 1) (wlo l X ++ whi l X)
    rw [wLv]
    exact ⟨by rw [List.length_cons, this.1], by rw [List.length_cons, this.2]⟩
theorem wList_le (N : Nat) (L : List (Int × List Nat)) (h : L.length = 9) : ∀ x ∈ wList N L, x ≤ 511 := by
  intro x hx
  rw [wList_eq] at hx
  obtain ⟨k, _, rfl⟩ := List.mem_map.1 hx
  have := path_lt (L.map lvb) k
  rw [List.length_map, h] at this
  omega
theorem wave_inv (n : Int) (Z : List Int) (L : List (Int × List Nat)) (hx : ∀ p ∈ L, ∀ x ∈ p.2, x < 2 ^ 64) (h : wOk n Z L = true) :
    ints (wLv 9 0 (wList n.toNat L)).1 = Z ∧ (wLv 9 0 (wList n.toNat L)).2 = L := by
  obtain ⟨h1, h2, h3, h4, _⟩ := wOk_at h
  have h5 := h
  unfold wOk at h5
  simp only [Bool.and_eq_true] at h5
  refine wLv_inv n.toNat 9 0 L Z h4 h3 rfl ?_ hx _ (wList_len _ _) ?_
  · rw [Int.toNat_of_nonneg h1]; exact h5.2
  · intro k hk
    rw [wList_len] at hk
    have e : (wList n.toNat L)[k]'(by rw [wList_len]; exact hk) = (path (L.map lvb) (k, 0)).2 := by
      simp only [wList_eq, List.getElem_map, List.getElem_range]
    have hlt := path_lt (L.map lvb) k
    rw [List.length_map, h4] at hlt
    rw [e]
    exact Nat.mod_eq_of_lt hlt
end Go.Ev.W
