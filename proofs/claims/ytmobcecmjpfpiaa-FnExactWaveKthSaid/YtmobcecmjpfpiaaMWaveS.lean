/- What the laws' own helpers come to: lists of bit vectors, waves. -/
import Derived.Test.YtmobcecmjpfpiaaEvC
import Derived.Test.YtmobcecmjpfpiaaPp1
import Derived.Test.YtmobcecmjpfpiaaPp11
import Derived.Test.YtmobcecmjpfpiaaMBits
import Derived.Test.YtmobcecmjpfpiaaMLaw2
set_option linter.unusedVariables false
set_option linter.unusedSimpArgs false
namespace Go.Ev.W
open Go.Ev

abbrev Lv := List (Int × List Int)
/-- Sizes. -/
theorem szIntS_eq (xs : List Int) (k : Int) (hk : 0 ≤ k) (hk2 : k ≤ 1048576) (h : xs.length ≤ maxLen) : laws_szIntS xs k = some (if k - xs.length < 0 then -1 else k - xs.length) := by
  rw [laws_szIntS.eq]
  unfold maxLen at h
  rw [wrapI (by omega) (by omega)]
  by_cases hc : k - (xs.length : Int) < 0
  · rw [bif_dec hc, if_pos hc]
  · rw [bif_ndec hc, if_neg hc]
theorem szBitsS_l (L : Lv) (hL : L.length ≤ 1048576) (hw : ∀ p ∈ L, p.2.length ≤ maxLen) : ∀ (d i : Nat) (k : Int), L.length - i = d → i ≤ L.length → 0 ≤ k → k ≤ 1048576 →
    ∃ r, laws_szBitsS_l0 L k i = some r ∧ (r < 0 ∨ (0 ≤ r ∧ r = k - (((L.drop i).map fun p => p.2.length).sum : Nat))) := by
  intro d
  induction d with
  | zero =>
    intro i k h1 h2 h3 h4
    rw [laws_szBitsS_l0.eq, bif_ndec (by omega)]
    refine ⟨k, rfl, .inr ⟨h3, ?_⟩⟩
    rw [List.drop_eq_nil_of_le (by omega)]; simp
  | succ d ih =>
    intro i k h1 h2 h3 h4
    have hi : i < L.length := by omega
    rw [laws_szBitsS_l0.eq, bif_dec (by omega), at?_lt L i hi, Option.bind_some, szBits_eq _ _ h3 h4 (hw _ (List.getElem_mem hi)), Option.bind_some, szcase]
    by_cases hc : k - (L[i].2.length : Int) < 0
    · rw [bif_dec hc]; exact ⟨-1, rfl, .inl (by omega)⟩
    · rw [bif_ndec hc, if_neg hc, wrapS i (by omega)]
      obtain ⟨r, h5, h6⟩ := ih (i + 1) (k - L[i].2.length) (by omega) (by omega) (by omega) (by omega)
      refine ⟨r, h5, h6.imp id fun h => ⟨h.1, ?_⟩⟩
      rw [List.drop_eq_getElem_cons hi, List.map_cons, List.sum_cons]
      rw [h.2]; omega
theorem szBitsS_ok (L : Lv) (k : Int) (hk : 0 ≤ k) (hk2 : k ≤ 1048576) (h : L.length ≤ maxLen) (hw : ∀ p ∈ L, p.2.length ≤ maxLen) :
    ∃ r, laws_szBitsS L k = some r ∧ (r < 0 ∨ (0 ≤ r ∧ r ≤ k - L.length - ((L.map fun p => p.2.length).sum : Nat))) := by
  rw [laws_szBitsS.eq]
  unfold maxLen at h
  rw [wrapI (by omega) (by omega)]
  by_cases hc : k - (L.length : Int) < 0
  · rw [bif_dec hc]; exact ⟨-1, rfl, .inl (by omega)⟩
  · rw [bif_ndec hc]
    obtain ⟨r, h1, h2⟩ := szBitsS_l L (by omega) hw _ 0 (k - L.length) rfl (by omega) (by omega) (by omega)
    refine ⟨r, h1, h2.imp id fun h => ⟨h.1, ?_⟩⟩
    have := h.2
    rw [List.drop_zero] at this
    omega
theorem sum_ge {L : List Nat} {x : Nat} (h : x ∈ L) : x ≤ L.sum := by
  induction L with
  | nil => cases h
  | cons y L ih =>
    rw [List.sum_cons]
    rcases List.mem_cons.1 h with rfl | h
    · omega
    · have := ih h; omega
/-- What a law's guard gives. -/
structure Small (Z : List Int) (L : Lv) : Prop where
  z : Z.length ≤ 1048576
  l : L.length ≤ 1048576
  w : ∀ p ∈ L, p.2.length ≤ 1048576
  s : Z.length + L.length + (L.map fun p => p.2.length).sum ≤ 1048576
theorem szWave_ok (n : Int) (Z : List Int) (L : Lv) (hz : Z.length ≤ maxLen) (h : L.length ≤ maxLen) (hw : ∀ p ∈ L, p.2.length ≤ maxLen) : ∃ r, laws_szWave (n, Z, L) 1048576 = some r ∧ (r < 0 ∨ (¬ r < 0 ∧ Small Z L)) := by
  rw [laws_szWave.eq]
  try simp only
  rw [szIntS_eq _ _ (by omega) (by omega) hz, Option.bind_some, szcase]
  by_cases hc : (1048576 : Int) - (Z.length : Int) < 0
  · rw [bif_dec hc]; exact ⟨-1, rfl, .inl (by omega)⟩
  · rw [bif_ndec hc, if_neg hc]
    obtain ⟨r, h1, h2⟩ := szBitsS_ok L (1048576 - Z.length) (by omega) (by omega) h hw
    rw [h1, Option.bind_some]
    by_cases hr : r < 0
    · rw [bif_dec hr]; exact ⟨-1, rfl, .inl (by omega)⟩
    · rw [bif_ndec hr]
      refine ⟨r, rfl, .inr ⟨hr, ?_⟩⟩
      rcases h2 with h2 | ⟨_, h2⟩
      · omega
      · exact ⟨by omega, by omega, fun p hp => by have := sum_ge (List.mem_map.2 ⟨p, hp, rfl⟩ : p.2.length ∈ L.map fun p => p.2.length); omega, by omega⟩
theorem toBitsS_eq (L : Lv) (h : L.length ≤ 1048576) (hw : ∀ p ∈ L, p.2.length ≤ 1048576) : laws_toBitsS L = some L := by
  rw [laws_toBitsS.eq]
  have e1 : (decide ((0 : Int) ≤ (L.length : Int)) && decide (((L.length : Int).toNat) * 32 ≤ 140737488355328)) = true := by simp; omega
  rw [e1, cond_true, copy_loop (fun p => laws_toBits p) id L (by omega) (fun p hp => toBits_eq p.1 p.2 (hw p hp)) (laws_toBitsS_l0 L) (fun i acc => laws_toBitsS_l0.eq L i acc) _ (by simp), List.map_id]
theorem toWave_eq (n : Int) (Z : List Int) (L : Lv) (h : Small Z L) : laws_toWave (n, Z, L) = some (n, Z, L) := by
  rw [laws_toWave.eq]
  try simp only
  rw [toIntS_eq _ h.z, Option.bind_some, toBitsS_eq L h.l h.w, Option.bind_some]
theorem eqBitsS_eq (X Y : Lv) (h : X.length < 4611686018427387904) (hw : ∀ p ∈ X, p.2.length < 4611686018427387904) : laws_eqBitsS X Y = some (decide (X = Y)) := by
  rw [laws_eqBitsS.eq]
  exact eq_list X Y _ fun hl => eq_loop (fun x y => laws_eqBits x y) X Y hl h (fun x hx y _ => eqBits_eq _ _ _ _ (hw x hx)) (laws_eqBitsS_l0 X Y) (fun i => laws_eqBitsS_l0.eq X Y i)
theorem eqWave_eq (a : Int) (Z : List Int) (L : Lv) (b : Int) (Y : List Int) (M : Lv) (h : Small Z L) : laws_eqWave (a, Z, L) (b, Y, M) = some (decide ((a, Z, L) = (b, Y, M))) := by
  rw [laws_eqWave.eq]
  try simp only
  by_cases h1 : a = b
  · rw [bif_nne h1, eqIntS_eq _ _ (by have := h.z; omega), Option.bind_some]
    by_cases h2 : Z = Y
    · rw [decide_eq_true h2, Bool.not_true, bif_false, eqBitsS_eq _ _ (by have := h.l; omega) (fun p hp => by have := h.w p hp; omega), Option.bind_some]
      by_cases h3 : L = M
      · rw [decide_eq_true h3, decide_eq_true (by rw [h1, h2, h3])]; rfl
      · rw [decide_eq_false h3, decide_eq_false (by intro h; exact h3 (Prod.mk.inj (Prod.mk.inj h).2).2)]; rfl
    · rw [decide_eq_false h2, decide_eq_false (by intro h; exact h2 (Prod.mk.inj (Prod.mk.inj h).2).1)]; rfl
  · rw [bif_ne h1, decide_eq_false (by intro h; exact h1 (Prod.mk.inj h).1)]
end Go.Ev.W
