/- What the laws' own helpers come to: lists of bit vectors, waves. -/
import Derived.Test.YtmobcecmjpfpiaaGreatEvC
import Derived.Test.YtmobcecmjpfpiaaGreatPz2
import Derived.Test.YtmobcecmjpfpiaaGreatMBits
import Derived.Test.YtmobcecmjpfpiaaGreatMLaw2
set_option linter.unusedVariables false
set_option linter.unusedSimpArgs false
namespace Go.Ev.W
open Go.Ev

abbrev Lv := List (Int × List Int)
theorem sum_ge {L : List Nat} {x : Nat} (h : x ∈ L) : x ≤ L.sum := by
  induction L with
  | nil => cases h
  | cons y L ih =>
    rw [List.sum_cons]
    rcases List.mem_cons.1 h with rfl | h
    · omega
    · have := ih h; omega
/-- What a law's guard gives. -/
structure Small (Z : List Int) (L : Lv) : Prop where
  z : Z.length ≤ 1048576
  l : L.length ≤ 1048576
  w : ∀ p ∈ L, p.2.length ≤ 1048576
  s : Z.length + L.length + (L.map fun p => p.2.length).sum ≤ 1048576
theorem eqBitsS_eq (X Y : Lv) (h : X.length < 4611686018427387904) (hw : ∀ p ∈ X, p.2.length < 4611686018427387904) : laws_eqBitsS X Y = some (decide (X = Y)) := by
  rw [laws_eqBitsS.eq]
  exact eq_list X Y _ fun hl => eq_loop (fun x y => laws_eqBits x y) X Y hl h (fun x hx y _ => eqBits_eq _ _ _ _ (hw x hx)) (laws_eqBitsS_l0 X Y) (fun i => laws_eqBitsS_l0.eq X Y i)
theorem eqWave_eq (a : Int) (Z : List Int) (L : Lv) (b : Int) (Y : List Int) (M : Lv) (h : Small Z L) : laws_eqWave (a, Z, L) (b, Y, M) = some (decide ((a, Z, L) = (b, Y, M))) := by
  rw [laws_eqWave.eq]
  try simp only
  by_cases h1 : a = b
  · rw [bif_nne h1, eqIntS_eq _ _ (by have := h.z; omega), Option.bind_some]
    by_cases h2 : Z = Y
    · rw [decide_eq_true h2, Bool.not_true, bif_false, eqBitsS_eq _ _ (by have := h.l; omega) (fun p hp => by have := h.w p hp; omega), Option.bind_some]
      by_cases h3 : L = M
      · rw [decide_eq_true h3, decide_eq_true (by rw [h1, h2, h3])]; rfl
      · rw [decide_eq_false h3, decide_eq_false (by intro h; exact h3 (Prod.mk.inj (Prod.mk.inj h).2).2)]; rfl
    · rw [decide_eq_false h2, decide_eq_false (by intro h; exact h2 (Prod.mk.inj (Prod.mk.inj h).2).1)]; rfl
  · rw [bif_ne h1, decide_eq_false (by intro h; exact h1 (Prod.mk.inj h).1)]
/-- Marks go through. -/
theorem markBitsS_ok : ∀ (d i : Nat) (k : Int) (L : Lv), L.length - i = d → i ≤ L.length → 0 ≤ k → L.length ≤ 1048576 → (∀ p ∈ L.drop i, p.2.length ≤ 1048576) → k + (d : Int) + (((L.drop i).map fun p => p.2.length).sum : Nat) ≤ 4000000000 →
    ∃ r L', laws_markBitsS_l0 k i L = some (r, L') ∧ 0 ≤ r := by
  intro d
  induction d with
  | zero =>
    intro i k L h1 h2 h3 _ _ _
    rw [laws_markBitsS_l0.eq, bif_ndec (by omega)]
    exact ⟨k, L, rfl, h3⟩
  | succ d ih =>
    intro i k L h1 h2 h3 hl hw hs
    have hi : i < L.length := by omega
    rw [List.drop_eq_getElem_cons hi, List.map_cons, List.sum_cons] at hs
    have hwi : L[i].2.length ≤ 1048576 := hw _ (by rw [List.drop_eq_getElem_cons hi]; exact List.mem_cons_self)
    rw [laws_markBitsS_l0.eq, bif_dec (by omega), at?_lt L i hi, Option.bind_some]
    simp only [Int.toNat_natCast]
    rw [List.getElem?_eq_getElem hi, Option.bind_some, at?_lt _ i (by rw [List.length_set]; omega), Option.bind_some, List.getElem?_set_self hi, Option.bind_some, wrapI (by omega) (by omega),
      markUint64S_eq _ _ (by omega) (by simp only; omega), Option.bind_some, wrapS i (by omega)]
    refine ih (i + 1) _ _ (by simp only [List.length_set]; omega) (by simp only [List.length_set]; omega) (by simp only; omega) (by simpa using hl) ?_ ?_
    · intro p hp
      rw [List.drop_set_of_lt (by omega), List.drop_set_of_lt (by omega)] at hp
      exact hw p (by rw [List.drop_eq_getElem_cons hi]; exact List.mem_cons_of_mem _ hp)
    · rw [List.drop_set_of_lt (by omega), List.drop_set_of_lt (by omega)]
      try simp only
      omega
theorem markWave_ok (n : Int) (Z : List Int) (L : Lv) (k : Int) (hk : 0 ≤ k) (hk2 : k ≤ 1000000000) (h : Small Z L) : ∃ r w, laws_markWave (n, Z, L) k = some (r, w) ∧ 0 ≤ r := by
  rw [laws_markWave.eq]
  have := h.z
  have := h.l
  have hs := h.s
  try simp only
  rw [markIntS_eq _ _ hk (by omega), Option.bind_some, laws_markBitsS.eq]
  obtain ⟨r, L', h1, h2⟩ := markBitsS_ok L.length 0 (k + Z.length) L rfl (by omega) (by omega) h.l (by simpa using h.w) (by rw [List.drop_zero]; omega)
  try simp only
  have e : ((0 : Nat) : Int) = 0 := rfl
  rw [e] at h1
  rw [h1, Option.bind_some]
  exact ⟨_, _, rfl, h2⟩
end Go.Ev.W
