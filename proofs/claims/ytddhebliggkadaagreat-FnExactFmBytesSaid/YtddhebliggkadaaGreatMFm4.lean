/- Indexes: the laws' helpers. -/
import Derived.Test.YtddhebliggkadaaGreatEvC
import Derived.Test.YtddhebliggkadaaGreatPc1
import Derived.Test.YtddhebliggkadaaGreatPc16
import Derived.Test.YtddhebliggkadaaGreatMFm3
import Derived.Test.YtddhebliggkadaaGreatMWaveH
set_option linter.unusedVariables false
set_option linter.unusedSimpArgs false
namespace Go.Ev.W
open Go.Ev

theorem szPacked_eq (v : Int × Int × Int × List Int) (k : Int) (hk : 0 ≤ k) (hk2 : k ≤ 1048576) (h : v.2.2.2.length ≤ maxLen) : laws_szPacked v k = some (if k - v.2.2.2.length < 0 then -1 else k - v.2.2.2.length) := by
  rw [laws_szPacked.eq, szBits_eq _ _ hk hk2 h, Option.bind_some, szcase]
  by_cases hc : k - (v.2.2.2.length : Int) < 0
  · rw [bif_dec hc, if_pos hc]
  · rw [bif_ndec hc]
theorem toPacked_eq (a b c : Int) (x : List Int) (h : x.length ≤ 1048576) : laws_toPacked (a, b, c, x) = some (a, b, c, x) := by
  rw [laws_toPacked.eq, toBits_eq _ _ h, Option.bind_some]
theorem szWave_ok2 (n : Int) (Z : List Int) (L : Lv) (hz : Z.length ≤ maxLen) (h : L.length ≤ maxLen) (hw : ∀ p ∈ L, p.2.length ≤ maxLen) : ∃ r, laws_szWave (n, Z, L) 1048576 = some r ∧ r ≤ 1048576 ∧ (r < 0 ∨ (¬ r < 0 ∧ Small Z L)) := by
  obtain ⟨r, h1, h2⟩ := szWave_ok n Z L hz h hw
  refine ⟨r, h1, ?_, h2⟩
  rw [laws_szWave.eq] at h1
  simp only at h1
  rw [szIntS_eq _ _ (by omega) (by omega) hz, Option.bind_some, szcase] at h1
  by_cases hc : (1048576 : Int) - (Z.length : Int) < 0
  · rw [bif_dec hc] at h1; injection h1 with h1; omega
  · rw [bif_ndec hc, if_neg hc] at h1
    obtain ⟨q, k1, k2⟩ := szBitsS_ok L (1048576 - Z.length) (by omega) (by omega) h hw
    rw [k1, Option.bind_some] at h1
    by_cases hr : q < 0
    · rw [bif_dec hr] at h1; injection h1 with h1; omega
    · rw [bif_ndec hr] at h1; injection h1 with h1
      rcases k2 with k2 | ⟨_, k2⟩ <;> omega
/-- What the guard gives. -/
structure GdFm (f : FmT) : Prop where
  sm : SmFm f 1048576
  wv : Small f.2.2.2.1 f.2.2.2.2.1
theorem szFm_ok3 (f : FmT) (hz : f.2.2.2.1.length ≤ maxLen) (hl : f.2.2.2.2.1.length ≤ maxLen) (hw : ∀ p ∈ f.2.2.2.2.1, p.2.length ≤ maxLen) (hc : f.2.2.2.2.2.1.length ≤ maxLen) (hm : f.2.2.2.2.2.2.2.1.length ≤ maxLen) (hs : f.2.2.2.2.2.2.2.2.2.2.2.1.length ≤ maxLen) (hi : f.2.2.2.2.2.2.2.2.2.2.2.2.2.2.2.length ≤ maxLen) :
    ∃ r, laws_szFm f 1048576 = some r ∧ (r < 0 ∨ (¬ r < 0 ∧ GdFm f ∧ r ≤ 1048576)) := by
  rw [laws_szFm.eq]
  obtain ⟨r1, h1, hr1, h2⟩ := szWave_ok2 f.2.2.1 f.2.2.2.1 f.2.2.2.2.1 hz hl hw
  rw [h1, Option.bind_some]
  by_cases c1 : r1 < 0
  · rw [bif_dec c1]; exact ⟨-1, rfl, .inl (by omega)⟩
  have hsm : Small f.2.2.2.1 f.2.2.2.2.1 := h2.elim (fun h => absurd h c1) fun h => h.2
  rw [bif_ndec c1, szIntS_eq _ _ (by omega) hr1 hc, Option.bind_some, szcase]
  by_cases c2 : r1 - (f.2.2.2.2.2.1.length : Int) < 0
  · rw [bif_dec c2]; exact ⟨-1, rfl, .inl (by omega)⟩
  rw [bif_ndec c2, if_neg c2, szBits_eq _ _ (by omega) (by omega) hm, Option.bind_some, szcase]
  try simp only
  by_cases c3 : r1 - (f.2.2.2.2.2.1.length : Int) - (f.2.2.2.2.2.2.2.1.length : Int) < 0
  · rw [bif_dec c3]; exact ⟨-1, rfl, .inl (by omega)⟩
  rw [bif_ndec c3, if_neg c3, szPacked_eq _ _ (by omega) (by omega) hs, Option.bind_some, szcase]
  try simp only
  by_cases c4 : r1 - (f.2.2.2.2.2.1.length : Int) - (f.2.2.2.2.2.2.2.1.length : Int) - (f.2.2.2.2.2.2.2.2.2.2.2.1.length : Int) < 0
  · rw [bif_dec c4]; exact ⟨-1, rfl, .inl (by omega)⟩
  rw [bif_ndec c4, if_neg c4, szPacked_eq _ _ (by omega) (by omega) hi, Option.bind_some, szcase]
  by_cases c5 : r1 - (f.2.2.2.2.2.1.length : Int) - (f.2.2.2.2.2.2.2.1.length : Int) - (f.2.2.2.2.2.2.2.2.2.2.2.1.length : Int) - (f.2.2.2.2.2.2.2.2.2.2.2.2.2.2.2.length : Int) < 0
  · rw [bif_dec c5]; exact ⟨-1, rfl, .inl (by omega)⟩
  rw [bif_ndec c5, if_neg c5]
  exact ⟨_, rfl, .inr ⟨c5, ⟨⟨hsm.z, hsm.l, hsm.w, by omega, by omega, by omega, by omega⟩, hsm⟩, by omega⟩⟩
theorem szFm_ok (f : FmT) (hz : f.2.2.2.1.length ≤ maxLen) (hl : f.2.2.2.2.1.length ≤ maxLen) (hw : ∀ p ∈ f.2.2.2.2.1, p.2.length ≤ maxLen) (hc : f.2.2.2.2.2.1.length ≤ maxLen) (hm : f.2.2.2.2.2.2.2.1.length ≤ maxLen) (hs : f.2.2.2.2.2.2.2.2.2.2.2.1.length ≤ maxLen) (hi : f.2.2.2.2.2.2.2.2.2.2.2.2.2.2.2.length ≤ maxLen) :
    ∃ r, laws_szFm f 1048576 = some r ∧ (r < 0 ∨ (¬ r < 0 ∧ GdFm f)) := by
  obtain ⟨r, h1, h2⟩ := szFm_ok3 f hz hl hw hc hm hs hi
  exact ⟨r, h1, h2.imp id fun h => ⟨h.1, h.2.1⟩⟩
theorem toFm_eq (f : FmT) (h : GdFm f) : laws_toFm f = some f := by
  rw [laws_toFm.eq, toWave_eq _ _ _ h.wv, Option.bind_some, toIntS_eq _ h.sm.c, Option.bind_some, toBits_eq _ _ h.sm.m, Option.bind_some, toPacked_eq _ _ _ _ h.sm.s, Option.bind_some, toPacked_eq _ _ _ _ h.sm.i, Option.bind_some]
theorem eqPacked_v (v w : Int × Int × Int × List Int) (h : v.2.2.2.length < 4611686018427387904) : laws_eqPacked v w = some (decide (v = w)) := eqPacked_eq v.1 v.2.1 v.2.2.1 v.2.2.2 w.1 w.2.1 w.2.2.1 w.2.2.2 h
theorem toPacked_v (v : Int × Int × Int × List Int) (h : v.2.2.2.length ≤ 1048576) : laws_toPacked v = some v := toPacked_eq v.1 v.2.1 v.2.2.1 v.2.2.2 h
theorem eqFm_eq (f g : FmT) (h : GdFm f) : laws_eqFm f g = some (decide (f = g)) := by
  rw [laws_eqFm.eq, fm_dec, eqWave_eq _ _ _ _ _ _ h.wv, eqIntS_eq _ _ (by have := h.sm.c; omega), eqBits_eq _ _ _ _ (by have := h.sm.m; omega), eqPacked_eq _ _ _ _ _ _ _ _ (by have := h.sm.s; omega), eqPacked_v _ _ (by have := h.sm.i; omega)]
  simp only [Option.bind_some, bne, beq_dec]
  cases decide (f.1 = g.1)
  · rfl
  cases decide (f.2.1 = g.2.1)
  · rfl
  cases decide ((f.2.2.1, f.2.2.2.1, f.2.2.2.2.1) = (g.2.2.1, g.2.2.2.1, g.2.2.2.2.1))
  · rfl
  cases decide (f.2.2.2.2.2.1 = g.2.2.2.2.2.1)
  · rfl
  cases decide ((f.2.2.2.2.2.2.1, f.2.2.2.2.2.2.2.1) = (g.2.2.2.2.2.2.1, g.2.2.2.2.2.2.2.1))
  · rfl
  cases decide ((f.2.2.2.2.2.2.2.2.1, f.2.2.2.2.2.2.2.2.2.1, f.2.2.2.2.2.2.2.2.2.2.1, f.2.2.2.2.2.2.2.2.2.2.2.1) = (g.2.2.2.2.2.2.2.2.1, g.2.2.2.2.2.2.2.2.2.1, g.2.2.2.2.2.2.2.2.2.2.1, g.2.2.2.2.2.2.2.2.2.2.2.1))
  · rfl
  cases decide (f.2.2.2.2.2.2.2.2.2.2.2.2 = g.2.2.2.2.2.2.2.2.2.2.2.2) <;> rfl
theorem markPacked_v (v : Int × Int × Int × List Int) (k : Int) (hk : 0 ≤ k) (h : k + (v.2.2.2.length : Int) < 4611686018427387904) : laws_markPacked v k = some (k + v.2.2.2.length, (v.1, v.2.1, v.2.2.1, markF IntKind.u64.wrap k v.2.2.2.length)) :=
  markPacked_eq v.1 v.2.1 v.2.2.1 v.2.2.2 k hk h
theorem markFm_ok (f : FmT) (h : GdFm f) : ∃ r g, laws_markFm f 1 = some (r, g) ∧ 0 ≤ r ∧ r ≤ 100000000 := by
  have hs := h.wv.sum
  have hE := mBE_eq (1 + f.2.2.2.1.length) (lens f.2.2.2.2.1)
  have := h.sm.c
  have := h.sm.m
  have := h.sm.s
  have := h.sm.i
  rw [laws_markFm.eq, markWave_eq _ _ _ 1 (by omega) (by omega) h.wv, Option.bind_some]
  try simp only
  rw [markIntS_eq _ _ (by omega) (by omega), Option.bind_some]
  try simp only
  rw [markBits_eq _ _ _ (by omega) (by omega), Option.bind_some]
  try simp only
  rw [markPacked_eq _ _ _ _ _ (by omega) (by omega), Option.bind_some]
  try simp only
  rw [markPacked_v _ _ (by omega) (by omega), Option.bind_some]
  exact ⟨_, _, rfl, by omega, by omega⟩
theorem guard2 {α : Type} (k n : Int) (a b : Option α) : (bif decide (k < 0) then a else bif decide (k > n) then a else b) = bif decide (0 ≤ k) && decide (k ≤ n) then b else a := by
  by_cases h1 : k < 0
  · rw [bif_dec h1, decide_eq_false (show ¬ 0 ≤ k by omega)]; rfl
  · rw [bif_ndec h1, decide_eq_true (show 0 ≤ k by omega), Bool.true_and]
    by_cases h2 : k > n
    · rw [bif_dec h2, decide_eq_false (show ¬ k ≤ n by omega)]; rfl
    · rw [bif_ndec h2, decide_eq_true (show k ≤ n by omega)]; rfl
theorem bif_not {α : Type} (c : Bool) (a b : α) : (bif !c then a else b) = bif c then b else a := by cases c <;> rfl
end Go.Ev.W
