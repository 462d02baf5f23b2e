/- Indexes: the laws' helpers. -/
import Derived.Test.YtmobcecmjpfpiaaGreatEvC
import Derived.Test.YtmobcecmjpfpiaaGreatPz2
import Derived.Test.YtmobcecmjpfpiaaGreatMFm3
import Derived.Test.YtmobcecmjpfpiaaGreatMWaveH
set_option linter.unusedVariables false
set_option linter.unusedSimpArgs false
namespace Go.Ev.W
open Go.Ev

/-- What the guard gives. -/
structure GdFm (f : FmT) : Prop where
  sm : SmFm f 1048576
  wv : Small f.2.2.2.1 f.2.2.2.2.1
theorem eqPacked_v (v w : Int × Int × Int × List Int) (h : v.2.2.2.length < 4611686018427387904) : laws_eqPacked v w = some (decide (v = w)) := eqPacked_eq v.1 v.2.1 v.2.2.1 v.2.2.2 w.1 w.2.1 w.2.2.1 w.2.2.2 h
theorem eqFm_eq (f g : FmT) (h : GdFm f) : laws_eqFm f g = some (decide (f = g)) := by
  rw [laws_eqFm.eq, fm_dec, eqWave_eq _ _ _ _ _ _ h.wv, eqIntS_eq _ _ (by have := h.sm.c; omega), eqBits_eq _ _ _ _ (by have := h.sm.m; omega), eqPacked_eq _ _ _ _ _ _ _ _ (by have := h.sm.s; omega), eqPacked_v _ _ (by have := h.sm.i; omega)]
  simp only [Option.bind_some, bne, beq_dec]
  cases decide (f.1 = g.1)
  · rfl
  cases decide (f.2.1 = g.2.1)
  · rfl
  cases decide ((f.2.2.1, f.2.2.2.1, f.2.2.2.2.1) = (g.2.2.1, g.2.2.2.1, g.2.2.2.2.1))
  · rfl
  cases decide (f.2.2.2.2.2.1 = g.2.2.2.2.2.1)
  · rfl
  cases decide ((f.2.2.2.2.2.2.1, f.2.2.2.2.2.2.2.1) = (g.2.2.2.2.2.2.1, g.2.2.2.2.2.2.2.1))
  · rfl
  cases decide ((f.2.2.2.2.2.2.2.2.1, f.2.2.2.2.2.2.2.2.2.1, f.2.2.2.2.2.2.2.2.2.2.1, f.2.2.2.2.2.2.2.2.2.2.2.1) = (g.2.2.2.2.2.2.2.2.1, g.2.2.2.2.2.2.2.2.2.1, g.2.2.2.2.2.2.2.2.2.2.1, g.2.2.2.2.2.2.2.2.2.2.2.1))
  · rfl
  cases decide (f.2.2.2.2.2.2.2.2.2.2.2.2 = g.2.2.2.2.2.2.2.2.2.2.2.2) <;> rfl
theorem markPacked_v (v : Int × Int × Int × List Int) (k : Int) (hk : 0 ≤ k) (h : k + (v.2.2.2.length : Int) < 4611686018427387904) : laws_markPacked v k = some (k + v.2.2.2.length, (v.1, v.2.1, v.2.2.1, markF IntKind.u64.wrap k v.2.2.2.length)) :=
  markPacked_eq v.1 v.2.1 v.2.2.1 v.2.2.2 k hk h
theorem markFm_ok (f : FmT) (h : GdFm f) : ∃ r g, laws_markFm f 1 = some (r, g) ∧ 0 ≤ r ∧ r ≤ 100000000 := by
  have hs := h.wv.sum
  have hE := mBE_eq (1 + f.2.2.2.1.length) (lens f.2.2.2.2.1)
  have := h.sm.c
  have := h.sm.m
  have := h.sm.s
  have := h.sm.i
  rw [laws_markFm.eq, markWave_eq _ _ _ 1 (by omega) (by omega) h.wv, Option.bind_some]
  try simp only
  rw [markIntS_eq _ _ (by omega) (by omega), Option.bind_some]
  try simp only
  rw [markBits_eq _ _ _ (by omega) (by omega), Option.bind_some]
  try simp only
  rw [markPacked_eq _ _ _ _ _ (by omega) (by omega), Option.bind_some]
  try simp only
  rw [markPacked_v _ _ (by omega) (by omega), Option.bind_some]
  exact ⟨_, _, rfl, by omega, by omega⟩
theorem guard2 {α : Type} (k n : Int) (a b : Option α) : (bif decide (k < 0) then a else bif decide (k > n) then a else b) = bif decide (0 ≤ k) && decide (k ≤ n) then b else a := by
  by_cases h1 : k < 0
  · rw [bif_dec h1, decide_eq_false (show ¬ 0 ≤ k by omega)]; rfl
  · rw [bif_ndec h1, decide_eq_true (show 0 ≤ k by omega), Bool.true_and]
    by_cases h2 : k > n
    · rw [bif_dec h2, decide_eq_false (show ¬ k ≤ n by omega)]; rfl
    · rw [bif_ndec h2, decide_eq_true (show k ≤ n by omega)]; rfl
theorem bif_not {α : Type} (c : Bool) (a b : α) : (bif !c then a else b) = bif c then b else a := by cases c <;> rfl
end Go.Ev.W
