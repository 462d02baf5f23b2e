/- Waves: arguments; bytes. -/
import Derived.Test.YtddhebliggkadaaGreatEvC
import Derived.Test.YtddhebliggkadaaGreatPc24
import Derived.Test.YtddhebliggkadaaGreatMWave2
import Derived.Test.YtddhebliggkadaaGreatMWaveS
set_option linter.unusedVariables false
set_option linter.unusedSimpArgs false
namespace Go.Ev.W
open Go.Ev

theorem words_in {d : Nat} {xs : List Int} (h : AllP (α := Tup [CT.int .u64]) (allL (goodC (d + 1)) [CT.int .u64]) xs) : ∀ x ∈ xs, 0 ≤ x ∧ x < ((2 ^ 64 : Nat) : Int) := by
  intro x hx
  have := h.2 x hx
  have : (Lit.int .u64 x).wf = true := this
  simp only [Lit.wf, Bool.and_eq_true, decide_eq_true_eq] at this
  have e : IntKind.u64.max = 18446744073709551615 := rfl
  have e2 : IntKind.u64.min = 0 := rfl
  rw [e, e2] at this
  omega
theorem lv_of (X : List (Int × List Int)) (h : ∀ p ∈ X, ∀ x ∈ p.2, 0 ≤ x ∧ x < ((2 ^ 64 : Nat) : Int)) : ∃ L : List (Int × List Nat), X = LI L ∧ ∀ p ∈ L, ∀ x ∈ p.2, x < 2 ^ 64 := by
  refine ⟨X.map fun p => (p.1, p.2.map Int.toNat), ?_, fun p hp x hx => ?_⟩
  · unfold LI
    rw [List.map_map]
    refine (List.map_id X).symm.trans (List.map_congr_left fun p hp => ?_)
    obtain ⟨n, xs⟩ := p
    refine Prod.ext rfl ?_
    show xs = ints (xs.map Int.toNat)
    unfold ints
    rw [List.map_map]
    refine (List.map_id xs).symm.trans (List.map_congr_left fun x hx => ?_)
    have := h _ hp x hx
    simp only [Function.comp, id]
    omega
  · obtain ⟨q, hq, rfl⟩ := List.mem_map.1 hp
    obtain ⟨y, hy, rfl⟩ := List.mem_map.1 hx
    have := h q hq y hy
    omega
theorem LI_len {L : List (Int × List Nat)} {k : Nat} (h : ∀ p ∈ LI L, p.2.length ≤ k) : ∀ p ∈ L, p.2.length ≤ k := by
  intro p hp
  have := h (p.1, ints p.2) (List.mem_map.2 ⟨p, hp, rfl⟩)
  simpa using this
theorem wOk_at {n : Int} {Z : List Int} {L : List (Int × List Nat)} (h : wOk n Z L = true) : 0 ≤ n ∧ n ≤ 1000 ∧ Z.length = 9 ∧ L.length = 9 ∧ ∀ p ∈ L, vOk p.1 p.2 = true ∧ p.1 = n := by
  unfold wOk at h
  simp only [Bool.and_eq_true, decide_eq_true_eq] at h
  obtain ⟨⟨⟨⟨h1, h2⟩, h3⟩, h4⟩, h5⟩ := h
  refine ⟨h1, h2, h3, h4, fun p hp => ?_⟩
  obtain ⟨i, hi, rfl⟩ := List.getElem_of_mem hp
  have hz : i < (L.zip Z).length := by rw [List.length_zip]; omega
  have := List.all_eq_true.1 h5 _ (List.getElem_mem hz)
  rw [List.getElem_zip] at this
  simp only [lOk, Bool.and_eq_true, decide_eq_true_eq] at this
  exact this.1
