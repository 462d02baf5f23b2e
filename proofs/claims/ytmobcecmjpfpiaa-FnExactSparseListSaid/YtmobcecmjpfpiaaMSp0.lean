/- Sparse lists: plain facts. -/
import Derived.Test.YtmobcecmjpfpiaaEvC
import Derived.Test.YtmobcecmjpfpiaaMFm0
import Derived.Test.YtmobcecmjpfpiaaMCount
set_option linter.unusedVariables false
set_option linter.unusedSimpArgs false
namespace Go.Ev.W
open Go.Ev

/-- The bits of quotients: z zeros are there already. -/
def hiB (u Q : Nat) : Nat → List Nat → List Bool
  | z, [] => List.replicate (Q + 1 - z) false
  | z, x :: X => List.replicate (x / u - z) false ++ true :: hiB u Q (x / u) X
/-- The numbers of bits and low parts; ones without a low part are passed over. -/
def deS (u : Nat) : List Bool → Nat → List Nat → List Nat
  | [], _, _ => []
  | false :: bs, q, L => deS u bs (q + 1) L
  | true :: bs, q, [] => deS u bs q []
  | true :: bs, q, l :: L => (q * u + l) :: deS u bs q L
def ones (bs : List Bool) : Nat := (bs.filter id).length
theorem ones_cons (b : Bool) (bs : List Bool) : ones (b :: bs) = (if b then 1 else 0) + ones bs := by
  unfold ones
  rw [List.filter_cons]
  cases b <;> simp <;> omega
theorem ones_app (a b : List Bool) : ones (a ++ b) = ones a + ones b := by unfold ones; rw [List.filter_append, List.length_append]
theorem ones_rep (n : Nat) : ones (List.replicate n false) = 0 := by
  induction n with
  | zero => rfl
  | succ n ih => rw [List.replicate_succ, ones_cons, ih]; rfl
theorem ones_hiB (u Q : Nat) : ∀ (z : Nat) (X : List Nat), ones (hiB u Q z X) = X.length
  | z, [] => by rw [hiB, ones_rep]; rfl
  | z, x :: X => by rw [hiB, ones_app, ones_rep, ones_cons, ones_hiB u Q _ X, List.length_cons]; simp; omega
theorem deS_len (u : Nat) : ∀ (bs : List Bool) (q : Nat) (L : List Nat), (deS u bs q L).length = min (ones bs) L.length
  | [], _, _ => by simp [deS, ones]
  | false :: bs, q, L => by rw [deS, deS_len u bs, ones_cons]; simp
  | true :: bs, q, [] => by rw [deS, deS_len u bs]; simp
  | true :: bs, q, l :: L => by rw [deS, List.length_cons, deS_len u bs, ones_cons, List.length_cons]; simp; omega
/-- Quotients rise from z on and stay below Q. -/
def Ris (u Q : Nat) : Nat → List Nat → Prop
  | z, [] => z ≤ Q + 1
  | z, x :: X => z ≤ x / u ∧ Ris u Q (x / u) X
theorem hiB_len (u Q : Nat) : ∀ (z : Nat) (X : List Nat), Ris u Q z X → z ≤ Q + 1 ∧ (hiB u Q z X).length = X.length + (Q + 1 - z)
  | z, [], h => by
    refine ⟨h, ?_⟩
    rw [hiB, List.length_replicate]; simp
  | z, x :: X, h => by
    obtain ⟨h1, h2⟩ := h
    have ih := hiB_len u Q (x / u) X h2
    refine ⟨by omega, ?_⟩
    rw [hiB, List.length_append, List.length_replicate, List.length_cons, ih.2, List.length_cons]; omega
theorem deS_bound (u : Nat) : ∀ (bs : List Bool) (q : Nat) (L : List Nat), (∀ l ∈ L, l < u) → ∀ x ∈ deS u bs q L, x < (q + bs.length) * u + u
  | [], _, _, _, x, h => by cases h
  | false :: bs, q, L, hL, x, h => by
    have := deS_bound u bs (q + 1) L hL x h
    rw [List.length_cons]
    rwa [show q + (bs.length + 1) = q + 1 + bs.length by omega]
  | true :: bs, q, [], hL, x, h => by
    have := deS_bound u bs q [] hL x h
    rw [List.length_cons, show q + (bs.length + 1) = (q + bs.length) + 1 by omega, Nat.add_mul]; omega
  | true :: bs, q, l :: L, hL, x, h => by
    rw [List.length_cons, show q + (bs.length + 1) = (q + bs.length) + 1 by omega, Nat.add_mul]
    rw [deS] at h
    rcases List.mem_cons.1 h with h | h
    · have h1 := hL l List.mem_cons_self
      have h2 : q * u ≤ (q + bs.length) * u := Nat.mul_le_mul_right _ (by omega)
      omega
    · have := deS_bound u bs q L (fun l hl => hL l (List.mem_cons_of_mem _ hl)) x h
      omega
theorem hiB_one (u Q q x : Nat) (X : List Nat) (h : x / u = q) : hiB u Q q (x :: X) = true :: hiB u Q q X := by
  rw [hiB, h, Nat.sub_self]; rfl
theorem hiB_zero (u Q q : Nat) (X : List Nat) (hq : q ≤ Q) (h : Ris u Q q X) (hx : ∀ x, X.head? = some x → x / u ≠ q) : hiB u Q q X = false :: hiB u Q (q + 1) X ∧ Ris u Q (q + 1) X := by
  cases X with
  | nil =>
    refine ⟨?_, by show q + 1 ≤ Q + 1; omega⟩
    rw [hiB, hiB, show Q + 1 - q = (Q + 1 - (q + 1)) + 1 by omega, List.replicate_succ]
  | cons x X =>
    obtain ⟨h1, h2⟩ := h
    have h3 := hx x rfl
    refine ⟨?_, ⟨by omega, h2⟩⟩
    rw [hiB, hiB, show x / u - q = (x / u - (q + 1)) + 1 by omega, List.replicate_succ, List.cons_append]
theorem Ris_tail (u Q q x : Nat) (X : List Nat) (h : Ris u Q q (x :: X)) : Ris u Q (x / u) X := h.2
theorem Ris_of (u Q : Nat) (hu : 0 < u) : ∀ (z : Nat) (X : List Nat), z ≤ Q + 1 → (∀ x ∈ X, z ≤ x / u ∧ x / u ≤ Q) → X.Pairwise (· ≤ ·) → Ris u Q z X
  | z, [], h, _, _ => h
  | z, x :: X, h, h1, h2 => by
    have h3 := h1 x List.mem_cons_self
    obtain ⟨h4, h5⟩ := List.pairwise_cons.1 h2
    exact ⟨h3.1, Ris_of u Q hu (x / u) X (by omega) (fun y hy => ⟨Nat.div_le_div_right (h4 y hy), (h1 y (List.mem_cons_of_mem _ hy)).2⟩) h5⟩
/-- The low width. -/
def lwd (n U : Nat) : Nat := if n = 0 then 0 else wd (U / n) - 1
end Go.Ev.W
