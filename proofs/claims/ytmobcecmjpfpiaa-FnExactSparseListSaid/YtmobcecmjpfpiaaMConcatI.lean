/- Joining slices of numbers. -/
import Derived.Test.YtmobcecmjpfpiaaEvC
import Derived.Test.YtmobcecmjpfpiaaEvGrow
set_option linter.unusedVariables false
set_option linter.unusedSimpArgs false
namespace Go.Ev.W
open Go.Ev

theorem sum_take_leI : ∀ (L : List Nat) (i : Nat), (L.take i).sum ≤ L.sum
  | [], i => by simp
  | x :: L, 0 => by simp
  | x :: L, i + 1 => by simp only [List.take_succ_cons, List.sum_cons]; have := sum_take_leI L i; omega
theorem take_stepI {α : Type} (l : List α) (i : Nat) (h : i < l.length) : l.take (i + 1) = l.take i ++ [l[i]] := by
  rw [List.take_add_one, List.getElem?_eq_getElem h]; rfl
end Go.Ev.W
