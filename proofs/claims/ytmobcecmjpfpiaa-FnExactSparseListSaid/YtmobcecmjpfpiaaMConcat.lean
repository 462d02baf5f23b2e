/- Joining byte slices. -/
import Derived.Test.YtmobcecmjpfpiaaEvC
import Derived.Test.YtmobcecmjpfpiaaPp4
import Derived.Test.YtmobcecmjpfpiaaEvGrow
set_option linter.unusedVariables false
set_option linter.unusedSimpArgs false
namespace Go.Ev.W
open Go.Ev

theorem grow_eq (n : Int) (h0 : 0 ≤ n) (h : n ≤ 140737488355328) : slices_Grow_byte_byte [] n = some [] := by
  unfold slices_Grow_byte_byte growF
  simp only [List.isEmpty_nil, Bool.true_and]
  rw [decide_eq_true h0, decide_eq_true (show n.toNat * 1 ≤ 140737488355328 by omega), decide_eq_true (show n.toNat ≤ 4611686018427387904 by omega)]
  rfl
theorem sum_take_le : ∀ (L : List Nat) (i : Nat), (L.take i).sum ≤ L.sum
  | [], i => by simp
  | x :: L, 0 => by simp
  | x :: L, i + 1 => by simp only [List.take_succ_cons, List.sum_cons]; have := sum_take_le L i; omega
theorem take_step {α : Type} (l : List α) (i : Nat) (h : i < l.length) : l.take (i + 1) = l.take i ++ [l[i]] := by
  rw [List.take_add_one, List.getElem?_eq_getElem h]; rfl
theorem concat_l1 (X : List (List Int)) (hn : X.length ≤ 1000000) (hs : (X.map List.length).sum ≤ 1000000000) : ∀ (d i : Nat), X.length - i = d → i ≤ X.length →
    slices_Concat_byte_byte_l1 X X.length i (X.take i).flatten = some X.flatten := by
  intro d
  induction d with
  | zero =>
    intro i h1 h2
    obtain rfl : i = X.length := by omega
    rw [slices_Concat_byte_byte_l1.eq, bif_ndec (by omega), List.take_length]
  | succ d ih =>
    intro i h1 h2
    rw [slices_Concat_byte_byte_l1.eq, bif_dec (by omega), at?_lt X i (by omega), Option.bind_some]
    have e : (X.take (i + 1)).flatten = (X.take i).flatten ++ X[i] := by rw [take_step _ _ (by omega), List.flatten_append, List.flatten_cons, List.flatten_nil, List.append_nil]
    have hb := sum_take_le (X.map List.length) (i + 1)
    rw [← List.map_take, ← List.length_flatten, e, List.length_append] at hb
    rw [bif_dec (by omega), ← e, wrapI (by omega) (by omega)]
    exact ih (i + 1) (by omega) (by omega)
theorem concat_l0 (X : List (List Int)) (hn : X.length ≤ 1000000) (hs : (X.map List.length).sum ≤ 1000000000) : ∀ (d i : Nat), X.length - i = d → i ≤ X.length →
    slices_Concat_byte_byte_l0 X ((((X.map List.length).take i).sum : Nat) : Int) X X.length i = some X.flatten := by
  intro d
  induction d with
  | zero =>
    intro i h1 h2
    obtain rfl : i = X.length := by omega
    rw [slices_Concat_byte_byte_l0.eq, bif_ndec (by omega)]
    have hb := sum_take_le (X.map List.length) X.length
    rw [grow_eq _ (by omega) (by omega), Option.bind_some]
    exact concat_l1 X hn hs _ 0 rfl (by omega)
  | succ d ih =>
    intro i h1 h2
    have hi : i < X.length := by omega
    rw [slices_Concat_byte_byte_l0.eq, bif_dec (by omega), at?_lt X i hi, Option.bind_some]
    have e : ((X.map List.length).take (i + 1)).sum = ((X.map List.length).take i).sum + X[i].length := by rw [take_step _ _ (by rw [List.length_map]; omega), List.sum_append, List.sum_cons, List.sum_nil, List.getElem_map, Nat.add_zero]
    have hb := sum_take_le (X.map List.length) (i + 1)
    rw [e] at hb
    rw [wrapI (by omega) (by omega), bif_ndec (by omega), wrapI (by omega) (by omega)]
    have := ih (i + 1) (by omega) (by omega)
    rw [e] at this
    exact this
theorem concat_eq (X : List (List Int)) (hn : X.length ≤ 1000000) (hs : (X.map List.length).sum ≤ 1000000000) : slices_Concat_byte_byte X = some X.flatten := by
  rw [slices_Concat_byte_byte.eq]
  exact concat_l0 X hn hs _ 0 rfl (by omega)
end Go.Ev.W
