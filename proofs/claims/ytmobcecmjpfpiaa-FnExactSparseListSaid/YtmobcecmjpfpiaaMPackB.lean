/- Packed numbers as bytes: both functions. -/
import Derived.Test.YtmobcecmjpfpiaaEvC
import Derived.Test.YtmobcecmjpfpiaaPp4
import Derived.Test.YtmobcecmjpfpiaaMPackOk
import Derived.Test.YtmobcecmjpfpiaaMConcat
set_option linter.unusedVariables false
set_option linter.unusedSimpArgs false
namespace Go.Ev.W
open Go.Ev

def pB (w n b : Int) (W : List Nat) : List Nat := bif pOk w n b W then Var w ++ Var n ++ bb b W else []
theorem pB_len (w n b : Int) (W : List Nat) : (pB w n b W).length ≤ 1000 := by
  unfold pB
  cases h : pOk w n b W with
  | false => simp
  | true =>
    simp only [pOk, vOk, Bool.and_eq_true, decide_eq_true_eq] at h
    have := bb_len b W h.1.2.1.2
    have h1 := Var_len w
    have h2 := Var_len n
    rw [bif_true, List.length_append, List.length_append]; omega
theorem implPackBytes_eq (w n b : Int) (W : List Nat) (hl : W.length ≤ 1048576) (hx : ∀ x ∈ W, x < 2 ^ 64) : impl_PackBytes (w, n, b, ints W) = some (ints (pB w n b W)) := by
  rw [impl_PackBytes.eq]
  try simp only
  rw [implPackOk_eq w n b W hl hx, Option.bind_some]
  unfold pB
  cases h : pOk w n b W with
  | false => rfl
  | true =>
    have hv : vOk b W = true := by simp only [pOk, Bool.and_eq_true] at h; exact h.1.2
    have hv' := hv
    simp only [vOk, Bool.and_eq_true, decide_eq_true_eq] at hv'
    obtain ⟨⟨hb0, hb⟩, hw⟩ := hv'
    have h1 := Var_len w
    have h2 := Var_len n
    have h3 := bb_len b W hb
    obtain ⟨m, rfl⟩ : ∃ m : Nat, b = m := ⟨b.toNat, by omega⟩
    rw [Bool.not_true, bif_false, implVarOf_eq, Option.bind_some, implVarOf_eq, Option.bind_some, bitsBytes_eq m W (by omega) ((okW_iff m W hx).1 (by simpa using hw)), Option.bind_some, concat_eq _ (by simp) (by simp only [List.map_cons, List.map_nil, List.sum_cons, List.sum_nil, List.length_map]; omega), Option.bind_some, bif_true]
    simp only [List.map_append, List.flatten_cons, List.flatten_nil, List.append_nil, List.append_assoc]
end Go.Ev.W
