/- The law of PackBytes. -/
import Derived.Test.YthbijcdnjgfndaaEvC
import Derived.Test.YthbijcdnjgfndaaPa31
import Derived.Test.YthbijcdnjgfndaaMPackOk
import Derived.Test.YthbijcdnjgfndaaMConcat
set_option linter.unusedVariables false
set_option linter.unusedSimpArgs false
namespace Go.Ev.W
open Go.Ev

def pB (w n b : Int) (W : List Nat) : List Nat := bif pOk w n b W then Var w ++ Var n ++ bb b W else []
theorem pB_len (w n b : Int) (W : List Nat) : (pB w n b W).length ≤ 1000 := by
  unfold pB
  cases h : pOk w n b W with
  | false => simp
  | true =>
    simp only [pOk, vOk, Bool.and_eq_true, decide_eq_true_eq] at h
    have := bb_len b W h.1.2.1.2
    have h1 := Var_len w
    have h2 := Var_len n
    rw [bif_true, List.length_append, List.length_append]; omega
theorem specPackBytes_eq (w n b : Int) (W : List Nat) (hl : W.length ≤ 1048576) (hx : ∀ x ∈ W, x < 2 ^ 64) : spec_PackBytes (w, n, b, ints W) = some (ints (pB w n b W)) := by
  rw [spec_PackBytes.eq]
  simp only
  rw [specPackOk_eq w n b W hl hx, Option.bind_some]
  unfold pB
  cases h : pOk w n b W with
  | false => rfl
  | true =>
    have hv : vOk b W = true := by simp only [pOk, Bool.and_eq_true] at h; exact h.1.2
    have hb : b ≤ 5000 := by simp only [vOk, Bool.and_eq_true, decide_eq_true_eq] at hv; exact hv.1.2
    have h1 := Var_len w
    have h2 := Var_len n
    have h3 := bb_len b W hb
    rw [Bool.not_true, bif_false, specVarOf_eq, Option.bind_some, specVarOf_eq, Option.bind_some, bif_dec (by simp only [List.length_map]; omega), specBitsBytes_eq b W hl hx, Option.bind_some, hv, bif_true, bif_dec (by simp only [List.length_map, List.length_append]; omega), bif_true]
    simp only [List.map_append]
theorem implPackBytes_eq (w n b : Int) (W : List Nat) (hl : W.length ≤ 1048576) (hx : ∀ x ∈ W, x < 2 ^ 64) : impl_PackBytes (w, n, b, ints W) = some (ints (pB w n b W)) := by
  rw [impl_PackBytes.eq]
  simp only
  rw [implPackOk_eq w n b W hl hx, Option.bind_some]
  unfold pB
  cases h : pOk w n b W with
  | false => rfl
  | true =>
    have hv : vOk b W = true := by simp only [pOk, Bool.and_eq_true] at h; exact h.1.2
    have hv' := hv
    simp only [vOk, Bool.and_eq_true, decide_eq_true_eq] at hv'
    obtain ⟨⟨hb0, hb⟩, hw⟩ := hv'
    have h1 := Var_len w
    have h2 := Var_len n
    have h3 := bb_len b W hb
    obtain ⟨m, rfl⟩ : ∃ m : Nat, b = m := ⟨b.toNat, by omega⟩
    rw [Bool.not_true, bif_false, implVarOf_eq, Option.bind_some, implVarOf_eq, Option.bind_some, bitsBytes_eq m W (by omega) ((okW_iff m W hx).1 (by simpa using hw)), Option.bind_some, concat_eq _ (by simp) (by simp only [List.map_cons, List.map_nil, List.sum_cons, List.sum_nil, List.length_map]; omega), Option.bind_some, bif_true]
    simp only [List.map_append, List.flatten_cons, List.flatten_nil, List.append_nil, List.append_assoc]
theorem sz_pass (k : Int) : (bif decide ((if k < 0 then -1 else k) < 0) then some (-1 : Int) else some (if k < 0 then -1 else k)) = some (if k < 0 then -1 else k) := by
  by_cases h : k < 0
  · rw [if_pos h]; rfl
  · rw [if_neg h, bif_ndec h]
theorem law_PackBytes (x : Int × Int × Int × List Int) (hx : goodA tab laws_FnExactPackBytes.as x) : laws_FnExactPackBytes.fn x = some true := by
  obtain ⟨w, n, b, xs⟩ := x
  show laws_FnExactPackBytes (w, n, b, xs) = some true
  have hg : AllP (α := Tup [CT.int .u64]) (allL (goodC 4) [CT.int .u64]) xs := hx.2.2.2
  have hm : xs.length ≤ maxLen := hg.1
  rw [laws_FnExactPackBytes.eq]
  simp only
  rw [laws_szPacked.eq]
  simp only
  rw [szBits_eq _ _ (by omega) (by omega) hm, Option.bind_some, sz_pass, Option.bind_some, szcase]
  by_cases h : (1048576 : Int) - (xs.length : Int) < 0
  · rw [bif_dec h]
  rw [bif_ndec h]
  obtain ⟨W, rfl, hW⟩ := ints_of xs (2 ^ 64) (words_of hg)
  have hl : W.length ≤ 1048576 := by rw [List.length_map] at h; omega
  have hil : (ints W).length = W.length := List.length_map ..
  have hs := specPackBytes_eq w n b W hl hW
  have hi := implPackBytes_eq w n b W hl hW
  have hRl := pB_len w n b W
  have hRl' : (ints (pB w n b W)).length = (pB w n b W).length := List.length_map ..
  simp (disch := omega) only [laws_toPacked.eq, toBits_eq, hs, hi, eqByteS_eq, eqPacked_eq, markPacked_eq, markByteS_eq, heldByteS_eq, laws_FnExactPackBytes_l0.eq, Option.bind_some, decide_true, Bool.not_true, cond_false, beq_self_eq_true, bne_self_eq_false, one_lt]
end Go.Ev.W
