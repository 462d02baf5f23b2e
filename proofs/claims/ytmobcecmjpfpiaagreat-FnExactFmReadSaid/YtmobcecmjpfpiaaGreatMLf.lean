/- From each row to the row before it. -/
import Derived.Test.YtmobcecmjpfpiaaGreatEvC
import Derived.Test.YtmobcecmjpfpiaaGreatPz1
import Derived.Test.YtmobcecmjpfpiaaGreatMSyms
set_option linter.unusedVariables false
set_option linter.unusedSimpArgs false
namespace Go.Ev.W
open Go.Ev

def eqc (X : List Nat) (c : Nat) : Nat := (X.filter fun x => decide (x = c)).length
theorem eqc_le (X : List Nat) (c : Nat) : eqc X c ≤ X.length := List.length_filter_le ..
theorem eqc_snoc (X : List Nat) (x c : Nat) : eqc (X ++ [x]) c = eqc X c + (if x = c then 1 else 0) := by
  unfold eqc
  rw [List.filter_append, List.length_append]
  by_cases h : x = c <;> simp [h]
theorem ltc_snoc (X : List Nat) (x c : Nat) : ltc (X ++ [x]) c = ltc X c + (if x < c then 1 else 0) := by
  unfold ltc
  rw [List.filter_append, List.length_append]
  by_cases h : x < c <;> simp [h]
def lfV (X : List Nat) (i : Nat) : Nat := ltc X (X.getD i 0) + eqc (X.take i) (X.getD i 0)
def lfs (X : List Nat) : List Nat := (List.range X.length).map (lfV X)
theorem lfs_len (X : List Nat) : (lfs X).length = X.length := by unfold lfs; rw [List.length_map, List.length_range]
theorem lfs_step (X : List Nat) (i : Nat) : ints ((List.range i).map (lfV X)) ++ [((lfV X i : Nat) : Int)] = ints ((List.range (i + 1)).map (lfV X)) := by
  rw [List.range_succ, List.map_append]
  exact (List.map_append (f := fun (x : Nat) => (x : Int)) (l₁ := (List.range i).map (lfV X)) (l₂ := [lfV X i])).symm
theorem lfV_at (X : List Nat) (i : Nat) (hi : i < X.length) : lfV X i = ltc X X[i] + eqc (X.take i) X[i] := by
  unfold lfV
  rw [List.getD_eq_getElem?_getD, List.getElem?_eq_getElem hi]; rfl
theorem implLf_l0 (X : List Nat) (hX : X.length ≤ 301) (hx : ∀ x ∈ X, x ≤ 256) : ∀ (d i : Nat), X.length - i = d → i ≤ X.length → impl_lfOf_l0 (ints X) X.length i ((List.range 258).map fun c => ((ltc X c + eqc (X.take i) c : Nat) : Int)) (ints ((List.range i).map (lfV X))) = some (ints (lfs X)) := by
  intro d
  induction d with
  | zero =>
    intro i h1 h2
    obtain rfl : i = X.length := by omega
    rw [impl_lfOf_l0.eq, bif_ndec (by omega)]; rfl
  | succ d ih =>
    intro i h1 h2
    have hi : i < X.length := by omega
    have hxi := hx _ (List.getElem_mem hi)
    have hle := eqc_le (X.take i) X[i]
    have hle2 := ltc_le X X[i]
    rw [List.length_take] at hle
    rw [impl_lfOf_l0.eq, bif_dec (by omega), at?_ints _ _ hi, Option.bind_some]
    simp only [at?_nat, Int.toNat_natCast, mapr_get _ 258 X[i] (show X[i] < 258 by omega), Option.bind_some]
    rw [bif_dec (by simp only [List.length_cons, List.length_nil, List.length_map, List.length_range]; omega), wrapS i (by omega), wrapS (ltc X X[i] + eqc (X.take i) X[i]) (by omega), mapr_set, ← lfV_at X i hi, lfs_step]
    have e2 : (List.range 258).map (fun c => if c = X[i] then ((lfV X i + 1 : Nat) : Int) else ((ltc X c + eqc (X.take i) c : Nat) : Int)) = (List.range 258).map fun c => ((ltc X c + eqc (X.take (i + 1)) c : Nat) : Int) := by
      refine List.map_congr_left fun c _ => ?_
      have et : X.take (i + 1) = X.take i ++ [X[i]] := by rw [List.take_add_one, List.getElem?_eq_getElem hi]; rfl
      rw [et, eqc_snoc]
      by_cases h4 : c = X[i]
      · subst h4; rw [if_pos rfl, if_pos rfl, lfV_at X i hi]; rfl
      · rw [if_neg h4, if_neg (Ne.symm h4)]; rfl
    rw [e2]
    exact ih (i + 1) (by omega) (by omega)
theorem implLf_eq (X : List Nat) (hX : X.length ≤ 301) (hx : ∀ x ∈ X, x ≤ 256) : impl_lfOf (ints X) = some (ints (lfs X)) := by
  rw [impl_lfOf.eq, counts_eq X hX hx, Option.bind_some, List.length_map]
  have := implLf_l0 X hX hx _ 0 rfl (by omega)
  have e0 : ints ((List.range 258).map (ltc X)) = (List.range 258).map (fun c => ((ltc X c + eqc (X.take 0) c : Nat) : Int)) := by
    show List.map (fun (x : Nat) => (x : Int)) (List.map (ltc X) (List.range 258)) = _
    rw [List.map_map]
    refine List.map_congr_left fun c _ => ?_
    rw [List.take_zero]; rfl
  rw [e0]
  exact this
theorem specLf_l1 (X : List Nat) (hX : X.length ≤ 301) (i : Nat) (hi : i < X.length) (out : List Int) : ∀ (d j : Nat), X.length - j = d → j ≤ X.length →
    spec_LfOf_l1 (ints X) i (ltc (X.take j) X[i] + eqc (X.take (min j i)) X[i] : Nat) j out = (bif decide ((out.length + ([((lfV X i : Nat) : Int)] : List Int).length) * 8 ≤ 140737488355328) then spec_LfOf_l0 (ints X) (IntKind.i64.wrap (i + 1)) (out ++ [((lfV X i : Nat) : Int)]) else none) := by
  intro d
  induction d with
  | zero =>
    intro j h1 h2
    obtain rfl : j = X.length := by omega
    rw [spec_LfOf_l1.eq, bif_ndec (by rw [List.length_map]; omega), List.take_length, Nat.min_eq_right (by omega), ← lfV_at X i hi]
  | succ d ih =>
    intro j h1 h2
    have hj : j < X.length := by omega
    have et : X.take (j + 1) = X.take j ++ [X[j]] := by rw [List.take_add_one, List.getElem?_eq_getElem hj]; rfl
    have hl1 := ltc_le (X.take j) X[i]
    have hl2 := eqc_le (X.take (min j i)) X[i]
    rw [List.length_take] at hl1 hl2
    have ih' := ih (j + 1) (by omega) (by omega)
    rw [et, ltc_snoc] at ih'
    rw [spec_LfOf_l1.eq, bif_dec (by rw [List.length_map]; omega), at?_ints _ _ hj, Option.bind_some, at?_ints _ _ hi, Option.bind_some, wrapS j (by omega), wrapS (ltc (X.take j) X[i] + eqc (X.take (min j i)) X[i]) (by omega)]
    by_cases p1 : X[j] < X[i]
    · rw [bif_dec (show ((X[j] : Nat) : Int) < ((X[i] : Nat) : Int) by omega)]
      rw [if_pos p1] at ih'
      have e : eqc (X.take (min (j + 1) i)) X[i] = eqc (X.take (min j i)) X[i] := by
        by_cases p2 : j < i
        · rw [show min (j + 1) i = j + 1 by omega, show min j i = j by omega, et, eqc_snoc, if_neg (by omega), Nat.add_zero]
        · rw [show min (j + 1) i = i by omega, show min j i = i by omega]
      rw [e, show ltc (X.take j) X[i] + 1 + eqc (X.take (min j i)) X[i] = ltc (X.take j) X[i] + eqc (X.take (min j i)) X[i] + 1 by omega] at ih'
      exact ih'
    · rw [bif_ndec (show ¬ ((X[j] : Nat) : Int) < ((X[i] : Nat) : Int) by omega)]
      rw [if_neg p1, Nat.add_zero] at ih'
      by_cases p2 : j < i
      · rw [bif_dec (show (j : Int) < (i : Int) by omega), Option.bind_some, Option.bind_some]
        rw [show min (j + 1) i = j + 1 by omega, et, eqc_snoc] at ih'
        rw [show min j i = j by omega]
        by_cases p3 : X[j] = X[i]
        · rw [bif_eq (by omega)]
          rw [if_pos p3, ← Nat.add_assoc] at ih'
          exact ih'
        · rw [bif_neq (by omega)]
          rw [if_neg p3, Nat.add_zero] at ih'
          exact ih'
      · rw [bif_ndec (show ¬ (j : Int) < (i : Int) by omega)]
        rw [show min (j + 1) i = min j i by omega] at ih'
        exact ih'
theorem specLf_l0 (X : List Nat) (hX : X.length ≤ 301) : ∀ (d i : Nat), X.length - i = d → i ≤ X.length → spec_LfOf_l0 (ints X) i (ints ((List.range i).map (lfV X))) = some (ints (lfs X)) := by
  intro d
  induction d with
  | zero =>
    intro i h1 h2
    obtain rfl : i = X.length := by omega
    rw [spec_LfOf_l0.eq, bif_ndec (by rw [List.length_map]; omega)]; rfl
  | succ d ih =>
    intro i h1 h2
    have hi : i < X.length := by omega
    rw [spec_LfOf_l0.eq, bif_dec (by rw [List.length_map]; omega)]
    have h3 := specLf_l1 X hX i hi (ints ((List.range i).map (lfV X))) _ 0 rfl (by omega)
    rw [List.take_zero, Nat.zero_min, List.take_zero] at h3
    refine h3.trans ?_
    rw [bif_dec (by simp only [List.length_cons, List.length_nil, List.length_map, List.length_range]; omega), wrapS i (by omega), lfs_step]
    exact ih (i + 1) (by omega) (by omega)
theorem specLf_eq (X : List Nat) (hX : X.length ≤ 301) (hx : ∀ x ∈ X, x ≤ 256) : spec_LfOf (ints X) = some (ints (lfs X)) := by
  have hs : sOk (ints X) = true := by
    simp only [sOk, Bool.and_eq_true, decide_eq_true_eq, List.all_eq_true, List.length_map]
    refine ⟨hX, fun x h => ?_⟩
    obtain ⟨y, hy, rfl⟩ := List.mem_map.1 h
    have := hx y hy
    omega
  rw [spec_LfOf.eq, specSymsOk_eq _ (by rw [List.length_map]; omega), Option.bind_some, hs, Bool.not_true, bif_false]
  exact specLf_l0 X hX _ 0 rfl (by omega)
end Go.Ev.W
