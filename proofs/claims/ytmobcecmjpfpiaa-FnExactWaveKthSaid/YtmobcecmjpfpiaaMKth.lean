/- The k-th number of a stretch: both functions give it. -/
import Derived.Test.YtmobcecmjpfpiaaEvC
import Derived.Test.YtmobcecmjpfpiaaPp12
import Derived.Test.YtmobcecmjpfpiaaMWave4
import Derived.Test.YtmobcecmjpfpiaaMCount
set_option linter.unusedVariables false
set_option linter.unusedSimpArgs false
namespace Go.Ev.W
open Go.Ev

abbrev srtI (X : List Int) : List Int := X.mergeSort fun x y => decide (x ≤ y)
theorem srtI_pw (X : List Int) : (srtI X).Pairwise (fun x y => x ≤ y) := by
  have := List.pairwise_mergeSort (le := fun x y : Int => decide (x ≤ y)) (fun a b c h1 h2 => by simp at *; omega) (fun a b => by simp; omega) X
  exact this.imp (fun h => by simpa using h)
theorem srtI_min (X : List Int) (m : Nat) (h : m < X.length) (hm : ∀ x ∈ X, X[m] ≤ x) : srtI X = X[m] :: srtI (X.take m ++ X.drop (m + 1)) := by
  have hX : X = X.take m ++ X[m] :: X.drop (m + 1) := by rw [List.getElem_cons_drop, List.take_append_drop]
  have hp : (X[m] :: (X.take m ++ X.drop (m + 1))).Perm X := by
    conv => rhs; rw [hX]
    exact List.perm_middle.symm
  refine List.Perm.eq_of_pairwise (le := fun x y => x ≤ y) (fun a b _ _ h1 h2 => by omega) (srtI_pw X) ?_ ?_
  · rw [List.pairwise_cons]
    refine ⟨fun x hx => hm x ?_, srtI_pw _⟩
    rw [List.mem_mergeSort] at hx
    exact hp.subset (List.mem_cons_of_mem _ hx)
  · exact ((List.mergeSort_perm _ _).trans hp.symm).trans (List.Perm.cons _ (List.mergeSort_perm _ _).symm)
theorem kth_l2 (X : List Int) (hX : X.length ≤ 100000) (k : Int) : ∀ (d i a : Nat) (ha : a < X.length), X.length - i = d → i ≤ X.length → (∀ j (hj : j < X.length), j < i → X[a] ≤ X[j]) →
    ∃ m, ∃ h : m < X.length, (∀ x ∈ X, X[m] ≤ x) ∧ spec_WaveKth_l2 k a i X = spec_WaveKth_l2 k m X.length X := by
  intro d
  induction d with
  | zero =>
    intro i a ha hd hi hm
    obtain rfl : i = X.length := by omega
    refine ⟨a, ha, fun x hx => ?_, rfl⟩
    obtain ⟨j, hj, rfl⟩ := List.getElem_of_mem hx
    exact hm j hj hj
  | succ d ih =>
    intro i a ha hd hi hm
    have hil : i < X.length := by omega
    rw [spec_WaveKth_l2.eq, bif_dec (by omega)]
    simp only [at?_nat, Int.toNat_natCast, List.getElem?_eq_getElem hil, List.getElem?_eq_getElem ha, Option.bind_some]
    rw [wrapS i (by omega)]
    by_cases hlt : X[i] < X[a]
    · rw [bif_dec hlt]
      refine ih (i + 1) i hil (by omega) (by omega) fun j hj hji => ?_
      by_cases e : j = i
      · subst e; exact Int.le_refl _
      · have := hm j hj (by omega); omega
    · rw [bif_ndec hlt]
      refine ih (i + 1) a ha (by omega) (by omega) fun j hj hji => ?_
      by_cases e : j = i
      · subst e; omega
      · exact hm j hj (by omega)
theorem kth_l1 : ∀ (k : Nat) (X : List Int), k < X.length → X.length ≤ 100000 → spec_WaveKth_l1 k X = some ((srtI X).getD k 0) := by
  intro k
  induction k with
  | zero =>
    intro X hk hX
    obtain ⟨m, h, hm, e⟩ := kth_l2 X hX 0 _ 0 0 hk rfl (Nat.zero_le _) (fun j _ h => absurd h (Nat.not_lt_zero _))
    have e' : spec_WaveKth_l2 0 0 0 X = _ := e
    rw [spec_WaveKth_l1.eq]
    have e0 : ((0 : Nat) : Int) = 0 := rfl
    rw [e0, e', spec_WaveKth_l2.eq, bif_ndec (by omega), bif_eq rfl]
    simp only [at?_nat, Int.toNat_natCast, List.getElem?_eq_getElem h, Option.bind_some]
    rw [srtI_min X m h hm]; rfl
  | succ k ih =>
    intro X hk hX
    obtain ⟨m, h, hm, e⟩ := kth_l2 X hX ((k + 1 : Nat) : Int) _ 0 0 (by omega) rfl (Nat.zero_le _) (fun j _ h => absurd h (Nat.not_lt_zero _))
    have e' : spec_WaveKth_l2 ((k + 1 : Nat) : Int) 0 0 X = _ := e
    have w1 : IntKind.i64.wrap ((m : Int) + 1) = ((m + 1 : Nat) : Int) := wrapS m (by omega)
    rw [spec_WaveKth_l1.eq, e', spec_WaveKth_l2.eq, bif_ndec (by omega), bif_neq (by omega), w1]
    simp only [Int.toNat_natCast, Nat.sub_zero, List.drop_zero]
    rw [bif_dec (by omega), bif_dec (by simp only [List.length_nil, List.length_take]; omega), bif_dec (by omega), bif_dec (by simp only [List.length_append, List.length_nil, List.length_take, List.length_drop]; omega), wrapI (by omega) (by omega)]
    have hl : (X.take m ++ X.drop (m + 1)).length = X.length - 1 := by simp only [List.length_append, List.length_take, List.length_drop]; omega
    have hd : (X.drop (m + 1)).take (X.length - (m + 1)) = X.drop (m + 1) := List.take_of_length_le (by rw [List.length_drop]; omega)
    have := ih (X.take m ++ X.drop (m + 1)) (by omega) (by omega)
    rw [List.nil_append, hd, show ((k + 1 : Nat) : Int) - 1 = (k : Int) by omega, this, srtI_min X m h hm]; rfl

/-- The stretch of a wave's numbers. -/
def stretch (X : List Nat) (lo hi : Int) : List Int := ((ints X).drop lo.toNat).take (hi.toNat - lo.toNat)
def inSpan (ok : Bool) (n lo hi : Int) : Bool := ok && (decide (0 ≤ lo) && (decide (lo ≤ hi) && decide (hi ≤ n)))
def kthV (ok : Bool) (n : Int) (X : List Nat) (lo hi k : Int) : Int := bif inSpan ok n lo hi && (decide (0 ≤ k) && decide (k < hi - lo)) then (srtI (stretch X lo hi)).getD k.toNat 0 else -1
theorem stretch_len (X : List Nat) (n lo hi : Int) (h : inSpan true n lo hi = true) (hn : n = X.length) : ((stretch X lo hi).length : Int) = hi - lo := by
  simp only [inSpan, Bool.true_and, Bool.and_eq_true, decide_eq_true_eq] at h
  simp only [stretch, List.length_take, List.length_drop, List.length_map]; omega
theorem span_bif (ok : Bool) (n lo hi : Int) : (bif ok then bif decide (lo ≥ (0 : Int)) then bif decide (lo ≤ hi) then some (decide (hi ≤ n)) else some false else some false else some false) = some (inSpan ok n lo hi) := by
  unfold inSpan
  cases ok <;> cases h1 : decide (lo ≥ 0) <;> cases h2 : decide (lo ≤ hi) <;> simp_all
theorem specKth_eq (n : Int) (Z : List Int) (L : List (Int × List Nat)) (hl : ∀ p ∈ L, p.2.length ≤ 1048576) (hx : ∀ p ∈ L, ∀ x ∈ p.2, x < 2 ^ 64) (lo hi k : Int) :
    spec_WaveKth (n, Z, LI L) lo hi k = some (kthV (wOk n Z L) n (wList n.toNat L) lo hi k) := by
  rw [spec_WaveKth.eq, spec_l07Span.eq, specWaveOk_eq n Z L hl hx, Option.bind_some]
  simp only [span_bif, Option.bind_some]
  unfold kthV
  cases hs : inSpan (wOk n Z L) n lo hi with
  | false => rfl
  | true =>
    have hok : wOk n Z L = true := by unfold inSpan at hs; exact (Bool.and_eq_true _ _ ▸ hs).1
    rw [hok] at hs
    have hs' := hs
    simp only [inSpan, Bool.true_and, Bool.and_eq_true, decide_eq_true_eq] at hs'
    obtain ⟨w1, w2, _⟩ := wOk_at hok
    have hn : n = (wList n.toNat L).length := by rw [wList_len]; omega
    have hsl := stretch_len _ n lo hi hs hn
    rw [Bool.not_true, bif_false, Bool.true_and, wrapI (by omega) (by omega)]
    by_cases h1 : k < 0
    · rw [bif_dec h1, decide_eq_false (show ¬ 0 ≤ k by omega)]; rfl
    rw [bif_ndec h1, decide_eq_true (show 0 ≤ k by omega), Bool.true_and]
    by_cases h2 : k < hi - lo
    · rw [bif_ndec (by omega), decide_eq_true h2, bif_true, spec_WaveKth_l0.eq, l07List_eq n Z L hx hok, Option.bind_some]
      have hll : (ints (wList n.toNat L)).length = (wList n.toNat L).length := List.length_map ..
      rw [bif_dec (by omega), bif_dec (by omega), List.nil_append]
      have := kth_l1 k.toNat (stretch (wList n.toNat L) lo hi) (by omega) (by omega)
      rw [show ((k.toNat : Nat) : Int) = k by omega] at this
      unfold stretch at this hsl
      rw [bif_dec (by simp only [List.length_nil]; omega), this]
      rfl
    · rw [bif_dec (by omega), decide_eq_false h2]; rfl
theorem isRange_eq (a b n : Int) : impl_isRange a b n = some (inSpan true n a b) := by
  rw [impl_isRange.eq]
  unfold inSpan
  cases h1 : decide (0 ≤ a) <;> cases h2 : decide (a ≤ b) <;> simp_all
theorem implKth_eq (n : Int) (Z : List Int) (L : List (Int × List Nat)) (hl : ∀ p ∈ L, p.2.length ≤ 1048576) (hx : ∀ p ∈ L, ∀ x ∈ p.2, x < 2 ^ 64) (lo hi k : Int) :
    impl_WaveKth (n, Z, LI L) lo hi k = some (kthV (wOk n Z L) n (wList n.toNat L) lo hi k) := by
  rw [impl_WaveKth.eq, waveRead_eq n Z L hl hx, Option.bind_some]
  unfold kthV
  cases hok : wOk n Z L with
  | false => rfl
  | true =>
    obtain ⟨w1, w2, _⟩ := wOk_at hok
    have hn : n = (wList n.toNat L).length := by rw [wList_len]; omega
    have e : ints (snds (rows (L.map lvb) (start n.toNat))) = ints (wList n.toNat L) := rfl
    have hll : (ints (wList n.toNat L)).length = (wList n.toNat L).length := List.length_map ..
    rw [bif_true, Bool.not_true, bif_false, e]
    simp only
    rw [isRange_eq, hll, ← hn, Option.bind_some]
    cases hs : inSpan true n lo hi with
    | false => rfl
    | true =>
      have hs' := hs
      simp only [inSpan, Bool.true_and, Bool.and_eq_true, decide_eq_true_eq] at hs'
      have hsl := stretch_len _ n lo hi hs hn
      rw [Bool.not_true, bif_false, wrapI (x := hi - lo) (by omega) (by omega), wrapI (x := hi - lo - 1) (by omega) (by omega), withinN_eq, Option.bind_some, Bool.true_and]
      by_cases h1 : 0 ≤ k
      · by_cases h2 : k < hi - lo
        · have hc : (decide (0 ≤ k) && decide (k ≤ hi - lo - 1)) = true := by simp; omega
          have hc2 : (decide (0 ≤ k) && decide (k < hi - lo)) = true := by simp; omega
          rw [hc, hc2, Bool.not_true, bif_false, bif_true, bif_dec (by omega), bif_dec (by omega)]
          have hS : slices_Sorted_int_Values_int_int_1 (stretch (wList n.toNat L) lo hi) = some (srtI (stretch (wList n.toNat L) lo hi)) := by
            show sortedF _ _ = _
            unfold sortedF
            rw [bif_dec (by omega)]
          unfold stretch at hS hsl
          rw [hS, Option.bind_some]
          have hk : k.toNat < (srtI (List.take (hi.toNat - lo.toNat) (List.drop lo.toNat (ints (wList n.toNat L))))).length := by rw [List.length_mergeSort]; omega
          have hat : at? (srtI (List.take (hi.toNat - lo.toNat) (List.drop lo.toNat (ints (wList n.toNat L))))) k = some ((srtI (List.take (hi.toNat - lo.toNat) (List.drop lo.toNat (ints (wList n.toNat L)))))[k.toNat]) := by
            unfold at?
            rw [decide_eq_true h1, bif_true, List.getElem?_eq_getElem hk]
          rw [hat, Option.bind_some, List.getElem?_eq_getElem hk, Option.bind_some]
          unfold stretch
          rw [List.getD_eq_getElem?_getD, List.getElem?_eq_getElem hk]; rfl
        · have hc : (decide (0 ≤ k) && decide (k ≤ hi - lo - 1)) = false := by simp; omega
          have hc2 : (decide (0 ≤ k) && decide (k < hi - lo)) = false := by simp; omega
          rw [hc, hc2]; rfl
      · rw [decide_eq_false h1]; rfl
end Go.Ev.W
