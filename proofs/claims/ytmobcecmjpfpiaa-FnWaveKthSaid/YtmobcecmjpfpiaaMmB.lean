/- What the functions come to, in plain mathematics, part 2. -/
import Derived.Test.YtmobcecmjpfpiaaEvC
import Derived.Test.YtmobcecmjpfpiaaPp14
import Derived.Test.YtmobcecmjpfpiaaPp15
import Derived.Test.YtmobcecmjpfpiaaPp9
import Derived.Test.YtmobcecmjpfpiaaMmA
/- The law of the k-th number of a stretch: how many are below it, and how many are as great. -/
set_option linter.unusedVariables false
set_option linter.unusedSimpArgs false
namespace Go.Ev.W
open Go.Ev

/-- How many numbers are below c; how many are c. -/
def ltI (X : List Int) (c : Int) : Nat := (X.filter fun x => decide (x < c)).length
def eqI (X : List Int) (c : Int) : Nat := (X.filter fun x => x == c).length
theorem ltI_succ (X : List Int) (c : Int) : ltI X (c + 1) = ltI X c + eqI X c := by
  unfold ltI eqI
  induction X with
  | nil => rfl
  | cons x X ih =>
    simp only [List.filter_cons]
    by_cases h1 : x < c
    · rw [if_pos (by simp; omega), if_pos (by simpa using h1), if_neg (by simp; omega), List.length_cons, List.length_cons, ih]; omega
    · by_cases h2 : x = c
      · rw [if_pos (by simp; omega), if_neg (by simpa using h1), if_pos (by simpa using h2), List.length_cons, List.length_cons, ih]; omega
      · rw [if_neg (by simp; omega), if_neg (by simpa using h1), if_neg (by simpa using h2), ih]
theorem filter_perm_len {X Y : List Int} (h : X.Perm Y) (p : Int → Bool) : (X.filter p).length = (Y.filter p).length := (h.filter p).length_eq
theorem kth_counts (X : List Int) (k : Nat) (h : k < X.length) : ltI X ((srtI X).getD k 0) ≤ k ∧ k < ltI X ((srtI X).getD k 0 + 1) := by
  have hp : (srtI X).Perm X := List.mergeSort_perm _ _
  have hl : (srtI X).length = X.length := hp.length_eq
  have hpw := srtI_pw X
  have hk : k < (srtI X).length := by omega
  have e1 : ∀ c, ltI X c = ltI (srtI X) c := fun c => (filter_perm_len hp _).symm
  rw [e1, e1]
  rw [List.getD_eq_getElem?_getD, List.getElem?_eq_getElem hk, Option.getD_some]
  obtain ⟨c, hc⟩ : ∃ c, c = (srtI X)[k] := ⟨_, rfl⟩
  have hle : ∀ i (hi : i < (srtI X).length), i ≤ k → (srtI X)[i] ≤ c := fun i hi hik => by
    rw [hc]
    by_cases e : i = k
    · subst e; exact Int.le_refl _
    · exact List.pairwise_iff_getElem.1 hpw i k hi hk (by omega)
  have hge : ∀ i (hi : i < (srtI X).length), k ≤ i → c ≤ (srtI X)[i] := fun i hi hik => by
    rw [hc]
    by_cases e : i = k
    · subst e; exact Int.le_refl _
    · exact List.pairwise_iff_getElem.1 hpw k i hk hi (by omega)
  rw [← hc]
  clear hc
  revert hle hge hk
  generalize srtI X = S
  intro hk hle hge
  have hS : S = S.take k ++ S.drop k := (List.take_append_drop k S).symm
  have hS1 : S = S.take (k + 1) ++ S.drop (k + 1) := (List.take_append_drop (k + 1) S).symm
  constructor
  · unfold ltI
    rw [hS, List.filter_append, List.length_append]
    have h1 := List.length_filter_le (fun x => decide (x < c)) (S.take k)
    have h2 : (S.drop k).filter (fun x => decide (x < c)) = [] := by
      rw [List.filter_eq_nil_iff]
      intro x hx
      obtain ⟨i, hi, rfl⟩ := List.getElem_of_mem hx
      rw [List.length_drop] at hi
      have := hge (k + i) (by omega) (by omega)
      rw [List.getElem_drop]; simp; omega
    rw [h2, List.length_nil]
    rw [List.length_take] at h1; omega
  · unfold ltI
    rw [hS1, List.filter_append, List.length_append]
    have h2 : (S.take (k + 1)).filter (fun x => decide (x < c + 1)) = S.take (k + 1) := by
      rw [List.filter_eq_self]
      intro x hx
      obtain ⟨i, hi, rfl⟩ := List.getElem_of_mem hx
      rw [List.length_take] at hi
      have := hle i (by omega) (by omega)
      rw [List.getElem_take]; simp; omega
    rw [h2, List.length_take]; omega
theorem less_l1 (X : List Nat) (hX : X.length ≤ 1000) (lo len : Nat) (h : lo + len ≤ X.length) (c : Int) : ∀ (d i : Nat), len - i = d → i ≤ len → ∀ a : Nat, a ≤ i →
    impl_WaveLess_l1 c a lo len len i (ints X) = some ((a + ltI ((((ints X).drop lo).take len).drop i) c : Nat) : Int) := by
  intro d
  have hl : (((ints X).drop lo).take len).length = len := by simp; omega
  induction d with
  | zero =>
    intro i hd hi a ha
    obtain rfl : i = len := by omega
    rw [impl_WaveLess_l1.eq, bif_ndec (by omega), List.drop_of_length_le (by omega)]; rfl
  | succ d ih =>
    intro i hd hi a ha
    have hil : i < (((ints X).drop lo).take len).length := by omega
    have hget : (ints X)[lo + i]? = some ((((ints X).drop lo).take len)[i]) := by
      rw [List.getElem_take, List.getElem_drop, List.getElem?_eq_getElem]
    rw [impl_WaveLess_l1.eq, bif_dec (by omega), bif_dec (by omega), Int.toNat_natCast, hget, Option.bind_some, wrapS i (by omega), wrapS a (by omega)]
    rw [List.drop_eq_getElem_cons hil]
    unfold ltI
    rw [List.filter_cons]
    by_cases hc : (((ints X).drop lo).take len)[i] < c
    · rw [bif_dec hc, ih (i + 1) (by omega) (by omega) (a + 1) (by omega), if_pos (by simpa using hc), List.length_cons]
      unfold ltI
      congr 1; omega
    · rw [bif_ndec hc, ih (i + 1) (by omega) (by omega) a (by omega), if_neg (by simpa using hc)]; rfl
theorem implLess_eq (n : Int) (Z : List Int) (L : List (Int × List Nat)) (hl : ∀ p ∈ L, p.2.length ≤ 1048576) (hx : ∀ p ∈ L, ∀ x ∈ p.2, x < 2 ^ 64) (c lo hi : Int) (hs : inSpan (wOk n Z L) n lo hi = true) :
    impl_WaveLess (n, Z, LI L) c lo hi = some ((ltI (stretch (wList n.toNat L) lo hi) c : Nat) : Int) := by
  have hok : wOk n Z L = true := by unfold inSpan at hs; exact (Bool.and_eq_true _ _ ▸ hs).1
  rw [hok] at hs
  obtain ⟨w1, w2, _⟩ := wOk_at hok
  have hn : n = (wList n.toNat L).length := by rw [wList_len]; omega
  have e : ints (snds (rows (L.map lvb) (start n.toNat))) = ints (wList n.toNat L) := rfl
  have hll : (ints (wList n.toNat L)).length = (wList n.toNat L).length := List.length_map ..
  have hs' := hs
  simp only [inSpan, Bool.true_and, Bool.and_eq_true, decide_eq_true_eq] at hs'
  rw [impl_WaveLess.eq, waveRead_eq n Z L hl hx, Option.bind_some, hok, bif_true, Bool.not_true, bif_false, e]
  simp only
  rw [isRange_eq, hll, ← hn, hs, Option.bind_some, Bool.not_true, bif_false, impl_WaveLess_l0.eq, bif_dec (by omega), bif_dec (by omega)]
  have := less_l1 (wList n.toNat L) (by omega) lo.toNat (hi.toNat - lo.toNat) (by omega) c _ 0 rfl (Nat.zero_le _) 0 (Nat.le_refl _)
  rw [List.drop_zero, Nat.zero_add] at this
  exact this
theorem countI_l0 (X : List Int) (hX : X.length ≤ 100000) (c : Int) : ∀ (d i : Nat), X.length - i = d → i ≤ X.length → ∀ a : Nat, a ≤ i → impl_count_l0 c a X X.length i = some ((a + eqI (X.drop i) c : Nat) : Int) := by
  intro d
  induction d with
  | zero =>
    intro i hd hi a ha
    obtain rfl : i = X.length := by omega
    rw [impl_count_l0.eq, bif_ndec (by omega), List.drop_length]; rfl
  | succ d ih =>
    intro i hd hi a ha
    have hil : i < X.length := by omega
    rw [impl_count_l0.eq, bif_dec (by omega), at?_nat, List.getElem?_eq_getElem hil, Option.bind_some, wrapS i (by omega), wrapS a (by omega), List.drop_eq_getElem_cons hil]
    unfold eqI
    rw [List.filter_cons]
    by_cases hc : X[i] = c
    · rw [bif_eq hc, ih (i + 1) (by omega) (by omega) (a + 1) (by omega), if_pos (by simpa using hc), List.length_cons]
      unfold eqI
      congr 1; omega
    · rw [bif_neq hc, ih (i + 1) (by omega) (by omega) a (by omega), if_neg (by simpa using hc)]; rfl
theorem countI_eq (X : List Int) (hX : X.length ≤ 100000) (c : Int) : impl_count X c = some ((eqI X c : Nat) : Int) := by
  rw [impl_count.eq]
  have := countI_l0 X hX c _ 0 rfl (Nat.zero_le _) 0 (Nat.le_refl _)
  rw [List.drop_zero, Nat.zero_add] at this
  exact this
theorem implRank_eq (n : Int) (Z : List Int) (L : List (Int × List Nat)) (hl : ∀ p ∈ L, p.2.length ≤ 1048576) (hx : ∀ p ∈ L, ∀ x ∈ p.2, x < 2 ^ 64) (c i : Int) (hok : wOk n Z L = true) (h0 : 0 ≤ i) (h1 : i ≤ n) :
    impl_WaveRank (n, Z, LI L) c i = some ((eqI ((ints (wList n.toNat L)).take i.toNat) c : Nat) : Int) := by
  obtain ⟨w1, w2, _⟩ := wOk_at hok
  have hn : n = (wList n.toNat L).length := by rw [wList_len]; omega
  have e : ints (snds (rows (L.map lvb) (start n.toNat))) = ints (wList n.toNat L) := rfl
  have hll : (ints (wList n.toNat L)).length = (wList n.toNat L).length := List.length_map ..
  rw [impl_WaveRank.eq, waveRead_eq n Z L hl hx, Option.bind_some, hok, bif_true, Bool.not_true, bif_false, e]
  simp only
  have hc : (decide (0 ≤ i) && decide (i ≤ n)) = true := by simp; omega
  rw [withinN_eq, hll, ← hn, hc, Option.bind_some, Bool.not_true, bif_false, bif_dec (by omega), List.drop_zero, Nat.sub_zero, countI_eq _ (by rw [List.length_take, hll]; omega)]; rfl
theorem eqI_app (X Y : List Int) (c : Int) : eqI (X ++ Y) c = eqI X c + eqI Y c := by unfold eqI; rw [List.filter_append, List.length_append]
theorem span_ok {k : Nat} {c : Cur} (h : CurOk k c) (hk : k < 1000000000) (n : Int) (h0 : 0 ≤ n) (h1 : n ≤ 1000000) : ∃ (lo hi : Int) (c' : Cur), spec_l01Cur_spanIn c n = some (lo, hi, c') ∧ CurOk (k + 5) c' := by
  obtain ⟨b, c1, e1, g1⟩ := once_ok h (by omega) 9
  rw [spec_l01Cur_spanIn.eq]
  simp only [e1, Option.bind_some]
  cases b with
  | true =>
    obtain ⟨x, c2, e2, g2, _⟩ := raw_ok g1 (by omega)
    obtain ⟨y, c3, e3, g3, _⟩ := raw_ok g2 (by omega)
    rw [bif_true]
    simp only [e2, Option.bind_some, e3]
    exact ⟨x, y, c3, rfl, g3.mono (by omega)⟩
  | false =>
    rw [bif_false]
    generalize (if IntKind.i64.wrap (n + (1 : Int)) > (1 : Int) then IntKind.i64.wrap (n + (1 : Int)) else (1 : Int)) = m
    obtain ⟨x, c2, e2, g2, _⟩ := pick_ok g1 (by omega) m
    simp only [e2, Option.bind_some]
    generalize (if IntKind.i64.wrap ((IntKind.i64.wrap (n - x)) + (1 : Int)) > (1 : Int) then IntKind.i64.wrap ((IntKind.i64.wrap (n - x)) + (1 : Int)) else (1 : Int)) = m2
    obtain ⟨y, c3, e3, g3, _⟩ := pick_ok g2 (by omega) m2
    simp only [e3, Option.bind_some]
    exact ⟨x, _, c3, rfl, g3.mono (by omega)⟩
theorem take_split (X : List Int) (a b : Nat) (h : a ≤ b) : X.take b = X.take a ++ (X.drop a).take (b - a) := by
  rw [← List.take_add, Nat.add_sub_cancel' h]
theorem law_FnWaveKth (xs : List Int) (hx : goodA tab laws_FnWaveKth.as xs) : laws_FnWaveKth.fn xs = some true := by
  show laws_FnWaveKth xs = some true
  rw [laws_FnWaveKth.eq, bigD_eq, Option.bind_some]
  by_cases h : (xs.length : Int) > 1048576
  · rw [bif_dec h]
  rw [bif_ndec h]
  obtain ⟨c, e0, g0⟩ := open_ok xs (codeD_bytes hx h)
  obtain ⟨n, Z, L, c1, e1, g1, l1, l2, l3⟩ := wave_ok g0 (by omega)
  have hn0 : 0 ≤ (if (if n > (0 : Int) then n else (0 : Int)) < (30 : Int) then (if n > (0 : Int) then n else (0 : Int)) else (30 : Int)) ∧ (if (if n > (0 : Int) then n else (0 : Int)) < (30 : Int) then (if n > (0 : Int) then n else (0 : Int)) else (30 : Int)) ≤ 1000000 := by
    split <;> split <;> omega
  obtain ⟨lo, hi, c2, e2, g2⟩ := span_ok g1 (by omega) _ hn0.1 hn0.2
  obtain ⟨p, c3, e3, g3, _⟩ := pick_ok g2 (by omega) 9
  obtain ⟨r, c4, e4, g4, _⟩ := raw_ok g3 (by omega)
  obtain ⟨q, c5, e5, g5, q1, q2⟩ := pick_ok g4 (by omega) 3
  obtain ⟨k, k1, k2, _⟩ := pick_list ([0, p, r] : List Int) q q1 (by simp; omega)
  have hd : spec_DrawWaveKth xs = some ((n, Z, LI L), lo, hi, k) := by
    rw [spec_DrawWaveKth.eq]
    simp only [e0, Option.bind_some, e1, e2, e3, e4, e5, k1, k2]
  rw [hd, Option.bind_some]
  simp only
  have hLl : ∀ p ∈ L, p.2.length ≤ 1048576 := fun p hp => by have := (l3 p hp).1; omega
  have hLx : ∀ p ∈ L, ∀ x ∈ p.2, x < 2 ^ 64 := fun p hp => (l3 p hp).2
  rw [specKth_eq n Z L hLl hLx, Option.bind_some, implKth_eq n Z L hLl hLx, Option.bind_some, bif_nne rfl]
  obtain ⟨v, hv⟩ : ∃ v, v = kthV (wOk n Z L) n (wList n.toNat L) lo hi k := ⟨_, rfl⟩
  rw [← hv]
  by_cases hneg : v < 0
  · rw [bif_dec hneg]; simp
  rw [bif_ndec hneg, laws_FnWaveKth_l0.eq]
  unfold kthV at hv
  cases hc : inSpan (wOk n Z L) n lo hi && (decide (0 ≤ k) && decide (k < hi - lo)) with
  | false => rw [hc] at hv; rw [bif_false] at hv; omega
  | true =>
    rw [hc, bif_true] at hv
    rw [Bool.and_eq_true, Bool.and_eq_true, decide_eq_true_eq, decide_eq_true_eq] at hc
    obtain ⟨hs, hk0, hk1⟩ := hc
    have hok : wOk n Z L = true := by unfold inSpan at hs; exact (Bool.and_eq_true _ _ ▸ hs).1
    obtain ⟨w1, w2, w3, w4, w5⟩ := wOk_at hok
    have hn : n = (wList n.toNat L).length := by rw [wList_len]; omega
    have hs2 := hs
    rw [hok] at hs2
    have hsl := stretch_len _ n lo hi hs2 hn
    simp only [inSpan, Bool.true_and, Bool.and_eq_true, decide_eq_true_eq] at hs2
    have hkc := kth_counts (stretch (wList n.toNat L) lo hi) k.toNat (by omega)
    rw [← hv] at hkc
    have hvle : v ≤ 100000 := by
      have hmem : v ∈ stretch (wList n.toNat L) lo hi := by
        rw [hv, List.getD_eq_getElem?_getD, List.getElem?_eq_getElem (by rw [List.length_mergeSort]; omega), Option.getD_some]
        exact List.mem_mergeSort.1 (List.getElem_mem _)
      have h2 : v ∈ ints (wList n.toNat L) := List.mem_of_mem_drop (List.mem_of_mem_take hmem)
      obtain ⟨y, hy, rfl⟩ := List.mem_map.1 h2
      have := wList_le n.toNat L w4 y hy
      omega
    have hw1 : IntKind.i64.wrap (v + 1) = v + 1 := wrapI (by omega) (by omega)
    rw [hw1, implLess_eq n Z L hLl hLx v lo hi hs, Option.bind_some, implLess_eq n Z L hLl hLx (v + 1) lo hi hs, Option.bind_some]
    rw [bif_dec (by omega), bif_dec (by omega), implRank_eq n Z L hLl hLx v hi hok (by omega) (by omega), Option.bind_some, implRank_eq n Z L hLl hLx v lo hok (by omega) (by omega), Option.bind_some]
    have hsplit : (ints (wList n.toNat L)).take hi.toNat = (ints (wList n.toNat L)).take lo.toNat ++ stretch (wList n.toNat L) lo hi := take_split _ _ _ (by omega)
    have he : eqI ((ints (wList n.toNat L)).take hi.toNat) v = eqI ((ints (wList n.toNat L)).take lo.toNat) v + eqI (stretch (wList n.toNat L) lo hi) v := by rw [hsplit, eqI_app]
    have hq := ltI_succ (stretch (wList n.toNat L) lo hi) v
    have hb : ((ltI (stretch (wList n.toNat L) lo hi) (v + 1) : Nat) : Int) - (ltI (stretch (wList n.toNat L) lo hi) v : Nat) = ((eqI ((ints (wList n.toNat L)).take hi.toNat) v : Nat) : Int) - (eqI ((ints (wList n.toNat L)).take lo.toNat) v : Nat) := by omega
    rw [hb]; simp
end Go.Ev.W
