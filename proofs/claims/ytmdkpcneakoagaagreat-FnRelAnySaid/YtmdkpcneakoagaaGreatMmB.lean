/- What the functions come to, in plain mathematics, part 2. -/
import Derived.Test.YtmdkpcneakoagaaGreatEvC
import Derived.Test.YtmdkpcneakoagaaGreatPh2
import Derived.Test.YtmdkpcneakoagaaGreatPh3
import Derived.Test.YtmdkpcneakoagaaGreatMmA
import Derived.Test.YtmdkpcneakoagaaGreatEvIterS
import Derived.Test.YtmdkpcneakoagaaGreatEvCompact
import Derived.Test.YtmdkpcneakoagaaGreatPh1
import Derived.Test.YtmdkpcneakoagaaGreatPh6
import Derived.Test.YtmdkpcneakoagaaGreatPh8
import Derived.Test.YtmdkpcneakoagaaGreatPh4
import Derived.Test.YtmdkpcneakoagaaGreatPh5
import Derived.Test.YtmdkpcneakoagaaGreatPh7
/- Parts: what both functions give. -/
set_option linter.unusedVariables false
set_option linter.unusedSimpArgs false
namespace Go.Ev.W
open Go.Ev
theorem implHeads_l0 (D : List Nat) (hD : D.length ≤ 300) (hb : Qh D) (d : Nat) (hd8 : d ≤ 8) : ∀ (s i : Nat), (srt D).length - i = s → i ≤ (srt D).length →
  Q0s_l0 (ints D) d (srt D).length i (((hd D d).take i).map wst) (ints (srt D)) = some ((hd D d).map wst) := by
 have hl : (hd D d).length = (srt D).length := by unfold hd; rw [Z1]
 have hsl : (srt D).length = D.length + 1 := by rw [(Q2K D).length (by omega)]; omega
 intro s
 induction s with
 | zero =>
  intro i h1 h2
  obtain rfl : i = (srt D).length := by omega
  rw [Q0s_l0.eq, Q3 (by omega), Z33 (by omega)]
 | succ s ih =>
  intro i h1 h2
  have hi : i < (srt D).length := by omega
  have hx := ((Q2K D).mem (srt D)[i]).1 (Z14 hi)
  have e : (if ((ints D).length : Int) < IntKind.i64.wrap (((srt D)[i] : Int) + d) then ((ints D).length : Int) else IntKind.i64.wrap (((srt D)[i] : Int) + d)) = ((min D.length ((srt D)[i] + d) : Nat) : Int) := by
   rw [Qa (by omega) (by omega), Q8]; split <;> omega
  have eg : (ints (srt D))[i]? = some (((srt D)[i] : Nat) : Int) := by rw [Z12, Z3 hi]; rfl
  have et : (D.take (min D.length ((srt D)[i] + d))).drop (srt D)[i] = (D.drop (srt D)[i]).take d := by
   rw [List.drop_take]
   by_cases h : (srt D)[i] + d ≤ D.length
   ·rw [Nat.min_eq_right h, Z103]
   ·rw [Z68 (by omega), Z33 (by rw [Z19]; omega), Z33 (by rw [Z19]; omega)]
  rw [Q0s_l0.eq, Q2 (by omega), Q04, eg, Z0, Z5, eg, Z0, e, Q2 (by rw [Q8]; omega), Q2 (by omega), Z5, Z5, td_ints, et]
  have ef : ((hd D d).take i).map wst ++ [Q2k ((ints ((D.drop (srt D)[i]).take d)).map fun x => x)] = ((hd D d).take (i + 1)).map wst := by
   rw [Q2Y _ _ (by omega), Z15]
   congr 1
   simp only [Z17, Z55, wst, hd, Z89]
  rw [ef, Q2 (by simp only [Z1, Z9, Z2, Z6]; omega), Q6 i (by omega)]
  exact ih (i + 1) (by omega) (by omega)
theorem implHeads_eq (D : List Nat) (hD : D.length ≤ 300) (hb : Qh D) (d : Nat) (hd8 : d ≤ 8) : Q0s (ints D) d = some ((hd D d).map wst) := by
 rw [Q0s.eq, implSuf_eq D hD hb, Z0, Q8]
 have := implHeads_l0 D hD hb d hd8 _ 0 rfl (Z21 _)
 rw [Z39] at this
 exact this
abbrev wds (L : Ls) : List (List Int) := L.map ints
theorem specHead_eq (D : List Nat) (hD : D.length ≤ 300) (d i : Nat) (hi : i ≤ D.length) (hd8 : d ≤ 8) : Q1v (ints D) i d = some (ints ((D.drop i).take d)) := by
 have e : (if IntKind.i64.wrap ((i : Int) + d) < ((ints D).length : Int) then IntKind.i64.wrap ((i : Int) + d) else ((ints D).length : Int)) = ((min D.length (i + d) : Nat) : Int) := by
  rw [Qa (by omega) (by omega), Q8]; split <;> omega
 have et : (D.take (min D.length (i + d))).drop i = (D.drop i).take d := by
  rw [List.drop_take]
  by_cases h : i + d ≤ D.length
  ·rw [Nat.min_eq_right h, Z103]
  ·rw [Z68 (by omega), Z33 (by rw [Z19]; omega), Z33 (by rw [Z19]; omega)]
 rw [Q1v.eq, e, Q2 (by rw [Q8]; omega), Q2 (by omega), Z5, Z5, td_ints, et]
theorem specHeads_l0 (D : List Nat) (hD : D.length ≤ 300) (d : Nat) (hd8 : d ≤ 8) : ∀ (s i : Nat), (srt D).length - i = s → i ≤ (srt D).length →
  Q0q_l0 (ints D) d i (ints (srt D)) (wds ((hd D d).take i)) = some (wds (hd D d)) := by
 have hl : (hd D d).length = (srt D).length := by unfold hd; rw [Z1]
 have hsl : (srt D).length = D.length + 1 := by rw [(Q2K D).length (by omega)]; omega
 intro s
 induction s with
 | zero =>
  intro i h1 h2
  obtain rfl : i = (srt D).length := by omega
  rw [Q0q_l0.eq, Q8, Q3 (by omega), Z33 (by omega)]
 | succ s ih =>
  intro i h1 h2
  have hi : i < (srt D).length := by omega
  have hx := ((Q2K D).mem (srt D)[i]).1 (Z14 hi)
  have eg : (ints (srt D))[i]? = some (((srt D)[i] : Nat) : Int) := by rw [Z12, Z3 hi]; rfl
  rw [Q0q_l0.eq, Q8, Q2 (by omega), Q04, eg, Z0, Z5, eg, Z0, specHead_eq D hD d _ hx.2 hd8, Z0]
  have ef : wds ((hd D d).take i) ++ [ints ((D.drop (srt D)[i]).take d)] = wds ((hd D d).take (i + 1)) := by
   rw [Q2Y _ _ (by omega), wds, wds, Z15]
   congr 1
   simp only [Z17, Z55, hd, Z89]
  rw [ef, Q2 (by simp only [Z1, Z9, Z2, Z6]; omega), Q6 i (by omega)]
  exact ih (i + 1) (by omega) (by omega)
theorem specHeads_eq (D : List Nat) (hD : D.length ≤ 300) (d : Nat) (hd8 : d ≤ 8) : Q0q (ints D) d = some (wds (hd D d)) := by
 rw [Q0q.eq, specSuf_eq D hD, Z0]
 have := specHeads_l0 D hD d hd8 _ 0 rfl (Z21 _)
 rw [Z39] at this
 exact this
theorem specSpan_l0 (H : Ls) (hH : H.length ≤ 100000) (w : List Nat) (hw : w.length ≤ 4000000) (hs : ∀ x ∈ H, x.length ≤ 4000000) : ∀ (s i : Nat), H.length - i = s → i ≤ H.length →
  Q0j_l0 (wds H) (ints w) (spLo (H.take i) w) (spHi (H.take i) w) i = some ((spLo H w : Int), (spHi H w : Int)) := by
 intro s
 induction s with
 | zero =>
  intro i h1 h2
  obtain rfl : i = H.length := by omega
  rw [Q0j_l0.eq, Z1, Q3 (by omega), Z23]
 | succ s ih =>
  intro i h1 h2
  have hi : i < H.length := by omega
  have b1 := sp_len (H.take i) w
  have b2 := sp_le (H.take i) w
  rw [Z9] at b1
  have e1 : spLo (H.take (i + 1)) w = spLo (H.take i) w + if cmpN H[i] w < 0 then 1 else 0 := by
   unfold spLo
   rw [Q2Y _ _ hi, Z63, Z11, Z34]
   by_cases h : cmpN H[i] w < 0 <;> simp [h]
  have e2 : spHi (H.take (i + 1)) w = spHi (H.take i) w + if cmpN H[i] w ≤ 0 then 1 else 0 := by
   unfold spHi
   rw [Q2Y _ _ hi, Z63, Z11, Z34]
   by_cases h : cmpN H[i] w ≤ 0 <;> simp [h]
  have ih := ih (i + 1) (by omega) (by omega)
  rw [e1, e2] at ih
  rw [Q0j_l0.eq, Z1, Q2 (by omega), Q04, Z12, Z3 hi, Z47, Z0, l05Cmp_eq _ _ (hs _ (Z14 hi)) hw, Z0]
  by_cases h1 : cmpN H[i] w < 0
  ·rw [if_pos h1, if_pos (by omega)] at ih
   rw [Q2 h1, Q2 (by omega), Q6 _ (by omega), Q6 _ (by omega), Q6 _ (by omega)]
   exact ih
  ·rw [if_neg h1] at ih
   rw [Q3 h1]
   by_cases h2 : cmpN H[i] w ≤ 0
   ·rw [if_pos h2] at ih
    rw [Q2 h2, Q6 _ (by omega), Q6 _ (by omega)]
    exact ih
   ·rw [if_neg h2] at ih
    rw [Q3 h2, Q6 _ (by omega)]
    exact ih
theorem specSpan_eq (H : Ls) (hH : H.length ≤ 100000) (w : List Nat) (hw : w.length ≤ 4000000) (hs : ∀ x ∈ H, x.length ≤ 4000000) : Q0j (wds H) (ints w) = some ((spLo H w : Int), (spHi H w : Int)) := by
 rw [Q0j.eq]
 exact specSpan_l0 H hH w hw hs _ 0 rfl (Z21 _)
theorem isNaN_eq (x : ByteArray) : Q1n x = some false := by rw [Q1n.eq, beq_self_eq_true]; rfl
theorem cisNaN_eq (x : ByteArray) : Q1m x = some false := by rw [Q1m.eq, beq_self_eq_true]; rfl
theorem cLess_eq (X Y : List Nat) (hX : Qh X) (hY : Qh Y) : Q1D (wst X) (wst Y) = some (decide (cmpN X Y < 0)) := by
 rw [Q1D.eq, cisNaN_eq, Z0, Q9, wst_less X Y hX hY]
section
variable (H : Ls) (hH : H.length ≤ 100000) (hs : H.Pairwise leN) (hB : ∀ x ∈ H, Qh x) (w : List Nat) (hw : Qh w)
include hH hs hB hw
theorem bsearch_l0 : ∀ (s lo hi : Nat), hi - lo = s → lo ≤ hi → hi ≤ H.length → (∀ j, (h : j < H.length) → j < lo → cmpN H[j] w < 0) → (∀ j, (h : j < H.length) → hi ≤ j → ¬ cmpN H[j] w < 0) →
  ∃ b, Q0y_l0 (H.map wst) (wst w) H.length lo hi = some (((spLo H w : Nat) : Int), b) := by
 intro s
 induction s using Nat.strongRecOn with
 | _ s ih =>
  intro lo hi h1 h2 h3 h4 h5
  rw [Q0y_l0.eq]
  by_cases hlt : lo < hi
  ·have em : IntKind.i64.wrap ((IntKind.u64.wrap (IntKind.i64.wrap ((lo : Int) + hi))).fdiv (2 ^ 1)) = (((lo + hi) / 2 : Nat) : Int) := by
    rw [Qa (x := (lo : Int) + hi) (by omega) (by omega), show (lo : Int) + hi = ((lo + hi : Nat) : Int) by omega, wrapUn (show lo + hi < 2 ^ 64 by omega)]
    rw [Int.fdiv_eq_ediv_of_nonneg _ (by omega), show ((lo + hi : Nat) : Int) / 2 ^ 1 = (((lo + hi) / 2 : Nat) : Int) by omega, Qa (by omega) (by omega)]
   have hm : (lo + hi) / 2 < H.length := by omega
   rw [Q2 (by omega), em, Q04, Z12, Z3 hm, Z47, Z0, cLess_eq _ _ (hB _ (Z14 hm)) hw, Z0]
   have hmono : ∀ i j, (hij : i ≤ j) → (hj : j < H.length) → leN (H[i]'(by omega)) H[j] := fun i j hij hj => by
    by_cases e : i = j
    ·subst e; unfold leN; rw [Q3t]; omega
    ·exact List.pairwise_iff_getElem.1 hs i j (by omega) hj (by omega)
   by_cases hc : cmpN H[(lo + hi) / 2] w < 0
   ·rw [Q2 hc, Q6 _ (by omega)]
    refine ih _ (by omega) _ _ rfl (by omega) h3 (fun j hj hjl => ?_) h5
    exact le_lt (hmono j ((lo + hi) / 2) (by omega) hm) hc
   ·rw [Q3 hc]
    refine ih _ (by omega) _ _ rfl (by omega) (by omega) h4 (fun j hj hjl hlt' => ?_)
    exact hc (le_lt (hmono ((lo + hi) / 2) j hjl hj) hlt')
  ·obtain rfl : lo = hi := by omega
   have el : spLo H w = lo := Q4I H lo h3 (fun j hj hjl => decide_eq_true (h4 j hj hjl)) (fun j hj hjl => decide_eq_false (h5 j hj hjl))
   rw [Q3 (by omega), el]
   by_cases hl : lo < H.length
   ·rw [Q2 (by omega), Q04, Z12, Z3 hl, Z47, Z0, Z0, isNaN_eq, Z0, Q9]
    cases (wst H[lo]).toList == (wst w).toList
    ·exact ⟨false, rfl⟩
    ·exact ⟨true, rfl⟩
   ·rw [Q3 (by omega)]
    exact ⟨false, rfl⟩
theorem headRows_l0 (p : Nat) (hp : p = spHi H w) : ∀ (s i : Nat), p - i = s → spLo H w ≤ i → i ≤ p → Q0t_l0 (H.map wst) (wst w) (spLo H w) i = some ((spLo H w : Int), (p : Int)) := by
 have hmono : ∀ i j, (hij : i ≤ j) → (hj : j < H.length) → leN (H[i]'(by omega)) H[j] := fun i j hij hj => by
  by_cases e : i = j
  ·subst e; unfold leN; rw [Q3t]; omega
  ·exact List.pairwise_iff_getElem.1 hs i j (by omega) hj (by omega)
 have hpl : p ≤ H.length := by rw [hp]; exact sp_len H w
 -- what stands where
 have least : ∀ (P : List Nat → Bool), (∀ x y, leN x y → P y = true → P x = true) → ∀ j, (hj : j < H.length) → (P H[j] = true ↔ j < (H.filter P).length) := by
  intro P hP j hj
  -- the first place where P fails
  have key : ∃ q, q ≤ H.length ∧ (∀ k, (h : k < H.length) → k < q → P H[k] = true) ∧ (∀ k, (h : k < H.length) → q ≤ k → P H[k] = false) := by
   clear hj
   have : ∀ n, n ≤ H.length → (∀ k, (h : k < H.length) → k < n → P H[k] = true) ∨ ∃ q, q ≤ H.length ∧ (∀ k, (h : k < H.length) → k < q → P H[k] = true) ∧ (∀ k, (h : k < H.length) → q ≤ k → P H[k] = false) := by
    intro n
    induction n with
    | zero => intro _; exact .inl fun k h hk => absurd hk (Z95 _)
    | succ n ih =>
     intro hn
     rcases ih (by omega) with h | h
     ·cases hb : P (H[n]'(by omega)) with
      | true =>
       refine .inl fun k hk hk' => ?_
       by_cases e : k = n
       ·subst e; exact hb
       ·exact h k hk (by omega)
      | false =>
       refine .inr ⟨n, by omega, h, fun k hk hnk => ?_⟩
       cases hc : P H[k] with
       | false => rfl
       | true => rw [hP _ _ (hmono n k hnk hk) hc] at hb; cases hb
     ·exact .inr h
   rcases this H.length (Z7 _) with h | h
   ·exact ⟨H.length, Z7 _, h, fun k h hk => by omega⟩
   ·exact h
  obtain ⟨q, q1, q2, q3⟩ := key
  rw [Q4I H q q1 q2 q3]
  constructor
  ·intro h
   by_cases hq : j < q
   ·exact hq
   ·rw [q3 j hj (by omega)] at h; cases h
  ·exact q2 j hj
 have hLo := fun j hj => least (fun x => decide (cmpN x w < 0)) (fun x y h1 h2 => by simp only [decide_eq_true_eq] at h2 ⊢; exact le_lt h1 h2) j hj
 have hHi := fun j hj => least (fun x => decide (cmpN x w ≤ 0)) (fun x y h1 h2 => by simp only [decide_eq_true_eq] at h2 ⊢; exact cmpN_le _ _ _ h1 h2) j hj
 simp only [decide_eq_true_eq] at hLo hHi
 intro s
 induction s with
 | zero =>
  intro i h1 h2 h3
  obtain rfl : i = p := by omega
  rw [Q0t_l0.eq, Z1]
  by_cases hl : i < H.length
  ·rw [Q2 (by omega), Q04, Z12, Z3 hl, Z47, Z0, wst_eq _ _ (hB _ (Z14 hl)) hw, Q3]
   intro e
   have := (hHi i hl).1 (by rw [e, Q3t]; omega)
   unfold spHi at hp
   omega
  ·rw [Q3 (by omega)]
 | succ s ih =>
  intro i h1 h2 h3
  have hl : i < H.length := by omega
  have e1 := (hHi i hl).2 (by unfold spHi at hp; omega)
  have e2 : ¬ cmpN H[i] w < 0 := fun h => by have := (hLo i hl).1 h; unfold spLo at h2; omega
  rw [Q0t_l0.eq, Z1, Q2 (by omega), Q04, Z12, Z3 hl, Z47, Z0, wst_eq _ _ (hB _ (Z14 hl)) hw, Q2 (Q3I _ _ (by omega)), Q6 i (by omega)]
  exact ih (i + 1) (by omega) (by omega) (by omega)
theorem headRows_eq : Q0t (H.map wst) (wst w) = some ((spLo H w : Int), (spHi H w : Int)) := by
 obtain ⟨b, hb⟩ := bsearch_l0 H hH hs hB w hw _ 0 H.length rfl (Z21 _) (Z7 _) (fun j h hj => absurd hj (Z95 _)) (fun j h hj => by omega)
 rw [Q0t.eq, Q0y.eq, Z1]
 have hb' : Q0y_l0 (H.map wst) (wst w) (H.length : Int) 0 (H.length : Int) = some (((spLo H w : Nat) : Int), b) := hb
 rw [hb', Z0]
 exact headRows_l0 H hH hs hB w hw _ rfl _ _ rfl (Z7 _) (sp_le H w)
end
end Go.Ev.W
/- Parts: the words, and what both functions give. -/
set_option linter.unusedVariables false
set_option linter.unusedSimpArgs false
namespace Go.Ev.W
open Go.Ev
theorem growS_eq (n : Int) (h0 : 0 ≤ n) (h : n ≤ 10000000) : Q2n [] n = some [] := by
 unfold Q2n growF
 simp only [List.isEmpty_nil, Z20]
 rw [decide_eq_true h0, decide_eq_true (show n.toNat * 16 ≤ 140737488355328 by omega), decide_eq_true (show n.toNat ≤ 4611686018427387904 by omega)]
 rfl
theorem concatS_eq (A B : List ByteArray) (hA : A.length ≤ 1000) (hB : B.length ≤ 1000) : Q02 [A, B] = some (A ++ B) := by
 have s0 : IntKind.i64.wrap (0 + 1 : Int) = ((1 : Nat) : Int) := Q6 0 (by omega)
 have s1 : IntKind.i64.wrap (((1 : Nat) : Int) + 1) = ((2 : Nat) : Int) := Q6 1 (by omega)
 have g0 : at? [A, B] (0 : Int) = some A := rfl
 have g1 : at? [A, B] ((1 : Nat) : Int) = some B := rfl
 rw [Q02.eq, Q02_l0.eq, Q2 (by simp), g0, Z0, Qa (x := 0 + (A.length : Int)) (by omega) (by omega), Q3 (by omega), s0,
  Q02_l0.eq, Q2 (by simp), g1, Z0, Qa (x := 0 + (A.length : Int) + B.length) (by omega) (by omega), Q3 (by omega), s1,
  Q02_l0.eq, Q3 (by simp), growS_eq _ (by omega) (by omega), Z0,
  Q02_l1.eq, Q2 (by simp), g0, Z0, Q2 (by simp; omega), s0,
  Q02_l1.eq, Q2 (by simp), g1, Z0, Q2 (by simp; omega), s1,
  Q02_l1.eq, Q3 (by simp), Z36]
theorem sortedW_eq (L : Ls) (hl : L.length ≤ 100000) (hB : ∀ x ∈ L, Qh x) : Q2o (L.map wst) = some ((sortN L).map wst) := by
 unfold Q2o sortedS
 rw [Q2 (by rw [Z1]; omega)]
 congr 1
 refine (List.map_mergeSort (fun x hx y hy => ?_)).symm
 exact (wst_le x y (hB x hx) (hB y hy)).symm
theorem compL_wst (M : Ls) (hB : ∀ x ∈ M, Qh x) : compL (M.map wst) = (dd M).map wst := by
 unfold compL Lib.compactUpTo dd
 rw [Z1, Z26]
 have hg : ∀ j, j < M.length → ((M.map wst).toArray)[j]! = wst M[j]! := fun j hj => by
  rw [getElem!_pos M j hj]
  simp [hj]
 have hk : ∀ j, j ∈ List.range M.length → Lib.keeps (M.map wst).toArray j = keepN M j := fun j hj => by
  have hj := Z51.1 hj
  unfold Lib.keeps keepN
  refine decide_eq_decide.2 ?_
  rw [hg j hj, hg (j - 1) (by omega)]
  have m1 : M[j]! ∈ M := by rw [getElem!_pos M j hj]; exact Z14 _
  have m2 : M[j - 1]! ∈ M := by rw [getElem!_pos M (j - 1) (by omega)]; exact Z14 _
  refine or_congr Iff.rfl (not_congr ⟨fun h => wst_inj (hB _ m1) (hB _ m2) h, fun h => by rw [h]⟩)
 rw [List.filter_congr hk]
 refine Z45 fun j hj => ?_
 exact hg j (Z51.1 (Z74.1 hj).1)
theorem compactW_eq (M : Ls) (h0 : M ≠ []) (hl : M.length ≤ 100000) (hB : ∀ x ∈ M, Qh x) : Q2p (M.map wst) = some ((dd M).map wst) := by
 unfold Q2p compactC
 have e1 : ∀ Z : List ByteArray, List.map (fun x => x) Z = Z := fun Z => List.map_id' Z
 rw [e1, decide_eq_true (by rw [Z1]; omega), compL_wst M hB]
 have : (M.map wst).isEmpty = false := by cases M with | nil => exact absurd rfl h0 | cons _ _ => rfl
 rw [this]
 show some (List.map (fun x => x) ((dd M).map wst)) = _
 rw [e1]
def part (A B : Ls) (w : List Nat) : List Int × Int × Int × Int × Int := (ints w, (spLo A w : Int), (spHi A w : Int), (spLo B w : Int), (spHi B w : Int))
def parts (A B : Ls) : List (List Int × Int × Int × Int × Int) := (words (A ++ B)).map (part A B)
theorem implParts_l0 (A B : Ls) (hA : A.length ≤ 301) (hB : B.length ≤ 301) (sA : A.Pairwise leN) (sB : B.Pairwise leN) (W : Ls) (hW : W.length ≤ 602) (bA : ∀ x ∈ A, Qh x) (bB : ∀ x ∈ B, Qh x) (bW : ∀ x ∈ W, Qh x) : ∀ (s i : Nat), W.length - i = s → i ≤ W.length →
  Q0z_l0 (A.map wst) (B.map wst) W.length i ((W.take i).map (part A B)) (W.map wst) = some (W.map (part A B)) := by
 intro s
 induction s with
 | zero =>
  intro i h1 h2
  obtain rfl : i = W.length := by omega
  rw [Q0z_l0.eq, Q3 (by omega), Z23]
 | succ s ih =>
  intro i h1 h2
  have hi : i < W.length := by omega
  have eg : (W.map wst)[i]? = some (wst W[i]) := by rw [Z12, Z3 hi]; rfl
  have hb := bW _ (Z14 hi)
  rw [Q0z_l0.eq, Q2 (by omega), Q04, eg, Z0, Z5, eg, Z0, headRows_eq A (by omega) sA bA _ hb, Z0, headRows_eq B (by omega) sB bB _ hb, Z0, wst_ints _ hb]
  have ef : (W.take i).map (part A B) ++ [(ints W[i], (spLo A W[i] : Int), (spHi A W[i] : Int), (spLo B W[i] : Int), (spHi B W[i] : Int))] = (W.take (i + 1)).map (part A B) := by
   rw [Q2Y _ _ hi, Z15]; rfl
  simp only
  rw [ef, Q2 (by simp only [Z1, Z9, Z2, Z6]; omega), Q6 i (by omega)]
  exact ih (i + 1) (by omega) (by omega)
theorem implParts_eq (R T : List Nat) (hR : R.length ≤ 300) (hT : T.length ≤ 300) (bR : Qh R) (bT : Qh T) (d : Nat) (hd8 : d ≤ 8) : Q0z (ints R) (ints T) d = some (parts (hd R d) (hd T d)) := by
 have lR := hd_len R d
 have lT := hd_len T d
 have hb : ∀ x ∈ hd R d ++ hd T d, Qh x := fun x hx => (Z28.1 hx).elim (fun h => (hd_byte R bR d x h).1) (fun h => (hd_byte T bT d x h).1)
 have hne : sortN (hd R d ++ hd T d) ≠ [] := fun e => by
  have := congrArg List.length e
  unfold sortN at this
  rw [List.length_mergeSort, Z11, Z6] at this
  omega
 have hl : (sortN (hd R d ++ hd T d)).length = (hd R d ++ hd T d).length := List.length_mergeSort _
 have wl := words_len (hd R d ++ hd T d)
 rw [Z11] at hl wl
 rw [Q0z.eq, implHeads_eq R hR bR d hd8, Z0, implHeads_eq T hT bT d hd8, Z0, concatS_eq _ _ (by rw [Z1]; omega) (by rw [Z1]; omega), Z0, ← Z15, sortedW_eq _ (by rw [Z11]; omega) hb, Z0, compactW_eq _ hne (by omega) fun x hx => hb x ((sortN_mem _ x).1 hx), Z0, dd_words, Z1]
 have := implParts_l0 (hd R d) (hd T d) (by omega) (by omega) (hd_sorted R d) (hd_sorted T d) (words (hd R d ++ hd T d)) (by omega) (fun x hx => (hd_byte R bR d x hx).1) (fun x hx => (hd_byte T bT d x hx).1) (fun x hx => hb x ((words_mem _ x).1 hx)) _ 0 rfl (Z21 _)
 rw [Z39] at this
 exact this
theorem take_cat (V : Ls) (k : Nat) (x : List Nat) : ([] ++ ((wds V).drop 0).take (k - 0)) ++ ([ints x] ++ ((wds V).drop k).take ((wds V).length - k)) = wds (V.take k ++ x :: V.drop k) := by
 rw [Z36, Z53, Nat.sub_zero, Z33 (l := (wds V).drop k) (by rw [Z19]; omega)]
 simp [wds, Z92, List.map_drop]
section
variable (L : Ls) (hL : L.length ≤ 1000) (hs : ∀ x ∈ L, x.length ≤ 4000000) (a b : List (List Int))
include hL hs
theorem specIns_hit (i : Nat) (hi : i < L.length) (V : Ls) (hV : V.length ≤ 1000) (vs : ∀ x ∈ V, x.length ≤ 4000000) : ∀ (s k : Nat), V.length - k = s → k ≤ V.length → Qm_l1 i k true a b (wds L) (wds V) = Qm_l0 ((i + 1 : Nat) : Int) a b (wds L) (wds V) := by
 intro s
 induction s with
 | zero =>
  intro k h1 h2
  obtain rfl : k = V.length := by omega
  rw [Qm_l1.eq, Z1, Q3 (by omega), Z8, Q9, Q6 i (by omega)]
 | succ s ih =>
  intro k h1 h2
  have hk : k < V.length := by omega
  have eg : (wds V)[k]? = some (ints V[k]) := by rw [Z12, Z3 hk]; rfl
  have el : (wds L)[i]? = some (ints L[i]) := by rw [Z12, Z3 hi]; rfl
  rw [Qm_l1.eq, Z1, Q2 (by omega), Q04, eg, Z0, Z5, eg, Z0, Q04, el, Z0, Z5, el, Z0, l05Cmp_eq _ _ (vs _ (Z14 hk)) (hs _ (Z14 hi)), Z0]
  by_cases h : cmpN V[k] L[i] ≤ 0
  ·rw [Q2 h, Qp, Q6 k (by omega)]
   exact ih (k + 1) (by omega) (by omega)
  ·rw [Q3 h, Z8, Q9, Q6 i (by omega)]
theorem specIns_l1 (i : Nat) (hi : i < L.length) (V : Ls) (hV : V.length ≤ 1000) (vs : ∀ x ∈ V, x.length ≤ 4000000) : ∀ (s k : Nat), V.length - k = s → k ≤ V.length → Qm_l1 i k false a b (wds L) (wds V) = Qm_l0 ((i + 1 : Nat) : Int) a b (wds L) (wds (V.take k ++ ins L[i] (V.drop k))) := by
 have el : (wds L)[i]? = some (ints L[i]) := by rw [Z12, Z3 hi]; rfl
 intro s
 induction s with
 | zero =>
  intro k h1 h2
  obtain rfl : k = V.length := by omega
  rw [Qm_l1.eq, Z1, Q3 (by omega), Z49, Qp, Q04, el, Z0, Z5, el, Z0]
  simp only [Z5]
  have e := take_cat V V.length L[i]
  rw [Z1] at e
  rw [Q2 (by omega), Q2 (by simp only [Z2, Z6, Z9, Z19, Z1]; omega), Q2 (by omega), Q2 (by simp only [Z6, Z9, Z19, Z1]; omega), Q2 (by simp only [Z11, Z2, Z6, Z9, Z19, Z1]; omega), e, Q6 i (by omega), Z75]
  rfl
 | succ s ih =>
  intro k h1 h2
  have hk : k < V.length := by omega
  have eg : (wds V)[k]? = some (ints V[k]) := by rw [Z12, Z3 hk]; rfl
  have hc := l05Cmp_eq V[k] L[i] (vs _ (Z14 hk)) (hs _ (Z14 hi))
  have hd : V.drop k = V[k] :: V.drop (k + 1) := Z29 hk
  rw [Qm_l1.eq, Z1, Q2 (by omega), Q04, eg, Z0, Z5, eg, Z0, Q04, el, Z0, Z5, el, Z0, hc, Z0]
  by_cases h : cmpN V[k] L[i] ≤ 0
  ·rw [Q2 h, Q9, Z0, Z0, Z0, Z0, hc, Z0, Q6 k (by omega)]
   by_cases h0 : cmpN V[k] L[i] = 0
   ·rw [h0, beq_self_eq_true, specIns_hit L hL hs a b i hi V hV vs _ (k + 1) rfl (by omega), hd, ins, if_neg (by omega), if_pos h0, ← hd, Z84]
   ·rw [beq_eq_false_iff_ne.2 h0, ih (k + 1) (by omega) (by omega), hd, ins, if_pos (by omega), Q2Y V k hk, Z30]
    rfl
  ·rw [Q3 h, Z49, Qp, Z0, Z0]
   have e := take_cat V k L[i]
   rw [Z1] at e
   rw [Q2 (by omega), Q2 (by simp only [Z2, Z6, Z9, Z19, Z1]; omega), Q2 (by omega), Q2 (by simp only [Z6, Z9, Z19, Z1]; omega), Q2 (by simp only [Z11, Z2, Z6, Z9, Z19, Z1]; omega), e, Q6 i (by omega)]
   rw [hd, ins, if_neg (by omega), if_neg (by omega)]
theorem specIns_l0 : ∀ (s i : Nat) (V : Ls), L.length - i = s → i ≤ L.length → V.length ≤ i → (∀ x ∈ V, x ∈ L) → Qm_l0 i a b (wds L) (wds V) = Qm_l2 0 a b (wds ((L.drop i).foldl (fun V x => ins x V) V)) [] := by
 intro s
 induction s with
 | zero =>
  intro i V h1 h2 h3 h4
  obtain rfl : i = L.length := by omega
  rw [Qm_l0.eq, Z1, Q3 (by omega), Z75]; rfl
 | succ s ih =>
  intro i V h1 h2 h3 h4
  have hi : i < L.length := by omega
  have := specIns_l1 L hL hs a b i hi V (by omega) (fun x hx => hs x (h4 x hx)) _ 0 rfl (Z21 _)
  rw [Z39, Z53, Z36] at this
  rw [Qm_l0.eq, Z1, Q2 (by omega), Z29 hi, List.foldl_cons]
  have hl := ins_len L[i] V
  refine this.trans (ih (i + 1) _ (by omega) (by omega) (by omega) fun x hx => ?_)
  rcases (ins_mem _ x V).1 hx with h | h
  ·rw [h]; exact Z14 _
  ·exact h4 x h
end
theorem specParts_l2 (A B : Ls) (hA : A.length ≤ 301) (hB : B.length ≤ 301) (W : Ls) (hW : W.length ≤ 602) (bA : ∀ x ∈ A, x.length ≤ 8) (bB : ∀ x ∈ B, x.length ≤ 8) (bW : ∀ x ∈ W, x.length ≤ 8) : ∀ (s i : Nat), W.length - i = s → i ≤ W.length →
  Qm_l2 i (wds A) (wds B) (wds W) ((W.take i).map (part A B)) = some (W.map (part A B)) := by
 intro s
 induction s with
 | zero =>
  intro i h1 h2
  obtain rfl : i = W.length := by omega
  rw [Qm_l2.eq, Z1, Q3 (by omega), Z23]
 | succ s ih =>
  intro i h1 h2
  have hi : i < W.length := by omega
  have eg : (wds W)[i]? = some (ints W[i]) := by rw [Z12, Z3 hi]; rfl
  have hb := bW _ (Z14 hi)
  have sA := specSpan_eq A (by omega) W[i] (by omega) fun x hx => by have := bA x hx; omega
  have sB := specSpan_eq B (by omega) W[i] (by omega) fun x hx => by have := bB x hx; omega
  rw [Qm_l2.eq, Z1, Q2 (by omega)]
  simp only [Q04, Z5, eg, Z0, sA, sB]
  have ef : (W.take i).map (part A B) ++ [([] ++ ints W[i], (spLo A W[i] : Int), (spHi A W[i] : Int), (spLo B W[i] : Int), (spHi B W[i] : Int))] = (W.take (i + 1)).map (part A B) := by
   rw [Q2Y _ _ hi, Z15]; rfl
  rw [ef, Q2 (by simp only [Z6, Q8]; omega), Q2 (by simp only [Z1, Z9, Z2, Z6]; omega), Q6 i (by omega)]
  exact ih (i + 1) (by omega) (by omega)
theorem Q4m (R T : List Nat) (d : Int) : Q18 (ints R) (ints T) d = some (decide (R.length ≤ 300 ∧ T.length ≤ 300 ∧ 0 ≤ d ∧ d ≤ 8)) := by
 rw [Q18.eq, Q5b, Z0]
 by_cases h1 : R.length ≤ 300
 ·rw [Q2 h1, Q5b, Z0]
  by_cases h2 : T.length ≤ 300
  ·rw [Q2 h2]
   by_cases h3 : 0 ≤ d
   ·rw [Q2 h3]; congr 1; exact decide_eq_decide.2 (by omega)
   ·rw [Q3 (by omega), decide_eq_false (by omega)]
  ·rw [Q3 h2, decide_eq_false (by omega)]
 ·rw [Q3 h1, decide_eq_false (by omega)]
theorem specParts_eq (R T : List Nat) (hR : R.length ≤ 300) (hT : T.length ≤ 300) (bR : Qh R) (bT : Qh T) (d : Nat) (hd8 : d ≤ 8) : Qm (ints R) (ints T) d = some (parts (hd R d) (hd T d)) := by
 have lR := hd_len R d
 have lT := hd_len T d
 have wl := words_len (hd R d ++ hd T d)
 have h8 : ∀ x ∈ hd R d ++ hd T d, x.length ≤ 8 := fun x hx => Z24 ((Z28.1 hx).elim (fun h => (hd_byte R bR d x h).2) (fun h => (hd_byte T bT d x h).2)) hd8
 rw [Z11] at wl
 have e1 : Qm_l0 0 (wds (hd R d)) (wds (hd T d)) (wds (hd R d ++ hd T d)) (wds []) = _ := specIns_l0 (hd R d ++ hd T d) (by rw [Z11]; omega) (fun x hx => by have := h8 x hx; omega) (wds (hd R d)) (wds (hd T d)) _ 0 [] rfl (Z21 _) (Z7 _) (fun x hx => by cases hx)
 rw [Qm.eq, Q4m, Z0, decide_eq_true (by omega), Z8, Q9, specHeads_eq R hR d hd8, Z0, specHeads_eq T hT d hd8, Z0, Q2 (by simp only [Z6, Z1]; omega), Q2 (by simp only [Z11, Z6, Z1]; omega), Z36, ← Z15]
 refine e1.trans ?_
 rw [Z53]
 have := specParts_l2 (hd R d) (hd T d) (by omega) (by omega) (words (hd R d ++ hd T d)) (by omega) (fun x hx => h8 x (List.mem_append_left _ hx)) (fun x hx => h8 x (List.mem_append_right _ hx)) (fun x hx => h8 x ((words_mem _ x).1 hx)) _ 0 rfl (Z21 _)
 rw [Z39] at this
 exact this
end Go.Ev.W
/- The longest common subsequence: the reference's functions; both within a budget. -/
set_option linter.unusedVariables false
set_option linter.unusedSimpArgs false
namespace Go.Ev.W
open Go.Ev
def hitC (X Y : List Int) (v x k : Nat) : Bool := (X.getD x 0 == Y.getD k 0) && (1 + lc (X.drop (x + 1)) (Y.drop (k + 1)) == v)
def lowC (X Y : List Int) (v x j : Nat) : Nat → Int → Int
 | 0, y => y
 | k + 1, y => if j ≤ k then lowC X Y v x j k (if hitC X Y v x k then (k : Int) else y) else y
theorem specCommon_l3 (X Y : List Int) (hX : X.length ≤ 100000) (hY : Y.length ≤ 100000) (i j x : Nat) (hi : i ≤ X.length) (hj : j ≤ Y.length) (hx : x < X.length) (out : List (Int × Int)) :
  ∀ (k : Nat) (y : Int), k ≤ Y.length → Ql_l3 X Y (Q0E fS X Y) i j x y ((k : Int) - 1) out = Ql_l2 X Y (Q0E fS X Y) i j ((x + 1 : Nat) : Int) (lowC X Y (lc (X.drop i) (Y.drop j)) x j k y) out := by
 intro k
 induction k with
 | zero =>
  intro y hk
  rw [Ql_l3.eq, Q3 (by omega), Q6 x (by omega)]; rfl
 | succ k ih =>
  intro y hk
  have hk' : k < Y.length := by omega
  rw [show ((k + 1 : Nat) : Int) - 1 = (k : Int) by omega, Ql_l3.eq]
  by_cases hjk : j ≤ k
  ·obtain ⟨row, e1, e2⟩ := tab_at fS_ok X Y (by omega) i j hi hj
   obtain ⟨row2, f1, f2⟩ := tab_at fS_ok X Y (by omega) (x + 1) (k + 1) (by omega) (by omega)
   have hb := lc_le (X.drop (x + 1)) (Y.drop (k + 1))
   rw [Z19] at hb
   have gx : X.getD x 0 = X[x] := by rw [Z10, Z3 hx]; rfl
   have gy : Y.getD k 0 = Y[k] := by rw [Z10, Z3 hk']; rfl
   rw [Q2 (by omega), Q04, Z3 hx, Z0, Q04, Z3 hk', Z0, Qa (x := (k : Int) - 1) (by omega) (by omega)]
   simp only [lowC, if_pos hjk]
   by_cases e : X[x] = Y[k]
   ·rw [Q05 e, Q6 x (by omega), f1, Z0, Q6 k (by omega), f2, Z0, e1, Z0, e2, Z0, Qa (by omega) (by omega)]
    by_cases e3 : 1 + lc (X.drop (x + 1)) (Y.drop (k + 1)) = lc (X.drop i) (Y.drop j)
    ·have hh : hitC X Y (lc (X.drop i) (Y.drop j)) x k = true := by unfold hitC; rw [gx, gy, e, e3]; simp
     rw [Q05 (by omega), hh, if_pos rfl]
     exact ih k (by omega)
    ·have hh : hitC X Y (lc (X.drop i) (Y.drop j)) x k = false := by unfold hitC; rw [beq_eq_false_iff_ne.2 e3, Z73]
     rw [Q0g (by omega), hh, if_neg (by simp)]
     exact ih y (by omega)
   ·have hh : hitC X Y (lc (X.drop i) (Y.drop j)) x k = false := by unfold hitC; rw [gx, gy, beq_eq_false_iff_ne.2 e, Bool.false_and]
    rw [Q0g e, hh, if_neg (by simp)]
    exact ih y (by omega)
  ·rw [Q3 (by omega), Q6 x (by omega)]
   simp only [lowC, if_neg hjk]
theorem lowC_none (X Y : List Int) (v x j : Nat) : ∀ (k : Nat) (y : Int), (∀ q, j ≤ q → q < k → hitC X Y v x q = false) → lowC X Y v x j k y = y
 | 0, y, _ => rfl
 | k + 1, y, h => by
  unfold lowC
  by_cases hjk : j ≤ k
  ·rw [if_pos hjk, h k hjk (Nat.lt_succ_self k), if_neg (by simp)]
   exact lowC_none X Y v x j k y fun q h1 h2 => h q h1 (by omega)
  ·rw [if_neg hjk]
theorem lowC_some (X Y : List Int) (v x j p : Nat) (hp : j ≤ p) (hh : hitC X Y v x p = true) (hlo : ∀ q, j ≤ q → q < p → hitC X Y v x q = false) : ∀ (k : Nat) (y : Int), p < k → lowC X Y v x j k y = p
 | 0, y, h => absurd h (Z95 _)
 | k + 1, y, h => by
  unfold lowC
  rw [if_pos (by omega)]
  by_cases e : p = k
  ·subst e
   rw [hh, if_pos rfl]
   exact lowC_none X Y v x j p _ fun q h1 h2 => hlo q h1 h2
  ·exact lowC_some X Y v x j p hp hh hlo k _ (by omega)
theorem row_step (X Y : List Int) (x j v : Nat) (hx : x < X.length) (hj : j ≤ Y.length) (hv : lc (X.drop x) (Y.drop j) = v) :
  (lowC X Y v x j Y.length (-1) = -1 ∧ lc (X.drop (x + 1)) (Y.drop j) = v ∧ ∀ i, grd (X.drop x) (Y.drop j) i j = grd (X.drop (x + 1)) (Y.drop j) (i + 1) j) ∨
  ∃ p, j ≤ p ∧ p < Y.length ∧ lowC X Y v x j Y.length (-1) = (p : Int) ∧ ∀ i, grd (X.drop x) (Y.drop j) i j = (i, p) :: grd (X.drop (x + 1)) (Y.drop (p + 1)) (i + 1) (p + 1) := by
 have hd : X.drop x = X[x] :: X.drop (x + 1) := Z29 hx
 have gx : X.getD x 0 = X[x] := by rw [Z10, Z3 hx]; rfl
 rw [hd] at hv ⊢
 have hf := lc_fst X[x] (X.drop (x + 1)) (Y.drop j)
 have gy : ∀ q, q < Y.length → Y.getD q 0 = Y[q]! := fun q hq => by rw [Z10, Z3 hq, getElem!_pos Y q hq]; rfl
 cases hc : fst1 X[x] (Y.drop j) with
 | none =>
  rw [hc] at hf; simp only at hf
  have hn := fst1_none _ _ hc
  refine .inl ⟨lowC_none X Y v x j _ _ fun q h1 h2 => ?_, by omega, fun i => by rw [grd, hc]⟩
  unfold hitC
  have := hn (q - j) (by rw [Z19]; omega)
  rw [List.getElem_drop] at this
  simp only [show j + (q - j) = q by omega] at this
  rw [gx, Z10, Z3 h2, beq_eq_false_iff_ne.2 (by simpa using fun e => this e.symm), Bool.false_and]
 | some p =>
  rw [hc] at hf; simp only at hf
  obtain ⟨h1, h2, h3⟩ := fst1_some _ _ _ hc
  rw [Z19] at h1
  rw [List.getElem_drop] at h2
  rw [Z98] at hf
  have hm := mx hf
  have hne : ∀ q, j ≤ q → q < j + p → hitC X Y v x q = false := fun q q1 q2 => by
   have := h3 (q - j) (by rw [Z19]; omega) (by omega)
   rw [List.getElem_drop] at this
   simp only [show j + (q - j) = q by omega] at this
   unfold hitC
   rw [gx, Z10, Z3 (by omega), beq_eq_false_iff_ne.2 (by simpa using fun e => this e.symm), Bool.false_and]
  by_cases e : lc (X.drop (x + 1)) (Y.drop (j + (p + 1))) + 1 = lc (X[x] :: X.drop (x + 1)) (Y.drop j)
  ·refine .inr ⟨j + p, by omega, by omega, lowC_some X Y v x j (j + p) (by omega) ?_ hne _ _ (by omega), fun i => ?_⟩
   ·unfold hitC
    rw [gx, Z10, Z3 (by omega)]
    simp only [Z42, h2, beq_self_eq_true, Z20, beq_iff_eq]
    rw [Z66]; omega
   ·rw [grd, hc]
    simp only
    rw [Z98, if_pos e, Z66]
  ·refine .inl ⟨lowC_none X Y v x j _ _ fun q q1 q2 => ?_, by omega, fun i => by
    rw [grd, hc]
    simp only
    rw [Z98, if_neg e]⟩
   by_cases hq : q < j + p
   ·exact hne q q1 hq
   ·have hl := lc_drop2 (X.drop (x + 1)) Y (j + (p + 1)) (q + 1) (by omega)
    unfold hitC
    rw [beq_eq_false_iff_ne.2 (show 1 + lc (X.drop (x + 1)) (Y.drop (q + 1)) ≠ v by omega), Z73]
theorem specCommon_l12 (X Y : List Int) (hX : X.length ≤ 100000) (hY : Y.length ≤ 100000) : ∀ (d : Nat),
  (∀ (i j : Nat) (out : List (Int × Int)), X.length - i = d → i ≤ X.length → j ≤ Y.length → out.length ≤ i → Ql_l1 X Y (Q0E fS X Y) i j out = some (out ++ (grd (X.drop i) (Y.drop j) i j).map ipr)) ∧
  (∀ (i j x : Nat) (out : List (Int × Int)), X.length - x = d → i ≤ x → x ≤ X.length → j ≤ Y.length → out.length ≤ i → lc (X.drop i) (Y.drop j) = lc (X.drop x) (Y.drop j) → 0 < lc (X.drop i) (Y.drop j) →
   Ql_l2 X Y (Q0E fS X Y) i j x (-1) out = some (out ++ (grd (X.drop x) (Y.drop j) x j).map ipr)) := by
 intro d
 induction d with
 | zero =>
  constructor
  ·intro i j out h1 h2 h3 h4
   obtain rfl : i = X.length := by omega
   obtain ⟨row, e1, e2⟩ := tab_at fS_ok X Y (by omega) X.length j h2 h3
   rw [Ql_l1.eq, e1, Z0, e2, Z0, Z75]
   simp [lc, grd]
  ·intro i j x out h1 h2 h3 h4 h5 h6 h7
   obtain rfl : x = X.length := by omega
   rw [h6, Z75] at h7
   simp [lc] at h7
 | succ d ih =>
  have two : ∀ (i j x : Nat) (out : List (Int × Int)), X.length - x = d + 1 → i ≤ x → x ≤ X.length → j ≤ Y.length → out.length ≤ i → lc (X.drop i) (Y.drop j) = lc (X.drop x) (Y.drop j) → 0 < lc (X.drop i) (Y.drop j) →
    Ql_l2 X Y (Q0E fS X Y) i j x (-1) out = some (out ++ (grd (X.drop x) (Y.drop j) x j).map ipr) := by
   intro i j x out h1 h2 h3 h4 h5 h6 h7
   have hx : x < X.length := by omega
   rw [Ql_l2.eq, Q2 (by omega), Qa (by omega) (by omega), specCommon_l3 X Y hX hY i j x (by omega) h4 hx out Y.length (-1) (Z7 _)]
   rcases row_step X Y x j _ hx h4 h6.symm with ⟨r1, r2, r3⟩ | ⟨p, r1, r2, r3, r4⟩
   ·rw [r1, r3 x]
    exact ih.2 i j (x + 1) out (by omega) (by omega) (by omega) h4 h5 r2.symm h7
   ·rw [r3, r4 x, Ql_l2.eq, Q3 (by omega), Qa (x := ((x + 1 : Nat) : Int) - 1) (by omega) (by omega), Q2 (by simp only [Z2, Z6]; omega), Q6 p (by omega), show ((x + 1 : Nat) : Int) - 1 = (x : Int) by omega]
    rw [ih.1 (x + 1) (p + 1) _ (by omega) (by omega) (by omega) (by rw [Z11]; simp; omega), Z30]
    rfl
  refine ⟨?_, two⟩
  intro i j out h1 h2 h3 h4
  obtain ⟨row, e1, e2⟩ := tab_at fS_ok X Y (by omega) i j h2 h3
  rw [Ql_l1.eq, e1, Z0, e2, Z0]
  by_cases hz : lc (X.drop i) (Y.drop j) = 0
  ·rw [Q3 (by omega), grd_nil hz]; simp
  ·rw [Q2 (by omega)]
   exact two i j i out h1 (Z7 _) h2 h3 h4 rfl (by omega)
theorem specTable_eq (X Y : List Int) (hX : X.length ≤ 100000) (hY : Y.length ≤ 100000) : Q2f X Y = some (Q0E fS X Y) := tableC_eq fS X Y (by omega) (by omega)
def cw (X Y : List Int) (b : Int) : List (Nat × Nat) := if ((X.length + Y.length : Nat) : Int) - 2 * (lc X Y : Nat) > b then [] else grd X Y 0 0
theorem implWithin_eq (X Y : List Int) (hX : X.length ≤ 301) (hY : Y.length ≤ 301) (b : Int) : Q1o X Y b = some ((cw X Y b).map ipr) := by
 have hl := grd_len X Y 0 0
 have hb := lc_le X Y
 rw [Q1o.eq, Q1X.eq]
 rw [Q2 (by omega), Z0, decide_eq_true (by omega), Z8, Q9, implCommonOf_eq X Y (by omega) (by omega), Z0, Z1, hl, Qa (x := (X.length : Int) + Y.length) (by omega) (by omega), Qa (x := 2 * (lc X Y : Int)) (by omega) (by omega), Qa (by omega) (by omega)]
 unfold cw
 by_cases h : (X.length : Int) + Y.length - 2 * (lc X Y : Int) > b
 ·rw [Q2 h, if_pos (by omega)]; rfl
 ·rw [Q3 h, if_neg (by omega)]
theorem specWithin_eq (X Y : List Int) (hX : X.length ≤ 301) (hY : Y.length ≤ 301) (b : Int) : Q1g X Y b = some ((cw X Y b).map ipr) := by
 have hb := lc_le X Y
 have hr : ∀ Z : List Int, Z.length ≤ 301 → Q0J Z = some true := fun Z hZ => by rw [Q0J.eq, decide_eq_true (by omega)]
 obtain ⟨row, e1, e2⟩ := tab_at fS_ok X Y (by omega) 0 0 (Z21 _) (Z21 _)
 have e1' : at? (Q0E fS X Y) 0 = some row := e1
 have e2' : at? row 0 = some ((lc X Y : Nat) : Int) := e2
 have hL : Q1w X Y = some ((lc X Y : Nat) : Int) := by
  rw [Q1w.eq, hr X hX, hr Y hY, Z0, Z0, specTable_eq X Y (by omega) (by omega), Z0, e1', Z0, e2']; rfl
 have hC : Ql X Y = some ((grd X Y 0 0).map ipr) := by
  rw [Ql.eq, hr X hX, hr Y hY, Z0, Z0, Ql_l0.eq, specTable_eq X Y (by omega) (by omega)]
  have := (specCommon_l12 X Y (by omega) (by omega) _).1 0 0 [] rfl (Z21 _) (Z21 _) (Z7 _)
  simp only [Z53, Z36] at this
  exact this
 rw [Q1g.eq, hL, Z0, Q3 (by omega), Qa (x := (X.length : Int) + Y.length) (by omega) (by omega), Qa (x := 2 * (lc X Y : Int)) (by omega) (by omega), Qa (by omega) (by omega)]
 unfold cw
 by_cases h : (X.length : Int) + Y.length - 2 * (lc X Y : Int) > b
 ·rw [Q2 h, if_pos (by omega)]; rfl
 ·rw [Q3 h, if_neg (by omega), hC]; rfl
end Go.Ev.W
/- What two texts share: both functions; the pairs go up and tell equal symbols. -/
set_option linter.unusedVariables false
set_option linter.unusedSimpArgs false
namespace Go.Ev.W
open Go.Ev
theorem grd_at : ∀ (X Y : List Int) (i k : Nat), ∀ q ∈ grd X Y i k, i ≤ q.1 ∧ k ≤ q.2 ∧ ∃ v, X[q.1 - i]? = some v ∧ Y[q.2 - k]? = some v
 | [], Y, i, k, q, h => by simp [grd] at h
 | x :: xs, Y, i, k, q, h => by
  have none : ∀ q ∈ grd xs Y (i + 1) k, i ≤ q.1 ∧ k ≤ q.2 ∧ ∃ v, (x :: xs)[q.1 - i]? = some v ∧ Y[q.2 - k]? = some v := fun q h => by
   obtain ⟨h1, h2, v, h3, h4⟩ := grd_at xs Y (i + 1) k q h
   refine ⟨by omega, h2, v, ?_, h4⟩
   rw [show q.1 - i = (q.1 - (i + 1)) + 1 by omega, Z111]; exact h3
  unfold grd at h
  cases hf : fst1 x Y with
  | none => rw [hf] at h; exact none q h
  | some p =>
   rw [hf] at h
   simp only at h
   by_cases e : lc xs (Y.drop (p + 1)) + 1 = lc (x :: xs) Y
   ·rw [if_pos e] at h
    rcases Z13.1 h with h | h
    ·subst h
     obtain ⟨hp, h2, _⟩ := fst1_some _ _ _ hf
     refine ⟨Z7 _, Nat.le_add_right _ _, x, by simp, ?_⟩
     show Y[k + p - k]? = _
     rw [Z103, Z3 hp, h2]
    ·obtain ⟨h1, h2, v, h3, h4⟩ := grd_at xs (Y.drop (p + 1)) (i + 1) (k + p + 1) q h
     refine ⟨by omega, by omega, v, ?_, ?_⟩
     ·rw [show q.1 - i = (q.1 - (i + 1)) + 1 by omega, Z111]; exact h3
     ·rw [Z64, show p + 1 + (q.2 - (k + p + 1)) = q.2 - k by omega] at h4; exact h4
   ·rw [if_neg e] at h; exact none q h
def Up (p q : Nat × Nat) : Prop := p.1 < q.1 ∧ p.2 < q.2
theorem grd_up : ∀ (X Y : List Int) (i k : Nat), (grd X Y i k).Pairwise Up
 | [], Y, i, k => by simp [grd]
 | x :: xs, Y, i, k => by
  unfold grd
  cases hf : fst1 x Y with
  | none => exact grd_up xs Y (i + 1) k
  | some p =>
   simp only
   by_cases e : lc xs (Y.drop (p + 1)) + 1 = lc (x :: xs) Y
   ·rw [if_pos e]
    refine Z82.2 ⟨fun q hq => ?_, grd_up xs _ _ _⟩
    obtain ⟨h1, h2, _⟩ := grd_at xs (Y.drop (p + 1)) (i + 1) (k + p + 1) q hq
    exact ⟨by omega, by omega⟩
   ·rw [if_neg e]; exact grd_up xs Y (i + 1) k
theorem cw_at (X Y : List Int) (b : Int) : ∀ q ∈ cw X Y b, ∃ v, X[q.1]? = some v ∧ Y[q.2]? = some v := fun q hq => by
 unfold cw at hq
 split at hq
 ·cases hq
 ·obtain ⟨_, _, h⟩ := grd_at X Y 0 0 q hq
  exact h
theorem cw_up (X Y : List Int) (b : Int) : (cw X Y b).Pairwise Up := by
 unfold cw
 split
 ·exact .nil
 ·exact grd_up X Y 0 0
theorem cw_len (X Y : List Int) (b : Int) : (cw X Y b).length ≤ X.length := by
 unfold cw
 split
 ·exact Z21 _
 ·rw [grd_len]; exact lc_le X Y
theorem cw_bare (X Y : List Int) : cw X Y (-1) = [] := by
 unfold cw
 have h1 := lc_le X Y
 have h2 := lc_le2 X Y
 rw [if_pos (by omega)]
def seg (X : List Int) (lo hi : Nat) : List Int := (X.drop lo).take (hi - lo)
theorem seg_at {X : List Int} {lo hi i : Nat} {v : Int} (h : (seg X lo hi)[i]? = some v) : X[i + lo]? = some v ∧ i + lo < hi := by
 unfold seg at h
 rw [Z58] at h
 split at h
 ·rename_i hlt
  rw [Z64, Nat.add_comm] at h
  exact ⟨h, by omega⟩
 ·cases h
theorem seg_len (X : List Int) (lo hi : Nat) : (seg X lo hi).length ≤ X.length := by unfold seg; rw [Z9, Z19]; omega
def shq (a b : List Int) (bud : Int) (A B : Ls) (w : List Nat) : List (Nat × Nat) := cw (seg a (spLo A w) (spHi A w)) (seg b (spLo B w) (spHi B w)) bud
def shf (A B : Ls) (w : List Nat) (p : Nat × Nat) : Nat × Nat := (p.1 + spLo A w, p.2 + spLo B w)
def shw (a b : List Int) (bud : Int) (A B : Ls) (w : List Nat) : List (Nat × Nat) := (shq a b bud A B w).map (shf A B w)
def shv (a b : List Int) (bud : Int) (A B : Ls) : List (Nat × Nat) := (words (A ++ B)).flatMap (shw a b bud A B)
theorem shw_at (a b : List Int) (bud : Int) (A B : Ls) (w : List Nat) : ∀ q ∈ shw a b bud A B w, spLo A w ≤ q.1 ∧ q.1 < spHi A w ∧ spLo B w ≤ q.2 ∧ q.2 < spHi B w ∧ ∃ v, a[q.1]? = some v ∧ b[q.2]? = some v := fun q hq => by
 obtain ⟨p, hp, rfl⟩ := Z16.1 hq
 obtain ⟨v, h1, h2⟩ := cw_at _ _ _ p hp
 obtain ⟨k1, l1⟩ := seg_at h1
 obtain ⟨k2, l2⟩ := seg_at h2
 exact ⟨Nat.le_add_left _ _, l1, Nat.le_add_left _ _, l2, v, k1, k2⟩
theorem shv_up (a b : List Int) (bud : Int) (A B : Ls) : (shv a b bud A B).Pairwise Up := by
 unfold shv
 refine List.pairwise_flatMap.2 ⟨fun w _ => ?_, (words_sorted _).imp fun {v w} hvw x hx y hy => ?_⟩
 ·unfold shw
  rw [List.pairwise_map]
  exact (cw_up _ _ _).imp fun {p q} h => ⟨Nat.add_lt_add_right h.1 _, Nat.add_lt_add_right h.2 _⟩
 ·obtain ⟨_, x1, _, x2, _⟩ := shw_at a b bud A B v x hx
  obtain ⟨y1, _, y2, _, _⟩ := shw_at a b bud A B w y hy
  have := sp_next A hvw
  have := sp_next B hvw
  exact ⟨by omega, by omega⟩
theorem shv_at (a b : List Int) (bud : Int) (A B : Ls) : ∀ q ∈ shv a b bud A B, ∃ v, a[q.1]? = some v ∧ b[q.2]? = some v := fun q hq => by
 obtain ⟨w, _, hw⟩ := List.mem_flatMap.1 hq
 exact (shw_at a b bud A B w q hw).2.2.2.2
theorem shv_bare (a b : List Int) (A B : Ls) : shv a b (-1) A B = [] := by
 unfold shv shw shq
 simp only [cw_bare, Z55]
 induction words (A ++ B) with
 | nil => rfl
 | cons w W ih => rw [Z104, ih]; rfl
theorem Q3F {f : List Nat → List (Nat × Nat)} (h : ∀ w, (f w).length ≤ 301) : ∀ W : Ls, (W.flatMap f).length ≤ W.length * 301
 | [] => by simp
 | w :: W => by
  have := Q3F h W
  have := h w
  rw [Z104, Z11, Z2]; omega
section
variable (a b : List Int) (ha : a.length ≤ 301) (hb : b.length ≤ 301) (bud : Int) (A B : Ls) (hA : A.length = a.length) (hB : B.length = b.length)
include ha hb hA hB
omit hb hB in
theorem shq_len (w : List Nat) : (shq a b bud A B w).length ≤ 301 := by
 have := cw_len (seg a (spLo A w) (spHi A w)) (seg b (spLo B w) (spHi B w)) bud
 have := seg_len a (spLo A w) (spHi A w)
 unfold shq; omega
omit hb hB in
theorem shw_len (w : List Nat) : (shw a b bud A B w).length ≤ 301 := by unfold shw; rw [Z1]; exact shq_len a b ha bud A B hA w
theorem shift_eq (w : List Nat) (p : Nat × Nat) (hp : p ∈ shq a b bud A B w) : (IntKind.i64.wrap ((ipr p).1 + (spLo A w : Int)), IntKind.i64.wrap ((ipr p).2 + (spLo B w : Int))) = ipr (shf A B w p) := by
 obtain ⟨v, h1, h2⟩ := cw_at _ _ _ p hp
 obtain ⟨k1, l1⟩ := seg_at h1
 obtain ⟨k2, l2⟩ := seg_at h2
 have s1 := sp_len A w
 have s2 := sp_len B w
 show (IntKind.i64.wrap ((p.1 : Int) + (spLo A w : Int)), IntKind.i64.wrap ((p.2 : Int) + (spLo B w : Int))) = (((p.1 + spLo A w : Nat) : Int), ((p.2 + spLo B w : Nat) : Int))
 rw [Qa (by omega) (by omega), Qa (by omega) (by omega)]
 congr 1
theorem implShare_l1 (w : List Nat) (n j : Int) (P : List (List Int × Int × Int × Int × Int)) (out : List (Nat × Nat)) (ho : out.length ≤ 1000000) (x : List Int) (r1 r2 : Int) : ∀ (s i : Nat), (shq a b bud A B w).length - i = s → i ≤ (shq a b bud A B w).length →
  QY_l1 bud n j (shq a b bud A B w).length i a b ((out ++ ((shq a b bud A B w).take i).map (shf A B w)).map ipr) x (spLo A w) r1 (spLo B w) r2 P ((shq a b bud A B w).map ipr) =
   QY_l0 bud n (IntKind.i64.wrap (j + 1)) a b ((out ++ shw a b bud A B w).map ipr) P := by
 have hl := shq_len a b ha bud A B hA w
 intro s
 induction s with
 | zero =>
  intro i h1 h2
  obtain rfl : i = (shq a b bud A B w).length := by omega
  rw [QY_l1.eq, Q3 (by omega), Z23]; rfl
 | succ s ih =>
  intro i h1 h2
  have hi : i < (shq a b bud A B w).length := by omega
  have eg : ((shq a b bud A B w).map ipr)[i]? = some (ipr (shq a b bud A B w)[i]) := by rw [Z12, Z3 hi]; rfl
  have ef : (out ++ ((shq a b bud A B w).take i).map (shf A B w)).map ipr ++ [ipr (shf A B w (shq a b bud A B w)[i])] = (out ++ ((shq a b bud A B w).take (i + 1)).map (shf A B w)).map ipr := by
   rw [Q2Y _ _ hi, Z15, Z15, Z15, Z15, Z30]; rfl
  rw [QY_l1.eq, Q2 (by omega), Q04, eg, Z0, Z5, eg, Z0, shift_eq a b ha hb bud A B hA hB w _ (Z14 hi), ef, Q2 (by simp only [Z1, Z11, Z9, Z2, Z6]; omega), Q6 i (by omega)]
  exact ih (i + 1) (by omega) (by omega)
theorem specShare_l1 (w : List Nat) (j : Int) (P : List (List Int × Int × Int × Int × Int)) (out : List (Nat × Nat)) (ho : out.length ≤ 1000000) (x : List Int) (r1 r2 : Int) : ∀ (s i : Nat), (shq a b bud A B w).length - i = s → i ≤ (shq a b bud A B w).length →
  QU_l1 bud P j i ((out ++ ((shq a b bud A B w).take i).map (shf A B w)).map ipr) a b x (spLo A w) r1 (spLo B w) r2 ((shq a b bud A B w).map ipr) =
   QU_l0 bud P (IntKind.i64.wrap (j + 1)) ((out ++ shw a b bud A B w).map ipr) a b := by
 have hl := shq_len a b ha bud A B hA w
 intro s
 induction s with
 | zero =>
  intro i h1 h2
  obtain rfl : i = (shq a b bud A B w).length := by omega
  rw [QU_l1.eq, Z1, Q3 (by omega), Z23]; rfl
 | succ s ih =>
  intro i h1 h2
  have hi : i < (shq a b bud A B w).length := by omega
  have eg : ((shq a b bud A B w).map ipr)[i]? = some (ipr (shq a b bud A B w)[i]) := by rw [Z12, Z3 hi]; rfl
  have ef : (out ++ ((shq a b bud A B w).take i).map (shf A B w)).map ipr ++ [ipr (shf A B w (shq a b bud A B w)[i])] = (out ++ ((shq a b bud A B w).take (i + 1)).map (shf A B w)).map ipr := by
   rw [Q2Y _ _ hi, Z15, Z15, Z15, Z15, Z30]; rfl
  rw [QU_l1.eq, Z1, Q2 (by omega)]
  simp only [Q04, Z5, eg, Z0]
  rw [shift_eq a b ha hb bud A B hA hB w _ (Z14 hi), ef, Q2 (by simp only [Z1, Z11, Z9, Z2, Z6]; omega), Q6 i (by omega)]
  exact ih (i + 1) (by omega) (by omega)
theorem implShare_l0 (W : Ls) (hW : W.length ≤ 602) : ∀ (s i : Nat), W.length - i = s → i ≤ W.length →
  QY_l0 bud W.length i a b (((W.take i).flatMap (shw a b bud A B)).map ipr) (W.map (part A B)) = some ((W.flatMap (shw a b bud A B)).map ipr) := by
 intro s
 induction s with
 | zero =>
  intro i h1 h2
  obtain rfl : i = W.length := by omega
  rw [QY_l0.eq, Q3 (by omega), Z23]
 | succ s ih =>
  intro i h1 h2
  have hi : i < W.length := by omega
  have eg : (W.map (part A B))[i]? = some (part A B W[i]) := by rw [Z12, Z3 hi]; rfl
  have s1 := sp_le A W[i]
  have s2 := sp_len A W[i]
  have s3 := sp_le B W[i]
  have s4 := sp_len B W[i]
  have hq := implWithin_eq (seg a (spLo A W[i]) (spHi A W[i])) (seg b (spLo B W[i]) (spHi B W[i])) (Z24 (seg_len _ _ _) ha) (Z24 (seg_len _ _ _) hb) bud
  have ho := Q3F (shw_len a b ha bud A B hA) (W.take i)
  rw [Z9] at ho
  have h1' := implShare_l1 a b ha hb bud A B hA hB W[i] W.length i (W.map (part A B)) ((W.take i).flatMap (shw a b bud A B)) (by omega) (ints W[i]) (spHi A W[i]) (spHi B W[i]) _ 0 rfl (Z21 _)
  have ih := ih (i + 1) (by omega) (by omega)
  rw [Q2Y _ _ hi, Z108, Z104, List.flatMap_nil, Z31] at ih
  rw [Z39, Z55, Z31, Q6 i (by omega), ih] at h1'
  rw [QY_l0.eq, Q2 (by omega), Q04, eg, Z0, Z5, eg, Z0]
  show (bif decide (0 ≤ (spHi A W[i] : Int) ∧ (spHi A W[i] : Int) ≤ (a.length : Int)) then
    bif decide (0 ≤ (spLo A W[i] : Int) ∧ (spLo A W[i] : Int) ≤ ((((spHi A W[i] : Nat) : Int).toNat : Nat) : Int)) then
    bif decide (0 ≤ (spHi B W[i] : Int) ∧ (spHi B W[i] : Int) ≤ (b.length : Int)) then
    bif decide (0 ≤ (spLo B W[i] : Int) ∧ (spLo B W[i] : Int) ≤ ((((spHi B W[i] : Nat) : Int).toNat : Nat) : Int)) then _ else none else none else none else none) = _
  rw [Q2 (by omega), Q2 (by omega), Q2 (by omega), Q2 (by omega)]
  show (Q1o (seg a (spLo A W[i]) (spHi A W[i])) (seg b (spLo B W[i]) (spHi B W[i])) bud).bind _ = _
  rw [hq, Z0, Z1]
  exact h1'
theorem specShare_l0 (W : Ls) (hW : W.length ≤ 602) : ∀ (s i : Nat), W.length - i = s → i ≤ W.length →
  QU_l0 bud (W.map (part A B)) i (((W.take i).flatMap (shw a b bud A B)).map ipr) a b = some ((W.flatMap (shw a b bud A B)).map ipr) := by
 intro s
 induction s with
 | zero =>
  intro i h1 h2
  obtain rfl : i = W.length := by omega
  rw [QU_l0.eq, Z1, Q3 (by omega), Z23]
 | succ s ih =>
  intro i h1 h2
  have hi : i < W.length := by omega
  have eg : (W.map (part A B))[i]? = some (part A B W[i]) := by rw [Z12, Z3 hi]; rfl
  have s1 := sp_le A W[i]
  have s2 := sp_len A W[i]
  have s3 := sp_le B W[i]
  have s4 := sp_len B W[i]
  have hq := specWithin_eq (seg a (spLo A W[i]) (spHi A W[i])) (seg b (spLo B W[i]) (spHi B W[i])) (Z24 (seg_len _ _ _) ha) (Z24 (seg_len _ _ _) hb) bud
  have ho := Q3F (shw_len a b ha bud A B hA) (W.take i)
  rw [Z9] at ho
  have h1' := specShare_l1 a b ha hb bud A B hA hB W[i] i (W.map (part A B)) ((W.take i).flatMap (shw a b bud A B)) (by omega) (ints W[i]) (spHi A W[i]) (spHi B W[i]) _ 0 rfl (Z21 _)
  have ih := ih (i + 1) (by omega) (by omega)
  rw [Q2Y _ _ hi, Z108, Z104, List.flatMap_nil, Z31] at ih
  rw [Z39, Z55, Z31, Q6 i (by omega), ih] at h1'
  rw [QU_l0.eq, Z1, Q2 (by omega), Q04, eg, Z0]
  show (bif decide (0 ≤ (spHi A W[i] : Int) ∧ (spHi A W[i] : Int) ≤ (a.length : Int)) then
    bif decide (0 ≤ (spLo A W[i] : Int) ∧ (spLo A W[i] : Int) ≤ ((((spHi A W[i] : Nat) : Int).toNat : Nat) : Int)) then
    bif decide (0 ≤ (spHi B W[i] : Int) ∧ (spHi B W[i] : Int) ≤ (b.length : Int)) then
    bif decide (0 ≤ (spLo B W[i] : Int) ∧ (spLo B W[i] : Int) ≤ ((((spHi B W[i] : Nat) : Int).toNat : Nat) : Int)) then _ else none else none else none else none) = _
  rw [Q2 (by omega), Q2 (by omega), Q2 (by omega), Q2 (by omega)]
  show (Q1g (seg a (spLo A W[i]) (spHi A W[i])) (seg b (spLo B W[i]) (spHi B W[i])) bud).bind _ = _
  rw [hq, Z0]
  exact h1'
end
def share (R T : List Nat) (d : Nat) (bud : Int) : List (Nat × Nat) := shv (ints (bwt R)) (ints (bwt T)) bud (hd R d) (hd T d)
section
variable (R T : List Nat) (hR : R.length ≤ 300) (hT : T.length ≤ 300) (bR : Qh R) (bT : Qh T) (d : Nat) (hd8 : d ≤ 8) (bud : Int)
include hR hT bR bT hd8
theorem implShare_eq : QY (ints R) (ints T) d bud = some ((share R T d bud).map ipr) := by
 have l1 := Q0U R
 have l2 := Q0U T
 have k1 := hd_len R d
 have k2 := hd_len T d
 have wl := words_len (hd R d ++ hd T d)
 rw [Z11] at wl
 have h := implShare_l0 (ints (bwt R)) (ints (bwt T)) (by rw [Q8]; omega) (by rw [Q8]; omega) bud (hd R d) (hd T d) (by rw [Q8]; omega) (by rw [Q8]; omega) (words (hd R d ++ hd T d)) (by omega) _ 0 rfl (Z21 _)
 rw [QY.eq, Q2L R hR bR, Z0, Q2L T hT bT, Z0, implParts_eq R T hR hT bR bT d hd8, Z0]
 unfold parts
 rw [Z1]
 rw [Z39] at h
 exact h
theorem specShare_eq : QU (ints R) (ints T) d bud = some ((share R T d bud).map ipr) := by
 have l1 := Q0U R
 have l2 := Q0U T
 have k1 := hd_len R d
 have k2 := hd_len T d
 have wl := words_len (hd R d ++ hd T d)
 rw [Z11] at wl
 have h := specShare_l0 (ints (bwt R)) (ints (bwt T)) (by rw [Q8]; omega) (by rw [Q8]; omega) bud (hd R d) (hd T d) (by rw [Q8]; omega) (by rw [Q8]; omega) (words (hd R d ++ hd T d)) (by omega) _ 0 rfl (Z21 _)
 rw [QU.eq, specParts_eq R T hR hT bR bT d hd8, Z0, Q3a R hR bR, Z0, Q3a T hT bT, Z0]
 unfold parts
 rw [Z39] at h
 exact h
end
theorem share_up (R T : List Nat) (d : Nat) (bud : Int) : (share R T d bud).Pairwise Up := shv_up _ _ _ _ _
theorem share_bare (R T : List Nat) (d : Nat) : share R T d (-1) = [] := shv_bare _ _ _ _
theorem share_at (R T : List Nat) (d : Nat) (bud : Int) : ∀ q ∈ share R T d bud, ∃ v, (bwt R)[q.1]? = some v ∧ (bwt T)[q.2]? = some v := fun q hq => by
 obtain ⟨v, h1, h2⟩ := shv_at _ _ _ _ _ q hq
 rw [Z12] at h1 h2
 obtain ⟨x, hx, ex⟩ := Option.map_eq_some_iff.1 h1
 obtain ⟨y, hy, ey⟩ := Option.map_eq_some_iff.1 h2
 refine ⟨x, hx, ?_⟩
 rw [hy]; congr 1; omega
end Go.Ev.W
/- Patches and waves of two texts: plain facts. -/
set_option linter.unusedVariables false
set_option linter.unusedSimpArgs false
namespace Go.Ev.W
open Go.Ev
def at0 : List Nat → List Bool → List Nat
 | x :: X, b :: bs => (if b then [] else [x]) ++ at0 X bs
 | _, _ => []
def at1 : List Nat → List Bool → List Nat
 | x :: X, b :: bs => (if b then [x] else []) ++ at1 X bs
 | _, _ => []
theorem at0_not : ∀ (X : List Nat) (bs : List Bool), at0 X (bs.map not) = at1 X bs
 | [], [] => rfl
 | [], _ :: _ => rfl
 | _ :: _, [] => rfl
 | x :: X, b :: bs => by
  rw [Z17, at0, at1, at0_not X bs]
  cases b <;> rfl
theorem at0_snoc : ∀ (X : List Nat) (bs : List Bool) (i : Nat) (hi : i < X.length) (hb : i < bs.length), at0 (X.take (i + 1)) bs = at0 (X.take i) bs ++ (if bs[i] then [] else [X[i]])
 | [], _, _, hi, _ => by simp at hi
 | _ :: _, [], _, _, hb => by simp at hb
 | x :: X, b :: bs, 0, _, _ => by cases b <;> simp [at0]
 | x :: X, b :: bs, i + 1, hi, hb => by
  rw [Z102, Z102, at0, at0, at0_snoc X bs i (by simpa using hi) (by simpa using hb), Z30]; rfl
theorem at1_snoc : ∀ (X : List Nat) (bs : List Bool) (i : Nat) (hi : i < X.length) (hb : i < bs.length), at1 (X.take (i + 1)) bs = at1 (X.take i) bs ++ (if bs[i] then [X[i]] else [])
 | [], _, _, hi, _ => by simp at hi
 | _ :: _, [], _, _, hb => by simp at hb
 | x :: X, b :: bs, 0, _, _ => by cases b <;> simp [at1]
 | x :: X, b :: bs, i + 1, hi, hb => by
  rw [Z102, Z102, at1, at1, at1_snoc X bs i (by simpa using hi) (by simpa using hb), Z30]; rfl
theorem Q3l : ∀ (X : List Nat) (bs : List Bool), ∀ x ∈ at0 X bs, x ∈ X
 | [], [], x, h => by cases h
 | [], _ :: _, x, h => by cases h
 | _ :: _, [], x, h => by cases h
 | y :: X, b :: bs, x, h => by
  rw [at0] at h
  rcases Z28.1 h with h | h
  ·cases b
   ·rw [if_neg (by simp)] at h; rw [Z40.1 h]; exact Z43
   ·cases h
  ·exact Z60 _ (Q3l X bs x h)
theorem Q2P : ∀ (X : List Nat) (bs : List Bool), (at0 X bs).length ≤ X.length
 | [], [] => by simp [at0]
 | [], _ :: _ => by simp [at0]
 | _ :: _, [] => by simp [at0]
 | y :: X, b :: bs => by
  have := Q2P X bs
  rw [at0, Z11, Z2]
  cases b <;> simp <;> omega
theorem at1_len : ∀ (X : List Nat) (bs : List Bool), X.length = bs.length → (at1 X bs).length = one bs bs.length
 | [], [], _ => by simp [at1, one]
 | [], _ :: _, h => by cases h
 | _ :: _, [], h => by cases h
 | y :: X, b :: bs, h => by
  have := at1_len X bs (by simpa using h)
  unfold one at this ⊢
  rw [Z23] at this ⊢
  rw [at1, Z11, this, Z34]
  cases b <;> simp <;> omega
theorem zer_cons (b : Bool) (bs : List Bool) : zer (b :: bs) (b :: bs).length = (if b then 0 else 1) + zer bs bs.length := by
 unfold zer
 rw [Z23, Z23, Z34]
 cases b <;> simp <;> omega
theorem one_cons (b : Bool) (bs : List Bool) : one (b :: bs) (b :: bs).length = (if b then 1 else 0) + one bs bs.length := by
 unfold one
 rw [Z23, Z23, Z34]
 cases b <;> simp <;> omega
def pat : List Bool → List Nat → List Nat → List Nat
 | [], _, _ => []
 | true :: bs, T, R => T.headD 0 :: pat bs T.tail R
 | false :: bs, T, R => R.headD 0 :: pat bs T R.tail
theorem Q37 : ∀ (bs : List Bool) (T R : List Nat), (pat bs T R).length = bs.length
 | [], _, _ => rfl
 | true :: bs, T, R => by rw [pat, Z2, Z2, Q37 bs]
 | false :: bs, T, R => by rw [pat, Z2, Z2, Q37 bs]
theorem pat_at0 : ∀ (bs : List Bool) (T R : List Nat), zer bs bs.length = R.length → at0 (pat bs T R) bs = R
 | [], T, R, h => by
  have : R.length = 0 := by rw [← h]; rfl
  rw [List.length_eq_zero_iff.1 this]; rfl
 | true :: bs, T, R, h => by
  rw [zer_cons, if_pos rfl, Z25] at h
  rw [pat, at0, if_pos rfl, Z36, pat_at0 bs T.tail R h]
 | false :: bs, T, R, h => by
  rw [zer_cons, if_neg (by simp)] at h
  cases R with
  | nil => simp at h
  | cons r R =>
   rw [Z2] at h
   rw [pat, at0, if_neg (by simp)]
   show r :: at0 (pat bs T R) bs = _
   rw [pat_at0 bs T R (by omega)]
theorem pat_snoc : ∀ (bs : List Bool) (T R : List Nat) (i : Nat) (hi : i < bs.length), zer bs bs.length = R.length → one bs bs.length = T.length →
  (pat bs T R)[i]? = if bs[i] then T[one bs i]? else R[zer bs i]?
 | [], _, _, _, hi, _, _ => by simp at hi
 | true :: bs, T, R, i, hi, h1, h2 => by
  rw [zer_cons, if_pos rfl, Z25] at h1
  rw [one_cons, if_pos rfl] at h2
  cases T with
  | nil => simp at h2
  | cons t T =>
   rw [Z2] at h2
   cases i with
   | zero => rfl
   | succ i =>
    have ih := pat_snoc bs T R i (by simpa using hi) h1 (by omega)
    have e1 : one (true :: bs) (i + 1) = one bs i + 1 := by unfold one; simp
    have e2 : zer (true :: bs) (i + 1) = zer bs i := by unfold zer; simp
    rw [pat, Z111, List.getElem_cons_succ, e1, e2, Z111]
    exact ih
 | false :: bs, T, R, i, hi, h1, h2 => by
  rw [zer_cons, if_neg (by simp)] at h1
  rw [one_cons, if_neg (by simp), Z25] at h2
  cases R with
  | nil => simp at h1
  | cons r R =>
   rw [Z2] at h1
   cases i with
   | zero => rfl
   | succ i =>
    have ih := pat_snoc bs T R i (by simpa using hi) (by omega) h2
    have e1 : one (false :: bs) (i + 1) = one bs i := by unfold one; simp
    have e2 : zer (false :: bs) (i + 1) = zer bs i + 1 := by unfold zer; simp
    rw [pat, Z111, List.getElem_cons_succ, e1, e2, Z111]
    exact ih
theorem LI_inj : ∀ {L M : List (Int × List Nat)}, LI L = LI M → L = M
 | [], [], _ => rfl
 | [], _ :: _, h => by cases h
 | _ :: _, [], h => by cases h
 | (a, x) :: L, (b, y) :: M, h => by
  have h' : (a, ints x) :: LI L = (b, ints y) :: LI M := h
  injection h' with h1 h2
  injection h1 with h3 h4
  rw [h3, ints_inj' h4, LI_inj h2]
def wvV (Y : List Nat) : Int × List Int × List (Int × List Int) := ((Y.length : Int), ints (wLv 9 0 Y).1, LI (wLv 9 0 Y).2)
theorem waves_iff (n : Int) (Z : List Int) (L : List (Int × List Nat)) (hx : ∀ p ∈ L, ∀ x ∈ p.2, x < 2 ^ 64) (Y : List Nat) (hY : Y.length ≤ 1000) (hy : ∀ y ∈ Y, y ≤ 511) :
  (wOk n Z L = true ∧ Q2C n.toNat L = Y) ↔ (n, Z, LI L) = wvV Y := by
 constructor
 ·rintro ⟨h1, h2⟩
  have h3 := wave_inv n Z L hx h1
  have h4 := Q3L n.toNat L
  have h5 := (wOk_at h1).1
  rw [h2] at h3 h4
  unfold wvV
  rw [h3.1, h3.2, h4, Int.toNat_of_nonneg h5]
 ·intro h
  unfold wvV at h
  injection h with h1 h2
  injection h2 with h2 h3
  have h3 := LI_inj h3
  subst h1; subst h2; subst h3
  rw [Z5]
  exact wave_back Y hY hy
end Go.Ev.W
/- How many bits are as told: both functions. -/
set_option linter.unusedVariables false
set_option linter.unusedSimpArgs false
namespace Go.Ev.W
open Go.Ev
theorem countB_l0 (bs : List Bool) (b : Bool) (hn : bs.length ≤ 5000) : ∀ (d i : Nat), bs.length - i = d → i ≤ bs.length → Qz_l0 (bint b) (bef bs i b : Nat) (Qe bs) bs.length i = some ((bef bs bs.length b : Nat) : Int)
 | 0, i, h1, h2 => by
  obtain rfl : i = bs.length := by omega
  rw [Qz_l0.eq, Q3 (by omega)]
 | d + 1, i, h1, h2 => by
  have hi : i < bs.length := by omega
  have hz := bef_le bs i b
  have ih := countB_l0 bs b hn d (i + 1) (by omega) (by omega)
  rw [bef_succ bs i b hi] at ih
  rw [Qz_l0.eq, Q2 (by omega), Q2M bs i hi, Z0, bint_eq, Q6 i (by omega), Q6 (bef bs i b) (by omega)]
  cases hb : (bs[i] == b) with
  | true => rw [hb, if_pos rfl] at ih; rw [Qp]; exact ih
  | false => rw [hb, if_neg (by simp), Z32] at ih; rw [Q9]; exact ih
theorem bef_zero (bs : List Bool) (b : Bool) : bef bs 0 b = 0 := rfl
theorem countB_eq (bs : List Bool) (b : Bool) (hn : bs.length ≤ 5000) : Qz (Qe bs) (bint b) = some ((bef bs bs.length b : Nat) : Int) := by
 rw [Qz.eq, Z1]
 have := countB_l0 bs b hn _ 0 rfl (by omega)
 rw [bef_zero] at this
 exact this
theorem rankB_l1 (bs : List Bool) (b : Bool) (hn : bs.length ≤ 5000) : ∀ (d i : Nat), bs.length - i = d → i ≤ bs.length → Qx_l1 (bint b) bs.length (bef bs i b : Nat) i (Qe bs) = some ((bef bs bs.length b : Nat) : Int)
 | 0, i, h1, h2 => by
  obtain rfl : i = bs.length := by omega
  rw [Qx_l1.eq, Q3 (by omega)]
 | d + 1, i, h1, h2 => by
  have hi : i < bs.length := by omega
  have hz := bef_le bs i b
  have ih := rankB_l1 bs b hn d (i + 1) (by omega) (by omega)
  rw [bef_succ bs i b hi] at ih
  rw [Qx_l1.eq, Q2 (by omega), Q2M bs i hi, Z0, Z5, Q35 bs i hi, Z0, bint_eq, Q6 i (by omega), Q6 (bef bs i b) (by omega)]
  cases hb : (bs[i] == b) with
  | true => rw [hb, if_pos rfl] at ih; rw [Qp]; exact ih
  | false => rw [hb, if_neg (by simp), Z32] at ih; rw [Q9]; exact ih
theorem bit_bint (b : Bool) : Q1f (bint b) = some true := by
 rw [Q1f.eq]
 cases b <;> rfl
theorem rankB_eq (m : Nat) (W : List Nat) (b : Bool) (hm : m ≤ 5000) (hl : W.length ≤ 1048576) (hx : ∀ x ∈ W, x < 2 ^ 64) (hv : vOk m W = true) : Qx ((m : Int), ints W) (bint b) m = some ((bef (bts m W) m b : Nat) : Int) := by
 rw [Qx.eq]
 try simp only
 have ht := (Q2G m W hx).1 (by simp only [vOk, Z4] at hv; simpa using hv.2)
 have hb := Q2d m W
 rw [Q3Y _ W hl hx, Z0, hv, Z8, Q9, bit_bint, Z0, Z8, Q9, Q3 (by omega), Q3 (by omega), Qx_l0.eq,
  Q3v m W hm (by have := ht.1; unfold nw at this; omega) hx, Z0]
 have := rankB_l1 (bts m W) b (by omega) _ 0 rfl (by omega)
 rw [bef_zero, hb] at this
 exact this
end Go.Ev.W
/- Patches: both functions. -/
set_option linter.unusedVariables false
set_option linter.unusedSimpArgs false
namespace Go.Ev.W
open Go.Ev
theorem bint_one (b : Bool) : (bint b == (1 : Int)) = b := by cases b <;> rfl
theorem bint_not (b : Bool) : IntKind.i64.wrap ((1 : Int) - bint b) = bint (!b) := by cases b <;> rfl
theorem flip_l0 (bs : List Bool) (hn : bs.length ≤ 5000) (a : Int) (b : List Int) : ∀ (d i : Nat), bs.length - i = d → i ≤ bs.length → Q0B_l0 bs.length i a b (Qe ((bs.take i).map not ++ bs.drop i)) = some ((bs.length : Int), ints (wrds (bs.map not)))
 | 0, i, h1, h2 => by
  obtain rfl : i = bs.length := by omega
  rw [Q0B_l0.eq, Q3 (by omega), Z23, Z75, Z31, Q3M _ (by rw [Z1]; omega), Z0, Z1]
 | d + 1, i, h1, h2 => by
  have hi : i < bs.length := by omega
  have hl : ((bs.take i).map not).length = i := by rw [Z1, Z9]; omega
  have hg : (Qe ((bs.take i).map not ++ bs.drop i))[i]? = some (bint bs[i]) := by
   rw [Z12, Z77 (by omega), hl, Nat.sub_self, Z64, Z32, Z3 hi]; rfl
  have hs : (Qe ((bs.take i).map not ++ bs.drop i)).set i (bint (!bs[i])) = Qe ((bs.take (i + 1)).map not ++ bs.drop (i + 1)) := by
   have e : ((bs.take i).map not ++ bs.drop i).set i (!bs[i]) = (bs.take (i + 1)).map not ++ bs.drop (i + 1) := by
    rw [List.set_append_right _ _ (by omega), hl, Nat.sub_self, Z29 hi, List.set_cons_zero, Z50, Z3 hi, Z15, Z30]; rfl
   rw [← e]
   exact (List.map_set (f := bint)).symm
  rw [Q0B_l0.eq, Q2 (by omega)]
  simp only [Q04, Z5, hg, Z0]
  rw [bint_not, hs, Q6 i (by omega)]
  exact flip_l0 bs hn a b d (i + 1) (by omega) (by omega)
theorem flip_eq (m : Nat) (W : List Nat) (hm : m ≤ 5000) (hl : W.length ≤ 1048576) (hx : ∀ x ∈ W, x < 2 ^ 64) (hv : vOk m W = true) : Q0B ((m : Int), ints W) = some ((m : Int), ints (wrds ((bts m W).map not))) := by
 have ht := (Q2G m W hx).1 (by simp only [vOk, Z4] at hv; simpa using hv.2)
 have hb := Q2d m W
 rw [Q0B.eq]
 try simp only
 rw [Q4g _ _ hl hx, hv, Z0, Z8, Q9, Q41 m W hm hx ht, Z0, Q2w]
 have := flip_l0 (bts m W) (by omega) 0 [] _ 0 rfl (by omega)
 rw [Z39, Z55, Z36, Z53] at this
 refine this.trans ?_
 rw [hb]
theorem unmarked_l0 (X : List Nat) (m : Nat) (W : List Nat) (hm : m ≤ 5000) (ht : tight m W) (hX : X.length ≤ m) : ∀ (d i : Nat), X.length - i = d → i ≤ X.length → QQ_l0 (ints X) X.length i m (ints W) (ints (at0 (X.take i) (bts m W))) = some (ints (at0 X (bts m W)))
 | 0, i, h1, h2 => by
  obtain rfl : i = X.length := by omega
  rw [QQ_l0.eq, Q3 (by omega), Z23]
 | d + 1, i, h1, h2 => by
  have hi : i < X.length := by omega
  have hb := Q2d m W
  have hbi : (bts m W)[i]'(by omega) = bit W i := by simp [bts]
  have hle := Q2P (X.take i) (bts m W)
  rw [Z9] at hle
  have ih := unmarked_l0 X m W hm ht hX d (i + 1) (by omega) (by omega)
  rw [at0_snoc X (bts m W) i hi (by omega), hbi] at ih
  rw [QQ_l0.eq, Q2 (by omega), Q0R _ _ hi, Z0, bitsAt_eq _ W ht.2.1 i (by omega) (by have := ht.1; unfold nw at this; omega), Z0, Q3b, Q6 i (by omega)]
  cases hb : bit W i with
  | true =>
   rw [hb, if_pos rfl, Z31] at ih
   rw [Z8, Q9]; exact ih
  | false =>
   rw [hb, if_neg (by simp), ← Q2H] at ih
   rw [Z49, Qp, Q2 (by simp only [Z2, Z6, Q8]; omega)]
   exact ih
theorem Q3S (X : List Nat) (m : Nat) (W : List Nat) (hm : m ≤ 5000) (ht : tight m W) (hX : X.length ≤ m) : QQ (ints X) ((m : Int), ints W) = some (ints (at0 X (bts m W))) := by
 rw [QQ.eq, Q8]
 have := unmarked_l0 X m W hm ht hX _ 0 rfl (by omega)
 rw [Z39] at this
 have e : at0 [] (bts m W) = [] := by cases bts m W <;> rfl
 rw [e] at this
 exact this
theorem zeros_l0 (X : List Nat) (bs : List Bool) (hX : X.length ≤ bs.length) (hb : bs.length ≤ 5000) : ∀ (d i : Nat), X.length - i = d → i ≤ X.length → Q0k_l0 (ints X) (Qe bs) i (ints (at0 (X.take i) bs)) = some (ints (at0 X bs))
 | 0, i, h1, h2 => by
  obtain rfl : i = X.length := by omega
  rw [Q0k_l0.eq, Q8, Q3 (by omega), Z23]
 | d + 1, i, h1, h2 => by
  have hi : i < X.length := by omega
  have hle := Q2P (X.take i) bs
  rw [Z9] at hle
  have ih := zeros_l0 X bs hX hb d (i + 1) (by omega) (by omega)
  rw [at0_snoc X bs i hi (by omega)] at ih
  rw [Q0k_l0.eq, Q8, Q2 (by omega), Q2M bs i (by omega), Z0, Q3b, Q6 i (by omega)]
  cases hb : bs[i] with
  | true =>
   rw [hb, if_pos rfl, Z31] at ih
   rw [Z8, Q9]; exact ih
  | false =>
   rw [hb, if_neg (by simp), ← Q2H] at ih
   rw [Z49, Qp, Q0R _ _ hi, Z0, Q2 (by simp only [Z2, Z6, Q8]; omega)]
   exact ih
theorem zeros_eq (X : List Nat) (bs : List Bool) (hX : X.length ≤ bs.length) (hb : bs.length ≤ 5000) : Q0k (ints X) (Qe bs) = some (ints (at0 X bs)) := by
 rw [Q0k.eq]
 have := zeros_l0 X bs hX hb _ 0 rfl (by omega)
 rw [Z39] at this
 have e : at0 [] bs = [] := by cases bs <;> rfl
 rw [e] at this
 exact this
section
variable (bs : List Bool) (T R : List Nat) (hz : zer bs bs.length = R.length) (ho : one bs bs.length = T.length)
include hz ho
theorem pat_step (i : Nat) (hi : i < bs.length) : (∃ y, (pat bs T R)[i]? = some y ∧ ints ((pat bs T R).take i) ++ [(y : Int)] = ints ((pat bs T R).take (i + 1)) ∧ (bs[i] = true → ∃ h : one bs i < T.length, y = T[one bs i] ∧ one bs (i + 1) = one bs i + 1 ∧ zer bs (i + 1) = zer bs i) ∧
  (bs[i] = false → ∃ h : zer bs i < R.length, y = R[zer bs i] ∧ one bs (i + 1) = one bs i ∧ zer bs (i + 1) = zer bs i + 1)) := by
 have hl := Q37 bs T R
 have hp := pat_snoc bs T R i hi hz ho
 have h1 := Q40 bs i hi
 have h2 := Q3k bs i hi
 have m1 := one_mono bs (i + 1) (bs.length - (i + 1)) (by omega)
 have m2 := zer_mono bs (i + 1) (bs.length - (i + 1)) (by omega)
 rw [show i + 1 + (bs.length - (i + 1)) = bs.length by omega] at m1 m2
 have hpi : i < (pat bs T R).length := by omega
 refine ⟨(pat bs T R)[i], Z3 hpi, by rw [Q2H, ← Q43 _ i hpi], fun hb => ?_, fun hb => ?_⟩
 ·rw [hb, if_pos rfl] at h1 h2 hp
  have hlt : one bs i < T.length := by omega
  rw [Z3 hpi, Z3 hlt] at hp
  injection hp with hp
  exact ⟨hlt, hp, h1, by omega⟩
 ·rw [hb] at h1 h2 hp
  simp only [Z78, if_false] at h1 h2 hp
  have hlt : zer bs i < R.length := by omega
  rw [Z3 hpi, Z3 hlt] at hp
  injection hp with hp
  exact ⟨hlt, hp, by omega, h2⟩
variable (hn : bs.length ≤ 5000)
include hn
theorem implPatch_l3 : ∀ (d i : Nat), bs.length - i = d → i ≤ bs.length → Qs_l3 (one bs i) (T.length - one bs i) (ints (R.drop (zer bs i))) bs.length i (ints T) (ints ((pat bs T R).take i)) (Qe bs) = some (ints (pat bs T R), true)
 | 0, i, h1, h2 => by
  obtain rfl : i = bs.length := by omega
  rw [Qs_l3.eq, Q3 (by omega), Z33 (by rw [Q37]; omega)]
 | d + 1, i, h1, h2 => by
  have hi : i < bs.length := by omega
  obtain ⟨y, _, p2, p3, p4⟩ := pat_step bs T R hz ho i hi
  have ih := implPatch_l3 d (i + 1) (by omega) (by omega)
  rw [Qs_l3.eq, Q2 (by omega)]
  simp only [Q2M bs i hi, Q35 bs i hi, Z5, Z0, bint_one]
  have hol : (ints ((pat bs T R).take i)).length ≤ 5000 := by rw [Q8, Z9, Q37]; omega
  cases hb : bs[i] with
  | true =>
   obtain ⟨q1, q2, q3, q4⟩ := p3 hb
   rw [q3, q4] at ih
   rw [Qp, Q2 (by omega), Q2B _ _ q1, Z0, Q2 (by simp only [Z2, Z6]; omega), Q2 (by omega), Q6 i (by omega), ← q2, p2, show T.length - one bs i - 1 = T.length - (one bs i + 1) by omega]
   exact ih
  | false =>
   obtain ⟨q1, q2, q3, q4⟩ := p4 hb
   rw [q3, q4] at ih
   have hd : R.drop (zer bs i) = R[zer bs i] :: R.drop (zer bs i + 1) := Z29 q1
   have hdl : (R.drop (zer bs i)).length = R.length - zer bs i := Z19 ..
   have ht : ((ints (R.drop (zer bs i))).take (ints (R.drop (zer bs i))).length).drop 1 = ints (R.drop (zer bs i + 1)) := by
    rw [Z23, hd]; rfl
   have ha : at? (ints (R.drop (zer bs i))) 0 = some ((R[zer bs i] : Nat) : Int) := by rw [at?_zero, hd]; rfl
   rw [Q9, ha, Z0, Q2 (by simp only [Z2, Z6]; omega), Q2 (by rw [Q8]; omega), Q6 i (by omega), ht, ← q2, p2]
   exact ih
theorem implPatch_l2 : ∀ (d i : Nat), bs.length - i = d → i ≤ bs.length → one bs i = 0 → Qs_l2 (ints (R.drop (zer bs i))) bs.length i (ints T) (ints ((pat bs T R).take i)) (Qe bs) = some (ints (pat bs T R), true)
 | 0, i, h1, h2, h0 => by
  obtain rfl : i = bs.length := by omega
  rw [Qs_l2.eq, Q3 (by omega), Z33 (by rw [Q37]; omega)]
 | d + 1, i, h1, h2, h0 => by
  have hi : i < bs.length := by omega
  obtain ⟨y, _, p2, p3, p4⟩ := pat_step bs T R hz ho i hi
  rw [Qs_l2.eq, Q2 (by omega)]
  simp only [Q2M bs i hi, Q35 bs i hi, Z5, Z0, bint_one]
  have hol : (ints ((pat bs T R).take i)).length ≤ 5000 := by rw [Q8, Z9, Q37]; omega
  cases hb : bs[i] with
  | true =>
   obtain ⟨q1, q2, q3, q4⟩ := p3 hb
   have ih := implPatch_l3 bs T R hz ho hn d (i + 1) (by omega) (by omega)
   rw [q3, q4, h0] at ih
   simp only [h0] at q1 q2
   rw [Qp, at?_zero, Q2B _ 0 q1, Z0, Z0, Q2 (by simp only [Z2, Z6]; omega), Q2 (by rw [Q8]; omega), Q6 i (by omega), ← q2, p2, Q8]
   exact ih
  | false =>
   obtain ⟨q1, q2, q3, q4⟩ := p4 hb
   have ih := implPatch_l2 d (i + 1) (by omega) (by omega) (by omega)
   rw [q4] at ih
   have hd : R.drop (zer bs i) = R[zer bs i] :: R.drop (zer bs i + 1) := Z29 q1
   have hdl : (R.drop (zer bs i)).length = R.length - zer bs i := Z19 ..
   have ht : ((ints (R.drop (zer bs i))).take (ints (R.drop (zer bs i))).length).drop 1 = ints (R.drop (zer bs i + 1)) := by
    rw [Z23, hd]; rfl
   have ha : at? (ints (R.drop (zer bs i))) 0 = some ((R[zer bs i] : Nat) : Int) := by rw [at?_zero, hd]; rfl
   rw [Q9, ha, Z0, Q2 (by simp only [Z2, Z6]; omega), Q2 (by rw [Q8]; omega), Q6 i (by omega), ht, ← q2, p2]
   exact ih
theorem specPatch_l3 (a : Int) (b : List Int) (c : Int) (e : List Int) : ∀ (d i : Nat), bs.length - i = d → i ≤ bs.length → Qr_l3 (one bs i : Nat) i a b c e (ints R) (Qe bs) (ints T) (ints ((pat bs T R).take i)) = some (ints (pat bs T R), true)
 | 0, i, h1, h2 => by
  obtain rfl : i = bs.length := by omega
  rw [Qr_l3.eq, Q2w, Q3 (by omega), Z33 (by rw [Q37]; omega)]
 | d + 1, i, h1, h2 => by
  have hi : i < bs.length := by omega
  obtain ⟨y, _, p2, p3, p4⟩ := pat_step bs T R hz ho i hi
  have ih := specPatch_l3 a b c e d (i + 1) (by omega) (by omega)
  have hzo := Q2Z bs i (by omega)
  rw [Qr_l3.eq, Q2w, Q2 (by omega)]
  simp only [Q2M bs i hi, Q35 bs i hi, Z5, Z0, bint_one]
  have hol : (ints ((pat bs T R).take i)).length ≤ 5000 := by rw [Q8, Z9, Q37]; omega
  cases hb : bs[i] with
  | true =>
   obtain ⟨q1, q2, q3, q4⟩ := p3 hb
   rw [q3] at ih
   rw [Qp, Q0R _ _ q1, Z0, Q2B _ _ q1, Z0, Q2 (by simp only [Z2, Z6]; omega), Q6 i (by omega), Q6 (one bs i) (by omega), ← q2, p2]
   exact ih
  | false =>
   obtain ⟨q1, q2, q3, q4⟩ := p4 hb
   rw [q3] at ih
   rw [Q9, Qa (x := (i : Int) - ((one bs i : Nat) : Int)) (by omega) (by omega), show (i : Int) - ((one bs i : Nat) : Int) = ((zer bs i : Nat) : Int) by omega, Q0R _ _ q1, Z0, Q2 (by simp only [Z2, Z6]; omega), Q6 i (by omega), ← q2, p2]
   exact ih
end
theorem specPatch_l1 (A : List Nat) (bs : List Bool) (hA : A.length = bs.length) (hn : bs.length ≤ 5000) (a : Int) (b : List Int) (c : Int) (e : List Int) (r : List Int) (y : List Int) : ∀ (d i : Nat), bs.length - i = d → i ≤ bs.length →
  Qr_l1 (ints A) i a b c e r (Qe bs) y (ints (at1 (A.take i) bs)) = (Qx (c, e) (1 : Int) c).bind fun y4 => bif y4 != ((ints (at1 A bs)).length : Int) then some (([] : List Int), false) else
    (Qx (c, e) (0 : Int) c).bind fun y5 => bif y5 != (r.length : Int) then some (([] : List Int), false) else Qr_l2 a b c e r y (ints (at1 A bs))
 | 0, i, h1, h2 => by
  obtain rfl : i = bs.length := by omega
  rw [Qr_l1.eq, Q2w, Q3 (by omega), Z33 (by omega)]
 | d + 1, i, h1, h2 => by
  have hi : i < bs.length := by omega
  have hle : (at1 (A.take i) bs).length ≤ (A.take i).length := by
   have : ∀ (X : List Nat) (bs : List Bool), (at1 X bs).length ≤ X.length := by
    intro X
    induction X with
    | nil => intro bs; cases bs <;> simp [at1]
    | cons x X ih =>
     intro bs
     cases bs with
     | nil => simp [at1]
     | cons b bs =>
      have := ih bs
      rw [at1, Z11, Z2]
      cases b <;> simp <;> omega
   exact this _ _
  rw [Z9] at hle
  have ih := specPatch_l1 A bs hA hn a b c e r y d (i + 1) (by omega) (by omega)
  rw [at1_snoc A bs i (by omega) hi] at ih
  rw [← ih, Qr_l1.eq, Q2w, Q2 (by omega)]
  simp only [Q2M bs i hi, Q35 bs i hi, Z5, Z0, bint_one]
  cases hb : bs[i] with
  | true =>
   rw [Qp, Q0R _ i (by omega), Z0, Q2 (by simp only [Z2, Z6, Q8]; omega), Q6 i (by omega), if_pos rfl, Q2H]
  | false =>
   rw [Q9, Q6 i (by omega), if_neg (by simp), Z31]
def pOkB (A : List Nat) (n1 : Int) (W1 : List Nat) (n2 : Int) (W2 : List Nat) (R : List Nat) : Bool :=
 vOk n1 W1 && (vOk n2 W2 && (decide (n1 = A.length) && (decide (n2 ≤ 301) && (decide (one (bts n1.toNat W1) n1.toNat = one (bts n2.toNat W2) n2.toNat) && decide (zer (bts n2.toNat W2) n2.toNat = R.length)))))
def pVal (A : List Nat) (n1 : Int) (W1 : List Nat) (n2 : Int) (W2 : List Nat) (R : List Nat) : List Nat := pat (bts n2.toNat W2) (at1 A (bts n1.toNat W1)) R
section
variable (A : List Nat) (hA : A.length ≤ 301) (n1 : Int) (W1 : List Nat) (n2 : Int) (W2 : List Nat) (R : List Nat) (l1 : W1.length ≤ 1048576) (x1 : ∀ x ∈ W1, x < 2 ^ 64) (l2 : W2.length ≤ 1048576) (x2 : ∀ x ∈ W2, x < 2 ^ 64)
include hA l1 x1 l2 x2
theorem specPatch_eq : Qr (ints A) (n1, ints W1, n2, ints W2, ints R) = some (bif pOkB A n1 W1 n2 W2 R then (ints (pVal A n1 W1 n2 W2 R), true) else ([], false)) := by
 rw [Qr.eq, Q0J.eq, Q8, decide_eq_true (by omega), Z0, Z8, Q9]
 try simp only
 rw [Q3Y _ _ l1 x1, Z0, Q3Y _ _ l2 x2]
 unfold pOkB
 cases hv1 : vOk n1 W1 with
 | false => rfl
 | true =>
  rw [Z8, Q9, Z0, Z20]
  cases hv2 : vOk n2 W2 with
  | false => rfl
  | true =>
   rw [Z8, Q9, Z20]
   by_cases h1 : n1 = (A.length : Int)
   ·rw [Q2a h1, decide_eq_true h1, Z20]
    by_cases h2 : n2 ≤ 301
    ·rw [Q3 (by omega), decide_eq_true h2, Z20, Qr_l0.eq]
     have b1 := hv1; have b2 := hv2
     simp only [vOk, Z4, decide_eq_true_eq] at b1 b2
     obtain ⟨m1, rfl⟩ : ∃ m : Nat, n1 = m := ⟨n1.toNat, by omega⟩
     obtain ⟨m2, rfl⟩ : ∃ m : Nat, n2 = m := ⟨n2.toNat, by omega⟩
     simp only [Z5] at b1 b2 ⊢
     have t1 := (Q2G m1 W1 x1).1 b1.2
     have t2 := (Q2G m2 W2 x2).1 b2.2
     have e1 := Q2d m1 W1
     have e2 := Q2d m2 W2
     have hA1 : A.length = (bts m1 W1).length := by omega
     rw [Q3v m1 W1 (by omega) (by have := t1.1; unfold nw at this; omega) x1, Z0, Q3v m2 W2 (by omega) (by have := t2.1; unfold nw at this; omega) x2, Z0]
     have h3 := specPatch_l1 A (bts m1 W1) hA1 (by omega) m1 (ints W1) m2 (ints W2) (ints R) (Qe (bts m2 W2)) _ 0 rfl (by omega)
     rw [Z39] at h3
     have e0 : at1 [] (bts m1 W1) = [] := by cases bts m1 W1 <;> rfl
     rw [e0] at h3
     refine h3.trans ?_
     have r1 := rankB_eq m2 W2 true (by omega) l2 x2 hv2
     have r0 := rankB_eq m2 W2 false (by omega) l2 x2 hv2
     rw [Q42] at r1
     rw [bef_false] at r0
     rw [show bint true = 1 from rfl] at r1
     rw [show bint false = 0 from rfl] at r0
     have hal := at1_len A (bts m1 W1) hA1
     rw [e1] at hal
     rw [r1, Z0, Q8, hal]
     by_cases h4 : one (bts m1 W1) m1 = one (bts m2 W2) m2
     ·rw [Q2a (by omega), decide_eq_true h4, Z20, r0, Z0, Q8]
      by_cases h5 : zer (bts m2 W2) m2 = R.length
      ·rw [Q2a (by omega), decide_eq_true h5, Qp, Qr_l2.eq]
       have h6 := specPatch_l3 (bts m2 W2) (at1 A (bts m1 W1)) R (by rw [e2]; exact h5) (by rw [e2]; omega) (by omega) m1 (ints W1) m2 (ints W2) _ 0 rfl (by omega)
       rw [one_zero, Z39] at h6
       refine h6.trans ?_
       unfold pVal
       simp only [Z5]
      ·rw [Q2h (by omega), decide_eq_false h5]; rfl
     ·rw [Q2h (by omega), decide_eq_false h4]; rfl
    ·rw [Q2 (by omega), decide_eq_false h2]; rfl
   ·rw [Q2h h1, decide_eq_false h1]; rfl
theorem Q5t : Qs (ints A) (n1, ints W1, n2, ints W2, ints R) = some (bif pOkB A n1 W1 n2 W2 R then (ints (pVal A n1 W1 n2 W2 R), true) else ([], false)) := by
 rw [Qs.eq, Q8, Q3 (by omega)]
 try simp only
 rw [Q4g _ _ l1 x1, Z0, Q4g _ _ l2 x2]
 unfold pOkB
 cases hv1 : vOk n1 W1 with
 | false => rfl
 | true =>
  rw [Z8, Q9, Z0, Z20]
  cases hv2 : vOk n2 W2 with
  | false => rfl
  | true =>
   rw [Z8, Q9, Z20]
   by_cases h1 : n1 = (A.length : Int)
   ·rw [Q2a h1, decide_eq_true h1, Z20]
    by_cases h2 : n2 ≤ 301
    ·rw [Q3 (by omega), decide_eq_true h2, Z20, Qs_l0.eq]
     have b1 := hv1; have b2 := hv2
     simp only [vOk, Z4, decide_eq_true_eq] at b1 b2
     obtain ⟨m1, rfl⟩ : ∃ m : Nat, n1 = m := ⟨n1.toNat, by omega⟩
     obtain ⟨m2, rfl⟩ : ∃ m : Nat, n2 = m := ⟨n2.toNat, by omega⟩
     simp only [Z5] at b1 b2 ⊢
     have t1 := (Q2G m1 W1 x1).1 b1.2
     have t2 := (Q2G m2 W2 x2).1 b2.2
     have e1 := Q2d m1 W1
     have e2 := Q2d m2 W2
     have hA1 : A.length = (bts m1 W1).length := by omega
     have c1 := countB_eq (bts m1 W1) true (by omega)
     have c2 := countB_eq (bts m2 W2) true (by omega)
     rw [Q42, e1, show bint true = 1 from rfl] at c1
     rw [Q42, e2, show bint true = 1 from rfl] at c2
     have hal := at1_len A (bts m1 W1) hA1
     rw [e1] at hal
     have hzo := Q2Z (bts m2 W2) m2 (by omega)
     rw [Q41 m2 W2 (by omega) x2 t2, Z0, c2, Z0, Q41 m1 W1 (by omega) x1 t1, Z0, c1, Z0]
     by_cases h4 : one (bts m1 W1) m1 = one (bts m2 W2) m2
     ·rw [Q2a (by omega), decide_eq_true h4, Z20, Qa (by omega) (by omega), Q8]
      by_cases h5 : zer (bts m2 W2) m2 = R.length
      ·have ht' := Q2q ((bts m1 W1).map not)
       rw [Z1, e1] at ht'
       have hbt : bts m1 (wrds ((bts m1 W1).map not)) = (bts m1 W1).map not := by
        have := Q33 ((bts m1 W1).map not)
        rw [Z1, e1] at this
        exact this
       rw [Q2a (by omega), decide_eq_true h5, Qp, Qs_l1.eq, flip_eq m1 W1 (by omega) l1 x1 hv1, Z0]
       try simp only
       rw [Q3S A m1 _ (by omega) ht' (by omega), hbt, at0_not, Z0, Q41 m2 W2 (by omega) x2 t2, Z0, Q2w]
       have h6 := implPatch_l2 (bts m2 W2) (at1 A (bts m1 W1)) R (by rw [e2]; exact h5) (by rw [e2]; omega) (by omega) _ 0 rfl (by omega) (one_zero _)
       rw [Q3K, Z39, Z53] at h6
       refine h6.trans ?_
       unfold pVal
       simp only [Z5]
      ·rw [Q2h (by omega), decide_eq_false h5]; rfl
     ·rw [Q2h (by omega), decide_eq_false h4]; rfl
    ·rw [Q2 (by omega), decide_eq_false h2]; rfl
   ·rw [Q2h h1, decide_eq_false h1]; rfl
end
end Go.Ev.W
/- Flags of pairs: marks, patches. -/
set_option linter.unusedVariables false
set_option linter.unusedSimpArgs false
namespace Go.Ev.W
open Go.Ev
def fl (n : Nat) (I : List Nat) : List Bool := (List.range n).map fun i => decide (i ∈ I)
theorem Q24 (n : Nat) (I : List Nat) : (fl n I).length = n := by simp [fl]
theorem fl_get (n : Nat) (I : List Nat) (i : Nat) (h : i < n) : (fl n I)[i]'(by rw [Q24]; exact h) = decide (i ∈ I) := by simp [fl]
theorem fl_nil (n : Nat) : fl n [] = List.replicate n false := by
 unfold fl
 refine Z76 (by simp) fun i h1 h2 => by simp
theorem fl_set (n : Nat) (I : List Nat) (a : Nat) (ha : a < n) : (fl n I).set a true = fl n (I ++ [a]) := by
 refine Z76 (by rw [Z93, Q24, Q24]) fun i h1 h2 => ?_
 rw [Z93, Q24] at h1
 rw [List.getElem_set, fl_get n _ i h1, fl_get n _ i h1]
 by_cases h : a = i
 ·subst h; simp
 ·rw [if_neg h]
  refine decide_eq_decide.2 ?_
  rw [Z28, Z40]
  exact ⟨.inl, fun h' => h'.elim id fun h' => absurd h'.symm h⟩
theorem bints_set (bs : List Bool) (a : Nat) : (Qe bs).set a (1 : Int) = Qe (bs.set a true) := (List.map_set (f := bint) (a := true)).symm
theorem bints_rep (n : Nat) : List.replicate n (0 : Int) = Qe (fl n []) := by rw [fl_nil, Qe, List.map_replicate]; rfl
theorem at1_filter (X : List Nat) (bs : List Bool) (h : X.length = bs.length) : ∀ i, i ≤ X.length → at1 (X.take i) bs = ((List.range i).filter fun k => bs.getD k false).map fun k => X.getD k 0
 | 0, _ => by cases bs <;> simp [at1]
 | i + 1, hi => by
  rw [at1_snoc X bs i (by omega) (by omega), at1_filter X bs h i (by omega), Z83, Z63, Z15]
  congr 1
  rw [Z34, Z10, Z3 (show i < bs.length by omega), Z42]
  cases bs[i]
  ·rfl
  ·show [X[i]] = [X.getD i 0]
   rw [Z10, Z3 (show i < X.length by omega)]; rfl
theorem nat_unique : ∀ {S T : List Nat}, S.Pairwise (· < ·) → T.Pairwise (· < ·) → (∀ x, x ∈ S ↔ x ∈ T) → S = T
 | [], [], _, _, _ => rfl
 | [], b :: T, _, _, h => by have := (h b).2 Z43; cases this
 | a :: S, [], _, _, h => by have := (h a).1 Z43; cases this
 | a :: S, b :: T, h1, h2, h => by
  obtain ⟨p1, q1⟩ := Z82.1 h1
  obtain ⟨p2, q2⟩ := Z82.1 h2
  have hab : a = b := by
   rcases Z13.1 ((h a).1 Z43) with h3 | h3
   ·exact h3
   ·rcases Z13.1 ((h b).2 Z43) with h4 | h4
    ·exact h4.symm
    ·have := p1 b h4; have := p2 a h3; omega
  subst hab
  rw [nat_unique q1 q2 fun x => ⟨fun hx => ?_, fun hx => ?_⟩]
  ·rcases Z13.1 ((h x).1 (Z60 _ hx)) with h3 | h3
   ·subst h3; exact absurd (p1 x hx) (Nat.lt_irrefl x)
   ·exact h3
  ·rcases Z13.1 ((h x).2 (Z60 _ hx)) with h3 | h3
   ·subst h3; exact absurd (p2 x hx) (Nat.lt_irrefl x)
   ·exact h3
theorem fl_filter (n : Nat) (I : List Nat) (hu : I.Pairwise (· < ·)) (hn : ∀ i ∈ I, i < n) : ((List.range n).filter fun k => (fl n I).getD k false) = I := by
 refine nat_unique (List.pairwise_lt_range.filter _) hu fun x => ?_
 rw [Z74, Z51]
 constructor
 ·rintro ⟨h1, h2⟩
  rw [Z10, Z3 (by rw [Q24]; exact h1), Z42, fl_get n I x h1] at h2
  simpa using h2
 ·intro h
  refine ⟨hn x h, ?_⟩
  rw [Z10, Z3 (by rw [Q24]; exact hn x h), Z42, fl_get n I x (hn x h)]
  simpa using h
theorem at1_fl (X : List Nat) (n : Nat) (hX : X.length = n) (I : List Nat) (hu : I.Pairwise (· < ·)) (hn : ∀ i ∈ I, i < n) : at1 X (fl n I) = I.map fun k => X.getD k 0 := by
 have h := at1_filter X (fl n I) (by rw [Q24]; exact hX) X.length (Z7 _)
 rw [Z23] at h
 rw [h, hX, fl_filter n I hu hn]
theorem fl_one (n : Nat) (I : List Nat) (hu : I.Pairwise (· < ·)) (hn : ∀ i ∈ I, i < n) : one (fl n I) n = I.length := by
 have h1 := at1_len (List.replicate n 0) (fl n I) (by rw [Z86, Q24])
 rw [Q24, at1_fl _ n (by rw [Z86]) I hu hn, Z1] at h1
 exact h1.symm
theorem pat_back : ∀ (X : List Nat) (bs : List Bool), X.length = bs.length → pat bs (at1 X bs) (at0 X bs) = X
 | [], [], _ => rfl
 | [], _ :: _, h => by cases h
 | _ :: _, [], h => by cases h
 | x :: X, b :: bs, h => by
  have ih := pat_back X bs (by simpa using h)
  cases b with
  | true =>
   rw [at1, at0, if_pos rfl, if_pos rfl, Z36, Z109, pat, List.headD_cons, List.tail_cons, ih]
  | false =>
   rw [at1, at0, if_neg (by simp), if_neg (by simp), Z36, Z109, pat, List.headD_cons, List.tail_cons, ih]
theorem at0_len' : ∀ (X : List Nat) (bs : List Bool), X.length = bs.length → (at0 X bs).length = zer bs bs.length
 | [], [], _ => by simp [at0, zer]
 | [], _ :: _, h => by cases h
 | _ :: _, [], h => by cases h
 | y :: X, b :: bs, h => by
  have := at0_len' X bs (by simpa using h)
  rw [zer_cons, at0, Z11, this]
  cases b <;> simp
theorem marks_l0 (P : List (Nat × Nat)) (m n : Nat) (hm : m ≤ 5000) (hn : n ≤ 5000) (hl : P.length ≤ 100000) (hP : ∀ q ∈ P, q.1 < m ∧ q.2 < n) (k e : Int) (x y : List Int) : ∀ (s i : Nat), P.length - i = s → i ≤ P.length →
  Q0u_l0 (P.map ipr) P.length i k x e y (Qe (fl m ((P.take i).map Prod.fst))) (Qe (fl n ((P.take i).map Prod.snd))) = some (((m : Int), ints (wrds (fl m (P.map Prod.fst)))), ((n : Int), ints (wrds (fl n (P.map Prod.snd))))) := by
 intro s
 induction s with
 | zero =>
  intro i h1 h2
  obtain rfl : i = P.length := by omega
  rw [Q0u_l0.eq, Q3 (by omega), Z23, Q3M _ (by rw [Q24]; exact hm), Z0, Q3M _ (by rw [Q24]; exact hn), Z0, Q24, Q24]
 | succ s ih =>
  intro i h1 h2
  have hi : i < P.length := by omega
  have ⟨b1, b2⟩ := hP _ (Z14 hi)
  have eg : (P.map ipr)[i]? = some (ipr P[i]) := by rw [Z12, Z3 hi]; rfl
  have g1 : (Qe (fl m ((P.take i).map Prod.fst)))[P[i].1]? = some (bint (decide (P[i].1 ∈ (P.take i).map Prod.fst))) := by
   rw [Z12, Z3 (by rw [Q24]; exact b1), Z47, fl_get _ _ _ b1]
  have g2 : (Qe (fl n ((P.take i).map Prod.snd)))[P[i].2]? = some (bint (decide (P[i].2 ∈ (P.take i).map Prod.snd))) := by
   rw [Z12, Z3 (by rw [Q24]; exact b2), Z47, fl_get _ _ _ b2]
  have ih := ih (i + 1) (by omega) (by omega)
  rw [Q2Y _ _ hi, Z15, Z15, Z17, Z55, Z17, Z55, ← fl_set m _ _ b1, ← fl_set n _ _ b2, ← bints_set, ← bints_set] at ih
  rw [Q0u_l0.eq, Q2 (by omega), Q04, eg, Z0]
  show (at? _ ((P[i].1 : Nat) : Int)).bind _ = _
  rw [Q04, g1, Z0]
  show ((Qe (fl m ((P.take i).map Prod.fst)))[P[i].1]?).bind _ = _
  rw [g1, Z0]
  show (at? _ ((P[i].2 : Nat) : Int)).bind _ = _
  rw [Q04, g2, Z0]
  show ((Qe (fl n ((P.take i).map Prod.snd)))[P[i].2]?).bind _ = _
  rw [g2, Z0, Q6 i (by omega)]
  exact ih
theorem marks_eq (P : List (Nat × Nat)) (m n : Nat) (hm : m ≤ 5000) (hn : n ≤ 5000) (hl : P.length ≤ 100000) (hP : ∀ q ∈ P, q.1 < m ∧ q.2 < n) :
  Q0u m n (P.map ipr) = some (((m : Int), ints (wrds (fl m (P.map Prod.fst)))), ((n : Int), ints (wrds (fl n (P.map Prod.snd))))) := by
 have h := marks_l0 P m n hm hn hl hP 0 0 [] [] _ 0 rfl (Z21 _)
 rw [Z39, Z55, Z55] at h
 rw [Q0u.eq, decide_eq_true (by omega), decide_eq_true (by omega), Z20, Qp, decide_eq_true (by omega), decide_eq_true (by omega), Z20, Qp, Z1, Z5, Z5, bints_rep, bints_rep]
 exact h
theorem patchS_l1 (X : List Nat) (bs : List Bool) (hX : X.length = bs.length) (hb : bs.length ≤ 5000) (k e a b : Int) (x y z u v : List Int) : ∀ (s i : Nat), X.length - i = s → i ≤ X.length →
  QV_l1 (ints X) i k e x y z (Qe bs) a b u v (ints (at0 (X.take i) bs)) = some (a, u, b, v, ints (at0 X bs)) := by
 intro s
 induction s with
 | zero =>
  intro i h1 h2
  obtain rfl : i = X.length := by omega
  rw [QV_l1.eq, Q8, Q3 (by omega), Z23]
 | succ s ih =>
  intro i h1 h2
  have hi : i < X.length := by omega
  have hle := Q2P (X.take i) bs
  rw [Z9] at hle
  have ih := ih (i + 1) (by omega) (by omega)
  rw [at0_snoc X bs i hi (by omega)] at ih
  rw [QV_l1.eq, Q8, Q2 (by omega), Q2M bs i (by omega), Z0, Z5, Q35 bs i (by omega), Z0, Q3b, Q6 i (by omega)]
  cases hb : bs[i] with
  | true =>
   rw [hb, if_pos rfl, Z31] at ih
   rw [Z8, Q9]; exact ih
  | false =>
   rw [hb, if_neg (by simp), ← Q2H] at ih
   rw [Z49, Qp, Q0R _ _ hi, Z0, Q2 (by simp only [Z2, Z6, Q8]; omega)]
   exact ih
theorem patchS_l0 (X : List Nat) (P : List (Nat × Nat)) (m : Nat) (hm : m ≤ 5000) (hn : X.length ≤ 5000) (hl : P.length ≤ 100000) (hP : ∀ q ∈ P, q.1 < m ∧ q.2 < X.length) (k e : Int) (x y z : List Int) : ∀ (s i : Nat), P.length - i = s → i ≤ P.length →
  QV_l0 (ints X) (P.map ipr) i k e x y z (Qe (fl m ((P.take i).map Prod.fst))) (Qe (fl X.length ((P.take i).map Prod.snd))) = some ((m : Int), ints (wrds (fl m (P.map Prod.fst))), (X.length : Int), ints (wrds (fl X.length (P.map Prod.snd))), ints (at0 X (fl X.length (P.map Prod.snd)))) := by
 intro s
 induction s with
 | zero =>
  intro i h1 h2
  obtain rfl : i = P.length := by omega
  have h := patchS_l1 X (fl X.length (P.map Prod.snd)) (by rw [Q24]) (by rw [Q24]; exact hn) k e m X.length x y z (ints (wrds (fl m (P.map Prod.fst)))) (ints (wrds (fl X.length (P.map Prod.snd)))) _ 0 rfl (Z21 _)
  rw [Z39] at h
  have e0 : at0 [] (fl X.length (P.map Prod.snd)) = [] := by cases fl X.length (P.map Prod.snd) <;> rfl
  rw [e0] at h
  rw [QV_l0.eq, Z1, Q3 (by omega), Z23, Q3J _ (by rw [Q24]; exact hm), Z0, Q3J _ (by rw [Q24]; exact hn), Z0, Q24, Q24]
  exact h
 | succ s ih =>
  intro i h1 h2
  have hi : i < P.length := by omega
  have ⟨b1, b2⟩ := hP _ (Z14 hi)
  have eg : (P.map ipr)[i]? = some (ipr P[i]) := by rw [Z12, Z3 hi]; rfl
  have g1 : (Qe (fl m ((P.take i).map Prod.fst)))[P[i].1]? = some (bint (decide (P[i].1 ∈ (P.take i).map Prod.fst))) := by
   rw [Z12, Z3 (by rw [Q24]; exact b1), Z47, fl_get _ _ _ b1]
  have g2 : (Qe (fl X.length ((P.take i).map Prod.snd)))[P[i].2]? = some (bint (decide (P[i].2 ∈ (P.take i).map Prod.snd))) := by
   rw [Z12, Z3 (by rw [Q24]; exact b2), Z47, fl_get _ _ _ b2]
  have ih := ih (i + 1) (by omega) (by omega)
  rw [Q2Y _ _ hi, Z15, Z15, Z17, Z55, Z17, Z55, ← fl_set m _ _ b1, ← fl_set X.length _ _ b2, ← bints_set, ← bints_set] at ih
  rw [QV_l0.eq, Z1, Q2 (by omega), Q04, eg, Z0]
  show (at? _ ((P[i].1 : Nat) : Int)).bind _ = _
  rw [Q04, g1, Z0]
  show ((Qe (fl m ((P.take i).map Prod.fst)))[P[i].1]?).bind _ = _
  rw [g1, Z0, Z0]
  show (at? _ ((P[i].2 : Nat) : Int)).bind _ = _
  rw [Q04, g2, Z0]
  show ((Qe (fl X.length ((P.take i).map Prod.snd)))[P[i].2]?).bind _ = _
  rw [g2, Z0, Q6 i (by omega)]
  exact ih
theorem patchS_eq (X : List Nat) (P : List (Nat × Nat)) (m : Nat) (hm : m ≤ 5000) (hn : X.length ≤ 5000) (hl : P.length ≤ 100000) (hP : ∀ q ∈ P, q.1 < m ∧ q.2 < X.length) :
  QV m (ints X) (P.map ipr) = some ((m : Int), ints (wrds (fl m (P.map Prod.fst))), (X.length : Int), ints (wrds (fl X.length (P.map Prod.snd))), ints (at0 X (fl X.length (P.map Prod.snd)))) := by
 have h := patchS_l0 X P m hm hn hl hP 0 0 [] [] [] _ 0 rfl (Z21 _)
 rw [Z39, Z55, Z55] at h
 rw [QV.eq, decide_eq_true (by omega), decide_eq_true (by omega), Z20, Qp, decide_eq_true (by omega), decide_eq_true (by rw [Q8]; omega), Z20, Qp, Q8, Z5, Z5, bints_rep, bints_rep]
 exact h
end Go.Ev.W
/- Relative indexes: equality and the laws' helpers. -/
set_option linter.unusedVariables false
set_option linter.unusedSimpArgs false
namespace Go.Ev.W
open Go.Ev
abbrev RelT := Int × Int × Int × (List Int) × Int × (List Int) × Int × (List Int) × (List (Int × (List Int))) × Int × (List Int) × (List (Int × (List Int))) × FmT11
instance decRelA : DecidableEq (Int × (List Int) × (List (Int × (List Int))) × FmT11) := @instDecidableEqProd Int _ inferInstance decFm13
instance decRelB : DecidableEq (Int × (List Int) × (List (Int × (List Int))) × Int × (List Int) × (List (Int × (List Int))) × FmT11) := @instDecidableEqProd Int _ inferInstance (@instDecidableEqProd (List Int) _ inferInstance (@instDecidableEqProd (List (Int × (List Int))) _ inferInstance decRelA))
instance decRelC : DecidableEq (Int × (List Int) × Int × (List Int) × Int × (List Int) × (List (Int × (List Int))) × Int × (List Int) × (List (Int × (List Int))) × FmT11) := @instDecidableEqProd Int _ inferInstance (@instDecidableEqProd (List Int) _ inferInstance (@instDecidableEqProd Int _ inferInstance (@instDecidableEqProd (List Int) _ inferInstance decRelB)))
instance decRel : DecidableEq RelT := @instDecidableEqProd Int _ inferInstance (@instDecidableEqProd Int _ inferInstance decRelC)
theorem rel_dec (x y : RelT) : decide (x = y) = (decide (x.1 = y.1) && (decide (x.2.1 = y.2.1) && (decide ((x.2.2.1, x.2.2.2.1) = (y.2.2.1, y.2.2.2.1)) && (decide ((x.2.2.2.2.1, x.2.2.2.2.2.1) = (y.2.2.2.2.1, y.2.2.2.2.2.1)) && (decide ((x.2.2.2.2.2.2.1, x.2.2.2.2.2.2.2.1, x.2.2.2.2.2.2.2.2.1) = (y.2.2.2.2.2.2.1, y.2.2.2.2.2.2.2.1, y.2.2.2.2.2.2.2.2.1)) && (decide ((x.2.2.2.2.2.2.2.2.2.1, x.2.2.2.2.2.2.2.2.2.2.1, x.2.2.2.2.2.2.2.2.2.2.2.1) = (y.2.2.2.2.2.2.2.2.2.1, y.2.2.2.2.2.2.2.2.2.2.1, y.2.2.2.2.2.2.2.2.2.2.2.1)) && (decide (x.2.2.2.2.2.2.2.2.2.2.2.2.1 = y.2.2.2.2.2.2.2.2.2.2.2.2.1) && (decide ((x.2.2.2.2.2.2.2.2.2.2.2.2.2.1, x.2.2.2.2.2.2.2.2.2.2.2.2.2.2.1) = (y.2.2.2.2.2.2.2.2.2.2.2.2.2.1, y.2.2.2.2.2.2.2.2.2.2.2.2.2.2.1)) && (decide ((x.2.2.2.2.2.2.2.2.2.2.2.2.2.2.2.1, x.2.2.2.2.2.2.2.2.2.2.2.2.2.2.2.2.1, x.2.2.2.2.2.2.2.2.2.2.2.2.2.2.2.2.2.1, x.2.2.2.2.2.2.2.2.2.2.2.2.2.2.2.2.2.2.1) = (y.2.2.2.2.2.2.2.2.2.2.2.2.2.2.2.1, y.2.2.2.2.2.2.2.2.2.2.2.2.2.2.2.2.1, y.2.2.2.2.2.2.2.2.2.2.2.2.2.2.2.2.2.1, y.2.2.2.2.2.2.2.2.2.2.2.2.2.2.2.2.2.2.1)) && decide (x.2.2.2.2.2.2.2.2.2.2.2.2.2.2.2.2.2.2.2 = y.2.2.2.2.2.2.2.2.2.2.2.2.2.2.2.2.2.2.2)))))))))) := by
 obtain ⟨a1, a2, a3, a4, a5, a6, a7, a8, a9, a10, a11, a12, a13, a14, a15, a16, a17, a18, a19, a20⟩ := x
 obtain ⟨b1, b2, b3, b4, b5, b6, b7, b8, b9, b10, b11, b12, b13, b14, b15, b16, b17, b18, b19, b20⟩ := y
 simp only [Q3c, Bool.and_assoc]
structure SmRel (x : RelT) (k : Nat) : Prop where
 ref : x.2.2.2.1.length ≤ k
 inn : x.2.2.2.2.2.1.length ≤ k
 z1 : x.2.2.2.2.2.2.2.1.length ≤ k
 l1 : x.2.2.2.2.2.2.2.2.1.length ≤ k
 z2 : x.2.2.2.2.2.2.2.2.2.2.1.length ≤ k
 l2 : x.2.2.2.2.2.2.2.2.2.2.2.1.length ≤ k
 c : x.2.2.2.2.2.2.2.2.2.2.2.2.1.length ≤ k
 m : x.2.2.2.2.2.2.2.2.2.2.2.2.2.2.1.length ≤ k
 s : x.2.2.2.2.2.2.2.2.2.2.2.2.2.2.2.2.2.2.1.length ≤ k
 i : x.2.2.2.2.2.2.2.2.2.2.2.2.2.2.2.2.2.2.2.2.2.2.length ≤ k
 v1 : ∀ p ∈ x.2.2.2.2.2.2.2.2.1, p.2.length ≤ k
 v2 : ∀ p ∈ x.2.2.2.2.2.2.2.2.2.2.2.1, p.2.length ≤ k
structure GdRel (x : RelT) : Prop where
 sm : SmRel x 1048576
 wv1 : Small x.2.2.2.2.2.2.2.1 x.2.2.2.2.2.2.2.2.1
 wv2 : Small x.2.2.2.2.2.2.2.2.2.2.1 x.2.2.2.2.2.2.2.2.2.2.2.1
theorem samePacked_v (v w : Int × Int × Int × List Int) (h : v.2.2.2.length < 4611686018427387904) : Q0V v w = some (decide (v = w)) := Q4N v.1 v.2.1 v.2.2.1 v.2.2.2 w.1 w.2.1 w.2.2.1 w.2.2.2 h
theorem sameRel_eq (x y : RelT) (k : Nat) (hk : k < 4611686018427387904) (h : SmRel x k) : Q1p x y = some (decide (x = y)) := by
 rw [Q1p.eq, rel_dec, Q45 _ _ _ _ (by have := h.ref; omega), Q45 _ _ _ _ (by have := h.inn; omega), Q5c _ _ _ _ _ _ (by have := h.z1; omega) (by have := h.l1; omega) (fun p hp => by have := h.v1 p hp; omega), Q5c _ _ _ _ _ _ (by have := h.z2; omega) (by have := h.l2; omega) (fun p hp => by have := h.v2 p hp; omega), equalI_eq _ _ (by have := h.c; omega), Q45 _ _ _ _ (by have := h.m; omega), Q4N _ _ _ _ _ _ _ _ (by have := h.s; omega), samePacked_v _ _ (by have := h.i; omega), Q2X, Q2X]
 simp only [Z0]
 cases decide (x.1 = y.1)
 ·rfl
 cases decide (x.2.1 = y.2.1)
 ·rfl
 cases decide ((x.2.2.1, x.2.2.2.1) = (y.2.2.1, y.2.2.2.1))
 ·rfl
 cases decide ((x.2.2.2.2.1, x.2.2.2.2.2.1) = (y.2.2.2.2.1, y.2.2.2.2.2.1))
 ·rfl
 cases decide ((x.2.2.2.2.2.2.1, x.2.2.2.2.2.2.2.1, x.2.2.2.2.2.2.2.2.1) = (y.2.2.2.2.2.2.1, y.2.2.2.2.2.2.2.1, y.2.2.2.2.2.2.2.2.1))
 ·rfl
 cases decide ((x.2.2.2.2.2.2.2.2.2.1, x.2.2.2.2.2.2.2.2.2.2.1, x.2.2.2.2.2.2.2.2.2.2.2.1) = (y.2.2.2.2.2.2.2.2.2.1, y.2.2.2.2.2.2.2.2.2.2.1, y.2.2.2.2.2.2.2.2.2.2.2.1))
 ·rfl
 cases decide (x.2.2.2.2.2.2.2.2.2.2.2.2.1 = y.2.2.2.2.2.2.2.2.2.2.2.2.1)
 ·rfl
 cases decide ((x.2.2.2.2.2.2.2.2.2.2.2.2.2.1, x.2.2.2.2.2.2.2.2.2.2.2.2.2.2.1) = (y.2.2.2.2.2.2.2.2.2.2.2.2.2.1, y.2.2.2.2.2.2.2.2.2.2.2.2.2.2.1))
 ·rfl
 cases decide ((x.2.2.2.2.2.2.2.2.2.2.2.2.2.2.2.1, x.2.2.2.2.2.2.2.2.2.2.2.2.2.2.2.2.1, x.2.2.2.2.2.2.2.2.2.2.2.2.2.2.2.2.2.1, x.2.2.2.2.2.2.2.2.2.2.2.2.2.2.2.2.2.2.1) = (y.2.2.2.2.2.2.2.2.2.2.2.2.2.2.2.1, y.2.2.2.2.2.2.2.2.2.2.2.2.2.2.2.2.1, y.2.2.2.2.2.2.2.2.2.2.2.2.2.2.2.2.2.1, y.2.2.2.2.2.2.2.2.2.2.2.2.2.2.2.2.2.2.1))
 ·rfl
 rfl
end Go.Ev.W
/- Relative indexes: the text of a valid one. -/
set_option linter.unusedVariables false
set_option linter.unusedSimpArgs false
namespace Go.Ev.W
open Go.Ev
structure XWords (x : RelT) : Prop where
 ref : ∀ y ∈ x.2.2.2.1, 0 ≤ y ∧ y < ((2 ^ 64 : Nat) : Int)
 inn : ∀ y ∈ x.2.2.2.2.2.1, 0 ≤ y ∧ y < ((2 ^ 64 : Nat) : Int)
 w1 : ∀ p ∈ x.2.2.2.2.2.2.2.2.1, ∀ y ∈ p.2, 0 ≤ y ∧ y < ((2 ^ 64 : Nat) : Int)
 w2 : ∀ p ∈ x.2.2.2.2.2.2.2.2.2.2.2.1, ∀ y ∈ p.2, 0 ≤ y ∧ y < ((2 ^ 64 : Nat) : Int)
def relV (R D : List Nat) (x : RelT) (W1 W2 : List Nat) : RelT :=
 ((D.length : Int), x.2.1, x.2.2.1, x.2.2.2.1, x.2.2.2.2.1, x.2.2.2.2.2.1, (wvV (at0 (bwt R) (bts x.2.2.1.toNat W1))).1, (wvV (at0 (bwt R) (bts x.2.2.1.toNat W1))).2.1, (wvV (at0 (bwt R) (bts x.2.2.1.toNat W1))).2.2,
  (wvV (at0 (bwt D) (bts x.2.2.2.2.1.toNat W2))).1, (wvV (at0 (bwt D) (bts x.2.2.2.2.1.toNat W2))).2.1, (wvV (at0 (bwt D) (bts x.2.2.2.2.1.toNat W2))).2.2, (fmV D x.2.1.toNat).2.2.2.2.2)
structure RelOkV (f : FmT) (x : RelT) (R D : List Nat) : Prop where
 dl : D.length ≤ 300
 db : ∀ y ∈ D, y < 256
 r1 : 1 ≤ x.2.1
 r2 : x.2.1 ≤ 64
 fv : FmOkV f R ∧ FmW f R
 ft : QT f = some (ints R, true)
 fi : QP f = some (ints R, true)
 ref : ∃ W1, x.2.2.2.1 = ints W1 ∧ W1.length ≤ 1048576 ∧ (∀ y ∈ W1, y < 2 ^ 64) ∧ vOk x.2.2.1 W1 = true
 inn : ∃ W2, x.2.2.2.2.2.1 = ints W2 ∧ W2.length ≤ 1048576 ∧ (∀ y ∈ W2, y < 2 ^ 64) ∧ vOk x.2.2.2.2.1 W2 = true
 wv1 : ∃ L, x.2.2.2.2.2.2.2.2.1 = LI L ∧ (∀ p ∈ L, p.2.length ≤ 1048576) ∧ (∀ p ∈ L, ∀ y ∈ p.2, y < 2 ^ 64) ∧ wOk x.2.2.2.2.2.2.1 x.2.2.2.2.2.2.2.1 L = true
 wv2 : ∃ L, x.2.2.2.2.2.2.2.2.2.2.2.1 = LI L ∧ (∀ p ∈ L, p.2.length ≤ 1048576) ∧ (∀ p ∈ L, ∀ y ∈ p.2, y < 2 ^ 64) ∧ wOk x.2.2.2.2.2.2.2.2.2.1 x.2.2.2.2.2.2.2.2.2.2.1 L = true
 tail : x.2.2.2.2.2.2.2.2.2.2.2.2 = (fmV D x.2.1.toNat).2.2.2.2.2
 full : ∃ W1 W2, relV R D x W1 W2 = x ∧ x.2.2.2.1 = ints W1 ∧ x.2.2.2.2.2.1 = ints W2 ∧ (∀ y ∈ W1, y < 2 ^ 64) ∧ (∀ y ∈ W2, y < 2 ^ 64) ∧ W1.length ≤ 1048576 ∧ W2.length ≤ 1048576 ∧ vOk x.2.2.1 W1 = true ∧ vOk x.2.2.2.2.1 W2 = true ∧ x.2.2.1 = ((bwt R).length : Int) ∧ x.2.2.2.2.1 = ((bwt D).length : Int) ∧ at1 (bwt R) (bts x.2.2.1.toNat W1) = at1 (bwt D) (bts x.2.2.2.2.1.toNat W2)
theorem pat_at1 : ∀ (bs : List Bool) (T R : List Nat), one bs bs.length = T.length → at1 (pat bs T R) bs = T
 | [], T, R, h => by
  have : T.length = 0 := by rw [← h]; rfl
  rw [List.length_eq_zero_iff.1 this]; rfl
 | false :: bs, T, R, h => by
  rw [one_cons, if_neg (by simp), Z25] at h
  rw [pat, at1, if_neg (by simp), Z36, pat_at1 bs T R.tail h]
 | true :: bs, T, R, h => by
  rw [one_cons, if_pos rfl] at h
  cases T with
  | nil => simp at h
  | cons t T =>
   rw [Z2] at h
   rw [pat, at1, if_pos rfl]
   show t :: at1 (pat bs T R) bs = _
   rw [pat_at1 bs T R (by omega)]
theorem waves_eq (n : Int) (Z : List Int) (L : List (Int × List Nat)) (hl : ∀ p ∈ L, p.2.length ≤ 1048576) (hx : ∀ p ∈ L, ∀ x ∈ p.2, x < 2 ^ 64) (Y : List Nat) (hY : Y.length ≤ 1000) (hy : ∀ y ∈ Y, y ≤ 511) :
  Q1r (n, Z, LI L) (wvV Y) = some (decide ((n, Z, LI L) = wvV Y)) := by
 have hb := wave_back Y hY hy
 have hiff := waves_iff n Z L hx Y hY hy
 have hYl : ∀ p ∈ (wLv 9 0 Y).2, p.2.length ≤ 1048576 := fun p hp => by rw [Q3R 9 0 Y p hp]; unfold nw; omega
 have hY64 := Q3w [] 9 0 Y
 rw [Q1r.eq]
 show ((QF (n, Z, LI L)).bind fun y1 => bif y1 then (QF ((Y.length : Int), ints (wLv 9 0 Y).1, LI (wLv 9 0 Y).2)).bind fun y2 => bif y2 then (Qg (n, Z, LI L)).bind fun y3 => (Qg ((Y.length : Int), ints (wLv 9 0 Y).1, LI (wLv 9 0 Y).2)).bind fun y4 => (Q01 y3 y4).bind fun y5 => some y5 else some false else some false) = _
 rw [Q4K n Z L hl hx, Z0]
 cases hw : wOk n Z L with
 | false =>
  rw [Q9]
  congr 1
  symm
  rw [decide_eq_false_iff_not]
  intro h
  rw [(hiff.2 h).1] at hw; cases hw
 | true =>
  rw [Qp, Q4K _ _ _ hYl hY64, hb.1, Z0, Qp, l07List_eq n Z L hx hw, l07List_eq _ _ _ hY64 hb.1, Z0, Z0, Z5, hb.2, same_eq _ _ (by rw [Q8, Q3L]; have := (wOk_at hw).2.1; omega), Z0, dec_ints]
  congr 1
  rw [Z62, decide_eq_true_eq, decide_eq_true_eq]
  exact ⟨fun h => hiff.1 ⟨hw, h⟩, fun h => (hiff.2 h).2⟩
theorem Q4P {Y : List Nat} {k : Nat} (h : Y.length ≤ k) (hk : k ≤ 400) : (wvV Y).2.1.length ≤ 1000 ∧ (wvV Y).2.2.length ≤ 1000 ∧ ∀ p ∈ (wvV Y).2.2, p.2.length ≤ 1000 := by
 have h1 := wLv_len' 9 0 Y
 refine ⟨?_, ?_, fun p hp => ?_⟩
 ·show (ints (wLv 9 0 Y).1).length ≤ 1000
  rw [Q8]; omega
 ·show (LI (wLv 9 0 Y).2).length ≤ 1000
  rw [Z1]; omega
 ·have hp' : p ∈ LI (wLv 9 0 Y).2 := hp
  obtain ⟨q, hq, rfl⟩ := Z16.1 hp'
  rw [Q8, Q3R _ _ _ q hq]
  unfold nw; omega
theorem relRead_eq (f : FmT) (hf : SmFm f 1048576) (hw : ∀ p ∈ f.2.2.2.2.1, ∀ x ∈ p.2, 0 ≤ x ∧ x < ((2 ^ 64 : Nat) : Int)) (x : RelT) (hx : SmRel x 1048576) (xw : XWords x) :
  ∃ (v : Bool) (D : List Nat) (t : List Int), Q0b f x = some (bif v then (ints D, true) else ([], false)) ∧ Q0C x f = some (bif v then ints D else t, v) ∧ (v = true → ∃ R, RelOkV f x R D) := by
 have bad : ∀ s i, s = some (([] : List Int), false) → (∃ t, i = some ((t : List Int), false)) → ∃ (v : Bool) (D : List Nat) (t : List Int), s = some (bif v then (ints D, true) else ([], false)) ∧ i = some (bif v then ints D else t, v) ∧ (v = true → ∃ R, RelOkV f x R D) :=
  fun s i h1 ⟨t, h2⟩ => ⟨false, [], t, h1, h2, fun h => by cases h⟩
 obtain ⟨v1, R, t1, f1, f2, f3⟩ := fmRead_eq f hf hw
 obtain ⟨L2, l2e, l2x⟩ := lv_of x.2.2.2.2.2.2.2.2.2.2.2.1 xw.w2
 have l2l : ∀ p ∈ L2, p.2.length ≤ 1048576 := LI_len (by rw [← l2e]; exact hx.v2)
 obtain ⟨L1, l1e, l1x⟩ := lv_of x.2.2.2.2.2.2.2.2.1 xw.w1
 have l1l : ∀ p ∈ L1, p.2.length ≤ 1048576 := LI_len (by rw [← l1e]; exact hx.v1)
 obtain ⟨W1, w1e, w1x⟩ := ints_of x.2.2.2.1 (2 ^ 64) xw.ref
 obtain ⟨W2, w2e, w2x⟩ := ints_of x.2.2.2.2.2.1 (2 ^ 64) xw.inn
 have w1l : W1.length ≤ 1048576 := by have := hx.ref; rw [w1e, Q8] at this; exact this
 have w2l : W2.length ≤ 1048576 := by have := hx.inn; rw [w2e, Q8] at this; exact this
 have hrd := Q59 x.2.2.2.2.2.2.2.2.2.1 x.2.2.2.2.2.2.2.2.2.2.1 L2 l2l l2x
 have hok := Q4K x.2.2.2.2.2.2.2.2.2.1 x.2.2.2.2.2.2.2.2.2.2.1 L2 l2l l2x
 have hls := Q5e x.2.2.2.2.2.2.2.2.2.1 x.2.2.2.2.2.2.2.2.2.2.1 L2 l2l l2x
 rw [← l2e] at hrd hok hls
 have hbk := Q3Y x.2.2.1 W1 w1l w1x
 rw [← w1e] at hbk
 rw [Q0b.eq, Q0C.eq]
 show ∃ v D t, (QT f).bind _ = _ ∧ (QP f).bind _ = _ ∧ _
 cases v1 with
 | false =>
  rw [show QT f = some (([] : List Int), false) from f1, show QP f = some (t1, false) from f2, hrd]
  exact bad _ _ rfl ⟨[], rfl⟩
 | true =>
  have f1' : QT f = some (ints R, true) := f1
  have f2' : QP f = some (ints R, true) := f2
  obtain ⟨k1, k2⟩ := f3 rfl
  obtain ⟨d1, d2, d3, d4, d5⟩ := k1
  have hbl := Q0U R
  have hble := Q2O R d2
  rw [f1', f2', hrd, Z0, Z0, Z0, Z8, Q9, Q9, Q3P, Z0, Q44]
  cases hr : decide (1 ≤ x.2.1) && decide (x.2.1 ≤ 64) with
  | false =>
   refine bad _ _ rfl ?_
   cases wOk x.2.2.2.2.2.2.2.2.2.1 x.2.2.2.2.2.2.2.2.2.2.1 L2 <;> exact ⟨[], rfl⟩
  | true =>
   simp only [Z4, decide_eq_true_eq] at hr
   rw [Z8, Q9, hok, Z0]
   cases hwo : wOk x.2.2.2.2.2.2.2.2.2.1 x.2.2.2.2.2.2.2.2.2.2.1 L2 with
   | false => exact bad _ _ rfl ⟨[], rfl⟩
   | true =>
    rw [hwo, Qp] at hls
    rw [Z8, Q9, Qp, hbk, Z0]
    simp only [Z8, Q9, Z0]
    rw [Q1e.eq]
    try simp only
    rw [Q2L R d1 d2, Z0]
    obtain ⟨Q, hQ⟩ : ∃ Q, Q = Q2C x.2.2.2.2.2.2.2.2.2.1.toNat L2 := ⟨_, rfl⟩
    have hQl := Q3L x.2.2.2.2.2.2.2.2.2.1.toNat L2
    obtain ⟨wa, wb, wc, wd', we⟩ := wOk_at hwo
    have hQ511 := wList_le x.2.2.2.2.2.2.2.2.2.1.toNat L2 wd'
    have hinv := wave_inv _ _ L2 l2x hwo
    have hints : ints (snds (rows (L2.map lvb) (start x.2.2.2.2.2.2.2.2.2.1.toNat))) = ints Q := by rw [hQ]; rfl
    rw [← hQ] at hQl hQ511 hinv hls
    rw [hints]
    have hp1 := Q5t (bwt R) (by omega) x.2.2.1 W1 x.2.2.2.2.1 W2 Q w1l w1x w2l w2x
    have hp2 := specPatch_eq (bwt R) (by omega) x.2.2.1 W1 x.2.2.2.2.1 W2 Q w1l w1x w2l w2x
    rw [← w1e, ← w2e] at hp1 hp2
    rw [hp1, Z0]
    have bt0 := Q4h [] (by simp) (by simp)
    rw [show ints [] = ([] : List Int) from rfl] at bt0
    cases hpo : pOkB (bwt R) x.2.2.1 W1 x.2.2.2.2.1 W2 Q with
    | false =>
     refine bad _ _ ?_ ⟨[], rfl⟩
     cases hvo : vOk x.2.2.1 W1 with
     | false => rfl
     | true =>
      rw [Z8, Q9]
      by_cases hn : x.2.2.1 = IntKind.i64.wrap (((ints R).length : Int) + 1)
      ·rw [Q2a hn, Q0b_l0.eq, Q3a R d1 d2, Z0, hls, Z0, hp2, hpo, Q9, Z0, bt0]; rfl
      ·rw [Q2h hn]
    | true =>
     have hpo' := hpo
     unfold pOkB at hpo'
     simp only [Z4, decide_eq_true_eq] at hpo'
     obtain ⟨o1, o2, o3, o4, o5, o6⟩ := hpo'
     have o2' := o2
     simp only [vOk, Z4, decide_eq_true_eq] at o2'
     have b2l := Q2d x.2.2.2.2.1.toNat W2
     have b1l := Q2d x.2.2.1.toNat W1
     have hal := at1_len (bwt R) (bts x.2.2.1.toNat W1) (by omega)
     rw [b1l] at hal
     rw [hpo] at hp2
     have hXl : (pVal (bwt R) x.2.2.1 W1 x.2.2.2.2.1 W2 Q).length ≤ 301 := by unfold pVal; rw [Q37]; omega
     have hXlen : (pVal (bwt R) x.2.2.1 W1 x.2.2.2.2.1 W2 Q).length = x.2.2.2.2.1.toNat := by unfold pVal; rw [Q37, b2l]
     have hat0 : at0 (pVal (bwt R) x.2.2.1 W1 x.2.2.2.2.1 W2 Q) (bts x.2.2.2.2.1.toNat W2) = Q := pat_at0 _ _ _ (by rw [b2l]; exact o6)
     obtain ⟨X, hXe⟩ : ∃ X, X = pVal (bwt R) x.2.2.1 W1 x.2.2.2.2.1 W2 Q := ⟨_, rfl⟩
     rw [← hXe] at hXl hXlen hat0 hp2 ⊢
     rw [o1, Z8, Q9, Q2a (show x.2.2.1 = IntKind.i64.wrap (((ints R).length : Int) + 1) by rw [Q8, Q6 _ (by omega)]; omega), Q0b_l0.eq, Q3a R d1 d2, Z0, hls, Z0, hp2, Qp, Z0]
     simp only [Z8, Q9]
     cases hs : sOk (ints X) with
     | false =>
      rw [Q5s _ (by rw [Q8]; omega) hs, Q5d _ (by rw [Q8]; omega) hs]
      exact bad _ _ rfl ⟨[], rfl⟩
     | true =>
      have hXx : ∀ y ∈ X, y ≤ 256 := by
       simp only [sOk, Z4, decide_eq_true_eq, Z48] at hs
       intro y hy
       have := hs.2 (y : Int) (Z16.2 ⟨y, hy, rfl⟩)
       omega
      rw [Q4h X hXl hXx, Q58 X hXl hXx, Z0, Z0]
      cases hb : (bT X).2 with
      | false => exact bad _ _ rfl ⟨(bT X).1, by simp only [Z0, hb]; rfl⟩
      | true =>
       obtain ⟨D, e1, e2, e3, e4⟩ := bT_true X hXl hXx hb
       have hbD := Q0U D
       obtain ⟨r, hre⟩ : ∃ r : Nat, x.2.1 = r := ⟨x.2.1.toNat, by omega⟩
       have hfm := Q4k D e3 e4 r (by omega) (by omega)
       have hfs := Q3Q D e3 e4 r (by omega) (by omega)
       rw [← hre] at hfm hfs
       have t1' := (Q2G x.2.2.1.toNat W1 w1x).1 (by have := o1; simp only [vOk, Z4] at this; exact this.2)
       have t2' := (Q2G x.2.2.2.2.1.toNat W2 w2x).1 o2'.2
       have hn1 : ((x.2.2.1.toNat : Nat) : Int) = x.2.2.1 := by omega
       have hn2 : ((x.2.2.2.2.1.toNat : Nat) : Int) = x.2.2.2.2.1 := by omega
       have hY1 := Q2P (bwt R) (bts x.2.2.1.toNat W1)
       have hY1x : ∀ y ∈ at0 (bwt R) (bts x.2.2.1.toNat W1), y ≤ 511 := fun y hy => by have := hble y (Q3l _ _ y hy); omega
       have hY2 : at0 (bwt D) (bts x.2.2.2.2.1.toNat W2) = Q := by rw [e2]; exact hat0
       have hY2l := Q2P X (bts x.2.2.2.2.1.toNat W2)
       rw [hat0] at hY2l
       have u1 := Q3S (bwt R) x.2.2.1.toNat W1 (by omega) t1' (by omega)
       have u2 := Q3S (bwt D) x.2.2.2.2.1.toNat W2 (by omega) t2' (by rw [e2]; omega)
       rw [hn1, ← w1e] at u1
       rw [hn2, ← w2e, hY2] at u2
       have hl1 := Q3v x.2.2.1.toNat W1 (by omega) (by have := t1'.1; unfold nw at this; omega) w1x
       rw [hn1, ← w1e] at hl1
       have z1 := zeros_eq (bwt R) (bts x.2.2.1.toNat W1) (by omega) (by omega)
       have v1i := Q3N (at0 (bwt R) (bts x.2.2.1.toNat W1)) (by omega) hY1x
       have v1s := Q4i (at0 (bwt R) (bts x.2.2.1.toNat W1)) (by omega) hY1x
       have v2i := Q3N Q (by omega) hQ511
       have hwq : wvV Q = (x.2.2.2.2.2.2.2.2.2.1, x.2.2.2.2.2.2.2.2.2.2.1, x.2.2.2.2.2.2.2.2.2.2.2.1) := by
        unfold wvV
        rw [hinv.1, hinv.2, ← l2e, hQl, Int.toNat_of_nonneg wa]
       have hwv := waves_eq x.2.2.2.2.2.2.1 x.2.2.2.2.2.2.2.1 L1 l1l l1x (at0 (bwt R) (bts x.2.2.1.toNat W1)) (by omega) hY1x
       rw [← l1e] at hwv
       have hV : Q1d (ints R) (ints D) (x.2.2.1, x.2.2.2.1) (x.2.2.2.2.1, x.2.2.2.2.2.1) x.2.1 = some (relV R D x W1 W2, ints R, ints D) := by
        rw [Q1d.eq, hfm, Z0, Q2L R d1 d2, Z0]
        try simp only
        rw [u1, Z0, v1i, Z0, Q2L D e3 e4, Z0, u2, Z0, v2i, Z0]
        unfold relV
        rw [hY2, hre]; rfl
       have hsm := Q47 D e3 r
       have q1 := Q4P hY1 (by omega)
       have q2 := Q4P (Y := Q) (k := 301) (by omega) (by omega)
       have hsr : SmRel (relV R D x W1 W2) 2000000 := by
        unfold relV
        rw [hY2, hre, Z5]
        have a1 := hx.ref
        have a2 := hx.inn
        exact ⟨by show x.2.2.2.1.length ≤ _; omega, by show x.2.2.2.2.2.1.length ≤ _; omega, by have := q1.1; show (wvV _).2.1.length ≤ _; omega, by have := q1.2.1; show (wvV _).2.2.length ≤ _; omega, by have := q2.1; show (wvV _).2.1.length ≤ _; omega, by have := q2.2.1; show (wvV _).2.2.length ≤ _; omega, by have := hsm.c; show (fmV D r).2.2.2.2.2.1.length ≤ _; omega, by have := hsm.m; show (fmV D r).2.2.2.2.2.2.2.1.length ≤ _; omega, by have := hsm.s; show (fmV D r).2.2.2.2.2.2.2.2.2.2.2.1.length ≤ _; omega, by have := hsm.i; show (fmV D r).2.2.2.2.2.2.2.2.2.2.2.2.2.2.2.length ≤ _; omega, fun p hp => by have := q1.2.2 p hp; omega, fun p hp => by have := q2.2.2 p hp; omega⟩
       have hse := sameRel_eq (relV R D x W1 W2) x 2000000 (by omega) hsr
       rw [e1]
       simp only [Z0, Qp, hV, Z8, Q9]
       refine ⟨decide (relV R D x W1 W2 = x), D, ints D, ?_, ?_, fun h => ⟨R, ?_⟩⟩
       ·have hdec : decide (relV R D x W1 W2 = x) = decide (x = relV R D x W1 W2) := by rw [Z62, decide_eq_true_eq, decide_eq_true_eq]; exact eq_comm
        rw [hdec, rel_dec, Q0b_l1.eq, hfs, Z0, Q3a R d1 d2, Z0, hl1, Z0, z1, Z0, v1s, Z0]
        have g2 : decide (x.2.1 = (relV R D x W1 W2).2.1) = true := decide_eq_true rfl
        have g3 : decide ((x.2.2.1, x.2.2.2.1) = ((relV R D x W1 W2).2.2.1, (relV R D x W1 W2).2.2.2.1)) = true := decide_eq_true rfl
        have g4 : decide ((x.2.2.2.2.1, x.2.2.2.2.2.1) = ((relV R D x W1 W2).2.2.2.2.1, (relV R D x W1 W2).2.2.2.2.2.1)) = true := decide_eq_true rfl
        have g6 : decide ((x.2.2.2.2.2.2.2.2.2.1, x.2.2.2.2.2.2.2.2.2.2.1, x.2.2.2.2.2.2.2.2.2.2.2.1) = ((relV R D x W1 W2).2.2.2.2.2.2.2.2.2.1, (relV R D x W1 W2).2.2.2.2.2.2.2.2.2.2.1, (relV R D x W1 W2).2.2.2.2.2.2.2.2.2.2.2.1)) = true := by
         refine decide_eq_true ?_
         rw [← hwq, ← hY2]; rfl
        rw [g2, g3, g4, g6, Z20, Z20, Z20, Z20]
        have hrt : x.2.1.toNat = r := by omega
        have c1 : (relV R D x W1 W2).1 = (fmV D r).1 := rfl
        have c2 : (relV R D x W1 W2).2.2.2.2.2.2.2.2.2.2.2.2 = (fmV D r).2.2.2.2.2 := by unfold relV; rw [hrt]
        have c3 : ((relV R D x W1 W2).2.2.2.2.2.2.1, (relV R D x W1 W2).2.2.2.2.2.2.2.1, (relV R D x W1 W2).2.2.2.2.2.2.2.2.1) = wvV (at0 (bwt R) (bts x.2.2.1.toNat W1)) := rfl
        rw [c3, c1]
        simp only [c2]
        rw [same_eq _ _ (by have := hx.c; omega), Q4O _ _ _ _ (by have := hx.m; omega), Q46 _ _ _ _ _ _ _ _ (by have := hx.s; omega), Q46 _ _ _ _ _ _ _ _ (by have := hx.i; omega)]
        have hwv' : Q1r (x.2.2.2.2.2.2.1, x.2.2.2.2.2.2.2.1, x.2.2.2.2.2.2.2.2.1) (((at0 (bwt R) (bts x.2.2.1.toNat W1)).length : Int), ints (wLv 9 0 (at0 (bwt R) (bts x.2.2.1.toNat W1))).1, LI (wLv 9 0 (at0 (bwt R) (bts x.2.2.1.toNat W1))).2) = _ := hwv
        simp only [Z0, bne, Q2X, hwv']
        cases decide (x.1 = (fmV D r).1)
        ·rfl
        cases decide (x.2.2.2.2.2.2.2.2.2.2.2.2.1 = (fmV D r).2.2.2.2.2.1)
        ·simp only [Z20, Bool.false_and, Z73, Z49, Z8, Qp, Q9]
        cases decide ((x.2.2.2.2.2.2.2.2.2.2.2.2.2.1, x.2.2.2.2.2.2.2.2.2.2.2.2.2.2.1) = ((fmV D r).2.2.2.2.2.2.1, (fmV D r).2.2.2.2.2.2.2.1))
        ·simp only [Z20, Bool.false_and, Z73, Z49, Z8, Qp, Q9]
        cases decide ((x.2.2.2.2.2.2.2.2.2.2.2.2.2.2.2.1, x.2.2.2.2.2.2.2.2.2.2.2.2.2.2.2.2.1, x.2.2.2.2.2.2.2.2.2.2.2.2.2.2.2.2.2.1, x.2.2.2.2.2.2.2.2.2.2.2.2.2.2.2.2.2.2.1) = ((fmV D r).2.2.2.2.2.2.2.2.1, (fmV D r).2.2.2.2.2.2.2.2.2.1, (fmV D r).2.2.2.2.2.2.2.2.2.2.1, (fmV D r).2.2.2.2.2.2.2.2.2.2.2.1))
        ·simp only [Z20, Bool.false_and, Z73, Z49, Z8, Qp, Q9]
        cases decide (x.2.2.2.2.2.2.2.2.2.2.2.2.2.2.2.2.2.2.2 = (fmV D r).2.2.2.2.2.2.2.2.2.2.2.2)
        ·simp only [Z20, Bool.false_and, Z73, Z49, Z8, Qp, Q9]
        cases decide ((x.2.2.2.2.2.2.1, x.2.2.2.2.2.2.2.1, x.2.2.2.2.2.2.2.2.1) = wvV (at0 (bwt R) (bts x.2.2.1.toNat W1))) <;> rfl
       ·show (Q1p (relV R D x W1 W2) x).bind _ = _
        rw [hse]
        cases decide (relV R D x W1 W2 = x) <;> rfl
       ·have h := of_decide_eq_true h
        have hw1 : (x.2.2.2.2.2.2.1, x.2.2.2.2.2.2.2.1, x.2.2.2.2.2.2.2.2.1) = wvV (at0 (bwt R) (bts x.2.2.1.toNat W1)) := by
         have h' := congrArg (fun y : RelT => (y.2.2.2.2.2.2.1, y.2.2.2.2.2.2.2.1, y.2.2.2.2.2.2.2.2.1)) h
         exact h'.symm
        have hat1 : at1 (bwt R) (bts x.2.2.1.toNat W1) = at1 (bwt D) (bts x.2.2.2.2.1.toNat W2) := by
         rw [e2, hXe]
         exact (pat_at1 _ _ _ (by rw [b2l, hal]; exact o5.symm)).symm
        have ht : x.2.2.2.2.2.2.2.2.2.2.2.2 = (fmV D x.2.1.toNat).2.2.2.2.2 := (congrArg (fun y : RelT => y.2.2.2.2.2.2.2.2.2.2.2.2) h).symm
        rw [l1e] at hw1
        exact ⟨e3, e4, hr.1, hr.2, ⟨⟨d1, d2, d3, d4, d5⟩, k2⟩, f1', f2', ⟨W1, w1e, w1l, w1x, o1⟩, ⟨W2, w2e, w2l, w2x, o2⟩, ⟨L1, l1e, l1l, l1x, ((waves_iff _ _ L1 l1x _ (by omega) hY1x).2 hw1).1⟩, ⟨L2, l2e, l2l, l2x, hwo⟩, ht, W1, W2, h, w1e, w2e, w1x, w2x, w1l, w2l, o1, o2, o3, by rw [e2, hXlen]; omega, hat1⟩
end Go.Ev.W
/- Relative indexes made: both functions. -/
-- names as printed
set_option linter.unusedVariables false
set_option linter.unusedSimpArgs false
namespace Go.Ev.W
open Go.Ev
structure Q29 (R D : List Nat) (P : List (Nat × Nat)) : Prop where
 up : P.Pairwise Up
 eq : ∀ q ∈ P, ∃ v, (bwt R)[q.1]? = some v ∧ (bwt D)[q.2]? = some v
theorem Q29.lt {R D : List Nat} {P : List (Nat × Nat)} (h : Q29 R D P) : ∀ q ∈ P, q.1 < R.length + 1 ∧ q.2 < D.length + 1 := fun q hq => by
 obtain ⟨v, h1, h2⟩ := h.eq q hq
 have k1 := (Z110.1 h1).1
 have k2 := (Z110.1 h2).1
 rw [Q0U] at k1 k2
 exact ⟨k1, k2⟩
theorem up_len : ∀ (I : List Nat) (a n : Nat), I.Pairwise (· < ·) → (∀ i ∈ I, a ≤ i ∧ i < n) → I.length ≤ n - a
 | [], _, _, _, _ => by simp
 | i :: I, a, n, h, hn => by
  obtain ⟨p, q⟩ := Z82.1 h
  have h1 := hn i Z43
  have := up_len I (i + 1) n q fun j hj => ⟨p j hj, (hn j (Z60 _ hj)).2⟩
  rw [Z2]; omega
theorem Q29.up1 {R D : List Nat} {P : List (Nat × Nat)} (h : Q29 R D P) : (P.map Prod.fst).Pairwise (· < ·) := by
 rw [List.pairwise_map]; exact h.up.imp fun h => h.1
theorem Q29.up2 {R D : List Nat} {P : List (Nat × Nat)} (h : Q29 R D P) : (P.map Prod.snd).Pairwise (· < ·) := by
 rw [List.pairwise_map]; exact h.up.imp fun h => h.2
theorem Q29.m1 {R D : List Nat} {P : List (Nat × Nat)} (h : Q29 R D P) : ∀ i ∈ P.map Prod.fst, i < R.length + 1 := fun i hi => by
 obtain ⟨q, hq, rfl⟩ := Z16.1 hi
 exact (h.lt q hq).1
theorem Q29.m2 {R D : List Nat} {P : List (Nat × Nat)} (h : Q29 R D P) : ∀ i ∈ P.map Prod.snd, i < D.length + 1 := fun i hi => by
 obtain ⟨q, hq, rfl⟩ := Z16.1 hi
 exact (h.lt q hq).2
theorem Q29.len {R D : List Nat} {P : List (Nat × Nat)} (h : Q29 R D P) : P.length ≤ D.length + 1 := by
 have := up_len (P.map Prod.snd) 0 (D.length + 1) h.up2 fun i hi => ⟨Z21 _, h.m2 i hi⟩
 rw [Z1] at this; omega
def fl1 (R : List Nat) (P : List (Nat × Nat)) : List Bool := fl (R.length + 1) (P.map Prod.fst)
def fl2 (D : List Nat) (P : List (Nat × Nat)) : List Bool := fl (D.length + 1) (P.map Prod.snd)
theorem fl1_len (R : List Nat) (P : List (Nat × Nat)) : (fl1 R P).length = R.length + 1 := Q24 _ _
theorem fl2_len (D : List Nat) (P : List (Nat × Nat)) : (fl2 D P).length = D.length + 1 := Q24 _ _
theorem Q29.same {R D : List Nat} {P : List (Nat × Nat)} (h : Q29 R D P) : at1 (bwt R) (fl1 R P) = at1 (bwt D) (fl2 D P) := by
 unfold fl1 fl2
 rw [at1_fl _ _ (Q0U R) _ h.up1 h.m1, at1_fl _ _ (Q0U D) _ h.up2 h.m2, Z26, Z26]
 refine Z45 fun q hq => ?_
 obtain ⟨v, h1, h2⟩ := h.eq q hq
 simp only [Function.comp, Z10, h1, h2]
theorem Q29.one1 {R D : List Nat} {P : List (Nat × Nat)} (h : Q29 R D P) : one (fl1 R P) (R.length + 1) = P.length := by
 have := fl_one _ _ h.up1 h.m1; rw [Z1] at this; exact this
theorem Q29.one2 {R D : List Nat} {P : List (Nat × Nat)} (h : Q29 R D P) : one (fl2 D P) (D.length + 1) = P.length := by
 have := fl_one _ _ h.up2 h.m2; rw [Z1] at this; exact this
theorem share_ok (R D : List Nat) (d : Nat) (bud : Int) : Q29 R D (share R D d bud) := ⟨share_up R D d bud, share_at R D d bud⟩
theorem nil_ok (R D : List Nat) : Q29 R D [] := ⟨.nil, fun q hq => by cases hq⟩
def relX (R D : List Nat) (P : List (Nat × Nat)) (r : Nat) : RelT :=
 ((D.length : Int), (r : Int), ((R.length + 1 : Nat) : Int), ints (wrds (fl1 R P)), ((D.length + 1 : Nat) : Int), ints (wrds (fl2 D P)), (wvV (at0 (bwt R) (fl1 R P))).1, (wvV (at0 (bwt R) (fl1 R P))).2.1, (wvV (at0 (bwt R) (fl1 R P))).2.2,
  (wvV (at0 (bwt D) (fl2 D P))).1, (wvV (at0 (bwt D) (fl2 D P))).2.1, (wvV (at0 (bwt D) (fl2 D P))).2.2, (fmV D r).2.2.2.2.2)
def rel0 : RelT := (0, 0, 0, [], 0, [], 0, [], [], 0, [], [], [], 0, [], 0, 0, 0, [], 0, 0, 0, [])
section
variable (R D : List Nat) (hR : R.length ≤ 300) (hD : D.length ≤ 300) (bR : Qh R) (bD : Qh D) (P : List (Nat × Nat)) (hP : Q29 R D P) (r : Nat) (h1 : 1 ≤ r) (h64 : r ≤ 64)
include hR hD bR bD hP h1 h64
theorem implMade_eq : ∃ y, Q0u (IntKind.i64.wrap (((ints R).length : Int) + 1)) (IntKind.i64.wrap (((ints D).length : Int) + 1)) (P.map ipr) = some y ∧ Q1E (ints R) (ints D) y.1 y.2 r = some (relX R D P r, ints R, ints D) := by
 have l1 := Q0U R
 have l2 := Q0U D
 have f1 := fl1_len R P
 have f2 := fl2_len D P
 have pl := hP.len
 have hm := marks_eq P (R.length + 1) (D.length + 1) (by omega) (by omega) (by omega) hP.lt
 refine ⟨_, by rw [Q8, Q8, Q6 _ (by omega), Q6 _ (by omega)]; exact hm, ?_⟩
 have u1 := Q3S (bwt R) (fl1 R P).length (wrds (fl1 R P)) (by omega) (Q2q _) (by omega)
 have u2 := Q3S (bwt D) (fl2 D P).length (wrds (fl2 D P)) (by omega) (Q2q _) (by omega)
 rw [Q33, f1] at u1
 rw [Q33, f2] at u2
 have a1 := Q2P (bwt R) (fl1 R P)
 have a2 := Q2P (bwt D) (fl2 D P)
 have v1 := Q3N (at0 (bwt R) (fl1 R P)) (by omega) fun y hy => by have := Q2O R bR y (Q3l _ _ y hy); omega
 have v2 := Q3N (at0 (bwt D) (fl2 D P)) (by omega) fun y hy => by have := Q2O D bD y (Q3l _ _ y hy); omega
 rw [Q1E.eq, Q4k D hD bD r (by omega) h64, Z0, Q2L R hR bR, Z0]
 show (QQ _ (((R.length + 1 : Nat) : Int), ints (wrds (fl1 R P)))).bind _ = _
 rw [u1, Z0, v1, Z0, Q2L D hD bD, Z0]
 show (QQ _ (((D.length + 1 : Nat) : Int), ints (wrds (fl2 D P)))).bind _ = _
 rw [u2, Z0, v2, Z0]
 rfl
theorem Q5f : Q13 (ints R) (ints D) (P.map ipr) r = some (relX R D P r) := by
 have l1 := Q0U R
 have l2 := Q0U D
 have f1 := fl1_len R P
 have f2 := fl2_len D P
 have pl := hP.len
 have a1 := Q2P (bwt R) (fl1 R P)
 have a2 := Q2P (bwt D) (fl2 D P)
 have v1 := Q4i (at0 (bwt R) (fl1 R P)) (by omega) fun y hy => by have := Q2O R bR y (Q3l _ _ y hy); omega
 have v2 := Q4i (at0 (bwt D) (fl2 D P)) (by omega) fun y hy => by have := Q2O D bD y (Q3l _ _ y hy); omega
 have hp := patchS_eq (bwt D) P (R.length + 1) (by omega) (by omega) (by omega) fun q hq => by have := hP.lt q hq; omega
 have t1 := Q2q (fl1 R P)
 have hl := Q3v (fl1 R P).length (wrds (fl1 R P)) (by omega) (by have := t1.1; unfold nw at this; omega) t1.2.1
 rw [Q33, f1] at hl
 have hz := zeros_eq (bwt R) (fl1 R P) (by omega) (by omega)
 rw [l2] at hp
 rw [Q13.eq, Q3Q D hD bD r (by omega) h64, Z0, Q3a D hD bD, Z0, Q8, Q6 _ (by omega), hp, Z0, Q3a R hR bR, Z0]
 show (Qq (((R.length + 1 : Nat) : Int), ints (wrds (fl1 R P)))).bind _ = _
 rw [hl, Z0, hz, Z0, v1, Z0]
 show (Qj (ints (at0 (bwt D) (fl2 D P)))).bind _ = _
 rw [v2, Z0]
 rfl
end
theorem relX_small (R D : List Nat) (hR : R.length ≤ 300) (hD : D.length ≤ 300) (P : List (Nat × Nat)) (r : Nat) : SmRel (relX R D P r) 1000 := by
 have l1 := Q0U R
 have l2 := Q0U D
 have q1 := Q4P (k := 301) (show (at0 (bwt R) (fl1 R P)).length ≤ 301 by have := Q2P (bwt R) (fl1 R P); omega) (by omega)
 have q2 := Q4P (k := 301) (show (at0 (bwt D) (fl2 D P)).length ≤ 301 by have := Q2P (bwt D) (fl2 D P); omega) (by omega)
 have hsm := Q47 D hD r
 refine ⟨?_, ?_, q1.1, q1.2.1, q2.1, q2.2.1, hsm.c, hsm.m, hsm.s, hsm.i, q1.2.2, q2.2.2⟩
 ·show (ints (wrds (fl1 R P))).length ≤ 1000
  rw [Q8, Q2c, fl1_len]; unfold nw; omega
 ·show (ints (wrds (fl2 D P))).length ≤ 1000
  rw [Q8, Q2c, fl2_len]; unfold nw; omega
theorem SmRel.mono {x : RelT} {k m : Nat} (h : SmRel x k) (hk : k ≤ m) : SmRel x m :=
 ⟨Z24 h.ref hk, Z24 h.inn hk, Z24 h.z1 hk, Z24 h.l1 hk, Z24 h.z2 hk, Z24 h.l2 hk, Z24 h.c hk, Z24 h.m hk, Z24 h.s hk, Z24 h.i hk, fun p hp => Z24 (h.v1 p hp) hk, fun p hp => Z24 (h.v2 p hp) hk⟩
structure OfV (f : FmT) (D : List Nat) (d r : Int) (R : List Nat) : Prop where
 fv : FmOkV f R ∧ FmW f R
 ft : QT f = some (ints R, true)
 fi : QP f = some (ints R, true)
 dl : D.length ≤ 300
 d0 : 0 ≤ d
 d8 : d ≤ 8
 r1 : 1 ≤ r
 r64 : r ≤ 64
theorem relOf_eq (f : FmT) (hf : SmFm f 1048576) (hw : ∀ p ∈ f.2.2.2.2.1, ∀ x ∈ p.2, 0 ≤ x ∧ x < ((2 ^ 64 : Nat) : Int)) (D : List Nat) (bD : Qh D) (d bud r : Int) :
  (Q0K f (ints D) d bud r = some (rel0, false) ∧ Q0O f (ints D) d bud r = some (rel0, false) ∧ (∀ bud, Q0O f (ints D) d bud r = some (rel0, false))) ∨
  ∃ R, OfV f D d r R ∧ ∀ bud, Q0K f (ints D) d bud r = some (relX R D (share R D d.toNat bud) r.toNat, true) ∧ Q0O f (ints D) d bud r = some (relX R D (share R D d.toNat bud) r.toNat, true) := by
 obtain ⟨v1, R, t1, f1, f2, f3⟩ := fmRead_eq f hf hw
 cases v1 with
 | false =>
  have f1' : QT f = some (([] : List Int), false) := f1
  have f2' : QP f = some (t1, false) := f2
  have key : ∀ bud, Q0O f (ints D) d bud r = some (rel0, false) := fun bud => by rw [Q0O.eq, f2']; rfl
  exact .inl ⟨by rw [Q0K.eq, f1']; rfl, key bud, key⟩
 | true =>
  have f1' : QT f = some (ints R, true) := f1
  have f2' : QP f = some (ints R, true) := f2
  obtain ⟨k1, k2⟩ := f3 rfl
  obtain ⟨d1, d2, d3, d4, d5⟩ := k1
  have hsh : Q1C (ints R) (ints D) d = some (decide (R.length ≤ 300 ∧ D.length ≤ 300 ∧ 0 ≤ d ∧ d ≤ 8)) := by
   rw [Q1C.eq, Q0W.eq, Q0W.eq, Q8, Q8, Z0, Q2 (by omega), Z0]
   by_cases h2 : D.length ≤ 300
   ·rw [Q2 (by omega), Q3u, Z0]
    congr 1
    rw [Z62, Z4, decide_eq_true_eq, decide_eq_true_eq, decide_eq_true_eq]; omega
   ·rw [Q3 (by omega), decide_eq_false (by omega)]
  by_cases hc : R.length ≤ 300 ∧ D.length ≤ 300 ∧ 0 ≤ d ∧ d ≤ 8
  ·cases hr : decide (1 ≤ r) && decide (r ≤ 64) with
   | false =>
    have key : ∀ bud, Q0O f (ints D) d bud r = some (rel0, false) := fun bud => by
     rw [Q0O.eq, f2', Z0, Z8, Q9, hsh, Z0, decide_eq_true hc, Z8, Q9, Q44, hr]; rfl
    exact .inl ⟨by rw [Q0K.eq, f1', Z0, Z8, Q9, Q4m, Z0, decide_eq_true hc, Z8, Q9, Q3P, hr]; rfl, key bud, key⟩
   | true =>
    have hr' := hr
    simp only [Z4, decide_eq_true_eq] at hr'
    obtain ⟨c1, c2, c3, c4⟩ := hc
    obtain ⟨dn, rfl⟩ : ∃ n : Nat, d = n := ⟨d.toNat, by omega⟩
    obtain ⟨rn, rfl⟩ : ∃ n : Nat, r = n := ⟨r.toNat, by omega⟩
    refine .inr ⟨R, ⟨⟨⟨d1, d2, d3, d4, d5⟩, k2⟩, f1', f2', c2, c3, c4, hr'.1, hr'.2⟩, fun bud => ⟨?_, ?_⟩⟩
    ·rw [Q0K.eq, f1', Z0, Z8, Q9, Q4m, Z0, decide_eq_true ⟨c1, c2, c3, c4⟩, Z8, Q9, Q3P, hr, Z0, Z8, Q9, specShare_eq R D c1 c2 d2 bD dn (by omega) bud, Z0, Q5f R D c1 c2 d2 bD _ (share_ok R D dn bud) rn (by omega) (by omega)]
     rfl
    ·obtain ⟨y, m1, m2⟩ := implMade_eq R D c1 c2 d2 bD _ (share_ok R D dn bud) rn (by omega) (by omega)
     rw [Q0O.eq, f2', Z0, Z8, Q9, hsh, Z0, decide_eq_true ⟨c1, c2, c3, c4⟩, Z8, Q9, Q44, hr, Z0, Z8, Q9, implShare_eq R D c1 c2 d2 bD dn (by omega) bud, Z0]
     simp only
     rw [m1, Z0, m2]
     rfl
  ·have key : ∀ bud, Q0O f (ints D) d bud r = some (rel0, false) := fun bud => by
    rw [Q0O.eq, f2', Z0, Z8, Q9, hsh, Z0, decide_eq_false hc]; rfl
   exact .inl ⟨by rw [Q0K.eq, f1', Z0, Z8, Q9, Q4m, Z0, decide_eq_false hc]; rfl, key bud, key⟩
end Go.Ev.W
/- Sparse lists: plain facts. -/
set_option linter.unusedVariables false
set_option linter.unusedSimpArgs false
namespace Go.Ev.W
open Go.Ev
def ones (bs : List Bool) : Nat := (bs.filter id).length
end Go.Ev.W
/- Sparse lists: widths, packed numbers as a list. -/
set_option linter.unusedVariables false
set_option linter.unusedSimpArgs false
namespace Go.Ev.W
open Go.Ev
def hv (W : List Nat) (o w : Nat) : Nat → Nat
 | 0 => 0
 | d + 1 => 2 * hv W o w d + (bit W (o + (w - (d + 1)))).toNat
section
variable (w n : Nat) (W : List Nat) (hw : w ≤ 32) (hn : n ≤ 5000) (hm : n * w ≤ 5000) (hx : ∀ x ∈ W, x < 2 ^ 64) (ht : tight (n * w) W)
include hw hn hm hx ht
end
end Go.Ev.W
/- Walking back in a text by its rows: plain facts. -/
set_option linter.unusedVariables false
set_option linter.unusedSimpArgs false
namespace Go.Ev.W
open Go.Ev
theorem Q5g {p : Nat → Bool} {A B : List Nat} (h : A.Perm B) : (A.filter p).length = (B.filter p).length := (h.filter p).length_eq
theorem srt_perm (D : List Nat) : (srt D).Perm (List.range (D.length + 1)) := List.mergeSort_perm ..
def sufB (D : List Nat) (a b : Nat) : Bool := decide (cmpN (D.drop a) (D.drop b) < 0)
theorem sufB_iff (D : List Nat) (a b : Nat) : sufB D a b = true ↔ Q28 D a b := decide_eq_true_iff
theorem srt_split (D : List Nat) (k : Nat) (hk : k < (srt D).length) (q : Nat → Bool) : ((srt D).take k).filter q = (srt D).filter fun t => sufB D t (srt D)[k] && q t := by
 have hpw := (Q2K D).pw
 have h1 : ((srt D).take k).filter (fun t => sufB D t (srt D)[k] && q t) = ((srt D).take k).filter q := by
  refine List.filter_congr fun t ht => ?_
  obtain ⟨i, hi, rfl⟩ := List.mem_iff_getElem.1 ht
  rw [Z9] at hi
  rw [List.getElem_take, (sufB_iff D _ _).2 (get_lt hpw (show i < k by omega) hk), Z20]
 have h2 : ((srt D).drop k).filter (fun t => sufB D t (srt D)[k] && q t) = [] := by
  refine List.filter_eq_nil_iff.2 fun t ht => ?_
  obtain ⟨i, hi, rfl⟩ := List.mem_iff_getElem.1 ht
  rw [Z19] at hi
  rw [List.getElem_drop]
  have : ¬ Q28 D (srt D)[k + i] (srt D)[k] := by
   by_cases h0 : i = 0
   ·subst h0; exact Q3X D _
   ·intro h
    exact Q3X D _ (Q4H (get_lt hpw (show k < k + i by omega) (by omega)) h)
  cases hb : sufB D (srt D)[k + i] (srt D)[k] with
  | false => simp
  | true => exact absurd ((sufB_iff D _ _).1 hb) this
 generalize (srt D)[k] = z at h1 h2 ⊢
 have e : (srt D).filter (fun t => sufB D t z && q t) = ((srt D).take k ++ (srt D).drop k).filter (fun t => sufB D t z && q t) := by rw [Z84]
 rw [e, Z63, h2, Z31, h1]
theorem srt_rank (D : List Nat) (k : Nat) (hk : k < (srt D).length) : ((List.range (D.length + 1)).filter fun t => sufB D t (srt D)[k]).length = k := by
 have h := srt_split D k hk (fun _ => true)
 rw [← Q5g (srt_perm D)]
 have e : (fun t => sufB D t (srt D)[k] && true) = fun t => sufB D t (srt D)[k] := by funext t; rw [Z94]
 rw [e] at h
 rw [← h, List.filter_eq_self.2 (fun _ _ => rfl), Z9]; omega
theorem filter_add (A B C : Nat → Bool) : ∀ l : List Nat, (∀ t ∈ l, (A t).toNat + (B t).toNat = (C t).toNat) → (l.filter A).length + (l.filter B).length = (l.filter C).length
 | [], _ => rfl
 | t :: l, h => by
  have ih := filter_add A B C l fun x hx => h x (Z60 _ hx)
  have ht := h t Z43
  rw [Z34, Z34, Z34]
  cases hA : A t <;> cases hB : B t <;> cases hC : C t <;> rw [hA, hB, hC] at ht <;> simp at ht ⊢ <;> omega
theorem Q5u (P : Nat → Bool) (n : Nat) : ((List.range (n + 1)).filter P).length = (P 0).toNat + ((List.range n).filter fun t => P (t + 1)).length := by
 rw [List.range_succ_eq_map, Z34, List.filter_map]
 have e : (P ∘ Nat.succ) = fun t => P (t + 1) := rfl
 rw [e]
 cases P 0 <;> simp <;> omega
theorem filter_range_last (P : Nat → Bool) (n : Nat) : ((List.range (n + 1)).filter P).length = ((List.range n).filter P).length + (P n).toNat := by
 rw [Z83, Z63, Z11]
 cases h : P n <;> simp [h]
theorem drop_cons (D : List Nat) (t : Nat) (h : t < D.length) : D.drop t = D[t] :: D.drop (t + 1) := Z29 h
theorem lf_row (D : List Nat) (k : Nat) (hk : k < (srt D).length) (h0 : (srt D)[k] ≠ 0) : ∃ h : lfV (bwt D) k < (srt D).length, (srt D)[lfV (bwt D) k] + 1 = (srt D)[k] := by
 have hlen := Q2s D
 have hmem := (Q36 D _).1 (Z14 hk)
 obtain ⟨s, hs⟩ : ∃ s, (srt D)[k] = s + 1 := ⟨(srt D)[k] - 1, by omega⟩
 have hsl : s < D.length := by omega
 obtain ⟨j, hj, hjs⟩ := List.mem_iff_getElem.1 ((Q36 D s).2 (by omega))
 have hr := srt_rank D j hj
 rw [hjs] at hr
 have hbk : k < (bwt D).length := by rw [Q0U]; omega
 have hX : (bwt D)[k] = D[s] + 1 := by
  have e0 : (bwt D)[k] = bwS D (srt D)[k] := by simp [bwt]
  rw [e0, hs]
  unfold bwS
  rw [if_neg (by omega), Z107, Z10, Z3 hsl]; rfl
 have key : lfV (bwt D) k = j := by
  rw [lfV_at _ _ hbk, hX]
  unfold ltc eqc
  have e1 : ((bwt D).filter fun x => decide (x < D[s] + 1)).length = ((List.range (D.length + 1)).filter fun t => decide (bwS D t < D[s] + 1)).length := by
   rw [← Q5g (srt_perm D)]
   unfold bwt
   rw [List.filter_map, Z1]; rfl
  have e2 : (((bwt D).take k).filter fun x => decide (x = D[s] + 1)).length = ((List.range (D.length + 1)).filter fun t => sufB D t (s + 1) && decide (bwS D t = D[s] + 1)).length := by
   rw [← Q5g (srt_perm D)]
   unfold bwt
   rw [← Z92, List.filter_map, Z1]
   have := srt_split D k hk (fun t => decide (bwS D t = D[s] + 1))
   rw [hs] at this
   rw [← this]; rfl
  rw [e1, e2, Q5u, Q5u, ← hr, filter_range_last]
  have z1 : decide (bwS D 0 < D[s] + 1) = true := decide_eq_true (by unfold bwS; rw [if_pos rfl]; omega)
  have z2 : (sufB D 0 (s + 1) && decide (bwS D 0 = D[s] + 1)) = false := by
   rw [show decide (bwS D 0 = D[s] + 1) = false from decide_eq_false (by unfold bwS; rw [if_pos rfl]; omega), Z73]
  have z3 : sufB D D.length s = true := by
   unfold sufB
   rw [Z75, drop_cons D s hsl]; rfl
  rw [z1, z2, z3]
  have hadd := filter_add (fun t => decide (bwS D (t + 1) < D[s] + 1)) (fun t => sufB D (t + 1) (s + 1) && decide (bwS D (t + 1) = D[s] + 1)) (fun t => sufB D t s) (List.range D.length) (by
   intro t ht
   have htl : t < D.length := Z51.1 ht
   have hb : bwS D (t + 1) = D[t] + 1 := by
    unfold bwS
    rw [if_neg (by omega), Z107, Z10, Z3 htl]; rfl
   unfold sufB
   rw [hb, drop_cons D t htl, drop_cons D s hsl, cmpN]
   by_cases h1 : D[t] < D[s]
   ·rw [if_pos h1, decide_eq_true (show D[t] + 1 < D[s] + 1 by omega), decide_eq_false (show ¬ D[t] + 1 = D[s] + 1 by omega), Z73]; rfl
   ·rw [if_neg h1, decide_eq_false (show ¬ D[t] + 1 < D[s] + 1 by omega)]
    by_cases h2 : D[s] < D[t]
    ·rw [if_pos h2, decide_eq_false (show ¬ D[t] + 1 = D[s] + 1 by omega), Z73]; rfl
    ·rw [if_neg h2, decide_eq_true (show D[t] + 1 = D[s] + 1 by omega), Z94]
     exact Z25 _)
  show 1 + _ + (0 + _) = _ + 1
  omega
 refine ⟨by rw [key]; exact hj, ?_⟩
 simp only [key, hjs, hs]
end Go.Ev.W
/- The text of the rows of a text. -/
set_option linter.unusedVariables false
set_option linter.unusedSimpArgs false
namespace Go.Ev.W
open Go.Ev
theorem srt_first (D : List Nat) (h : 0 < (srt D).length) : (srt D)[0] = D.length := by
 obtain ⟨k, hk, e⟩ := List.mem_iff_getElem.1 ((Q36 D D.length).2 (Z7 _))
 by_cases h0 : k = 0
 ·subst h0; exact e
 ·have := get_lt (Q2K D).pw (show 0 < k by omega) hk
  rw [e] at this
  unfold Q28 at this
  rw [Z75] at this
  cases hd : D.drop (srt D)[0] with
  | nil => rw [hd] at this; simp [cmpN] at this
  | cons a x => rw [hd] at this; simp [cmpN] at this
theorem wk_back (D : List Nat) : ∀ (j r : Nat) (hr : r < (srt D).length) (acc : List Nat), (srt D)[r] = j → (wk (bwt D) j r acc).1 = D.take j ++ acc
 | 0, r, hr, acc, _ => by simp [wk]
 | j + 1, r, hr, acc, hj => by
  have hm := (Q36 D (srt D)[r]).1 (Z14 hr)
  have hl := Q2s D
  have hb := Q0U D
  have hx : (bwt D).getD r 0 = D[j]'(by omega) + 1 := by
   rw [Z10, Z3 (by omega), Z42]
   unfold bwt
   rw [Z89]
   unfold bwS
   rw [if_neg (by omega), hj, Z107, Z10, Z3 (by omega), Z42]
  obtain ⟨h1, h2⟩ := lf_row D r hr (by omega)
  rw [wk, if_neg (by omega), wk_back D j _ h1 _ (by omega), hx, Z107, Z50, Z3 (by omega), Z30]
  rfl
theorem bT_bwt (D : List Nat) : bT (bwt D) = (ints D, true) := by
 have hl := Q2s D
 have hb := Q0U D
 have h := wk_back D D.length 0 (by omega) [] (srt_first D (by omega))
 unfold bT
 rw [decide_eq_false (by omega), Q9, hb, Z107, h, Z23, Z31]
 unfold tFin
 rw [decide_eq_true rfl, Qp]
end Go.Ev.W
/- An index made tells its text. -/
-- names as printed
set_option linter.unusedVariables false
set_option linter.unusedSimpArgs false
namespace Go.Ev.W
open Go.Ev
theorem bits_valid (bs : List Bool) (h : bs.length ≤ 5000) : vOk (bs.length : Int) (wrds bs) = true := by
 unfold vOk
 rw [Z5, (Q2G bs.length (wrds bs) (Q2q bs).2.1).2 (Q2q bs)]
 simp only [Z94, Z4, decide_eq_true_eq]; omega
theorem zer_len (bs : List Bool) : zer bs bs.length + one bs bs.length = bs.length := by
 have := Q2Z bs bs.length (Z7 _)
 omega
section
variable (R D : List Nat) (hR : R.length ≤ 300) (hD : D.length ≤ 300) (bR : Qh R) (bD : Qh D) (P : List (Nat × Nat)) (hP : Q29 R D P) (r : Nat) (h1 : 1 ≤ r) (h64 : r ≤ 64)
include hR hD bR bD hP h1 h64
omit hP in
theorem relMade_eq : Q1d (ints R) (ints D) ((relX R D P r).2.2.1, (relX R D P r).2.2.2.1) ((relX R D P r).2.2.2.2.1, (relX R D P r).2.2.2.2.2.1) (relX R D P r).2.1 = some (relX R D P r, ints R, ints D) := by
 have l1 := Q0U R
 have l2 := Q0U D
 have f1 := fl1_len R P
 have f2 := fl2_len D P
 have u1 := Q3S (bwt R) (fl1 R P).length (wrds (fl1 R P)) (by omega) (Q2q _) (by omega)
 have u2 := Q3S (bwt D) (fl2 D P).length (wrds (fl2 D P)) (by omega) (Q2q _) (by omega)
 rw [Q33, f1] at u1
 rw [Q33, f2] at u2
 have a1 := Q2P (bwt R) (fl1 R P)
 have a2 := Q2P (bwt D) (fl2 D P)
 have v1 := Q3N (at0 (bwt R) (fl1 R P)) (by omega) fun y hy => by have := Q2O R bR y (Q3l _ _ y hy); omega
 have v2 := Q3N (at0 (bwt D) (fl2 D P)) (by omega) fun y hy => by have := Q2O D bD y (Q3l _ _ y hy); omega
 show Q1d (ints R) (ints D) (((R.length + 1 : Nat) : Int), ints (wrds (fl1 R P))) (((D.length + 1 : Nat) : Int), ints (wrds (fl2 D P))) (r : Int) = _
 rw [Q1d.eq, Q4k D hD bD r (by omega) h64, Z0, Q2L R hR bR, Z0]
 show (QQ _ (((R.length + 1 : Nat) : Int), ints (wrds (fl1 R P)))).bind _ = _
 rw [u1, Z0, v1, Z0, Q2L D hD bD, Z0]
 show (QQ _ (((D.length + 1 : Nat) : Int), ints (wrds (fl2 D P)))).bind _ = _
 rw [u2, Z0, v2, Z0]
 rfl
theorem relBack (f : FmT) (fi : QP f = some (ints R, true)) : Q0C (relX R D P r) f = some (ints D, true) := by
 have l1 := Q0U R
 have l2 := Q0U D
 have f1 := fl1_len R P
 have f2 := fl2_len D P
 have o1 := hP.one1
 have o2 := hP.one2
 have a1 := at0_len' (bwt R) (fl1 R P) (by omega)
 have a2 := at0_len' (bwt D) (fl2 D P) (by omega)
 have z2 := zer_len (fl2 D P)
 have hQ : ∀ y ∈ at0 (bwt D) (fl2 D P), y ≤ 511 := fun y hy => by have := Q2O D bD y (Q3l _ _ y hy); omega
 have hb := wave_back (at0 (bwt D) (fl2 D P)) (by omega) hQ
 have hYl : ∀ p ∈ (wLv 9 0 (at0 (bwt D) (fl2 D P))).2, p.2.length ≤ 1048576 := fun p hp => by rw [Q3R 9 0 _ p hp]; unfold nw; omega
 have hrd := Q59 ((at0 (bwt D) (fl2 D P)).length : Int) (ints (wLv 9 0 (at0 (bwt D) (fl2 D P))).1) (wLv 9 0 (at0 (bwt D) (fl2 D P))).2 hYl (Q3w [] 9 0 _)
 rw [hb.1, Qp] at hrd
 have hQe : ints (snds (rows ((wLv 9 0 (at0 (bwt D) (fl2 D P))).2.map lvb) (start ((at0 (bwt D) (fl2 D P)).length : Int).toNat))) = ints (at0 (bwt D) (fl2 D P)) := by
  have e : Q2C (at0 (bwt D) (fl2 D P)).length (wLv 9 0 (at0 (bwt D) (fl2 D P))).2 = _ := hb.2
  rw [Z5]
  exact congrArg ints e
 rw [hQe] at hrd
 have v1 := bits_valid (fl1 R P) (by omega)
 have v2 := bits_valid (fl2 D P) (by omega)
 have t1 := Q2q (fl1 R P)
 have t2 := Q2q (fl2 D P)
 have hp := Q5t (bwt R) (by omega) ((fl1 R P).length : Int) (wrds (fl1 R P)) ((fl2 D P).length : Int) (wrds (fl2 D P)) (at0 (bwt D) (fl2 D P)) (by rw [Q2c]; unfold nw; omega) t1.2.1 (by rw [Q2c]; unfold nw; omega) t2.2.1
 have hpo : pOkB (bwt R) ((fl1 R P).length : Int) (wrds (fl1 R P)) ((fl2 D P).length : Int) (wrds (fl2 D P)) (at0 (bwt D) (fl2 D P)) = true := by
  unfold pOkB
  rw [v1, v2, Z5, Z5, Q33, Q33, f1, f2, o1, o2]
  rw [f2] at a2
  rw [a2, decide_eq_true (by omega), decide_eq_true (by omega), decide_eq_true rfl, decide_eq_true rfl]
  rfl
 have hpv : pVal (bwt R) ((fl1 R P).length : Int) (wrds (fl1 R P)) ((fl2 D P).length : Int) (wrds (fl2 D P)) (at0 (bwt D) (fl2 D P)) = bwt D := by
  unfold pVal
  rw [Z5, Z5, Q33, Q33, hP.same]
  exact pat_back _ _ (by omega)
 rw [hpo, Qp, hpv, f1, f2] at hp
 have hm := relMade_eq R D hR hD bR bD P r h1 h64
 have hse := sameRel_eq (relX R D P r) (relX R D P r) 1000 (by omega) (relX_small R D hR hD P r)
 rw [decide_eq_true rfl] at hse
 rw [Q0C.eq]
 show (QP f).bind _ = _
 rw [fi, Z0]
 show (Qd (((at0 (bwt D) (fl2 D P)).length : Int), ints (wLv 9 0 (at0 (bwt D) (fl2 D P))).1, LI (wLv 9 0 (at0 (bwt D) (fl2 D P))).2)).bind _ = _
 rw [hrd, Z0, Z8, Q9, Q9]
 show (Q0T (r : Int)).bind _ = _
 rw [Q44, decide_eq_true (by omega), decide_eq_true (by omega), Z0, Z20, Z8, Q9]
 have hpt : Q1e (ints R) (((R.length + 1 : Nat) : Int), ints (wrds (fl1 R P))) (((D.length + 1 : Nat) : Int), ints (wrds (fl2 D P))) (ints (at0 (bwt D) (fl2 D P))) = some (ints D, true) := by
  rw [Q1e.eq, Q2L R hR bR, Z0]
  show (Qs (ints (bwt R)) (((R.length + 1 : Nat) : Int), ints (wrds (fl1 R P)), ((D.length + 1 : Nat) : Int), ints (wrds (fl2 D P)), ints (at0 (bwt D) (fl2 D P)))).bind _ = _
  rw [hp, Z0, Z8, Q9, Q58 (bwt D) (by omega) (Q2O D bD), bT_bwt]
  rfl
 show (Q1e (ints R) (((R.length + 1 : Nat) : Int), ints (wrds (fl1 R P))) (((D.length + 1 : Nat) : Int), ints (wrds (fl2 D P))) (ints (at0 (bwt D) (fl2 D P)))).bind _ = _
 rw [hpt, Z0, Qp, hm, Z0, hse, Z0]
end
end Go.Ev.W
/- Drawn inputs: a reader of bytes always gives something, within bounds. -/
set_option linter.unusedVariables false
set_option linter.unusedSimpArgs false
namespace Go.Ev.W
open Go.Ev
abbrev Cur := List Int × Int × Int
def QE (k : Nat) (c : Cur) : Prop := c.1.length ≤ 1048576 ∧ 0 ≤ c.2.1 ∧ c.2.1 ≤ k ∧ 0 ≤ c.2.2 ∧ c.2.2 ≤ 100000 ∧ ∀ x ∈ c.1, 0 ≤ x ∧ x ≤ 255
theorem QE.mono {k m : Nat} {c : Cur} (h : QE k c) (hm : k ≤ m) : QE m c := by
 obtain ⟨a, b, c, d⟩ := h
 exact ⟨a, b, by omega, d⟩
def Bytes (xs : List Int) : Prop := xs.length ≤ 1048576 ∧ ∀ x ∈ xs, 0 ≤ x ∧ x ≤ 255
theorem Q3m (x n : Int) (hx : 0 ≤ x) (hn : 0 < n) : 0 ≤ x.tmod n ∧ x.tmod n < n := by
 rw [Int.tmod_eq_emod_of_nonneg hx]
 exact ⟨Int.emod_nonneg _ (by omega), Int.emod_lt_of_pos _ hn⟩
theorem open_ok (xs : List Int) (h : Bytes xs) : ∃ c, Q1a xs = some c ∧ QE 0 c := by
 rw [Q1a.eq]
 have := Q3m (xs.length : Int) 1000 (by omega) (by omega)
 refine ⟨_, rfl, h.1, Int.le_refl _, Int.le_refl _, ?_, ?_, h.2⟩
 ·show 0 ≤ IntKind.i64.wrap _; rw [Qa (by omega) (by omega)]; omega
 ·show IntKind.i64.wrap _ ≤ _; rw [Qa (by omega) (by omega)]; omega
theorem Q03 {k : Nat} {c : Cur} (h : QE k c) (hk : k < 1000000000000) (n : Int) : ∃ x c', Qb c n = some (x, c') ∧ QE (k + 1) c' ∧ 0 ≤ x ∧ (x < n ∨ x = 0) := by
 obtain ⟨code, at_, seed⟩ := c
 obtain ⟨h1, h2, h3, h4, h5, h6⟩ := h
 simp only at h1 h2 h3 h4 h5 h6
 rw [Qb.eq]
 by_cases hn : n < 2
 ·rw [Q2 hn]
  exact ⟨0, _, rfl, ⟨h1, h2, by simp only; omega, h4, h5, h6⟩, Int.le_refl _, .inr rfl⟩
 rw [Q3 hn]
 have ha : IntKind.i64.wrap (at_ + 1) = at_ + 1 := Qa (by omega) (by omega)
 have s1 : IntKind.i64.wrap (seed * 1103) = seed * 1103 := Qa (by omega) (by omega)
 have s2 : IntKind.i64.wrap (seed * 1103 + 12345) = seed * 1103 + 12345 := Qa (by omega) (by omega)
 have s3 := Q3m (seed * 1103 + 12345) 65521 (by omega) (by omega)
 simp only [ha, s1, s2]
 generalize (seed * 1103 + 12345).tmod 65521 = s at s3
 by_cases hlt : at_ < (code.length : Int)
 ·obtain ⟨i, rfl⟩ : ∃ i : Nat, at_ = i := ⟨at_.toNat, by omega⟩
  have hi : i < code.length := by omega
  have hb := h6 _ (Z14 hi)
  rw [Q2 hlt, Q2J _ _ hi, Z0, Q3 (by omega), Qa (by omega) (by omega)]
  have := Q3m code[i] n hb.1 (by omega)
  exact ⟨_, _, rfl, ⟨h1, by simp only; omega, by simp only; omega, h4, h5, h6⟩, this.1, .inl this.2⟩
 ·rw [Q3 hlt]
  by_cases hc : (code.length : Int) > 0
  ·rw [Q2 hc, Q3 (by omega)]
   have hm := Q3m at_ code.length h2 (by omega)
   obtain ⟨i, hi⟩ : ∃ i : Nat, at_.tmod code.length = i := ⟨(at_.tmod code.length).toNat, by omega⟩
   rw [hi] at hm ⊢
   have hi : i < code.length := by omega
   have hb := h6 _ (Z14 hi)
   have hd : 0 ≤ s.tdiv 7 ∧ s.tdiv 7 ≤ s := by
    rw [Int.tdiv_eq_ediv_of_nonneg s3.1]; omega
   rw [Q2J _ _ hi, Z0, Q3 (by omega), Qa (x := s.tdiv 7) (by omega) (by omega), Qa (x := code[i]) (by omega) (by omega), Qa (by omega) (by omega)]
   have := Q3m (s.tdiv 7 + code[i]) n (by omega) (by omega)
   exact ⟨_, _, rfl, ⟨h1, by simp only; omega, by simp only; omega, s3.1, by simp only; omega, h6⟩, this.1, .inl this.2⟩
  ·rw [Q3 hc, Q3 (by omega)]
   have := Q3m 0 n (by omega) (by omega)
   exact ⟨_, _, rfl, ⟨h1, by simp only; omega, by simp only; omega, s3.1, by simp only; omega, h6⟩, this.1, .inl this.2⟩
theorem Q3d {k : Nat} {c : Cur} (h : QE k c) (hk : k < 1000000000000) (n : Int) : ∃ x c', Q09 c n = some (x, c') ∧ QE (k + 1) c' := by
 obtain ⟨x, c', e, h', _⟩ := Q03 h hk n
 rw [Q09.eq]
 simp only [Q1O, e, Z0]
 exact ⟨_, _, rfl, h'⟩
theorem size_ok {k : Nat} {c : Cur} (h : QE k c) (hk : k < 1000000000000) (n : Int) (hn : 0 ≤ n) (hn2 : n ≤ 1000000) : ∃ x c', Q1b c n = some (x, c') ∧ QE (k + 1) c' ∧ 0 ≤ x ∧ x ≤ n := by
 have hl := h.1
 have hd : (c.1.length : Int).tdiv 8 = (c.1.length : Int) / 8 := Int.tdiv_eq_ediv_of_nonneg (by omega)
 rw [Q1b.eq]
 simp only [Q1O]
 rw [hd, Qa (x := (c.1.length : Int) / 8) (by omega) (by omega), Qa (x := 1 + (c.1.length : Int) / 8) (by omega) (by omega)]
 obtain ⟨m, hm⟩ : ∃ m, m = (if 1 + (c.1.length : Int) / 8 < n then 1 + (c.1.length : Int) / 8 else n) := ⟨_, rfl⟩
 rw [← hm]
 have hmn : 0 ≤ m ∧ m ≤ n := by rw [hm]; split <;> omega
 rw [Qa (by omega) (by omega)]
 obtain ⟨x, c', e, h', h1, h2⟩ := Q03 h hk (m + 1)
 rw [e, Z0]
 exact ⟨x, c', rfl, h', h1, by omega⟩
theorem wide_ok {k : Nat} {c : Cur} (h : QE k c) (hk : k + 3 < 1000000000000) (n : Int) (hn : 0 < n) : ∃ x c', Q1G c n = some (x, c') ∧ QE (k + 3) c' ∧ 0 ≤ x ∧ x < n := by
 obtain ⟨x1, c1, e1, g1, a1, b1⟩ := Q03 h (by omega) 256
 obtain ⟨x2, c2, e2, g2, a2, b2⟩ := Q03 g1 (by omega) 256
 obtain ⟨x3, c3, e3, g3, a3, b3⟩ := Q03 g2 (by omega) 256
 rw [Q1G.eq]
 simp only [Q1O, e1, e2, e3, Z0]
 rw [Q3 (by omega), Qa (x := 65536 * x1) (by omega) (by omega), Qa (x := 256 * x2) (by omega) (by omega), Qa (x := 65536 * x1 + 256 * x2) (by omega) (by omega), Qa (by omega) (by omega)]
 have := Q3m (65536 * x1 + 256 * x2 + x3) n (by omega) hn
 exact ⟨_, _, rfl, g3, this.1, this.2⟩
theorem numbers_l0_ok (top : Int) : ∀ (m k : Nat) (c : Cur) (out : List Int), QE k c → k + 3 * m < 1000000000000 → out.length + m ≤ 1000000 → (∀ x ∈ out, 0 ≤ x ∧ x < max 1 top) →
  ∃ l c', Q0f_l0 top m c.1 c.2.1 c.2.2 out = some (l, c') ∧ QE (k + 3 * m) c' ∧ l.length = out.length + m ∧ ∀ x ∈ l, 0 ≤ x ∧ x < max 1 top := by
 intro m
 induction m with
 | zero =>
  intro k c out h hk ho hx
  rw [Q0f_l0.eq, Q3 (by omega)]
  exact ⟨out, c, rfl, h, rfl, hx⟩
 | succ m ih =>
  intro k c out h hk ho hx
  rw [Q0f_l0.eq, Q2 (by omega)]
  have e0 : (if top > 1 then top else 1) = max 1 top := by split <;> omega
  obtain ⟨x, c', e, h', h1, h2⟩ := wide_ok h (by omega) (max 1 top) (by omega)
  simp only [Q1O, e0, e, Z0]
  rw [Q2 (by simp only [Z2, Z6]; omega), Qa (by omega) (by omega), show ((m + 1 : Nat) : Int) - 1 = m by omega]
  obtain ⟨l, c2, e2, g1, g2, g3⟩ := ih (k + 3) c' (out ++ [x]) h' (by omega) (by simp; omega) (by
   intro y hy
   rcases Z28.1 hy with hy | hy
   ·exact hx y hy
   ·rw [Z40.1 hy]; exact ⟨h1, h2⟩)
  exact ⟨l, c2, e2, g1.mono (by omega), by rw [g2]; simp; omega, g3⟩
theorem numbers_ok {k : Nat} {c : Cur} (h : QE k c) (hk : k < 100000000000) (n top : Int) (hn : 0 ≤ n) (hn2 : n ≤ 1000000) : ∃ l c', Q0f c n top = some (l, c') ∧ QE (k + 3000001) c' ∧ (l.length : Int) ≤ n ∧ ∀ x ∈ l, 0 ≤ x ∧ x < max 1 top := by
 obtain ⟨x, c1, e1, g1, a1, b1⟩ := size_ok h (by omega) n hn hn2
 obtain ⟨m, rfl⟩ : ∃ m : Nat, x = m := ⟨x.toNat, by omega⟩
 rw [Q0f.eq]
 simp only [Q1O, e1, Z0]
 obtain ⟨l, c2, e2, h1, h2, h3⟩ := numbers_l0_ok top m (k + 1) c1 [] g1 (by omega) (by simp; omega) (by simp)
 exact ⟨l, c2, e2, h1.mono (by omega), by rw [h2]; simpa using b1, h3⟩
theorem Q2j {α : Type} (xs : List α) (x : Int) (h0 : 0 ≤ x) (h1 : x < xs.length) : ∃ y, at? xs x = some y ∧ xs[x.toNat]? = some y ∧ y ∈ xs := by
 have hlt : x.toNat < xs.length := by omega
 exact ⟨xs[x.toNat], by rw [at?_int _ _ h0, Z3 hlt], Z3 hlt, Z14 hlt⟩
theorem Q38 {k : Nat} {c : Cur} (h : QE k c) (hk : k < 100000000000) : ∃ x c', QS c = some (x, c') ∧ QE (k + 2) c' ∧ -9223372036854775808 ≤ x ∧ x ≤ 9223372036854775807 := by
 obtain ⟨x1, c1, e1, g1, a1, b1⟩ := Q03 h (by omega) 8
 rw [QS.eq]
 simp only [Q1O, e1, Z0]
 by_cases h1 : x1 = 0
 ·obtain ⟨x2, c2, e2, g2, a2, b2⟩ := Q03 g1 (by omega) 256
  rw [Q05 h1]
  simp only [e2, Z0]
  exact ⟨_, c2, rfl, g2, by rw [Qa (by omega) (by omega)]; omega, by rw [Qa (by omega) (by omega)]; omega⟩
 rw [Q0g h1]
 by_cases h2 : x1 = 1
 ·obtain ⟨x2, c2, e2, g2, a2, b2⟩ := Q03 g1 (by omega) 8
  rw [Q05 h2]
  simp only [e2, Z0]
  obtain ⟨y, y1, y2, y3⟩ := Q2j ([9223372036854775807, -9223372036854775808, 4611686018427387904, 4294967295, 4294967296, -1000, 1000, 257] : List Int) x2 a2 (by simp; omega)
  rw [y1, Z0, y2, Z0]
  refine ⟨y, c2, rfl, g2, ?_⟩
  simp only [Z13, Z101, or_false] at y3
  omega
 ·obtain ⟨x2, c2, e2, g2, a2, b2⟩ := Q03 g1 (by omega) 14
  rw [Q0g h2]
  simp only [e2, Z0]
  exact ⟨_, c2, rfl, g2, by rw [Qa (by omega) (by omega)]; omega, by rw [Qa (by omega) (by omega)]; omega⟩
end Go.Ev.W
/- Drawn inputs: rows of bits, packed numbers, texts, wavelet matrices: there is always something, within bounds. -/
set_option linter.unusedVariables false
set_option linter.unusedSimpArgs false
namespace Go.Ev.W
open Go.Ev
theorem pick2 (x : Int) (h0 : 0 ≤ x) (h1 : x < 2 ∨ x = 0) : ∃ b : Bool, x = bint b := by
 rcases Int.lt_or_le x 1 with h | h
 ·exact ⟨false, by show x = 0; omega⟩
 ·exact ⟨true, by show x = 1; omega⟩
theorem bool_ok (b : Bool) : Q0X b = some (bint b) := by rw [Q0X.eq]; cases b <;> rfl
theorem bints_snoc (bs : List Bool) (b : Bool) : Qe bs ++ [bint b] = Qe (bs ++ [b]) := by rw [← Q4j]; rfl
theorem row_l1 : ∀ (d k : Nat) (c : Cur) (bs : List Bool), QE k c → k + d + 1 < 100000000000 → bs.length + d = 5001 → ∃ bs' c', QZ_l1 c.1 c.2.1 c.2.2 (Qe bs) = some (Qe bs', c') ∧ QE (k + d + 1) c' ∧ bs'.length ≤ 5001 := by
 intro d
 induction d with
 | zero =>
  intro k c bs h hk hl
  obtain ⟨x, c1, e1, g1, a1, b1⟩ := Q03 h (by omega) 2
  rw [QZ_l1.eq]
  simp only [Q1O, e1, Z0]
  rw [Q2w, Qa (x := 5000 + x) (by omega) (by omega), Q3 (by omega)]
  exact ⟨bs, c1, rfl, g1.mono (by omega), by omega⟩
 | succ d ih =>
  intro k c bs h hk hl
  obtain ⟨x, c1, e1, g1, a1, b1⟩ := Q03 h (by omega) 2
  rw [QZ_l1.eq]
  simp only [Q1O, e1, Z0]
  rw [Q2w, Qa (x := 5000 + x) (by omega) (by omega)]
  by_cases hlt : (bs.length : Int) < 5000 + x
  ·have e2 : ((bs.length : Int).tmod 3).tdiv 2 = ((bs.length % 3 / 2 : Nat) : Int) := rfl
   obtain ⟨b, hb⟩ : ∃ b : Bool, IntKind.i64.wrap (((bs.length : Int).tmod 3).tdiv 2) = bint b := by
    rw [e2, Q32 (by omega)]
    exact pick2 _ (by omega) (.inl (by omega))
   rw [Q2 hlt, hb, Q2 (by simp only [Z2, Z6]; omega), bints_snoc]
   obtain ⟨bs', c', e3, g3, h3⟩ := ih (k + 1) c1 (bs ++ [b]) g1 (by omega) (by simp only [Z11, Z2, Z6]; omega)
   exact ⟨bs', c', e3, g3.mono (by omega), h3⟩
  ·rw [Q3 hlt]
   exact ⟨bs, c1, rfl, g1.mono (by omega), by omega⟩
theorem row_l0 (lean : Int) : ∀ (m k : Nat) (c : Cur) (bs : List Bool), QE k c → k + 2 * m + 5003 < 100000000000 → bs.length + m ≤ 5001 → ∃ bs' c', QZ_l0 lean m c.1 c.2.1 c.2.2 (Qe bs) = some (Qe bs', c') ∧ QE (k + 2 * m + 5003) c' ∧ bs'.length ≤ 5001 := by
 intro m
 induction m with
 | zero =>
  intro k c bs h hk hl
  obtain ⟨x, c1, e1, g1⟩ := Q3d h (by omega) 60
  rw [QZ_l0.eq, Q3 (by omega)]
  simp only [Q1O, e1, Z0]
  cases x with
  | false => exact ⟨bs, c1, rfl, g1.mono (by omega), by omega⟩
  | true =>
   rw [Qp]
   obtain ⟨bs', c', e2, g2, h2⟩ := row_l1 (5001 - bs.length) (k + 1) c1 bs g1 (by omega) (by omega)
   exact ⟨bs', c', e2, g2.mono (by omega), h2⟩
 | succ m ih =>
  intro k c bs h hk hl
  obtain ⟨x, c1, e1, g1, a1, b1⟩ := Q03 h (by omega) 2
  rw [QZ_l0.eq, Q2 (by omega)]
  simp only [Q1O, e1, Z0]
  rw [Qa (x := ((m + 1 : Nat) : Int) - 1) (by omega) (by omega), show ((m + 1 : Nat) : Int) - 1 = m by omega]
  by_cases h0 : lean = 0
  ·rw [Q05 h0]
   obtain ⟨y, c2, e2, g2⟩ := Q3d g1 (by omega) 9
   simp only [e2, Z0, bool_ok]
   rw [Q2 (by rw [Q2w]; simp only [Z2, Z6]; omega), bints_snoc]
   obtain ⟨bs', c', e3, g3, h3⟩ := ih (k + 2) c2 (bs ++ [y]) g2 (by omega) (by simp only [Z11, Z2, Z6]; omega)
   exact ⟨bs', c', e3, g3.mono (by omega), h3⟩
  ·rw [Q0g h0]
   obtain ⟨b, rfl⟩ := pick2 x a1 b1
   rw [Q2 (by rw [Q2w]; simp only [Z2, Z6]; omega), bints_snoc]
   obtain ⟨bs', c', e3, g3, h3⟩ := ih (k + 1) c1 (bs ++ [b]) g1 (by omega) (by simp only [Z11, Z2, Z6]; omega)
   exact ⟨bs', c', e3, g3.mono (by omega), h3⟩
theorem row_ok {k : Nat} {c : Cur} (h : QE k c) (hk : k < 10000000000) : ∃ bs c', QZ c = some (Qe bs, c') ∧ QE (k + 10000) c' ∧ bs.length ≤ 5001 := by
 obtain ⟨x1, c1, e1, g1, a1, b1⟩ := Q03 h (by omega) 4
 obtain ⟨x2, c2, e2, g2, a2, b2⟩ := Q03 g1 (by omega) 3
 obtain ⟨y, y1, y2, y3⟩ := Q2j ([5, 40, 140] : List Int) x2 a2 (by simp; omega)
 obtain ⟨x3, c3, e3, g3, a3, b3⟩ := Q03 g2 (by omega) y
 rw [QZ.eq]
 simp only [Q1O, e1, e2, Z0, y1, y2, e3]
 have hy : y ≤ 140 := by simp only [Z13, Z101, or_false] at y3; omega
 obtain ⟨m, rfl⟩ : ∃ m : Nat, x3 = m := ⟨x3.toNat, by omega⟩
 obtain ⟨bs', c', e4, g4, h4⟩ := row_l0 x1 m (k + 3) c3 [] g3 (by omega) (by simp; omega)
 exact ⟨bs', c', e4, g4.mono (by omega), h4⟩
theorem bitsOf_ok (bs : List Bool) : ∃ (n : Int) (W : List Nat) (b : Bool), Qo (Qe bs) = some ((n, ints W), b) ∧ W.length ≤ 79 ∧ ∀ x ∈ W, x < 2 ^ 64 := by
 by_cases h : bs.length ≤ 5000
 ·exact ⟨_, _, true, Q3J bs h, by rw [Q2c]; unfold nw; omega, (Q2q bs).2.1⟩
 ·refine ⟨0, [], false, ?_, by simp, by simp⟩
  rw [Qo.eq, Q2w, Q2 (by omega)]; rfl
theorem Q4Q {k : Nat} {c : Cur} (h : QE k c) (hk : k < 10000000000) : ∃ (n : Int) (W : List Nat) (c' : Cur), Q0Q c = some ((n, ints W), c') ∧ QE (k + 10010) c' ∧ W.length ≤ 80 ∧ ∀ x ∈ W, x < 2 ^ 64 := by
 obtain ⟨bs, c1, e1, g1, h1⟩ := row_ok h hk
 obtain ⟨n, W, b, e2, l2, w2⟩ := bitsOf_ok bs
 obtain ⟨x, c2, e3, g3, a3, b3⟩ := Q03 g1 (by omega) 14
 rw [Q0Q.eq]
 simp only [Q1O, e1, Z0, e2, e3]
 by_cases q0 : x = 0
 ·rw [Q05 q0]
  obtain ⟨z, c4, e4, g4, _⟩ := Q38 g3 (by omega)
  obtain ⟨z5, c5, e5, g5, a5, b5⟩ := Q03 g4 (by omega) 3
  obtain ⟨y, y1, y2, y3⟩ := Q2j ([z, IntKind.i64.wrap (n + 1), IntKind.i64.wrap (n - 1)] : List Int) z5 a5 (by simp; omega)
  simp only [e4, Z0, e5, y1, y2]
  exact ⟨y, W, c5, rfl, g5.mono (by omega), by omega, w2⟩
 rw [Q0g q0]
 by_cases q1 : x = 1
 ·rw [Q05 q1]
  obtain ⟨z5, c5, e5, g5, a5, b5⟩ := Q03 g3 (by omega) 2
  obtain ⟨m, rfl⟩ : ∃ m : Nat, z5 = m := ⟨z5.toNat, by omega⟩
  simp only [e5, Z0]
  rw [wrapUn (by omega), Q2 (by rw [Q8]; simp only [Z2, Z6]; omega), Q2H]
  refine ⟨n, W ++ [m], c5, rfl, g5.mono (by omega), by simp; omega, fun x hx => ?_⟩
  rcases Z28.1 hx with hx | hx
  ·exact w2 x hx
  ·rw [Z40.1 hx]; omega
 rw [Q0g q1]
 by_cases q2 : x = 2
 ·rw [Q05 q2, Q8]
  by_cases hW : (W.length : Int) > 0
  ·rw [Q2 hW]
   obtain ⟨z5, c5, e5, g5, a5, b5⟩ := Q03 g3 (by omega) W.length
   obtain ⟨m, rfl⟩ : ∃ m : Nat, z5 = m := ⟨z5.toNat, by omega⟩
   have hm : m < W.length := by omega
   simp only [e5, Z0]
   rw [Q0R W m hm, Z0, Z5, Q2B W m hm, Z0]
   refine ⟨n, W.set m 18446744073709551615, c5, ?_, g5.mono (by omega), by rw [Z93]; omega, fun x hx => ?_⟩
   ·rw [← ints_set]; rfl
   ·rcases List.mem_or_eq_of_mem_set hx with hx | hx
    ·exact w2 x hx
    ·rw [hx]; decide
  ·rw [Q3 hW]
   exact ⟨n, W, c2, rfl, g3.mono (by omega), by omega, w2⟩
 ·rw [Q0g q2]
  exact ⟨n, W, c2, rfl, g3.mono (by omega), by omega, w2⟩
theorem nums_ok {k : Nat} {c : Cur} (h : QE k c) (hk : k < 100000000000) (n : Nat) (hn : n ≤ 1000) (top : Int) : ∃ (X : List Nat) (c' : Cur), Q0f c n top = some (ints X, c') ∧ QE (k + 3000001) c' ∧ X.length ≤ n ∧ ∀ x ∈ X, (x : Int) < max 1 top := by
 obtain ⟨l, c', e, g, h1, h2⟩ := numbers_ok h hk n top (by omega) (by omega)
 obtain ⟨X, rfl, hX⟩ := ints_of l (max 1 top).toNat fun x hx => ⟨(h2 x hx).1, by have := (h2 x hx).2; omega⟩
 rw [Q8] at h1
 exact ⟨X, c', e, g, by omega, fun x hx => by have := hX x hx; omega⟩
theorem badPacked_ok {k : Nat} {c : Cur} (h : QE k c) (hk : k < 1000000000) : ∃ (w n b : Int) (W : List Nat) (c' : Cur), Q1H c = some ((w, n, b, ints W), c') ∧ QE (k + 4000000) c' ∧ W.length ≤ 80 ∧ ∀ x ∈ W, x < 2 ^ 64 := by
 obtain ⟨x1, c1, e1, g1, a1, b1⟩ := Q03 h (by omega) 5
 obtain ⟨y, y1, y2, y3⟩ := Q2j ([0, 1, 3, 7, 24] : List Int) x1 a1 (by simp; omega)
 obtain ⟨w, rfl⟩ : ∃ w : Nat, y = w := ⟨y.toNat, by simp only [Z13, Z101, or_false] at y3; omega⟩
 have hw : w ≤ 24 := by simp only [Z13, Z101, or_false] at y3; omega
 have hp := Nat.two_pow_pos w
 obtain ⟨X, c2, e2, g2, l2, x2⟩ := nums_ok g1 (by omega) 20 (by omega) ((2 ^ w : Nat) : Int)
 have hXw : X.length * w ≤ 20 * 24 := Nat.mul_le_mul l2 hw
 have hpk := Q5a w (by omega) X (by omega) (by omega) (fun x hx => by have := x2 x hx; omega)
 have hpl := pk_words w X
 obtain ⟨x3, c3, e3, g3, a3, b3⟩ := Q03 g2 (by omega) 12
 have hpw : ∀ x ∈ wrds (dgs w X), x < 2 ^ 64 := (Q2q _).2.1
 have hwl : (wrds (dgs w X)).length ≤ 79 := by rw [Q2c, Q3j]; unfold nw; omega
 rw [Q1H.eq]
 have e2' : Q0f c1 20 ((2 ^ w : Nat) : Int) = some (ints X, c2) := e2
 simp only [Q1O, e1, Z0, y1, y2, l02Pow_eq w (by omega), e2', hpk, e3]
 unfold pk
 by_cases q0 : x3 = 0
 ·rw [Q05 q0]
  obtain ⟨z, c4, e4, g4, _⟩ := Q38 g3 (by omega)
  obtain ⟨z5, c5, e5, g5, a5, b5⟩ := Q03 g4 (by omega) 3
  obtain ⟨y, y1, y2, y3⟩ := Q2j ([z, 32, 33] : List Int) z5 a5 (by simp; omega)
  simp only [e4, Z0, e5, y1, y2]
  exact ⟨_, _, _, _, c5, rfl, g5.mono (by omega), by omega, hpw⟩
 rw [Q0g q0]
 by_cases q1 : x3 = 1
 ·rw [Q05 q1]
  obtain ⟨z, c4, e4, g4, _⟩ := Q38 g3 (by omega)
  obtain ⟨z5, c5, e5, g5, a5, b5⟩ := Q03 g4 (by omega) 2
  obtain ⟨y, y1, y2, y3⟩ := Q2j ([z, IntKind.i64.wrap ((X.length : Int) + 1)] : List Int) z5 a5 (by simp; omega)
  simp only [e4, Z0, e5, y1, y2]
  exact ⟨_, _, _, _, c5, rfl, g5.mono (by omega), by omega, hpw⟩
 rw [Q0g q1]
 by_cases q2 : x3 = 2
 ·rw [Q05 q2]
  obtain ⟨n, W, c5, e5, g5, l5, w5⟩ := Q4Q g3 (by omega)
  simp only [e5, Z0]
  exact ⟨_, _, _, _, c5, rfl, g5.mono (by omega), by omega, w5⟩
 ·rw [Q0g q2]
  exact ⟨_, _, _, _, c3, rfl, g3.mono (by omega), by omega, hpw⟩
end Go.Ev.W
/- Drawn inputs: texts, wavelet matrices, indexes: there is always something, within bounds. -/
set_option linter.unusedVariables false
set_option linter.unusedSimpArgs false
namespace Go.Ev.W
open Go.Ev
theorem ba_at (A : ByteArray) (x : Int) (h0 : 0 ≤ x) (h1 : x < A.size) : ∃ u : UInt8, at? A.data.toList x = some u := by
 have hs : A.data.toList.length = A.size := Z38
 obtain ⟨y, y1, _, _⟩ := Q2j A.data.toList x h0 (by rw [hs]; exact h1)
 exact ⟨y, y1⟩
theorem Qh.app {A B : List Nat} (h : Qh A) (g : Qh B) : Qh (A ++ B) := fun x hx => (Z28.1 hx).elim (h x) (g x)
theorem textOf_l0 (n : Nat) (hn : n ≤ 1000) (A : ByteArray) (hA : 1 ≤ A.size) : ∀ (m k : Nat) (c : Cur) (D : List Nat), QE k c → k + 3 * m < 100000000000 → D.length + 6 * m ≤ 1000000 → Qh D →
  ∃ (D' : List Nat) (c' : Cur), QC_l0 n A m c.1 c.2.1 c.2.2 (ints D) = some (ints D', c') ∧ QE (k + 3 * m) c' ∧ D'.length ≤ n ∧ Qh D' := by
 intro m
 induction m with
 | zero =>
  intro k c D h hk hl hD
  rw [QC_l0.eq, Q3 (by omega), Q8]
  by_cases hlt : (D.length : Int) > n
  ·rw [Q2 hlt, Q2 (by omega), Z5, Nat.sub_zero, Q3x]
   exact ⟨D.take n, c, rfl, h, by rw [Z9]; omega, fun x hx => hD x (Z106 hx)⟩
  ·rw [Q3 hlt]
   exact ⟨D, c, rfl, h, by omega, hD⟩
 | succ m ih =>
  intro k c D h hk hl hD
  have letter : ∀ (k' : Nat) (c' : Cur), QE k' c' → k' ≤ k + 1 → ∃ (D' : List Nat) (c2 : Cur), ((Qb (c'.1, c'.2.1, c'.2.2) (A.size : Int)).bind fun y6 =>
    (at? A.data.toList y6.1).bind fun y7 =>
    bif decide (((ints D).length + ([(y7.toNat : Int)] : List Int).length) * 1 ≤ 140737488355328) then
     QC_l0 n A m y6.2.1 y6.2.2.1 y6.2.2.2 (ints D ++ ([(y7.toNat : Int)] : List Int))
    else
     none) = some (ints D', c2) ∧ QE (k + 3 * (m + 1)) c2 ∧ D'.length ≤ n ∧ Qh D' := by
   intro k' c' h' hk'
   obtain ⟨x, c1, e1, g1, a1, b1⟩ := Q03 h' (by omega) (A.size : Int)
   obtain ⟨u, hu⟩ := ba_at A x a1 (by omega)
   have hu2 : u.toNat < 256 := u.toNat_lt
   simp only [Q1O, e1, Z0, hu]
   rw [Q2 (by rw [Q8]; simp only [Z2, Z6]; omega), Q2H]
   obtain ⟨D', c2, e2, g2, l2, b2⟩ := ih (k' + 1) c1 (D ++ [u.toNat]) g1 (by omega) (by simp only [Z11, Z2, Z6]; omega) (hD.app fun x hx => by rw [Z40.1 hx]; exact hu2)
   exact ⟨D', c2, e2, g2.mono (by omega), l2, b2⟩
  rw [QC_l0.eq, Q2 (by omega)]
  have em : IntKind.i64.wrap (((m + 1 : Nat) : Int) - 1) = m := by rw [Qa (by omega) (by omega)]; omega
  simp only [em]
  by_cases h3 : ((ints D).length : Int) > 3
  ·rw [Q2 h3]
   rw [Q8] at h3
   obtain ⟨b, c1, e1, g1⟩ := Q3d h (by omega) 6
   simp only [Q1O, e1, Z0]
   cases b with
   | false =>
    rw [Q9]
    exact letter (k + 1) c1 g1 (by omega)
   | true =>
    rw [Qp]
    obtain ⟨x2, c2, e2, g2, a2, b2⟩ := Q03 g1 (by omega) ((ints D).length : Int)
    obtain ⟨x3, c3, e3, g3, a3, b3⟩ := Q03 g2 (by omega) 6
    simp only [Q1O, e2, e3, Z0]
    rw [Q8] at b2
    rw [Qa (x := x2 + 1) (by omega) (by omega), Qa (x := x2 + 1 + x3) (by omega) (by omega)]
    obtain ⟨t, ht⟩ : ∃ t, t = (if x2 + 1 + x3 < ((ints D).length : Int) then x2 + 1 + x3 else ((ints D).length : Int)) := ⟨_, rfl⟩
    rw [← ht]
    have ht2 : x2 ≤ t ∧ t ≤ (D.length : Int) ∧ t ≤ x2 + 6 := by
     rw [Q8] at ht
     rw [ht]; split <;> omega
    have hsub : ((ints D).drop x2.toNat).take (t.toNat - x2.toNat) = ints ((D.drop x2.toNat).take (t.toNat - x2.toNat)) := by rw [Q4l, Q3x]
    have hsl : ((D.drop x2.toNat).take (t.toNat - x2.toNat)).length ≤ 6 := by rw [Z9]; omega
    rw [Q8, Q2 (by omega), Q2 (by omega), hsub, Q8, Q2 (by omega), show ints D ++ ints ((D.drop x2.toNat).take (t.toNat - x2.toNat)) = ints (D ++ (D.drop x2.toNat).take (t.toNat - x2.toNat)) from Z15.symm]
    obtain ⟨D', c4, e4, g4, l4, b4⟩ := ih (k + 3) c3 (D ++ (D.drop x2.toNat).take (t.toNat - x2.toNat)) g3 (by omega) (by rw [Z11]; omega) (hD.app fun x hx => hD x (Z105 (Z106 hx)))
    exact ⟨D', c4, e4, g4.mono (by omega), l4, b4⟩
  ·rw [Q3 h3]
   exact letter k c h (by omega)
theorem Q4n {k : Nat} {c : Cur} (h : QE k c) (hk : k < 10000000000) (n : Nat) (hn : n ≤ 100) : ∃ (D : List Nat) (c' : Cur), QC c n = some (ints D, c') ∧ QE (k + 1000) c' ∧ D.length ≤ n ∧ Qh D := by
 obtain ⟨x1, c1, e1, g1, a1, b1⟩ := Q03 h (by omega) 5
 obtain ⟨y, y1, y2, y3⟩ := Q2j ([(⟨#[97]⟩ : ByteArray), (⟨#[97, 98]⟩ : ByteArray), (⟨#[97, 98, 99]⟩ : ByteArray), (⟨#[97, 99, 103, 116]⟩ : ByteArray), (⟨#[0, 255]⟩ : ByteArray)] : List ByteArray) x1 a1 (by simp; omega)
 obtain ⟨x2, c2, e2, g2, a2, b2⟩ := size_ok g1 (by omega) n (by omega) (by omega)
 obtain ⟨m, rfl⟩ : ∃ m : Nat, x2 = m := ⟨x2.toNat, by omega⟩
 have hA : 1 ≤ y.size := by
  simp only [Z13, Z101, or_false] at y3
  rcases y3 with rfl | rfl | rfl | rfl | rfl <;> decide
 rw [QC.eq]
 simp only [Q1O, e1, Z0, y1, y2, e2]
 obtain ⟨D, c3, e3, g3, l3, b3⟩ := textOf_l0 n (by omega) y hA m (k + 2) c2 [] g2 (by omega) (by simp; omega) (fun x hx => by cases hx)
 exact ⟨D, c3, e3, g3.mono (by omega), l3, b3⟩
theorem rate_ok {k : Nat} {c : Cur} (h : QE k c) (hk : k < 10000000000) : ∃ (r : Nat) (c' : Cur), Q0P c = some ((r : Int), c') ∧ QE (k + 1) c' ∧ 1 ≤ r ∧ r ≤ 64 := by
 obtain ⟨x1, c1, e1, g1, a1, b1⟩ := Q03 h (by omega) 5
 obtain ⟨y, y1, y2, y3⟩ := Q2j ([1, 2, 3, 8, 64] : List Int) x1 a1 (by simp; omega)
 have hy : 1 ≤ y ∧ y ≤ 64 := by simp only [Z13, Z101, or_false] at y3; omega
 obtain ⟨r, rfl⟩ : ∃ r : Nat, y = r := ⟨y.toNat, by omega⟩
 rw [Q0P.eq]
 simp only [Q1O, e1, Z0, y1, y2]
 exact ⟨r, c1, rfl, g1, by omega, by omega⟩
def LvIn (L : List (Int × List Nat)) : Prop := L.length ≤ 9 ∧ ∀ p ∈ L, p.2.length ≤ 80 ∧ ∀ x ∈ p.2, x < 2 ^ 64
theorem wave_l0 {k : Nat} {c : Cur} (h : QE k c) (hk : k < 1000000000) (v3 : Int) (v4 : List Int) (v5 : Lv) (X : List Nat) (hX : X.length ≤ 100) (hx : ∀ x ∈ X, x ≤ 511) :
  ∃ (n : Int) (Z : List Int) (L : List (Int × List Nat)) (c' : Cur), Q0n_l0 c.1 c.2.1 c.2.2 v3 v4 v5 (ints X) = some ((n, Z, LI L), c') ∧ QE (k + 20000) c' ∧ Z.length ≤ 10 ∧ LvIn L := by
 have hlen := wLv_len 9 0 X
 have hZ : (ints (wLv 9 0 X).1).length = 9 := by rw [Q8]; exact hlen.1
 have hLl : (LI (wLv 9 0 X).2).length = 9 := (Z1 ..).trans hlen.2
 have hin : LvIn (wLv 9 0 X).2 := ⟨by omega, fun p hp => ⟨by rw [Q3R 9 0 X p hp]; unfold nw; omega, Q3w X 9 0 X p hp⟩⟩
 obtain ⟨x1, c1, e1, g1, a1, b1⟩ := Q03 h (by omega) 14
 rw [Q0n_l0.eq, Q4i X (by omega) hx]
 simp only [Q1O, e1, Z0]
 by_cases q0 : x1 = 0
 ·rw [Q05 q0]
  obtain ⟨x2, c2, e2, g2, _⟩ := Q03 g1 (by omega) 3
  simp only [e2, Z0]
  exact ⟨_, _, _, c2, rfl, g2.mono (by omega), by omega, hin⟩
 rw [Q0g q0]
 by_cases q1 : x1 = 1
 ·rw [Q05 q1]
  obtain ⟨x2, c2, e2, g2, a2, b2⟩ := Q03 g1 (by omega) 9
  obtain ⟨x3, c3, e3, g3, _⟩ := Q38 g2 (by omega)
  obtain ⟨y, y1, y2, y3⟩ := Q2j (ints (wLv 9 0 X).1) x2 a2 (by omega)
  simp only [e2, e3, Z0, y1, y2]
  exact ⟨_, _, _, c3, rfl, g3.mono (by omega), by rw [Z93]; omega, hin⟩
 rw [Q0g q1]
 by_cases q2 : x1 = 2
 ·rw [Q05 q2]
  obtain ⟨x2, c2, e2, g2, a2, b2⟩ := Q03 g1 (by omega) 9
  obtain ⟨n, W, c3, e3, g3, l3, w3⟩ := Q4Q g2 (by omega)
  obtain ⟨y, y1, y2, y3⟩ := Q2j (LI (wLv 9 0 X).2) x2 a2 (by omega)
  simp only [e2, e3, Z0, y1, y2]
  refine ⟨(X.length : Int), ints (wLv 9 0 X).1, (wLv 9 0 X).2.set x2.toNat (n, W), c3, ?_, g3.mono (by omega), by omega, by rw [Z93]; omega, fun p hp => ?_⟩
  ·have : (LI (wLv 9 0 X).2).set x2.toNat (n, ints W) = LI ((wLv 9 0 X).2.set x2.toNat (n, W)) := (List.map_set (f := fun p : Int × List Nat => (p.1, ints p.2)) (l := (wLv 9 0 X).2) (i := x2.toNat) (a := (n, W))).symm
   rw [this]
  ·rcases List.mem_or_eq_of_mem_set hp with hp | hp
   ·exact hin.2 p hp
   ·rw [hp]; exact ⟨l3, w3⟩
 rw [Q0g q2]
 by_cases q3 : x1 = 3
 ·rw [Q05 q3]
  obtain ⟨x2, c2, e2, g2, a2, b2⟩ := Q03 g1 (by omega) 9
  simp only [e2, Z0]
  rw [Q2 (by omega)]
  refine ⟨(X.length : Int), ints (wLv 9 0 X).1, (wLv 9 0 X).2.take (x2.toNat - 0), c2, ?_, g2.mono (by omega), by omega, by rw [Z9]; omega, fun p hp => hin.2 p (Z106 hp)⟩
  have : (LI (wLv 9 0 X).2).take (x2.toNat - 0) = LI ((wLv 9 0 X).2.take (x2.toNat - 0)) := (Z92).symm
  rw [this]
 rw [Q0g q3]
 by_cases q4 : x1 = 4
 ·rw [Q05 q4, hZ, Q2 (by simp only [Z2, Z6]; omega)]
  exact ⟨_, _, _, c1, rfl, g1.mono (by omega), by rw [Z11, hZ]; simp, hin⟩
 ·rw [Q0g q4]
  exact ⟨_, _, _, c1, rfl, g1.mono (by omega), by omega, hin⟩
theorem wave_ok {k : Nat} {c : Cur} (h : QE k c) (hk : k < 100000000) : ∃ (n : Int) (Z : List Int) (L : List (Int × List Nat)) (c' : Cur), Q0n c = some ((n, Z, LI L), c') ∧ QE (k + 4000000) c' ∧ Z.length ≤ 10 ∧ LvIn L := by
 obtain ⟨x1, c1, e1, g1, a1, b1⟩ := Q03 h (by omega) 3
 obtain ⟨y, y1, y2, y3⟩ := Q2j ([3, 100, 512] : List Int) x1 a1 (by simp; omega)
 have hy : 1 ≤ y ∧ y ≤ 512 := by simp only [Z13, Z101, or_false] at y3; omega
 obtain ⟨X, c2, e2, g2, l2, x2⟩ := nums_ok g1 (by omega) 24 (by omega) y
 obtain ⟨b, c3, e3, g3⟩ := Q3d g2 (by omega) 3
 have e2' : Q0f c1 24 y = some (ints X, c2) := e2
 rw [Q0n.eq]
 simp only [Q1O, e1, Z0, y1, y2, e2', e3]
 cases b with
 | false =>
  rw [Q9]
  obtain ⟨n, Z, L, c4, e4, g4, h4⟩ := wave_l0 g3 (by omega) 0 [] [] X (by omega) (fun x hx => by have := x2 x hx; omega)
  exact ⟨n, Z, L, c4, e4, g4.mono (by omega), h4⟩
 | true =>
  rw [Qp]
  obtain ⟨D, c4, e4, g4, l4, b4⟩ := Q4n g3 (by omega) 24 (by omega)
  have e4' : QC c3 24 = some (ints D, c4) := e4
  simp only [e4', Z0]
  rw [Q3a D (by omega) b4, Z0]
  obtain ⟨n, Z, L, c5, e5, g5, h5⟩ := wave_l0 g4 (by omega) 0 [] [] (bwt D) (by rw [Q0U]; omega) (fun x hx => by have := Q2O D b4 x hx; omega)
  exact ⟨n, Z, L, c5, e5, g5.mono (by omega), h5⟩
def FmIn (f : FmT) : Prop := SmFm f 1048576 ∧ ∀ p ∈ f.2.2.2.2.1, ∀ x ∈ p.2, 0 ≤ x ∧ x < ((2 ^ 64 : Nat) : Int)
theorem LvIn.words {L : List (Int × List Nat)} (h : LvIn L) : (LI L).length ≤ 9 ∧ (∀ p ∈ LI L, p.2.length ≤ 80) ∧ ∀ p ∈ LI L, ∀ x ∈ p.2, 0 ≤ x ∧ x < ((2 ^ 64 : Nat) : Int) := by
 refine ⟨by rw [Z1]; exact h.1, fun p hp => ?_, fun p hp x hx => ?_⟩
 ·obtain ⟨q, hq, rfl⟩ := Z16.1 hp
  rw [Q8]; exact (h.2 q hq).1
 ·obtain ⟨q, hq, rfl⟩ := Z16.1 hp
  obtain ⟨y, hy, rfl⟩ := Z16.1 hx
  have := (h.2 q hq).2 y hy
  omega
theorem fm_ok {k : Nat} {c : Cur} (h : QE k c) (hk : k < 10000000) : ∃ (f : FmT) (c' : Cur), Q1c c = some (f, c') ∧ QE (k + 5000000) c' ∧ FmIn f := by
 obtain ⟨D, c1, e1, g1, l1, b1⟩ := Q4n h (by omega) 24 (by omega)
 have e1' : QC c 24 = some (ints D, c1) := e1
 obtain ⟨r, c2, e2, g2, r1, r2⟩ := rate_ok g1 (by omega)
 have e3 := Q3Q D (by omega) b1 r (by omega) r2
 obtain ⟨x, c4, e4, g4, a4, b4⟩ := Q03 g2 (by omega) 16
 have hs := Q47 D (by omega) r
 have hw := fmV_words D r
 have hC : (fmV D r).2.2.2.2.2.1.length = 258 := by show (ints _).length = _; rw [Q8, Z1, Z41]
 obtain ⟨f, hf⟩ : ∃ f, f = fmV D r := ⟨_, rfl⟩
 rw [← hf] at e3 hs hw hC
 obtain ⟨z, l, w, cc, m, s, i⟩ := hs
 rw [Q1c.eq]
 simp only [Q1O, e1', Z0, e2, e3, e4]
 by_cases q0 : x = 0
 ·rw [Q05 q0]
  obtain ⟨x5, c5, e5, g5, _⟩ := Q03 g4 (by omega) 3
  simp only [e5, Z0]
  exact ⟨_, c5, rfl, g5.mono (by omega), ⟨by simp only; omega, by simp only; omega, fun p hp => by have := w p hp; omega, by simp only; omega, by simp only; omega, by simp only; omega, by simp only; omega⟩, hw⟩
 rw [Q0g q0]
 by_cases q1 : x = 1
 ·rw [Q05 q1]
  obtain ⟨x5, c5, e5, g5, _⟩ := Q38 g4 (by omega)
  obtain ⟨x6, c6, e6, g6, a6, b6⟩ := Q03 g5 (by omega) 4
  obtain ⟨y, y1, y2, y3⟩ := Q2j ([x5, 64, 65, 2] : List Int) x6 a6 (by simp; omega)
  simp only [e5, e6, Z0, y1, y2]
  exact ⟨_, c6, rfl, g6.mono (by omega), ⟨by simp only; omega, by simp only; omega, fun p hp => by have := w p hp; omega, by simp only; omega, by simp only; omega, by simp only; omega, by simp only; omega⟩, hw⟩
 rw [Q0g q1]
 by_cases q2 : x = 2
 ·rw [Q05 q2]
  obtain ⟨n, Z, L, c5, e5, g5, hZ, hL⟩ := wave_ok g4 (by omega)
  obtain ⟨k1, k2, k3⟩ := hL.words
  simp only [e5, Z0]
  exact ⟨_, c5, rfl, g5.mono (by omega), ⟨by simp only; omega, by simp only; omega, fun p hp => by have := k2 p hp; omega, by simp only; omega, by simp only; omega, by simp only; omega, by simp only; omega⟩, k3⟩
 rw [Q0g q2]
 by_cases q3 : x = 3
 ·rw [Q05 q3]
  obtain ⟨x5, c5, e5, g5, a5, b5⟩ := Q03 g4 (by omega) 250
  obtain ⟨x6, c6, e6, g6, _⟩ := Q38 g5 (by omega)
  obtain ⟨y, y1, y2, y3⟩ := Q2j f.2.2.2.2.2.1 x5 a5 (by omega)
  simp only [e5, e6, Z0, y1, y2]
  exact ⟨_, c6, rfl, g6.mono (by omega), ⟨by simp only; omega, by simp only; omega, fun p hp => by have := w p hp; omega, by simp only [Z93]; omega, by simp only; omega, by simp only; omega, by simp only; omega⟩, hw⟩
 rw [Q0g q3]
 by_cases q4 : x = 4
 ·rw [Q05 q4]
  obtain ⟨n, W, c5, e5, g5, l5, _⟩ := Q4Q g4 (by omega)
  simp only [e5, Z0]
  have hl : (ints W).length ≤ 80 := by rw [Q8]; exact l5
  exact ⟨_, c5, rfl, g5.mono (by omega), ⟨by simp only; omega, by simp only; omega, fun p hp => by have := w p hp; omega, by simp only; omega, by simp only; omega, by simp only; omega, by simp only; omega⟩, hw⟩
 rw [Q0g q4]
 by_cases q5 : x = 5
 ·rw [Q05 q5]
  obtain ⟨u, n, b, W, c5, e5, g5, l5, _⟩ := badPacked_ok g4 (by omega)
  simp only [e5, Z0]
  have hl : (ints W).length ≤ 80 := by rw [Q8]; exact l5
  exact ⟨_, c5, rfl, g5.mono (by omega), ⟨by simp only; omega, by simp only; omega, fun p hp => by have := w p hp; omega, by simp only; omega, by simp only; omega, by simp only; omega, by simp only; omega⟩, hw⟩
 rw [Q0g q5]
 by_cases q6 : x = 6
 ·rw [Q05 q6]
  exact ⟨_, c4, rfl, g4.mono (by omega), ⟨by simp only; omega, by simp only; omega, fun p hp => by have := w p hp; omega, by simp only; omega, by simp only; omega, by simp only; omega, by simp only; omega⟩, hw⟩
 ·rw [Q0g q6]
  exact ⟨_, c4, rfl, g4.mono (by omega), ⟨by omega, by omega, fun p hp => by have := w p hp; omega, by omega, by omega, by omega, by omega⟩, hw⟩
theorem pattern_ok {k : Nat} {c : Cur} (h : QE k c) (hk : k < 1000000000) (T : List Nat) (hT : T.length ≤ 1000) (hb : Qh T) : ∃ (P : List Nat) (c' : Cur), Q1L c (ints T) = some (ints P, c') ∧ QE (k + 2000) c' ∧ P.length ≤ 20 ∧ Qh P := by
 rw [Q1L.eq]
 have small : ∀ (k' : Nat) (c2 : Cur), QE k' c2 → k' ≤ k + 1 → ∃ (P : List Nat) (c' : Cur), ((QC c2 4).bind fun y5 => some (y5.1, y5.2)) = some (ints P, c') ∧ QE (k + 2000) c' ∧ P.length ≤ 20 ∧ Qh P := by
  intro k' c2 h2 hk2
  obtain ⟨D, c3, e3, g3, l3, b3⟩ := Q4n h2 (by omega) 4 (by omega)
  have e3' : QC c2 4 = some (ints D, c3) := e3
  rw [e3']
  exact ⟨D, c3, rfl, g3.mono (by omega), by omega, b3⟩
 by_cases h0 : ((ints T).length : Int) > 0
 ·rw [Q2 h0]
  rw [Q8] at h0
  obtain ⟨b, c1, e1, g1⟩ := Q3d h (by omega) 4
  rw [e1, Z0]
  cases b with
  | true =>
   rw [Z8, Q9]
   exact small (k + 1) c1 g1 (by omega)
  | false =>
   rw [Z49, Qp]
   obtain ⟨x2, c2, e2, g2, a2, b2⟩ := Q03 g1 (by omega) (if ((ints T).length : Int) < (256 : Int) then ((ints T).length : Int) else (256 : Int))
   obtain ⟨x3, c3, e3, g3, a3, b3⟩ := Q03 g2 (by omega) 6
   rw [e2, Z0, e3, Z0]
   simp only
   have hx2 : x2 < T.length := by
    rw [Q8] at b2
    split at b2 <;> omega
   rw [Qa (x := x2 + x3) (by omega) (by omega)]
   obtain ⟨t, ht⟩ : ∃ t, t = (if x2 + x3 < ((ints T).length : Int) then x2 + x3 else ((ints T).length : Int)) := ⟨_, rfl⟩
   rw [← ht]
   have ht2 : x2 ≤ t ∧ t ≤ (T.length : Int) ∧ t ≤ x2 + 6 := by
    rw [Q8] at ht
    rw [ht]; split <;> omega
   have hsub : ((ints T).drop x2.toNat).take (t.toNat - x2.toNat) = ints ((T.drop x2.toNat).take (t.toNat - x2.toNat)) := by rw [Q4l, Q3x]
   have hsl : ((T.drop x2.toNat).take (t.toNat - x2.toNat)).length ≤ 6 := by rw [Z9]; omega
   have hbs : Qh ((T.drop x2.toNat).take (t.toNat - x2.toNat)) := fun x hx => hb x (Z105 (Z106 hx))
   obtain ⟨b4, c4, e4, g4⟩ := Q3d g3 (by omega) 6
   rw [Q8, Q2 (by omega), Q2 (by omega), hsub, Q8, Q2 (by simp only [Z6]; omega), Z36]
   rw [e4, Z0]
   cases b4 with
   | true =>
    rw [Qp, Q8, Q2 (by simp only [Z2, Z6]; omega)]
    exact ⟨(T.drop x2.toNat).take (t.toNat - x2.toNat) ++ [98], c4, by rw [← Q2H]; rfl, g4.mono (by omega), by simp only [Z11, Z2, Z6]; omega, hbs.app fun x hx => by rw [Z40.1 hx]; omega⟩
   | false => exact ⟨_, c4, rfl, g4.mono (by omega), by omega, hbs⟩
 ·rw [Q3 h0]
  exact small k c h (by omega)
theorem bigD_eq (xs : List Int) : Q1F xs = some (decide ((xs.length : Int) > 1048576)) := Q1F.eq xs
theorem codeD_bytes {xs : List Int} (h : AllP (α := Tup [CT.int .u8]) (allL (goodC 4) [CT.int .u8]) xs) (hl : ¬ (xs.length : Int) > 1048576) : Bytes xs := by
 refine ⟨by omega, fun x hx => ?_⟩
 have := h.2 x hx
 have : (Lit.int .u8 x).wf = true := this
 simp only [Lit.wf, Z4, decide_eq_true_eq] at this
 exact this
end Go.Ev.W
/- Drawn inputs: two texts alike, depths, budgets. -/
set_option linter.unusedVariables false
set_option linter.unusedSimpArgs false
namespace Go.Ev.W
open Go.Ev
theorem twin_l1 (n : Nat) (c : Cur) (R T : List Nat) (hT : Qh T) : ∃ T', QR_l1 n c.1 c.2.1 c.2.2 (ints R) (ints T) = some (ints R, ints T', c) ∧ T'.length ≤ n ∧ Qh T' := by
 rw [QR_l1.eq, Q8]
 by_cases h : (T.length : Int) > n
 ·rw [Q2 h, Q2 (by omega), Z5, Nat.sub_zero, Q3x]
  exact ⟨T.take n, rfl, by rw [Z9]; omega, fun x hx => hT x (Z106 hx)⟩
 ·rw [Q3 h]
  exact ⟨T, rfl, by omega, hT⟩
theorem twin_l0 (n : Nat) (hn : n ≤ 100) (R : List Nat) : ∀ (m k : Nat) (c : Cur) (T : List Nat), QE k c → k + 3 * m + 2000 < 10000000000 → T.length + 2 * m ≤ 1000 → m ≤ 10 → Qh T →
  ∃ (T' : List Nat) (c' : Cur), QR_l0 n m c.1 c.2.1 c.2.2 (ints R) (ints T) = some (ints R, ints T', c') ∧ QE (k + 3 * m + 2000) c' ∧ T'.length ≤ n ∧ Qh T' := by
 intro m
 induction m with
 | zero =>
  intro k c T h hk hl _ hT
  rw [QR_l0.eq, Q3 (by omega)]
  obtain ⟨b, c1, e1, g1⟩ := Q3d h (by omega) 6
  simp only [Q1O, e1, Z0]
  cases b with
  | true =>
   rw [Qp]
   obtain ⟨D, c2, e2, g2, l2, b2⟩ := Q4n g1 (by omega) n hn
   simp only [e2, Z0]
   obtain ⟨T', e3, l3, b3⟩ := twin_l1 n c2 R D b2
   exact ⟨T', c2, e3, g2.mono (by omega), l3, b3⟩
  | false =>
   rw [Q9]
   obtain ⟨T', e3, l3, b3⟩ := twin_l1 n c1 R T hT
   exact ⟨T', c1, e3, g1.mono (by omega), l3, b3⟩
 | succ m ih =>
  intro k c T h hk hl hm hT
  rw [QR_l0.eq, Q2 (by omega), Q8, Q6 _ (by omega)]
  obtain ⟨x1, c1, e1, g1, a1, b1⟩ := Q03 h (by omega) ((T.length + 1 : Nat) : Int)
  obtain ⟨x2, c2, e2, g2, a2, b2⟩ := Q03 g1 (by omega) 4
  obtain ⟨y, y1, y2, y3⟩ := Q2j ([(⟨#[]⟩ : ByteArray), (⟨#[97]⟩ : ByteArray), (⟨#[98]⟩ : ByteArray), (⟨#[122, 122]⟩ : ByteArray)] : List ByteArray) x2 a2 (by simp; omega)
  obtain ⟨x3, c3, e3, g3, a3, b3⟩ := Q03 g2 (by omega) 3
  obtain ⟨i, rfl⟩ : ∃ i : Nat, x1 = i := ⟨x1.toNat, by omega⟩
  obtain ⟨B, hB, lB, bB⟩ : ∃ B : List Nat, (y.data.toList.map fun b => (b.toNat : Int)) = ints B ∧ B.length ≤ 2 ∧ Qh B := by
   refine ⟨y.data.toList.map UInt8.toNat, by simp [ints, Z26, Function.comp_def], ?_, fun x hx => ?_⟩
   ·rw [Z1]
    simp only [Z13, Z101, or_false] at y3
    rcases y3 with rfl | rfl | rfl | rfl <;> decide
   ·obtain ⟨u, _, rfl⟩ := Z16.1 hx
    exact u.toNat_lt
  have hi : i ≤ T.length := by omega
  have ht : (if IntKind.i64.wrap ((i : Int) + x3) < (T.length : Int) then IntKind.i64.wrap ((i : Int) + x3) else (T.length : Int)) = ((min T.length (i + x3.toNat) : Nat) : Int) := by
   rw [Qa (by omega) (by omega)]; split <;> omega
  have em : IntKind.i64.wrap (((m + 1 : Nat) : Int) - 1) = m := by rw [Qa (by omega) (by omega)]; omega
  have hdr : ((ints T).drop (min T.length (i + x3.toNat))).take (T.length - min T.length (i + x3.toNat)) = ints (T.drop (min T.length (i + x3.toNat))) := by
   rw [Q4l, Z33 (by rw [Q8, Z19]; omega)]
  have htk : [] ++ ((ints T).drop 0).take (i - 0) = ints (T.take i) := by rw [Z36, Z53, Nat.sub_zero, Q3x]
  have l1 : (T.take i).length ≤ i := by rw [Z9]; omega
  have l2 : (T.drop (min T.length (i + x3.toNat))).length ≤ T.length - i := by rw [Z19]; omega
  simp only [Q1O, e1, e2, Z0, y1, y2, Z5, hB, e3, ht, hdr, htk, em]
  rw [Q2 (by omega), Q2 (by simp only [Z6, Z9, Z19, Z1]; omega), Q2 (by simp only [Q8]; omega), Q2 (by omega)]
  rw [show ints (T.take i) ++ ints B = ints (T.take i ++ B) from Z15.symm, show ints (T.take i ++ B) ++ ints (T.drop (min T.length (i + x3.toNat))) = ints (T.take i ++ B ++ T.drop (min T.length (i + x3.toNat))) from Z15.symm]
  rw [Q2 (by simp only [Q8, Z11]; omega)]
  obtain ⟨T', c4, e4, g4, l4, b4⟩ := ih (k + 3) c3 (T.take i ++ B ++ T.drop (min T.length (i + x3.toNat))) g3 (by omega) (by simp only [Z11]; omega) (by omega)
   (((show Qh (T.take i) from fun x hx => hT x (Z106 hx)).app bB).app fun x hx => hT x (Z105 hx))
  exact ⟨T', c4, e4, g4.mono (by omega), l4, b4⟩
theorem twin_ok {k : Nat} {c : Cur} (h : QE k c) (hk : k < 1000000000) : ∃ (R T : List Nat) (c' : Cur), QR c 20 = some (ints R, ints T, c') ∧ QE (k + 4000) c' ∧ R.length ≤ 20 ∧ T.length ≤ 20 ∧ Qh R ∧ Qh T := by
 obtain ⟨R, c1, e1, g1, l1, b1⟩ := Q4n h (by omega) 20 (by omega)
 have e1' : QC c 20 = some (ints R, c1) := e1
 obtain ⟨x, c2, e2, g2, a2, b2⟩ := Q03 g1 (by omega) 4
 obtain ⟨m, rfl⟩ : ∃ m : Nat, x = m := ⟨x.toNat, by omega⟩
 obtain ⟨T, c3, e3, g3, l3, b3⟩ := twin_l0 20 (by omega) R m (k + 1000 + 1) c2 R g2 (by omega) (by omega) (by omega) b1
 rw [QR.eq]
 simp only [e1', Z0]
 rw [Q2 (by rw [Q8]; simp only [Z6]; omega), Z36]
 simp only [e2, Z0]
 exact ⟨R, T, c3, e3, g3.mono (by omega), l1, l3, b1, b3⟩
theorem Q4o {k : Nat} {c : Cur} (h : QE k c) (hk : k < 1000000000) : ∃ (x : Int) (c' : Cur), Q15 c = some (x, c') ∧ QE (k + 3) c' := by
 obtain ⟨x1, c1, e1, g1, _⟩ := Q38 h (by omega)
 obtain ⟨x2, c2, e2, g2, a2, b2⟩ := Q03 g1 (by omega) 6
 obtain ⟨y, y1, y2, y3⟩ := Q2j ([(0 : Int), (1 : Int), (2 : Int), (3 : Int), (8 : Int), x1] : List Int) x2 a2 (by simp; omega)
 rw [Q15.eq]
 simp only [Q1O, e1, e2, Z0, y1, y2]
 exact ⟨y, c2, rfl, g2.mono (by omega)⟩
theorem Q4p {k : Nat} {c : Cur} (h : QE k c) (hk : k < 1000000000) : ∃ (x : Int) (c' : Cur), Q16 c = some (x, c') ∧ QE (k + 3) c' := by
 obtain ⟨x1, c1, e1, g1, _⟩ := Q38 h (by omega)
 obtain ⟨x2, c2, e2, g2, a2, b2⟩ := Q03 g1 (by omega) 5
 obtain ⟨y, y1, y2, y3⟩ := Q2j ([(0 : Int), (1 : Int), (3 : Int), (1000 : Int), x1] : List Int) x2 a2 (by simp; omega)
 rw [Q16.eq]
 simp only [Q1O, e1, e2, Z0, y1, y2]
 exact ⟨y, c2, rfl, g2.mono (by omega)⟩
theorem fmV_in (D : List Nat) (hD : D.length ≤ 300) (r : Nat) : FmIn (fmV D r) := by
 obtain ⟨z, l, w, cc, m, s, i⟩ := Q47 D hD r
 exact ⟨⟨by omega, by omega, fun p hp => by have := w p hp; omega, by omega, by omega, by omega, by omega⟩, fmV_words D r⟩
theorem drawRelOf_ok (xs : List Int) (h : Bytes xs) : ∃ (f : FmT) (T : List Nat) (d b r : Int), Q0h xs = some (f, ints T, d, b, r) ∧ FmIn f ∧ T.length ≤ 20 ∧ Qh T := by
 obtain ⟨c, e0, g0⟩ := open_ok xs h
 obtain ⟨R, T, c1, e1, g1, lR, lT, bR, bT⟩ := twin_ok g0 (by omega)
 obtain ⟨r, c2, e2, g2, r1, r2⟩ := rate_ok g1 (by omega)
 have e3 := Q3Q R (by omega) bR r (by omega) r2
 obtain ⟨b, c4, e4, g4⟩ := Q3d g2 (by omega) 9
 have hin := fmV_in R (by omega) r
 obtain ⟨f, hf⟩ : ∃ f, f = fmV R r := ⟨_, rfl⟩
 rw [← hf] at e3 hin
 have tail : ∀ (k : Nat) (c : Cur) (z : Int), QE k c → k < 20000000 → ∃ (d b r : Int) (c' : Cur), ((Q15 c).bind fun y4 => (Q16 y4.2).bind fun y5 => some (y4.1, y5.1, z)) = some (d, b, r) := by
  intro k c z h hk
  obtain ⟨d, c5, e5, g5⟩ := Q4o h (by omega)
  obtain ⟨b, c6, e6, g6⟩ := Q4p g5 (by omega)
  simp only [e5, e6, Z0]
  exact ⟨d, b, z, c6, rfl⟩
 rw [Q0h.eq]
 simp only [Q1O, e0, e1, e2, e3, e4, Z0]
 cases b with
 | true =>
  rw [Qp]
  obtain ⟨f2, c5, e5, g5, hf2⟩ := fm_ok g4 (by omega)
  simp only [e5, Z0]
  obtain ⟨r6, c6, e6, g6, _⟩ := rate_ok g5 (by omega)
  obtain ⟨b7, c7, e7, g7⟩ := Q3d g6 (by omega) 12
  rw [Q0h_l0.eq]
  simp only [Q1O, e6, e7, Z0]
  cases b7 with
  | true =>
   obtain ⟨x8, c8, e8, g8, _⟩ := Q38 g7 (by omega)
   obtain ⟨d, c9, e9, g9⟩ := Q4o g8 (by omega)
   obtain ⟨b10, c10, e10, g10⟩ := Q4p g9 (by omega)
   simp only [Qp, e8, e9, e10, Z0]
   exact ⟨f2, T, d, b10, x8, rfl, hf2, lT, bT⟩
  | false =>
   obtain ⟨d, c9, e9, g9⟩ := Q4o g7 (by omega)
   obtain ⟨b10, c10, e10, g10⟩ := Q4p g9 (by omega)
   simp only [Q9, e9, e10, Z0]
   exact ⟨f2, T, d, b10, r6, rfl, hf2, lT, bT⟩
 | false =>
  rw [Q9]
  obtain ⟨r6, c6, e6, g6, _⟩ := rate_ok g4 (by omega)
  obtain ⟨b7, c7, e7, g7⟩ := Q3d g6 (by omega) 12
  rw [Q0h_l1.eq]
  simp only [Q1O, e6, e7, Z0]
  cases b7 with
  | true =>
   obtain ⟨x8, c8, e8, g8, _⟩ := Q38 g7 (by omega)
   obtain ⟨d, c9, e9, g9⟩ := Q4o g8 (by omega)
   obtain ⟨b10, c10, e10, g10⟩ := Q4p g9 (by omega)
   simp only [Qp, e8, e9, e10, Z0]
   exact ⟨f, T, d, b10, x8, rfl, hin, lT, bT⟩
  | false =>
   obtain ⟨d, c9, e9, g9⟩ := Q4o g7 (by omega)
   obtain ⟨b10, c10, e10, g10⟩ := Q4p g9 (by omega)
   simp only [Q9, e9, e10, Z0]
   exact ⟨f, T, d, b10, r6, rfl, hin, lT, bT⟩
end Go.Ev.W
/- The law FnRelOwn. -/
set_option linter.unusedVariables false
set_option linter.unusedSimpArgs false
namespace Go.Ev.W
open Go.Ev
section
variable (R D : List Nat) (hR : R.length ≤ 300) (hD : D.length ≤ 300) (bR : Qh R) (bD : Qh D) (P : List (Nat × Nat)) (hP : Q29 R D P) (r : Nat) (h1 : 1 ≤ r) (h64 : r ≤ 64)
include hR hD bR bD hP h1 h64
theorem relOk_made (f : FmT) (fi : QP f = some (ints R, true)) : Q17 f (relX R D P r) = some true := by
 rw [Q17.eq]
 show (Q0C (relX R D P r) f).bind _ = _
 rw [relBack R D hR hD bR bD P hP r h1 h64 f fi]; rfl
theorem relOwn_made (f : FmT) (fi : QP f = some (ints R, true)) : Q1q f (relX R D P r) = some ((D.length + 1 - P.length : Nat) : Int) := by
 have f2 := fl2_len D P
 have o2 := hP.one2
 have z2 := zer_len (fl2 D P)
 have t2 := Q2q (fl2 D P)
 have hl := Q41 (fl2 D P).length (wrds (fl2 D P)) (by omega) t2.2.1 t2
 rw [Q33, f2] at hl
 have hc := countB_eq (fl2 D P) false (by omega)
 rw [show bint false = 0 from rfl] at hc
 have hbef : bef (fl2 D P) (fl2 D P).length false = D.length + 1 - P.length := by
  have e : bef (fl2 D P) (fl2 D P).length false = zer (fl2 D P) (fl2 D P).length := bef_false _ _
  rw [e]
  rw [f2] at z2 ⊢
  omega
 rw [Q1q.eq, relOk_made R D hR hD bR bD P hP r h1 h64 f fi, Z0, Z8, Q9]
 show (QW (((D.length + 1 : Nat) : Int), ints (wrds (fl2 D P)))).bind _ = _
 rw [hl, Z0, hc, hbef, Z0]
end
end Go.Ev.W
/- Drawn inputs: indexes beside another one. -/
set_option linter.unusedVariables false
set_option linter.unusedSimpArgs false
namespace Go.Ev.W
open Go.Ev
theorem specRelOf_made (R T : List Nat) (hR : R.length ≤ 300) (hT : T.length ≤ 300) (bR : Qh R) (bT : Qh T) (r : Nat) (h1 : 1 ≤ r) (h64 : r ≤ 64) (d : Nat) (hd8 : d ≤ 8) (b : Int) (q : Nat) (q1 : 1 ≤ q) (q64 : q ≤ 64) :
  Q0K (fmV R r) (ints T) d b q = some (relX R T (share R T d b) q, true) := by
 rw [Q0K.eq]
 show (QT (fmV R r)).bind _ = _
 rw [fmText_round R hR bR r h1 h64 (bT_bwt R), Z0, Z8, Q9, Q4m, Z0, decide_eq_true ⟨hR, hT, by omega, by omega⟩, Z8, Q9, Q3P, decide_eq_true (by omega), decide_eq_true (by omega), Z0, Z20, Z8, Q9, specShare_eq R T hR hT bR bT d hd8 b, Z0, Q5f R T hR hT bR bT _ (share_ok R T d b) q q1 q64]
 rfl
def RelIn (x : RelT) : Prop := SmRel x 1048576 ∧ XWords x
theorem LI_words64 (L : List (Int × List Nat)) (h : ∀ p ∈ L, ∀ x ∈ p.2, x < 2 ^ 64) : ∀ p ∈ LI L, ∀ x ∈ p.2, 0 ≤ x ∧ x < ((2 ^ 64 : Nat) : Int) := fun p hp x hx => by
 obtain ⟨q, hq, rfl⟩ := Z16.1 hp
 obtain ⟨y, hy, rfl⟩ := Z16.1 hx
 have := h q hq y hy
 omega
theorem Q5h (W : List Nat) (h : ∀ x ∈ W, x < 2 ^ 64) : ∀ x ∈ ints W, 0 ≤ x ∧ x < ((2 ^ 64 : Nat) : Int) := fun x hx => by
 obtain ⟨y, hy, rfl⟩ := Z16.1 hx
 have := h y hy
 omega
theorem relX_in (R T : List Nat) (hR : R.length ≤ 300) (hT : T.length ≤ 300) (P : List (Nat × Nat)) (r : Nat) : RelIn (relX R T P r) :=
 ⟨(relX_small R T hR hT P r).mono (by omega), ⟨Q5h _ (Q2q (fl1 R P)).2.1, Q5h _ (Q2q (fl2 T P)).2.1, LI_words64 _ (Q3w [] 9 0 _), LI_words64 _ (Q3w [] 9 0 _)⟩⟩
theorem rel_ok {k : Nat} {c : Cur} (h : QE k c) (hk : k < 1000000) : ∃ (f : FmT) (x : RelT) (c' : Cur), Q1J c = some (f, x, c') ∧ QE (k + 10000000) c' ∧ FmIn f ∧ RelIn x := by
 obtain ⟨R, T, c1, e1, g1, lR, lT, bR, bT⟩ := twin_ok h (by omega)
 obtain ⟨r, c2, e2, g2, r1, r2⟩ := rate_ok g1 (by omega)
 have e3 := Q3Q R (by omega) bR r (by omega) r2
 obtain ⟨x4, c4, e4, g4, a4, b4⟩ := Q03 g2 (by omega) 4
 obtain ⟨x5, c5, e5, g5, a5, b5⟩ := Q03 g4 (by omega) 3
 obtain ⟨y, y1, y2, y3⟩ := Q2j ([(0 : Int), (2 : Int), (100 : Int)] : List Int) x5 a5 (by simp; omega)
 obtain ⟨q, c8, e8, g8, q1, q2⟩ := rate_ok g5 (by omega)
 obtain ⟨d, rfl⟩ : ∃ d : Nat, x4 = d := ⟨x4.toNat, by omega⟩
 have e9 := specRelOf_made R T (by omega) (by omega) bR bT r r1 r2 d (by omega) y q q1 q2
 have hin := fmV_in R (by omega) r
 have hX := relX_in R T (by omega) (by omega) (share R T d y) q
 obtain ⟨f, hf⟩ : ∃ f, f = fmV R r := ⟨_, rfl⟩
 obtain ⟨X, hXe⟩ : ∃ X, X = relX R T (share R T d y) q := ⟨_, rfl⟩
 rw [← hf] at e3 e9 hin
 rw [← hXe] at e9 hX
 obtain ⟨⟨s1, s2, s3, s4, s5, s6, s7, s8, s9, s10, s11, s12⟩, ⟨w1, w2, w3, w4⟩⟩ := hX
 obtain ⟨x10, c10, e10, g10, a10, b10⟩ := Q03 g8 (by omega) 18
 rw [Q1J.eq]
 simp only [Q1O, e1, e2, e3, e4, e5, y1, y2, e8, e9, e10, Z0]
 by_cases p0 : x10 = 0
 ·rw [Q05 p0]
  obtain ⟨f2, c11, e11, g11, hf2⟩ := fm_ok g10 (by omega)
  simp only [e11, Z0]
  exact ⟨f2, X, c11, rfl, g11.mono (by omega), hf2, ⟨s1, s2, s3, s4, s5, s6, s7, s8, s9, s10, s11, s12⟩, ⟨w1, w2, w3, w4⟩⟩
 rw [Q0g p0]
 by_cases p1 : x10 = 1
 ·rw [Q05 p1]
  obtain ⟨n, W, c11, e11, g11, hl, hw⟩ := Q4Q g10 (by omega)
  simp only [e11, Z0]
  have hl' : (ints W).length ≤ 1048576 := by rw [Q8]; omega
  exact ⟨f, _, c11, rfl, g11.mono (by omega), hin, ⟨s1, hl', s3, s4, s5, s6, s7, s8, s9, s10, s11, s12⟩, ⟨w1, Q5h W hw, w3, w4⟩⟩
 rw [Q0g p1]
 by_cases p2 : x10 = 2
 ·rw [Q05 p2]
  exact ⟨f, _, c10, rfl, g10.mono (by omega), hin, ⟨s2, s2, s3, s4, s5, s6, s7, s8, s9, s10, s11, s12⟩, ⟨w2, w2, w3, w4⟩⟩
 rw [Q0g p2]
 by_cases p3 : x10 = 3
 ·rw [Q05 p3]
  obtain ⟨n, Z, L, c11, e11, g11, hZ, hL⟩ := wave_ok g10 (by omega)
  obtain ⟨k1, k2, k3⟩ := hL.words
  simp only [e11, Z0]
  have hZ' : Z.length ≤ 1048576 := by omega
  have hL' : (LI L).length ≤ 1048576 := by omega
  exact ⟨f, _, c11, rfl, g11.mono (by omega), hin, ⟨s1, s2, s3, s4, hZ', hL', s7, s8, s9, s10, s11, fun p hp => by have := k2 p hp; omega⟩, ⟨w1, w2, w3, k3⟩⟩
 rw [Q0g p3]
 by_cases p4 : x10 = 4
 ·rw [Q05 p4]
  exact ⟨f, _, c10, rfl, g10.mono (by omega), hin, ⟨s1, s2, s5, s6, s5, s6, s7, s8, s9, s10, s12, s12⟩, ⟨w1, w2, w4, w4⟩⟩
 rw [Q0g p4]
 by_cases p5 : x10 = 5
 ·rw [Q05 p5]
  obtain ⟨x11, c11, e11, g11, _⟩ := Q38 g10 (by omega)
  obtain ⟨x12, c12, e12, g12, a12, b12⟩ := Q03 g11 (by omega) 2
  obtain ⟨z, z1, z2, z3⟩ := Q2j ([x11, (2 : Int)] : List Int) x12 a12 (by simp; omega)
  simp only [e11, e12, Z0, z1, z2]
  exact ⟨f, _, c12, rfl, g12.mono (by omega), hin, ⟨s1, s2, s3, s4, s5, s6, s7, s8, s9, s10, s11, s12⟩, ⟨w1, w2, w3, w4⟩⟩
 rw [Q0g p5]
 by_cases p6 : x10 = 6
 ·rw [Q05 p6]
  exact ⟨f, _, c10, rfl, g10.mono (by omega), hin, ⟨s1, s2, s3, s4, s5, s6, s7, s8, s9, s10, s11, s12⟩, ⟨w1, w2, w3, w4⟩⟩
 rw [Q0g p6]
 by_cases p7 : x10 = 7
 ·rw [Q05 p7]
  exact ⟨f, _, c10, rfl, g10.mono (by omega), hin, ⟨s1, s2, s3, s4, s5, s6, s7, s8, s10, s10, s11, s12⟩, ⟨w1, w2, w3, w4⟩⟩
 rw [Q0g p7]
 by_cases p8 : x10 = 8
 ·rw [Q05 p8]
  obtain ⟨x11, c11, e11, g11, a11, b11⟩ := Q03 g10 (by omega) 4
  obtain ⟨m, rfl⟩ : ∃ m : Nat, x11 = m := ⟨x11.toNat, by omega⟩
  have e12 : Q13 (ints R) (ints T) ([] : List (Int × Int)) (IntKind.i64.wrap ((1 : Int) + m)) = some (relX R T [] (1 + m)) := by
   rw [Qa (by omega) (by omega), show (1 : Int) + (m : Int) = ((1 + m : Nat) : Int) by omega]
   exact Q5f R T (by omega) (by omega) bR bT [] (nil_ok R T) (1 + m) (by omega) (by omega)
  simp only [e11, e12, Z0]
  exact ⟨f, _, c11, rfl, g11.mono (by omega), hin, relX_in R T (by omega) (by omega) [] (1 + m)⟩
 ·rw [Q0g p8]
  exact ⟨f, X, c10, rfl, g10.mono (by omega), hin, ⟨s1, s2, s3, s4, s5, s6, s7, s8, s9, s10, s11, s12⟩, ⟨w1, w2, w3, w4⟩⟩
end Go.Ev.W
/- The law FnRelAny. -/
set_option linter.unusedVariables false
set_option linter.unusedSimpArgs false
namespace Go.Ev.W
open Go.Ev
theorem apick_ok (code : List Int) (hc : Bytes code) (at_ n : Int) (ha : 0 ≤ at_) (ha2 : at_ ≤ 1000) (hn : 1 ≤ n) : ∃ x, Q08 code at_ n = some x ∧ 0 ≤ x ∧ x < n := by
 rw [Q08.eq]
 by_cases h0 : (code.length : Int) = 0
 ·rw [Q05 h0]; exact ⟨0, rfl, by omega, by omega⟩
 rw [Q0g h0]
 by_cases h1 : n < 2
 ·rw [Q2 h1]; exact ⟨0, rfl, by omega, by omega⟩
 rw [Q3 h1, Q08_l0.eq]
 have step : ∀ (i x : Int), 0 ≤ i → i < 3 → 0 ≤ x → x ≤ 10000000 → ∃ y, Q08_l1 code at_ n x i = Q08_l1 code at_ n y (i + 1) ∧ 0 ≤ y ∧ y ≤ 31 * x + 255 := by
  intro i x hi hi3 hx hx2
  have hm := Q3m (at_ + i) code.length (by omega) (by omega)
  rw [Q08_l1.eq, Q2 hi3, Q3 h0, Qa (x := at_ + i) (by omega) (by omega), Qa (x := i + 1) (by omega) (by omega)]
  obtain ⟨y, y1, _, y3⟩ := Q2j code ((at_ + i).tmod code.length) hm.1 hm.2
  have hb := hc.2 y y3
  rw [y1, Z0, Qa (x := 31 * x) (by omega) (by omega), Qa (x := y) (by omega) (by omega), Qa (x := 31 * x + y) (by omega) (by omega)]
  exact ⟨31 * x + y, rfl, by omega, by omega⟩
 obtain ⟨y1, e1, p1, q1⟩ := step 0 0 (by omega) (by omega) (by omega) (by omega)
 obtain ⟨y2, e2, p2, q2⟩ := step 1 y1 (by omega) (by omega) (by omega) (by omega)
 obtain ⟨y3, e3, p3, q3⟩ := step 2 y2 (by omega) (by omega) (by omega) (by omega)
 rw [e1, show (0 : Int) + 1 = 1 by rfl, e2, show (1 : Int) + 1 = 2 by rfl, e3, show (2 : Int) + 1 = 3 by rfl, Q08_l1.eq, Q3 (by omega), Q3 (by omega), Qa (by omega) (by omega)]
 have := Q3m (y3 + at_) n (by omega) (by omega)
 exact ⟨_, rfl, this⟩
theorem rest_ok (xs : List Int) (h : Bytes xs) : ∃ ys, Q1I xs = some ys ∧ Bytes ys := by
 have h1 := h.1
 have e : (xs.length : Int).tdiv 2 = ((xs.length / 2 : Nat) : Int) := rfl
 rw [Q1I.eq, e, Q32 (by omega), Q2 (by omega), Z5, Z23]
 exact ⟨_, rfl, by rw [Z19]; omega, fun x hx => h.2 x (Z105 hx)⟩
theorem sameL_l0 (X : List Int) (hX : X.length < 1000000) : ∀ (d i : Nat), X.length - i = d → i ≤ X.length → Q0D_l0 X X i = some true := by
 intro d
 induction d with
 | zero =>
  intro i h1 h2
  obtain rfl : i = X.length := by omega
  rw [Q0D_l0.eq, Q3 (by omega)]
 | succ d ih =>
  intro i h1 h2
  have hi : i < X.length := by omega
  rw [Q0D_l0.eq, Q2 (by omega)]
  simp only [Q04, Z3 hi, Z0]
  rw [Q2a rfl, Q6 i (by omega)]
  exact ih (i + 1) (by omega) (by omega)
theorem sameL_refl (X : List Int) (hX : X.length < 1000000) : Q0D X X = some true := by
 rw [Q0D.eq, Q2a rfl]
 exact sameL_l0 X hX _ 0 rfl (Z21 _)
theorem drawRelRows_ok (xs : List Int) (h : Bytes xs) : ∃ (f : FmT) (x : RelT) (P : List Nat), Q1M xs = some (f, x, ints P) ∧ Qh P := by
 obtain ⟨c, e0, g0⟩ := open_ok xs h
 obtain ⟨f, x, c1, e1, g1, hf, hx⟩ := rel_ok g0 (by omega)
 obtain ⟨v, D, t, h1, h2, h3⟩ := relRead_eq f hf.1 hf.2 x hx.1 hx.2
 obtain ⟨T, eT, lT, bT'⟩ : ∃ T : List Nat, Q1K f x = some (ints T) ∧ T.length ≤ 1000 ∧ Qh T := by
  rw [Q1K.eq]
  show ∃ T, (Q0b f x).bind _ = _ ∧ _
  rw [h1]
  cases v with
  | false => exact ⟨[], rfl, by simp, fun x hx => by cases hx⟩
  | true =>
   obtain ⟨R0, hk⟩ := h3 rfl
   exact ⟨D, rfl, by have := hk.dl; omega, hk.db⟩
 obtain ⟨P, c2, e2, g2, l2, b2⟩ := pattern_ok g1 (by omega) T lT bT'
 refine ⟨f, x, P, ?_, b2⟩
 rw [Q1M.eq]
 simp only [e0, e1, eT, Z0, e2]
theorem fmV_read (D : List Nat) (hD : D.length ≤ 300) (bD : Qh D) (r : Nat) (h1 : 1 ≤ r) (h64 : r ≤ 64) : QP (fmV D r) = some (ints D, true) := by
 have hin := fmV_in D hD r
 have ht := fmText_round D hD bD r h1 h64 (bT_bwt D)
 obtain ⟨F, hF⟩ : ∃ F, F = fmV D r := ⟨_, rfl⟩
 rw [← hF] at hin ht ⊢
 obtain ⟨v, D', t, f1, f2, _⟩ := fmRead_eq F hin.1 hin.2
 have f1' := ht.symm.trans f1
 cases v with
 | false => exact absurd (congrArg (fun o => o.map Prod.snd) f1') (by simp)
 | true =>
  have e : some (ints D) = some (ints D') := congrArg (fun o => o.map Prod.fst) f1'
  rw [Option.some.inj e]; exact f2
section
variable (R D : List Nat) (hR : R.length ≤ 300) (hD : D.length ≤ 300) (bR : Qh R) (bD : Qh D) (P : List (Nat × Nat)) (hP : Q29 R D P) (r : Nat) (h1 : 1 ≤ r) (h64 : r ≤ 64) (f : FmT) (fi : QP f = some (ints R, true))
include hR hD bR bD hP h1 h64 fi
theorem relFull_made : Q10 (relX R D P r) f = some (fmV D r) := by
 rw [Q10.eq]
 show (Q0C (relX R D P r) f).bind _ = _
 rw [relBack R D hR hD bR bD P hP r h1 h64 f fi, Z0, Z8, Q9]
 show (Qv (ints D) (r : Int)).bind _ = _
 rw [Q4k D hD bD r (by omega) h64]; rfl
theorem Q5v (k : Nat) (hk : k ≤ D.length) : Q1s f (relX R D P r) k = some (((bwt D)[k]'(by rw [Q0U]; omega) : Nat) : Int) := by
 have hb := Q0U D
 rw [Q1s.eq]
 show (Q0C (relX R D P r) f).bind _ = _
 rw [relBack R D hR hD bR bD P hP r h1 h64 f fi, Z0, Z8, Q9]
 show (QB (k : Int) 0 ((ints D).length : Int)).bind _ = _
 rw [Q3u, Q8, Z0, decide_eq_true (by omega), decide_eq_true (by omega), Z94, Z8, Q9]
 show (Qu (ints D)).bind _ = _
 rw [Q2L D hD bD, Z0]
 simp only [Q04, Z5, Q2B _ k (show k < (bwt D).length by omega), Z0]
theorem relLf_made (k : Nat) (hk : k ≤ D.length) : Q1t f (relX R D P r) k = some ((lfV (bwt D) k : Nat) : Int) := by
 have hb := Q0U D
 rw [Q1t.eq]
 show (Q10 (relX R D P r) f).bind _ = _
 rw [relFull_made R D hR hD bR bD P hP r h1 h64 f fi, Z0, Q1Y.eq]
 show ((QP (fmV D r)).bind _).bind _ = _
 rw [fmV_read D hD bD r h1 h64, Z0]
 simp only [Z8, Q9]
 rw [Q3u, Q8, Z0, decide_eq_true (show (0 : Int) ≤ k by omega), decide_eq_true (show (k : Int) ≤ D.length by omega), Z94, Z8, Q9, Q2L D hD bD, Z0, implLf_eq _ (by omega) (Q2O D bD), Z0]
 simp only [Q04, Z5, lfs_at (bwt D) k (show k < (bwt D).length by omega), Z0]
theorem Q5w (p : List Nat) (bp : Qh p) : Q1u f (relX R D P r) (ints p) = some (ints (occ D p (D.length + 1))) := by
 rw [Q1u.eq]
 show (Q10 (relX R D P r) f).bind _ = _
 rw [relFull_made R D hR hD bR bD P hP r h1 h64 f fi, Z0, Q20.eq]
 show ((QP (fmV D r)).bind _).bind _ = _
 rw [fmV_read D hD bD r h1 h64, Z0]
 simp only [Qp, Z8, Q9, implOcc_eq D p hD bD bp, Z0]
end
theorem law_FnRelAny (xs : List Int) (hx : goodA tab Q11.as xs) : Q11.fn xs = some true := by
 show Q11 xs = some true
 rw [Q11.eq, bigD_eq, Z0]
 by_cases h : (xs.length : Int) > 1048576
 ·rw [Q2 h]
 rw [Q3 h]
 have hcode := codeD_bytes hx h
 obtain ⟨f, D, d, b, r, ed, hf, hD, bD⟩ := drawRelOf_ok xs hcode
 rw [ed, Z0]
 simp only
 rcases relOf_eq f hf.1 hf.2 D bD d b r with ⟨k1, k2, k3⟩ | ⟨R, hv, k⟩
 ·rw [k1, k2, k3 (-1)]; rfl
 ·obtain ⟨k1, k2⟩ := k b
  have k3 := (k (-1)).2
  obtain ⟨⟨⟨d1, d2, d3, d4, d5⟩, _⟩, ft, fi, dl, hd0, hd8, hr1, hr64⟩ := hv
  obtain ⟨dn, rfl⟩ : ∃ n : Nat, d = n := ⟨d.toNat, by omega⟩
  obtain ⟨rn, rfl⟩ : ∃ n : Nat, r = n := ⟨r.toNat, by omega⟩
  rw [Z5, Z5] at k1 k2 k3
  rw [share_bare] at k3
  have hP := share_ok R D dn b
  have hN := nil_ok R D
  obtain ⟨P, hPe⟩ : ∃ P, P = share R D dn b := ⟨_, rfl⟩
  rw [← hPe] at k1 k2 hP
  have hlen := hP.len
  obtain ⟨q, eq, q0, q1⟩ := apick_ok xs hcode 3 ((D.length + 1 : Nat) : Int) (by omega) (by omega) (by omega)
  obtain ⟨qn, rfl⟩ : ∃ n : Nat, q = n := ⟨q.toNat, by omega⟩
  obtain ⟨ys, ey, hy⟩ := rest_ok xs hcode
  obtain ⟨f2, x2, p, ep, bp⟩ := drawRelRows_ok ys hy
  have o1 := relOwn_made R D d1 dl d2 bD [] hN rn (by omega) (by omega) f fi
  have o2 := relOwn_made R D d1 dl d2 bD P hP rn (by omega) (by omega) f fi
  have s1 := Q5v R D d1 dl d2 bD [] hN rn (by omega) (by omega) f fi qn (by omega)
  have s2 := Q5v R D d1 dl d2 bD P hP rn (by omega) (by omega) f fi qn (by omega)
  have t1 := relLf_made R D d1 dl d2 bD [] hN rn (by omega) (by omega) f fi qn (by omega)
  have t2 := relLf_made R D d1 dl d2 bD P hP rn (by omega) (by omega) f fi qn (by omega)
  have u1 := Q5w R D d1 dl d2 bD [] hN rn (by omega) (by omega) f fi p bp
  have u2 := Q5w R D d1 dl d2 bD P hP rn (by omega) (by omega) f fi p bp
  have v1 := relOk_made R D d1 dl d2 bD [] hN rn (by omega) (by omega) f fi
  have v2 := relOk_made R D d1 dl d2 bD P hP rn (by omega) (by omega) f fi
  have hso := sameL_refl (ints (occ D p (D.length + 1))) (by rw [Q8]; have := occ_len D p (D.length + 1); omega)
  have e1 : IntKind.i64.wrap ((D.length : Int) + 1) = ((D.length + 1 : Nat) : Int) := Q6 _ (by omega)
  obtain ⟨x, hxe⟩ : ∃ x, x = relX R D P rn := ⟨_, rfl⟩
  obtain ⟨y, hye⟩ : ∃ y, y = relX R D [] rn := ⟨_, rfl⟩
  rw [← hxe] at k1 k2 o2 s2 t2 u2 v2
  rw [← hye] at k3 o1 s1 t1 u1 v1
  rw [k1, k2, k3, Z0, Z0, Z0]
  simp only [beq_self_eq_true, Z8, Q9, Q8]
  obtain ⟨a1, a2, a3, a4, a5, a6, a7, a8, a9, a10, a11, a12, a13, a14, a15, a16⟩ := f
  obtain ⟨b1, b2, b3, b4, b5, b6, b7, b8, b9, b10, b11, b12, b13, b14, b15, b16, b17, b18, b19, b20, b21, b22, b23⟩ := x
  obtain ⟨c1, c2, c3, c4, c5, c6, c7, c8, c9, c10, c11, c12, c13, c14, c15, c16, c17, c18, c19, c20, c21, c22, c23⟩ := y
  rw [Q11_l0.eq]
  simp only [Q8, e1, eq, ey, ep, Z0]
  rw [o1, Z0, Q05 (by simp), o2, Z0, Q2 (by omega), s1, s2, Z0, Z0, Q05 rfl, t1, t2, Z0, Z0, Q05 rfl, u1, u2, Z0, Z0, hso, Z0, Qp, v2, Z0, Qp, v1, Z0]
end Go.Ev.W
