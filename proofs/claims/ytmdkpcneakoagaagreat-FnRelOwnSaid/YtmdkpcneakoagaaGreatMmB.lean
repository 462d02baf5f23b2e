/- What the functions come to, in plain mathematics, part 2. -/
import Derived.Test.YtmdkpcneakoagaaGreatEvC
import Derived.Test.YtmdkpcneakoagaaGreatPh2
import Derived.Test.YtmdkpcneakoagaaGreatPh3
import Derived.Test.YtmdkpcneakoagaaGreatMmA
import Derived.Test.YtmdkpcneakoagaaGreatEvIterS
import Derived.Test.YtmdkpcneakoagaaGreatEvCompact
import Derived.Test.YtmdkpcneakoagaaGreatPh1
import Derived.Test.YtmdkpcneakoagaaGreatPh6
import Derived.Test.YtmdkpcneakoagaaGreatPh8
import Derived.Test.YtmdkpcneakoagaaGreatPh4
import Derived.Test.YtmdkpcneakoagaaGreatPh5
/- Parts: what both functions give. -/
set_option linter.unusedVariables false
set_option linter.unusedSimpArgs false
namespace Go.Ev.W
open Go.Ev
theorem implHeads_l0 (D : List Nat) (hD : D.length ≤ 300) (hb : Qq D) (d : Nat) (hd8 : d ≤ 8) : ∀ (s i : Nat), (srt D).length - i = s → i ≤ (srt D).length →
  Q0l_l0 (ints D) d (srt D).length i (((hd D d).take i).map wst) (ints (srt D)) = some ((hd D d).map wst) := by
 have hl : (hd D d).length = (srt D).length := by unfold hd; rw [Z1]
 have hsl : (srt D).length = D.length + 1 := by rw [(Q2q D).length (by omega)]; omega
 intro s
 induction s with
 | zero =>
  intro i h1 h2
  obtain rfl : i = (srt D).length := by omega
  rw [Q0l_l0.eq, Q3 (by omega), Z37 (by omega)]
 | succ s ih =>
  intro i h1 h2
  have hi : i < (srt D).length := by omega
  have hx := ((Q2q D).mem (srt D)[i]).1 (Z14 hi)
  have e : (if ((ints D).length : Int) < IntKind.i64.wrap (((srt D)[i] : Int) + d) then ((ints D).length : Int) else IntKind.i64.wrap (((srt D)[i] : Int) + d)) = ((min D.length ((srt D)[i] + d) : Nat) : Int) := by
   rw [Qa (by omega) (by omega), Q9]; split <;> omega
  have eg : (ints (srt D))[i]? = some (((srt D)[i] : Nat) : Int) := by rw [Z11, Z3 hi]; rfl
  have et : (D.take (min D.length ((srt D)[i] + d))).drop (srt D)[i] = (D.drop (srt D)[i]).take d := by
   rw [List.drop_take]
   by_cases h : (srt D)[i] + d ≤ D.length
   ·rw [Nat.min_eq_right h, Z101]
   ·rw [Z68 (by omega), Z37 (by rw [Z19]; omega), Z37 (by rw [Z19]; omega)]
  rw [Q0l_l0.eq, Q2 (by omega), Q02, eg, Z0, Z5, eg, Z0, e, Q2 (by rw [Q9]; omega), Q2 (by omega), Z5, Z5, td_ints, et]
  have ef : ((hd D d).take i).map wst ++ [Q2a ((ints ((D.drop (srt D)[i]).take d)).map fun x => x)] = ((hd D d).take (i + 1)).map wst := by
   rw [Q2z _ _ (by omega), Z15]
   congr 1
   simp only [Z16, Z59, wst, hd, Z87]
  rw [ef, Q2 (by simp only [Z1, Z8, Z2, Z6]; omega), Q6 i (by omega)]
  exact ih (i + 1) (by omega) (by omega)
theorem implHeads_eq (D : List Nat) (hD : D.length ≤ 300) (hb : Qq D) (d : Nat) (hd8 : d ≤ 8) : Q0l (ints D) d = some ((hd D d).map wst) := by
 rw [Q0l.eq, implSuf_eq D hD hb, Z0, Q9]
 have := implHeads_l0 D hD hb d hd8 _ 0 rfl (Z20 _)
 rw [Z39] at this
 exact this
abbrev wds (L : Ls) : List (List Int) := L.map ints
theorem specHead_eq (D : List Nat) (hD : D.length ≤ 300) (d i : Nat) (hi : i ≤ D.length) (hd8 : d ≤ 8) : Q1f (ints D) i d = some (ints ((D.drop i).take d)) := by
 have e : (if IntKind.i64.wrap ((i : Int) + d) < ((ints D).length : Int) then IntKind.i64.wrap ((i : Int) + d) else ((ints D).length : Int)) = ((min D.length (i + d) : Nat) : Int) := by
  rw [Qa (by omega) (by omega), Q9]; split <;> omega
 have et : (D.take (min D.length (i + d))).drop i = (D.drop i).take d := by
  rw [List.drop_take]
  by_cases h : i + d ≤ D.length
  ·rw [Nat.min_eq_right h, Z101]
  ·rw [Z68 (by omega), Z37 (by rw [Z19]; omega), Z37 (by rw [Z19]; omega)]
 rw [Q1f.eq, e, Q2 (by rw [Q9]; omega), Q2 (by omega), Z5, Z5, td_ints, et]
theorem specHeads_l0 (D : List Nat) (hD : D.length ≤ 300) (d : Nat) (hd8 : d ≤ 8) : ∀ (s i : Nat), (srt D).length - i = s → i ≤ (srt D).length →
  Q0i_l0 (ints D) d i (ints (srt D)) (wds ((hd D d).take i)) = some (wds (hd D d)) := by
 have hl : (hd D d).length = (srt D).length := by unfold hd; rw [Z1]
 have hsl : (srt D).length = D.length + 1 := by rw [(Q2q D).length (by omega)]; omega
 intro s
 induction s with
 | zero =>
  intro i h1 h2
  obtain rfl : i = (srt D).length := by omega
  rw [Q0i_l0.eq, Q9, Q3 (by omega), Z37 (by omega)]
 | succ s ih =>
  intro i h1 h2
  have hi : i < (srt D).length := by omega
  have hx := ((Q2q D).mem (srt D)[i]).1 (Z14 hi)
  have eg : (ints (srt D))[i]? = some (((srt D)[i] : Nat) : Int) := by rw [Z11, Z3 hi]; rfl
  rw [Q0i_l0.eq, Q9, Q2 (by omega), Q02, eg, Z0, Z5, eg, Z0, specHead_eq D hD d _ hx.2 hd8, Z0]
  have ef : wds ((hd D d).take i) ++ [ints ((D.drop (srt D)[i]).take d)] = wds ((hd D d).take (i + 1)) := by
   rw [Q2z _ _ (by omega), wds, wds, Z15]
   congr 1
   simp only [Z16, Z59, hd, Z87]
  rw [ef, Q2 (by simp only [Z1, Z8, Z2, Z6]; omega), Q6 i (by omega)]
  exact ih (i + 1) (by omega) (by omega)
theorem specHeads_eq (D : List Nat) (hD : D.length ≤ 300) (d : Nat) (hd8 : d ≤ 8) : Q0i (ints D) d = some (wds (hd D d)) := by
 rw [Q0i.eq, specSuf_eq D hD, Z0]
 have := specHeads_l0 D hD d hd8 _ 0 rfl (Z20 _)
 rw [Z39] at this
 exact this
theorem specSpan_l0 (H : Ls) (hH : H.length ≤ 100000) (w : List Nat) (hw : w.length ≤ 4000000) (hs : ∀ x ∈ H, x.length ≤ 4000000) : ∀ (s i : Nat), H.length - i = s → i ≤ H.length →
  Q0c_l0 (wds H) (ints w) (spLo (H.take i) w) (spHi (H.take i) w) i = some ((spLo H w : Int), (spHi H w : Int)) := by
 intro s
 induction s with
 | zero =>
  intro i h1 h2
  obtain rfl : i = H.length := by omega
  rw [Q0c_l0.eq, Z1, Q3 (by omega), Z22]
 | succ s ih =>
  intro i h1 h2
  have hi : i < H.length := by omega
  have b1 := sp_len (H.take i) w
  have b2 := sp_le (H.take i) w
  rw [Z8] at b1
  have e1 : spLo (H.take (i + 1)) w = spLo (H.take i) w + if cmpN H[i] w < 0 then 1 else 0 := by
   unfold spLo
   rw [Q2z _ _ hi, Z63, Z10, Z32]
   by_cases h : cmpN H[i] w < 0 <;> simp [h]
  have e2 : spHi (H.take (i + 1)) w = spHi (H.take i) w + if cmpN H[i] w ≤ 0 then 1 else 0 := by
   unfold spHi
   rw [Q2z _ _ hi, Z63, Z10, Z32]
   by_cases h : cmpN H[i] w ≤ 0 <;> simp [h]
  have ih := ih (i + 1) (by omega) (by omega)
  rw [e1, e2] at ih
  rw [Q0c_l0.eq, Z1, Q2 (by omega), Q02, Z11, Z3 hi, Z47, Z0, l05Cmp_eq _ _ (hs _ (Z14 hi)) hw, Z0]
  by_cases h1 : cmpN H[i] w < 0
  ·rw [if_pos h1, if_pos (by omega)] at ih
   rw [Q2 h1, Q2 (by omega), Q6 _ (by omega), Q6 _ (by omega), Q6 _ (by omega)]
   exact ih
  ·rw [if_neg h1] at ih
   rw [Q3 h1]
   by_cases h2 : cmpN H[i] w ≤ 0
   ·rw [if_pos h2] at ih
    rw [Q2 h2, Q6 _ (by omega), Q6 _ (by omega)]
    exact ih
   ·rw [if_neg h2] at ih
    rw [Q3 h2, Q6 _ (by omega)]
    exact ih
theorem specSpan_eq (H : Ls) (hH : H.length ≤ 100000) (w : List Nat) (hw : w.length ≤ 4000000) (hs : ∀ x ∈ H, x.length ≤ 4000000) : Q0c (wds H) (ints w) = some ((spLo H w : Int), (spHi H w : Int)) := by
 rw [Q0c.eq]
 exact specSpan_l0 H hH w hw hs _ 0 rfl (Z20 _)
theorem isNaN_eq (x : ByteArray) : Q19 x = some false := by rw [Q19.eq, beq_self_eq_true]; rfl
theorem cisNaN_eq (x : ByteArray) : Q18 x = some false := by rw [Q18.eq, beq_self_eq_true]; rfl
theorem cLess_eq (X Y : List Nat) (hX : Qq X) (hY : Qq Y) : Q1n (wst X) (wst Y) = some (decide (cmpN X Y < 0)) := by
 rw [Q1n.eq, cisNaN_eq, Z0, Qg, wst_less X Y hX hY]
section
variable (H : Ls) (hH : H.length ≤ 100000) (hs : H.Pairwise leN) (hB : ∀ x ∈ H, Qq x) (w : List Nat) (hw : Qq w)
include hH hs hB hw
theorem bsearch_l0 : ∀ (s lo hi : Nat), hi - lo = s → lo ≤ hi → hi ≤ H.length → (∀ j, (h : j < H.length) → j < lo → cmpN H[j] w < 0) → (∀ j, (h : j < H.length) → hi ≤ j → ¬ cmpN H[j] w < 0) →
  ∃ b, Q0s_l0 (H.map wst) (wst w) H.length lo hi = some (((spLo H w : Nat) : Int), b) := by
 intro s
 induction s using Nat.strongRecOn with
 | _ s ih =>
  intro lo hi h1 h2 h3 h4 h5
  rw [Q0s_l0.eq]
  by_cases hlt : lo < hi
  ·have em : IntKind.i64.wrap ((IntKind.u64.wrap (IntKind.i64.wrap ((lo : Int) + hi))).fdiv (2 ^ 1)) = (((lo + hi) / 2 : Nat) : Int) := by
    rw [Qa (x := (lo : Int) + hi) (by omega) (by omega), show (lo : Int) + hi = ((lo + hi : Nat) : Int) by omega, wrapUn (show lo + hi < 2 ^ 64 by omega)]
    rw [Int.fdiv_eq_ediv_of_nonneg _ (by omega), show ((lo + hi : Nat) : Int) / 2 ^ 1 = (((lo + hi) / 2 : Nat) : Int) by omega, Qa (by omega) (by omega)]
   have hm : (lo + hi) / 2 < H.length := by omega
   rw [Q2 (by omega), em, Q02, Z11, Z3 hm, Z47, Z0, cLess_eq _ _ (hB _ (Z14 hm)) hw, Z0]
   have hmono : ∀ i j, (hij : i ≤ j) → (hj : j < H.length) → leN (H[i]'(by omega)) H[j] := fun i j hij hj => by
    by_cases e : i = j
    ·subst e; unfold leN; rw [Q36]; omega
    ·exact List.pairwise_iff_getElem.1 hs i j (by omega) hj (by omega)
   by_cases hc : cmpN H[(lo + hi) / 2] w < 0
   ·rw [Q2 hc, Q6 _ (by omega)]
    refine ih _ (by omega) _ _ rfl (by omega) h3 (fun j hj hjl => ?_) h5
    exact le_lt (hmono j ((lo + hi) / 2) (by omega) hm) hc
   ·rw [Q3 hc]
    refine ih _ (by omega) _ _ rfl (by omega) (by omega) h4 (fun j hj hjl hlt' => ?_)
    exact hc (le_lt (hmono ((lo + hi) / 2) j hjl hj) hlt')
  ·obtain rfl : lo = hi := by omega
   have el : spLo H w = lo := Q4e H lo h3 (fun j hj hjl => decide_eq_true (h4 j hj hjl)) (fun j hj hjl => decide_eq_false (h5 j hj hjl))
   rw [Q3 (by omega), el]
   by_cases hl : lo < H.length
   ·rw [Q2 (by omega), Q02, Z11, Z3 hl, Z47, Z0, Z0, isNaN_eq, Z0, Qg]
    cases (wst H[lo]).toList == (wst w).toList
    ·exact ⟨false, rfl⟩
    ·exact ⟨true, rfl⟩
   ·rw [Q3 (by omega)]
    exact ⟨false, rfl⟩
theorem headRows_l0 (p : Nat) (hp : p = spHi H w) : ∀ (s i : Nat), p - i = s → spLo H w ≤ i → i ≤ p → Q0m_l0 (H.map wst) (wst w) (spLo H w) i = some ((spLo H w : Int), (p : Int)) := by
 have hmono : ∀ i j, (hij : i ≤ j) → (hj : j < H.length) → leN (H[i]'(by omega)) H[j] := fun i j hij hj => by
  by_cases e : i = j
  ·subst e; unfold leN; rw [Q36]; omega
  ·exact List.pairwise_iff_getElem.1 hs i j (by omega) hj (by omega)
 have hpl : p ≤ H.length := by rw [hp]; exact sp_len H w
 -- what stands where
 have least : ∀ (P : List Nat → Bool), (∀ x y, leN x y → P y = true → P x = true) → ∀ j, (hj : j < H.length) → (P H[j] = true ↔ j < (H.filter P).length) := by
  intro P hP j hj
  -- the first place where P fails
  have key : ∃ q, q ≤ H.length ∧ (∀ k, (h : k < H.length) → k < q → P H[k] = true) ∧ (∀ k, (h : k < H.length) → q ≤ k → P H[k] = false) := by
   clear hj
   have : ∀ n, n ≤ H.length → (∀ k, (h : k < H.length) → k < n → P H[k] = true) ∨ ∃ q, q ≤ H.length ∧ (∀ k, (h : k < H.length) → k < q → P H[k] = true) ∧ (∀ k, (h : k < H.length) → q ≤ k → P H[k] = false) := by
    intro n
    induction n with
    | zero => intro _; exact .inl fun k h hk => absurd hk (Z93 _)
    | succ n ih =>
     intro hn
     rcases ih (by omega) with h | h
     ·cases hb : P (H[n]'(by omega)) with
      | true =>
       refine .inl fun k hk hk' => ?_
       by_cases e : k = n
       ·subst e; exact hb
       ·exact h k hk (by omega)
      | false =>
       refine .inr ⟨n, by omega, h, fun k hk hnk => ?_⟩
       cases hc : P H[k] with
       | false => rfl
       | true => rw [hP _ _ (hmono n k hnk hk) hc] at hb; cases hb
     ·exact .inr h
   rcases this H.length (Z7 _) with h | h
   ·exact ⟨H.length, Z7 _, h, fun k h hk => by omega⟩
   ·exact h
  obtain ⟨q, q1, q2, q3⟩ := key
  rw [Q4e H q q1 q2 q3]
  constructor
  ·intro h
   by_cases hq : j < q
   ·exact hq
   ·rw [q3 j hj (by omega)] at h; cases h
  ·exact q2 j hj
 have hLo := fun j hj => least (fun x => decide (cmpN x w < 0)) (fun x y h1 h2 => by simp only [decide_eq_true_eq] at h2 ⊢; exact le_lt h1 h2) j hj
 have hHi := fun j hj => least (fun x => decide (cmpN x w ≤ 0)) (fun x y h1 h2 => by simp only [decide_eq_true_eq] at h2 ⊢; exact cmpN_le _ _ _ h1 h2) j hj
 simp only [decide_eq_true_eq] at hLo hHi
 intro s
 induction s with
 | zero =>
  intro i h1 h2 h3
  obtain rfl : i = p := by omega
  rw [Q0m_l0.eq, Z1]
  by_cases hl : i < H.length
  ·rw [Q2 (by omega), Q02, Z11, Z3 hl, Z47, Z0, wst_eq _ _ (hB _ (Z14 hl)) hw, Q3]
   intro e
   have := (hHi i hl).1 (by rw [e, Q36]; omega)
   unfold spHi at hp
   omega
  ·rw [Q3 (by omega)]
 | succ s ih =>
  intro i h1 h2 h3
  have hl : i < H.length := by omega
  have e1 := (hHi i hl).2 (by unfold spHi at hp; omega)
  have e2 : ¬ cmpN H[i] w < 0 := fun h => by have := (hLo i hl).1 h; unfold spLo at h2; omega
  rw [Q0m_l0.eq, Z1, Q2 (by omega), Q02, Z11, Z3 hl, Z47, Z0, wst_eq _ _ (hB _ (Z14 hl)) hw, Q2 (Q3k _ _ (by omega)), Q6 i (by omega)]
  exact ih (i + 1) (by omega) (by omega) (by omega)
theorem headRows_eq : Q0m (H.map wst) (wst w) = some ((spLo H w : Int), (spHi H w : Int)) := by
 obtain ⟨b, hb⟩ := bsearch_l0 H hH hs hB w hw _ 0 H.length rfl (Z20 _) (Z7 _) (fun j h hj => absurd hj (Z93 _)) (fun j h hj => by omega)
 rw [Q0m.eq, Q0s.eq, Z1]
 have hb' : Q0s_l0 (H.map wst) (wst w) (H.length : Int) 0 (H.length : Int) = some (((spLo H w : Nat) : Int), b) := hb
 rw [hb', Z0]
 exact headRows_l0 H hH hs hB w hw _ rfl _ _ rfl (Z7 _) (sp_le H w)
end
end Go.Ev.W
/- Parts: the words, and what both functions give. -/
set_option linter.unusedVariables false
set_option linter.unusedSimpArgs false
namespace Go.Ev.W
open Go.Ev
theorem growS_eq (n : Int) (h0 : 0 ≤ n) (h : n ≤ 10000000) : Q23 [] n = some [] := by
 unfold Q23 growF
 simp only [List.isEmpty_nil, Z29]
 rw [decide_eq_true h0, decide_eq_true (show n.toNat * 16 ≤ 140737488355328 by omega), decide_eq_true (show n.toNat ≤ 4611686018427387904 by omega)]
 rfl
theorem concatS_eq (A B : List ByteArray) (hA : A.length ≤ 1000) (hB : B.length ≤ 1000) : QT [A, B] = some (A ++ B) := by
 have s0 : IntKind.i64.wrap (0 + 1 : Int) = ((1 : Nat) : Int) := Q6 0 (by omega)
 have s1 : IntKind.i64.wrap (((1 : Nat) : Int) + 1) = ((2 : Nat) : Int) := Q6 1 (by omega)
 have g0 : at? [A, B] (0 : Int) = some A := rfl
 have g1 : at? [A, B] ((1 : Nat) : Int) = some B := rfl
 rw [QT.eq, QT_l0.eq, Q2 (by simp), g0, Z0, Qa (x := 0 + (A.length : Int)) (by omega) (by omega), Q3 (by omega), s0,
  QT_l0.eq, Q2 (by simp), g1, Z0, Qa (x := 0 + (A.length : Int) + B.length) (by omega) (by omega), Q3 (by omega), s1,
  QT_l0.eq, Q3 (by simp), growS_eq _ (by omega) (by omega), Z0,
  QT_l1.eq, Q2 (by simp), g0, Z0, Q2 (by simp; omega), s0,
  QT_l1.eq, Q2 (by simp), g1, Z0, Q2 (by simp; omega), s1,
  QT_l1.eq, Q3 (by simp), Z40]
theorem sortedW_eq (L : Ls) (hl : L.length ≤ 100000) (hB : ∀ x ∈ L, Qq x) : Q24 (L.map wst) = some ((sortN L).map wst) := by
 unfold Q24 sortedS
 rw [Q2 (by rw [Z1]; omega)]
 congr 1
 refine (List.map_mergeSort (fun x hx y hy => ?_)).symm
 exact (wst_le x y (hB x hx) (hB y hy)).symm
theorem compL_wst (M : Ls) (hB : ∀ x ∈ M, Qq x) : compL (M.map wst) = (dd M).map wst := by
 unfold compL Lib.compactUpTo dd
 rw [Z1, Z23]
 have hg : ∀ j, j < M.length → ((M.map wst).toArray)[j]! = wst M[j]! := fun j hj => by
  rw [getElem!_pos M j hj]
  simp [hj]
 have hk : ∀ j, j ∈ List.range M.length → Lib.keeps (M.map wst).toArray j = keepN M j := fun j hj => by
  have hj := Z50.1 hj
  unfold Lib.keeps keepN
  refine decide_eq_decide.2 ?_
  rw [hg j hj, hg (j - 1) (by omega)]
  have m1 : M[j]! ∈ M := by rw [getElem!_pos M j hj]; exact Z14 _
  have m2 : M[j - 1]! ∈ M := by rw [getElem!_pos M (j - 1) (by omega)]; exact Z14 _
  refine or_congr Iff.rfl (not_congr ⟨fun h => wst_inj (hB _ m1) (hB _ m2) h, fun h => by rw [h]⟩)
 rw [List.filter_congr hk]
 refine Z45 fun j hj => ?_
 exact hg j (Z50.1 (Z73.1 hj).1)
theorem compactW_eq (M : Ls) (h0 : M ≠ []) (hl : M.length ≤ 100000) (hB : ∀ x ∈ M, Qq x) : Q25 (M.map wst) = some ((dd M).map wst) := by
 unfold Q25 compactC
 have e1 : ∀ Z : List ByteArray, List.map (fun x => x) Z = Z := fun Z => List.map_id' Z
 rw [e1, decide_eq_true (by rw [Z1]; omega), compL_wst M hB]
 have : (M.map wst).isEmpty = false := by cases M with | nil => exact absurd rfl h0 | cons _ _ => rfl
 rw [this]
 show some (List.map (fun x => x) ((dd M).map wst)) = _
 rw [e1]
def part (A B : Ls) (w : List Nat) : List Int × Int × Int × Int × Int := (ints w, (spLo A w : Int), (spHi A w : Int), (spLo B w : Int), (spHi B w : Int))
def parts (A B : Ls) : List (List Int × Int × Int × Int × Int) := (words (A ++ B)).map (part A B)
theorem implParts_l0 (A B : Ls) (hA : A.length ≤ 301) (hB : B.length ≤ 301) (sA : A.Pairwise leN) (sB : B.Pairwise leN) (W : Ls) (hW : W.length ≤ 602) (bA : ∀ x ∈ A, Qq x) (bB : ∀ x ∈ B, Qq x) (bW : ∀ x ∈ W, Qq x) : ∀ (s i : Nat), W.length - i = s → i ≤ W.length →
  Q0t_l0 (A.map wst) (B.map wst) W.length i ((W.take i).map (part A B)) (W.map wst) = some (W.map (part A B)) := by
 intro s
 induction s with
 | zero =>
  intro i h1 h2
  obtain rfl : i = W.length := by omega
  rw [Q0t_l0.eq, Q3 (by omega), Z22]
 | succ s ih =>
  intro i h1 h2
  have hi : i < W.length := by omega
  have eg : (W.map wst)[i]? = some (wst W[i]) := by rw [Z11, Z3 hi]; rfl
  have hb := bW _ (Z14 hi)
  rw [Q0t_l0.eq, Q2 (by omega), Q02, eg, Z0, Z5, eg, Z0, headRows_eq A (by omega) sA bA _ hb, Z0, headRows_eq B (by omega) sB bB _ hb, Z0, wst_ints _ hb]
  have ef : (W.take i).map (part A B) ++ [(ints W[i], (spLo A W[i] : Int), (spHi A W[i] : Int), (spLo B W[i] : Int), (spHi B W[i] : Int))] = (W.take (i + 1)).map (part A B) := by
   rw [Q2z _ _ hi, Z15]; rfl
  simp only
  rw [ef, Q2 (by simp only [Z1, Z8, Z2, Z6]; omega), Q6 i (by omega)]
  exact ih (i + 1) (by omega) (by omega)
theorem implParts_eq (R T : List Nat) (hR : R.length ≤ 300) (hT : T.length ≤ 300) (bR : Qq R) (bT : Qq T) (d : Nat) (hd8 : d ≤ 8) : Q0t (ints R) (ints T) d = some (parts (hd R d) (hd T d)) := by
 have lR := hd_len R d
 have lT := hd_len T d
 have hb : ∀ x ∈ hd R d ++ hd T d, Qq x := fun x hx => (Z26.1 hx).elim (fun h => (hd_byte R bR d x h).1) (fun h => (hd_byte T bT d x h).1)
 have hne : sortN (hd R d ++ hd T d) ≠ [] := fun e => by
  have := congrArg List.length e
  unfold sortN at this
  rw [List.length_mergeSort, Z10, Z6] at this
  omega
 have hl : (sortN (hd R d ++ hd T d)).length = (hd R d ++ hd T d).length := List.length_mergeSort _
 have wl := words_len (hd R d ++ hd T d)
 rw [Z10] at hl wl
 rw [Q0t.eq, implHeads_eq R hR bR d hd8, Z0, implHeads_eq T hT bT d hd8, Z0, concatS_eq _ _ (by rw [Z1]; omega) (by rw [Z1]; omega), Z0, ← Z15, sortedW_eq _ (by rw [Z10]; omega) hb, Z0, compactW_eq _ hne (by omega) fun x hx => hb x ((sortN_mem _ x).1 hx), Z0, dd_words, Z1]
 have := implParts_l0 (hd R d) (hd T d) (by omega) (by omega) (hd_sorted R d) (hd_sorted T d) (words (hd R d ++ hd T d)) (by omega) (fun x hx => (hd_byte R bR d x hx).1) (fun x hx => (hd_byte T bT d x hx).1) (fun x hx => hb x ((words_mem _ x).1 hx)) _ 0 rfl (Z20 _)
 rw [Z39] at this
 exact this
theorem take_cat (V : Ls) (k : Nat) (x : List Nat) : ([] ++ ((wds V).drop 0).take (k - 0)) ++ ([ints x] ++ ((wds V).drop k).take ((wds V).length - k)) = wds (V.take k ++ x :: V.drop k) := by
 rw [Z40, Z58, Nat.sub_zero, Z37 (l := (wds V).drop k) (by rw [Z19]; omega)]
 simp [wds, Z91, List.map_drop]
section
variable (L : Ls) (hL : L.length ≤ 1000) (hs : ∀ x ∈ L, x.length ≤ 4000000) (a b : List (List Int))
include hL hs
theorem specIns_hit (i : Nat) (hi : i < L.length) (V : Ls) (hV : V.length ≤ 1000) (vs : ∀ x ∈ V, x.length ≤ 4000000) : ∀ (s k : Nat), V.length - k = s → k ≤ V.length → Qj_l1 i k true a b (wds L) (wds V) = Qj_l0 ((i + 1 : Nat) : Int) a b (wds L) (wds V) := by
 intro s
 induction s with
 | zero =>
  intro k h1 h2
  obtain rfl : k = V.length := by omega
  rw [Qj_l1.eq, Z1, Q3 (by omega), Z12, Qg, Q6 i (by omega)]
 | succ s ih =>
  intro k h1 h2
  have hk : k < V.length := by omega
  have eg : (wds V)[k]? = some (ints V[k]) := by rw [Z11, Z3 hk]; rfl
  have el : (wds L)[i]? = some (ints L[i]) := by rw [Z11, Z3 hi]; rfl
  rw [Qj_l1.eq, Z1, Q2 (by omega), Q02, eg, Z0, Z5, eg, Z0, Q02, el, Z0, Z5, el, Z0, l05Cmp_eq _ _ (vs _ (Z14 hk)) (hs _ (Z14 hi)), Z0]
  by_cases h : cmpN V[k] L[i] ≤ 0
  ·rw [Q2 h, QW, Q6 k (by omega)]
   exact ih (k + 1) (by omega) (by omega)
  ·rw [Q3 h, Z12, Qg, Q6 i (by omega)]
theorem specIns_l1 (i : Nat) (hi : i < L.length) (V : Ls) (hV : V.length ≤ 1000) (vs : ∀ x ∈ V, x.length ≤ 4000000) : ∀ (s k : Nat), V.length - k = s → k ≤ V.length → Qj_l1 i k false a b (wds L) (wds V) = Qj_l0 ((i + 1 : Nat) : Int) a b (wds L) (wds (V.take k ++ ins L[i] (V.drop k))) := by
 have el : (wds L)[i]? = some (ints L[i]) := by rw [Z11, Z3 hi]; rfl
 intro s
 induction s with
 | zero =>
  intro k h1 h2
  obtain rfl : k = V.length := by omega
  rw [Qj_l1.eq, Z1, Q3 (by omega), Z62, QW, Q02, el, Z0, Z5, el, Z0]
  simp only [Z5]
  have e := take_cat V V.length L[i]
  rw [Z1] at e
  rw [Q2 (by omega), Q2 (by simp only [Z2, Z6, Z8, Z19, Z1]; omega), Q2 (by omega), Q2 (by simp only [Z6, Z8, Z19, Z1]; omega), Q2 (by simp only [Z10, Z2, Z6, Z8, Z19, Z1]; omega), e, Q6 i (by omega), Z74]
  rfl
 | succ s ih =>
  intro k h1 h2
  have hk : k < V.length := by omega
  have eg : (wds V)[k]? = some (ints V[k]) := by rw [Z11, Z3 hk]; rfl
  have hc := l05Cmp_eq V[k] L[i] (vs _ (Z14 hk)) (hs _ (Z14 hi))
  have hd : V.drop k = V[k] :: V.drop (k + 1) := Z27 hk
  rw [Qj_l1.eq, Z1, Q2 (by omega), Q02, eg, Z0, Z5, eg, Z0, Q02, el, Z0, Z5, el, Z0, hc, Z0]
  by_cases h : cmpN V[k] L[i] ≤ 0
  ·rw [Q2 h, Qg, Z0, Z0, Z0, Z0, hc, Z0, Q6 k (by omega)]
   by_cases h0 : cmpN V[k] L[i] = 0
   ·rw [h0, beq_self_eq_true, specIns_hit L hL hs a b i hi V hV vs _ (k + 1) rfl (by omega), hd, ins, if_neg (by omega), if_pos h0, ← hd, Z82]
   ·rw [beq_eq_false_iff_ne.2 h0, ih (k + 1) (by omega) (by omega), hd, ins, if_pos (by omega), Q2z V k hk, Z28]
    rfl
  ·rw [Q3 h, Z62, QW, Z0, Z0]
   have e := take_cat V k L[i]
   rw [Z1] at e
   rw [Q2 (by omega), Q2 (by simp only [Z2, Z6, Z8, Z19, Z1]; omega), Q2 (by omega), Q2 (by simp only [Z6, Z8, Z19, Z1]; omega), Q2 (by simp only [Z10, Z2, Z6, Z8, Z19, Z1]; omega), e, Q6 i (by omega)]
   rw [hd, ins, if_neg (by omega), if_neg (by omega)]
theorem specIns_l0 : ∀ (s i : Nat) (V : Ls), L.length - i = s → i ≤ L.length → V.length ≤ i → (∀ x ∈ V, x ∈ L) → Qj_l0 i a b (wds L) (wds V) = Qj_l2 0 a b (wds ((L.drop i).foldl (fun V x => ins x V) V)) [] := by
 intro s
 induction s with
 | zero =>
  intro i V h1 h2 h3 h4
  obtain rfl : i = L.length := by omega
  rw [Qj_l0.eq, Z1, Q3 (by omega), Z74]; rfl
 | succ s ih =>
  intro i V h1 h2 h3 h4
  have hi : i < L.length := by omega
  have := specIns_l1 L hL hs a b i hi V (by omega) (fun x hx => hs x (h4 x hx)) _ 0 rfl (Z20 _)
  rw [Z39, Z58, Z40] at this
  rw [Qj_l0.eq, Z1, Q2 (by omega), Z27 hi, List.foldl_cons]
  have hl := ins_len L[i] V
  refine this.trans (ih (i + 1) _ (by omega) (by omega) (by omega) fun x hx => ?_)
  rcases (ins_mem _ x V).1 hx with h | h
  ·rw [h]; exact Z14 _
  ·exact h4 x h
end
theorem specParts_l2 (A B : Ls) (hA : A.length ≤ 301) (hB : B.length ≤ 301) (W : Ls) (hW : W.length ≤ 602) (bA : ∀ x ∈ A, x.length ≤ 8) (bB : ∀ x ∈ B, x.length ≤ 8) (bW : ∀ x ∈ W, x.length ≤ 8) : ∀ (s i : Nat), W.length - i = s → i ≤ W.length →
  Qj_l2 i (wds A) (wds B) (wds W) ((W.take i).map (part A B)) = some (W.map (part A B)) := by
 intro s
 induction s with
 | zero =>
  intro i h1 h2
  obtain rfl : i = W.length := by omega
  rw [Qj_l2.eq, Z1, Q3 (by omega), Z22]
 | succ s ih =>
  intro i h1 h2
  have hi : i < W.length := by omega
  have eg : (wds W)[i]? = some (ints W[i]) := by rw [Z11, Z3 hi]; rfl
  have hb := bW _ (Z14 hi)
  have sA := specSpan_eq A (by omega) W[i] (by omega) fun x hx => by have := bA x hx; omega
  have sB := specSpan_eq B (by omega) W[i] (by omega) fun x hx => by have := bB x hx; omega
  rw [Qj_l2.eq, Z1, Q2 (by omega)]
  simp only [Q02, Z5, eg, Z0, sA, sB]
  have ef : (W.take i).map (part A B) ++ [([] ++ ints W[i], (spLo A W[i] : Int), (spHi A W[i] : Int), (spLo B W[i] : Int), (spHi B W[i] : Int))] = (W.take (i + 1)).map (part A B) := by
   rw [Q2z _ _ hi, Z15]; rfl
  rw [ef, Q2 (by simp only [Z6, Q9]; omega), Q2 (by simp only [Z1, Z8, Z2, Z6]; omega), Q6 i (by omega)]
  exact ih (i + 1) (by omega) (by omega)
theorem l13Fit_eq (R T : List Nat) (d : Int) : Q0W (ints R) (ints T) d = some (decide (R.length ≤ 300 ∧ T.length ≤ 300 ∧ 0 ≤ d ∧ d ≤ 8)) := by
 rw [Q0W.eq, Q4E, Z0]
 by_cases h1 : R.length ≤ 300
 ·rw [Q2 h1, Q4E, Z0]
  by_cases h2 : T.length ≤ 300
  ·rw [Q2 h2]
   by_cases h3 : 0 ≤ d
   ·rw [Q2 h3]; congr 1; exact decide_eq_decide.2 (by omega)
   ·rw [Q3 (by omega), decide_eq_false (by omega)]
  ·rw [Q3 h2, decide_eq_false (by omega)]
 ·rw [Q3 h1, decide_eq_false (by omega)]
theorem specParts_eq (R T : List Nat) (hR : R.length ≤ 300) (hT : T.length ≤ 300) (bR : Qq R) (bT : Qq T) (d : Nat) (hd8 : d ≤ 8) : Qj (ints R) (ints T) d = some (parts (hd R d) (hd T d)) := by
 have lR := hd_len R d
 have lT := hd_len T d
 have wl := words_len (hd R d ++ hd T d)
 have h8 : ∀ x ∈ hd R d ++ hd T d, x.length ≤ 8 := fun x hx => Z35 ((Z26.1 hx).elim (fun h => (hd_byte R bR d x h).2) (fun h => (hd_byte T bT d x h).2)) hd8
 rw [Z10] at wl
 have e1 : Qj_l0 0 (wds (hd R d)) (wds (hd T d)) (wds (hd R d ++ hd T d)) (wds []) = _ := specIns_l0 (hd R d ++ hd T d) (by rw [Z10]; omega) (fun x hx => by have := h8 x hx; omega) (wds (hd R d)) (wds (hd T d)) _ 0 [] rfl (Z20 _) (Z7 _) (fun x hx => by cases hx)
 rw [Qj.eq, l13Fit_eq, Z0, decide_eq_true (by omega), Z12, Qg, specHeads_eq R hR d hd8, Z0, specHeads_eq T hT d hd8, Z0, Q2 (by simp only [Z6, Z1]; omega), Q2 (by simp only [Z10, Z6, Z1]; omega), Z40, ← Z15]
 refine e1.trans ?_
 rw [Z58]
 have := specParts_l2 (hd R d) (hd T d) (by omega) (by omega) (words (hd R d ++ hd T d)) (by omega) (fun x hx => h8 x (List.mem_append_left _ hx)) (fun x hx => h8 x (List.mem_append_right _ hx)) (fun x hx => h8 x ((words_mem _ x).1 hx)) _ 0 rfl (Z20 _)
 rw [Z39] at this
 exact this
end Go.Ev.W
/- The longest common subsequence: the reference's functions; both within a budget. -/
set_option linter.unusedVariables false
set_option linter.unusedSimpArgs false
namespace Go.Ev.W
open Go.Ev
def hitC (X Y : List Int) (v x k : Nat) : Bool := (X.getD x 0 == Y.getD k 0) && (1 + lc (X.drop (x + 1)) (Y.drop (k + 1)) == v)
def lowC (X Y : List Int) (v x j : Nat) : Nat → Int → Int
 | 0, y => y
 | k + 1, y => if j ≤ k then lowC X Y v x j k (if hitC X Y v x k then (k : Int) else y) else y
theorem specCommon_l3 (X Y : List Int) (hX : X.length ≤ 100000) (hY : Y.length ≤ 100000) (i j x : Nat) (hi : i ≤ X.length) (hj : j ≤ Y.length) (hx : x < X.length) (out : List (Int × Int)) :
  ∀ (k : Nat) (y : Int), k ≤ Y.length → Qi_l3 X Y (Q0x fS X Y) i j x y ((k : Int) - 1) out = Qi_l2 X Y (Q0x fS X Y) i j ((x + 1 : Nat) : Int) (lowC X Y (lc (X.drop i) (Y.drop j)) x j k y) out := by
 intro k
 induction k with
 | zero =>
  intro y hk
  rw [Qi_l3.eq, Q3 (by omega), Q6 x (by omega)]; rfl
 | succ k ih =>
  intro y hk
  have hk' : k < Y.length := by omega
  rw [show ((k + 1 : Nat) : Int) - 1 = (k : Int) by omega, Qi_l3.eq]
  by_cases hjk : j ≤ k
  ·obtain ⟨row, e1, e2⟩ := tab_at fS_ok X Y (by omega) i j hi hj
   obtain ⟨row2, f1, f2⟩ := tab_at fS_ok X Y (by omega) (x + 1) (k + 1) (by omega) (by omega)
   have hb := lc_le (X.drop (x + 1)) (Y.drop (k + 1))
   rw [Z19] at hb
   have gx : X.getD x 0 = X[x] := by rw [Z9, Z3 hx]; rfl
   have gy : Y.getD k 0 = Y[k] := by rw [Z9, Z3 hk']; rfl
   rw [Q2 (by omega), Q02, Z3 hx, Z0, Q02, Z3 hk', Z0, Qa (x := (k : Int) - 1) (by omega) (by omega)]
   simp only [lowC, if_pos hjk]
   by_cases e : X[x] = Y[k]
   ·rw [Q0w e, Q6 x (by omega), f1, Z0, Q6 k (by omega), f2, Z0, e1, Z0, e2, Z0, Qa (by omega) (by omega)]
    by_cases e3 : 1 + lc (X.drop (x + 1)) (Y.drop (k + 1)) = lc (X.drop i) (Y.drop j)
    ·have hh : hitC X Y (lc (X.drop i) (Y.drop j)) x k = true := by unfold hitC; rw [gx, gy, e, e3]; simp
     rw [Q0w (by omega), hh, if_pos rfl]
     exact ih k (by omega)
    ·have hh : hitC X Y (lc (X.drop i) (Y.drop j)) x k = false := by unfold hitC; rw [beq_eq_false_iff_ne.2 e3, Z98]
     rw [Q0I (by omega), hh, if_neg (by simp)]
     exact ih y (by omega)
   ·have hh : hitC X Y (lc (X.drop i) (Y.drop j)) x k = false := by unfold hitC; rw [gx, gy, beq_eq_false_iff_ne.2 e, Bool.false_and]
    rw [Q0I e, hh, if_neg (by simp)]
    exact ih y (by omega)
  ·rw [Q3 (by omega), Q6 x (by omega)]
   simp only [lowC, if_neg hjk]
theorem lowC_none (X Y : List Int) (v x j : Nat) : ∀ (k : Nat) (y : Int), (∀ q, j ≤ q → q < k → hitC X Y v x q = false) → lowC X Y v x j k y = y
 | 0, y, _ => rfl
 | k + 1, y, h => by
  unfold lowC
  by_cases hjk : j ≤ k
  ·rw [if_pos hjk, h k hjk (Nat.lt_succ_self k), if_neg (by simp)]
   exact lowC_none X Y v x j k y fun q h1 h2 => h q h1 (by omega)
  ·rw [if_neg hjk]
theorem lowC_some (X Y : List Int) (v x j p : Nat) (hp : j ≤ p) (hh : hitC X Y v x p = true) (hlo : ∀ q, j ≤ q → q < p → hitC X Y v x q = false) : ∀ (k : Nat) (y : Int), p < k → lowC X Y v x j k y = p
 | 0, y, h => absurd h (Z93 _)
 | k + 1, y, h => by
  unfold lowC
  rw [if_pos (by omega)]
  by_cases e : p = k
  ·subst e
   rw [hh, if_pos rfl]
   exact lowC_none X Y v x j p _ fun q h1 h2 => hlo q h1 h2
  ·exact lowC_some X Y v x j p hp hh hlo k _ (by omega)
theorem row_step (X Y : List Int) (x j v : Nat) (hx : x < X.length) (hj : j ≤ Y.length) (hv : lc (X.drop x) (Y.drop j) = v) :
  (lowC X Y v x j Y.length (-1) = -1 ∧ lc (X.drop (x + 1)) (Y.drop j) = v ∧ ∀ i, grd (X.drop x) (Y.drop j) i j = grd (X.drop (x + 1)) (Y.drop j) (i + 1) j) ∨
  ∃ p, j ≤ p ∧ p < Y.length ∧ lowC X Y v x j Y.length (-1) = (p : Int) ∧ ∀ i, grd (X.drop x) (Y.drop j) i j = (i, p) :: grd (X.drop (x + 1)) (Y.drop (p + 1)) (i + 1) (p + 1) := by
 have hd : X.drop x = X[x] :: X.drop (x + 1) := Z27 hx
 have gx : X.getD x 0 = X[x] := by rw [Z9, Z3 hx]; rfl
 rw [hd] at hv ⊢
 have hf := lc_fst X[x] (X.drop (x + 1)) (Y.drop j)
 have gy : ∀ q, q < Y.length → Y.getD q 0 = Y[q]! := fun q hq => by rw [Z9, Z3 hq, getElem!_pos Y q hq]; rfl
 cases hc : fst1 X[x] (Y.drop j) with
 | none =>
  rw [hc] at hf; simp only at hf
  have hn := fst1_none _ _ hc
  refine .inl ⟨lowC_none X Y v x j _ _ fun q h1 h2 => ?_, by omega, fun i => by rw [grd, hc]⟩
  unfold hitC
  have := hn (q - j) (by rw [Z19]; omega)
  rw [List.getElem_drop] at this
  simp only [show j + (q - j) = q by omega] at this
  rw [gx, Z9, Z3 h2, beq_eq_false_iff_ne.2 (by simpa using fun e => this e.symm), Bool.false_and]
 | some p =>
  rw [hc] at hf; simp only at hf
  obtain ⟨h1, h2, h3⟩ := fst1_some _ _ _ hc
  rw [Z19] at h1
  rw [List.getElem_drop] at h2
  rw [Z96] at hf
  have hm := mx hf
  have hne : ∀ q, j ≤ q → q < j + p → hitC X Y v x q = false := fun q q1 q2 => by
   have := h3 (q - j) (by rw [Z19]; omega) (by omega)
   rw [List.getElem_drop] at this
   simp only [show j + (q - j) = q by omega] at this
   unfold hitC
   rw [gx, Z9, Z3 (by omega), beq_eq_false_iff_ne.2 (by simpa using fun e => this e.symm), Bool.false_and]
  by_cases e : lc (X.drop (x + 1)) (Y.drop (j + (p + 1))) + 1 = lc (X[x] :: X.drop (x + 1)) (Y.drop j)
  ·refine .inr ⟨j + p, by omega, by omega, lowC_some X Y v x j (j + p) (by omega) ?_ hne _ _ (by omega), fun i => ?_⟩
   ·unfold hitC
    rw [gx, Z9, Z3 (by omega)]
    simp only [Z41, h2, beq_self_eq_true, Z29, beq_iff_eq]
    rw [Z65]; omega
   ·rw [grd, hc]
    simp only
    rw [Z96, if_pos e, Z65]
  ·refine .inl ⟨lowC_none X Y v x j _ _ fun q q1 q2 => ?_, by omega, fun i => by
    rw [grd, hc]
    simp only
    rw [Z96, if_neg e]⟩
   by_cases hq : q < j + p
   ·exact hne q q1 hq
   ·have hl := lc_drop2 (X.drop (x + 1)) Y (j + (p + 1)) (q + 1) (by omega)
    unfold hitC
    rw [beq_eq_false_iff_ne.2 (show 1 + lc (X.drop (x + 1)) (Y.drop (q + 1)) ≠ v by omega), Z98]
theorem specCommon_l12 (X Y : List Int) (hX : X.length ≤ 100000) (hY : Y.length ≤ 100000) : ∀ (d : Nat),
  (∀ (i j : Nat) (out : List (Int × Int)), X.length - i = d → i ≤ X.length → j ≤ Y.length → out.length ≤ i → Qi_l1 X Y (Q0x fS X Y) i j out = some (out ++ (grd (X.drop i) (Y.drop j) i j).map ipr)) ∧
  (∀ (i j x : Nat) (out : List (Int × Int)), X.length - x = d → i ≤ x → x ≤ X.length → j ≤ Y.length → out.length ≤ i → lc (X.drop i) (Y.drop j) = lc (X.drop x) (Y.drop j) → 0 < lc (X.drop i) (Y.drop j) →
   Qi_l2 X Y (Q0x fS X Y) i j x (-1) out = some (out ++ (grd (X.drop x) (Y.drop j) x j).map ipr)) := by
 intro d
 induction d with
 | zero =>
  constructor
  ·intro i j out h1 h2 h3 h4
   obtain rfl : i = X.length := by omega
   obtain ⟨row, e1, e2⟩ := tab_at fS_ok X Y (by omega) X.length j h2 h3
   rw [Qi_l1.eq, e1, Z0, e2, Z0, Z74]
   simp [lc, grd]
  ·intro i j x out h1 h2 h3 h4 h5 h6 h7
   obtain rfl : x = X.length := by omega
   rw [h6, Z74] at h7
   simp [lc] at h7
 | succ d ih =>
  have two : ∀ (i j x : Nat) (out : List (Int × Int)), X.length - x = d + 1 → i ≤ x → x ≤ X.length → j ≤ Y.length → out.length ≤ i → lc (X.drop i) (Y.drop j) = lc (X.drop x) (Y.drop j) → 0 < lc (X.drop i) (Y.drop j) →
    Qi_l2 X Y (Q0x fS X Y) i j x (-1) out = some (out ++ (grd (X.drop x) (Y.drop j) x j).map ipr) := by
   intro i j x out h1 h2 h3 h4 h5 h6 h7
   have hx : x < X.length := by omega
   rw [Qi_l2.eq, Q2 (by omega), Qa (by omega) (by omega), specCommon_l3 X Y hX hY i j x (by omega) h4 hx out Y.length (-1) (Z7 _)]
   rcases row_step X Y x j _ hx h4 h6.symm with ⟨r1, r2, r3⟩ | ⟨p, r1, r2, r3, r4⟩
   ·rw [r1, r3 x]
    exact ih.2 i j (x + 1) out (by omega) (by omega) (by omega) h4 h5 r2.symm h7
   ·rw [r3, r4 x, Qi_l2.eq, Q3 (by omega), Qa (x := ((x + 1 : Nat) : Int) - 1) (by omega) (by omega), Q2 (by simp only [Z2, Z6]; omega), Q6 p (by omega), show ((x + 1 : Nat) : Int) - 1 = (x : Int) by omega]
    rw [ih.1 (x + 1) (p + 1) _ (by omega) (by omega) (by omega) (by rw [Z10]; simp; omega), Z28]
    rfl
  refine ⟨?_, two⟩
  intro i j out h1 h2 h3 h4
  obtain ⟨row, e1, e2⟩ := tab_at fS_ok X Y (by omega) i j h2 h3
  rw [Qi_l1.eq, e1, Z0, e2, Z0]
  by_cases hz : lc (X.drop i) (Y.drop j) = 0
  ·rw [Q3 (by omega), grd_nil hz]; simp
  ·rw [Q2 (by omega)]
   exact two i j i out h1 (Z7 _) h2 h3 h4 rfl (by omega)
theorem specTable_eq (X Y : List Int) (hX : X.length ≤ 100000) (hY : Y.length ≤ 100000) : Q1X X Y = some (Q0x fS X Y) := tableC_eq fS X Y (by omega) (by omega)
def cw (X Y : List Int) (b : Int) : List (Nat × Nat) := if ((X.length + Y.length : Nat) : Int) - 2 * (lc X Y : Nat) > b then [] else grd X Y 0 0
theorem implWithin_eq (X Y : List Int) (hX : X.length ≤ 301) (hY : Y.length ≤ 301) (b : Int) : Q1a X Y b = some ((cw X Y b).map ipr) := by
 have hl := grd_len X Y 0 0
 have hb := lc_le X Y
 rw [Q1a.eq, Q1I.eq]
 rw [Q2 (by omega), Z0, decide_eq_true (by omega), Z12, Qg, implCommonOf_eq X Y (by omega) (by omega), Z0, Z1, hl, Qa (x := (X.length : Int) + Y.length) (by omega) (by omega), Qa (x := 2 * (lc X Y : Int)) (by omega) (by omega), Qa (by omega) (by omega)]
 unfold cw
 by_cases h : (X.length : Int) + Y.length - 2 * (lc X Y : Int) > b
 ·rw [Q2 h, if_pos (by omega)]; rfl
 ·rw [Q3 h, if_neg (by omega)]
theorem specWithin_eq (X Y : List Int) (hX : X.length ≤ 301) (hY : Y.length ≤ 301) (b : Int) : Q12 X Y b = some ((cw X Y b).map ipr) := by
 have hb := lc_le X Y
 have hr : ∀ Z : List Int, Z.length ≤ 301 → Q0O Z = some true := fun Z hZ => by rw [Q0O.eq, decide_eq_true (by omega)]
 obtain ⟨row, e1, e2⟩ := tab_at fS_ok X Y (by omega) 0 0 (Z20 _) (Z20 _)
 have e1' : at? (Q0x fS X Y) 0 = some row := e1
 have e2' : at? row 0 = some ((lc X Y : Nat) : Int) := e2
 have hL : Q1g X Y = some ((lc X Y : Nat) : Int) := by
  rw [Q1g.eq, hr X hX, hr Y hY, Z0, Z0, specTable_eq X Y (by omega) (by omega), Z0, e1', Z0, e2']; rfl
 have hC : Qi X Y = some ((grd X Y 0 0).map ipr) := by
  rw [Qi.eq, hr X hX, hr Y hY, Z0, Z0, Qi_l0.eq, specTable_eq X Y (by omega) (by omega)]
  have := (specCommon_l12 X Y (by omega) (by omega) _).1 0 0 [] rfl (Z20 _) (Z20 _) (Z7 _)
  simp only [Z58, Z40] at this
  exact this
 rw [Q12.eq, hL, Z0, Q3 (by omega), Qa (x := (X.length : Int) + Y.length) (by omega) (by omega), Qa (x := 2 * (lc X Y : Int)) (by omega) (by omega), Qa (by omega) (by omega)]
 unfold cw
 by_cases h : (X.length : Int) + Y.length - 2 * (lc X Y : Int) > b
 ·rw [Q2 h, if_pos (by omega)]; rfl
 ·rw [Q3 h, if_neg (by omega), hC]; rfl
end Go.Ev.W
/- What two texts share: both functions; the pairs go up and tell equal symbols. -/
set_option linter.unusedVariables false
set_option linter.unusedSimpArgs false
namespace Go.Ev.W
open Go.Ev
theorem grd_at : ∀ (X Y : List Int) (i k : Nat), ∀ q ∈ grd X Y i k, i ≤ q.1 ∧ k ≤ q.2 ∧ ∃ v, X[q.1 - i]? = some v ∧ Y[q.2 - k]? = some v
 | [], Y, i, k, q, h => by simp [grd] at h
 | x :: xs, Y, i, k, q, h => by
  have none : ∀ q ∈ grd xs Y (i + 1) k, i ≤ q.1 ∧ k ≤ q.2 ∧ ∃ v, (x :: xs)[q.1 - i]? = some v ∧ Y[q.2 - k]? = some v := fun q h => by
   obtain ⟨h1, h2, v, h3, h4⟩ := grd_at xs Y (i + 1) k q h
   refine ⟨by omega, h2, v, ?_, h4⟩
   rw [show q.1 - i = (q.1 - (i + 1)) + 1 by omega, Z108]; exact h3
  unfold grd at h
  cases hf : fst1 x Y with
  | none => rw [hf] at h; exact none q h
  | some p =>
   rw [hf] at h
   simp only at h
   by_cases e : lc xs (Y.drop (p + 1)) + 1 = lc (x :: xs) Y
   ·rw [if_pos e] at h
    rcases Z13.1 h with h | h
    ·subst h
     obtain ⟨hp, h2, _⟩ := fst1_some _ _ _ hf
     refine ⟨Z7 _, Nat.le_add_right _ _, x, by simp, ?_⟩
     show Y[k + p - k]? = _
     rw [Z101, Z3 hp, h2]
    ·obtain ⟨h1, h2, v, h3, h4⟩ := grd_at xs (Y.drop (p + 1)) (i + 1) (k + p + 1) q h
     refine ⟨by omega, by omega, v, ?_, ?_⟩
     ·rw [show q.1 - i = (q.1 - (i + 1)) + 1 by omega, Z108]; exact h3
     ·rw [Z61, show p + 1 + (q.2 - (k + p + 1)) = q.2 - k by omega] at h4; exact h4
   ·rw [if_neg e] at h; exact none q h
def Up (p q : Nat × Nat) : Prop := p.1 < q.1 ∧ p.2 < q.2
theorem grd_up : ∀ (X Y : List Int) (i k : Nat), (grd X Y i k).Pairwise Up
 | [], Y, i, k => by simp [grd]
 | x :: xs, Y, i, k => by
  unfold grd
  cases hf : fst1 x Y with
  | none => exact grd_up xs Y (i + 1) k
  | some p =>
   simp only
   by_cases e : lc xs (Y.drop (p + 1)) + 1 = lc (x :: xs) Y
   ·rw [if_pos e]
    refine Z81.2 ⟨fun q hq => ?_, grd_up xs _ _ _⟩
    obtain ⟨h1, h2, _⟩ := grd_at xs (Y.drop (p + 1)) (i + 1) (k + p + 1) q hq
    exact ⟨by omega, by omega⟩
   ·rw [if_neg e]; exact grd_up xs Y (i + 1) k
theorem cw_at (X Y : List Int) (b : Int) : ∀ q ∈ cw X Y b, ∃ v, X[q.1]? = some v ∧ Y[q.2]? = some v := fun q hq => by
 unfold cw at hq
 split at hq
 ·cases hq
 ·obtain ⟨_, _, h⟩ := grd_at X Y 0 0 q hq
  exact h
theorem cw_up (X Y : List Int) (b : Int) : (cw X Y b).Pairwise Up := by
 unfold cw
 split
 ·exact .nil
 ·exact grd_up X Y 0 0
theorem cw_len (X Y : List Int) (b : Int) : (cw X Y b).length ≤ X.length := by
 unfold cw
 split
 ·exact Z20 _
 ·rw [grd_len]; exact lc_le X Y
def seg (X : List Int) (lo hi : Nat) : List Int := (X.drop lo).take (hi - lo)
theorem seg_at {X : List Int} {lo hi i : Nat} {v : Int} (h : (seg X lo hi)[i]? = some v) : X[i + lo]? = some v ∧ i + lo < hi := by
 unfold seg at h
 rw [Z55] at h
 split at h
 ·rename_i hlt
  rw [Z61, Nat.add_comm] at h
  exact ⟨h, by omega⟩
 ·cases h
theorem seg_len (X : List Int) (lo hi : Nat) : (seg X lo hi).length ≤ X.length := by unfold seg; rw [Z8, Z19]; omega
def shq (a b : List Int) (bud : Int) (A B : Ls) (w : List Nat) : List (Nat × Nat) := cw (seg a (spLo A w) (spHi A w)) (seg b (spLo B w) (spHi B w)) bud
def shf (A B : Ls) (w : List Nat) (p : Nat × Nat) : Nat × Nat := (p.1 + spLo A w, p.2 + spLo B w)
def shw (a b : List Int) (bud : Int) (A B : Ls) (w : List Nat) : List (Nat × Nat) := (shq a b bud A B w).map (shf A B w)
def shv (a b : List Int) (bud : Int) (A B : Ls) : List (Nat × Nat) := (words (A ++ B)).flatMap (shw a b bud A B)
theorem shw_at (a b : List Int) (bud : Int) (A B : Ls) (w : List Nat) : ∀ q ∈ shw a b bud A B w, spLo A w ≤ q.1 ∧ q.1 < spHi A w ∧ spLo B w ≤ q.2 ∧ q.2 < spHi B w ∧ ∃ v, a[q.1]? = some v ∧ b[q.2]? = some v := fun q hq => by
 obtain ⟨p, hp, rfl⟩ := Z18.1 hq
 obtain ⟨v, h1, h2⟩ := cw_at _ _ _ p hp
 obtain ⟨k1, l1⟩ := seg_at h1
 obtain ⟨k2, l2⟩ := seg_at h2
 exact ⟨Nat.le_add_left _ _, l1, Nat.le_add_left _ _, l2, v, k1, k2⟩
theorem shv_up (a b : List Int) (bud : Int) (A B : Ls) : (shv a b bud A B).Pairwise Up := by
 unfold shv
 refine List.pairwise_flatMap.2 ⟨fun w _ => ?_, (words_sorted _).imp fun {v w} hvw x hx y hy => ?_⟩
 ·unfold shw
  rw [List.pairwise_map]
  exact (cw_up _ _ _).imp fun {p q} h => ⟨Nat.add_lt_add_right h.1 _, Nat.add_lt_add_right h.2 _⟩
 ·obtain ⟨_, x1, _, x2, _⟩ := shw_at a b bud A B v x hx
  obtain ⟨y1, _, y2, _, _⟩ := shw_at a b bud A B w y hy
  have := sp_next A hvw
  have := sp_next B hvw
  exact ⟨by omega, by omega⟩
theorem shv_at (a b : List Int) (bud : Int) (A B : Ls) : ∀ q ∈ shv a b bud A B, ∃ v, a[q.1]? = some v ∧ b[q.2]? = some v := fun q hq => by
 obtain ⟨w, _, hw⟩ := List.mem_flatMap.1 hq
 exact (shw_at a b bud A B w q hw).2.2.2.2
theorem Q3h {f : List Nat → List (Nat × Nat)} (h : ∀ w, (f w).length ≤ 301) : ∀ W : Ls, (W.flatMap f).length ≤ W.length * 301
 | [] => by simp
 | w :: W => by
  have := Q3h h W
  have := h w
  rw [Z104, Z10, Z2]; omega
section
variable (a b : List Int) (ha : a.length ≤ 301) (hb : b.length ≤ 301) (bud : Int) (A B : Ls) (hA : A.length = a.length) (hB : B.length = b.length)
include ha hb hA hB
omit hb hB in
theorem shq_len (w : List Nat) : (shq a b bud A B w).length ≤ 301 := by
 have := cw_len (seg a (spLo A w) (spHi A w)) (seg b (spLo B w) (spHi B w)) bud
 have := seg_len a (spLo A w) (spHi A w)
 unfold shq; omega
omit hb hB in
theorem shw_len (w : List Nat) : (shw a b bud A B w).length ≤ 301 := by unfold shw; rw [Z1]; exact shq_len a b ha bud A B hA w
theorem shift_eq (w : List Nat) (p : Nat × Nat) (hp : p ∈ shq a b bud A B w) : (IntKind.i64.wrap ((ipr p).1 + (spLo A w : Int)), IntKind.i64.wrap ((ipr p).2 + (spLo B w : Int))) = ipr (shf A B w p) := by
 obtain ⟨v, h1, h2⟩ := cw_at _ _ _ p hp
 obtain ⟨k1, l1⟩ := seg_at h1
 obtain ⟨k2, l2⟩ := seg_at h2
 have s1 := sp_len A w
 have s2 := sp_len B w
 show (IntKind.i64.wrap ((p.1 : Int) + (spLo A w : Int)), IntKind.i64.wrap ((p.2 : Int) + (spLo B w : Int))) = (((p.1 + spLo A w : Nat) : Int), ((p.2 + spLo B w : Nat) : Int))
 rw [Qa (by omega) (by omega), Qa (by omega) (by omega)]
 congr 1
theorem implShare_l1 (w : List Nat) (n j : Int) (P : List (List Int × Int × Int × Int × Int)) (out : List (Nat × Nat)) (ho : out.length ≤ 1000000) (x : List Int) (r1 r2 : Int) : ∀ (s i : Nat), (shq a b bud A B w).length - i = s → i ≤ (shq a b bud A B w).length →
  QB_l1 bud n j (shq a b bud A B w).length i a b ((out ++ ((shq a b bud A B w).take i).map (shf A B w)).map ipr) x (spLo A w) r1 (spLo B w) r2 P ((shq a b bud A B w).map ipr) =
   QB_l0 bud n (IntKind.i64.wrap (j + 1)) a b ((out ++ shw a b bud A B w).map ipr) P := by
 have hl := shq_len a b ha bud A B hA w
 intro s
 induction s with
 | zero =>
  intro i h1 h2
  obtain rfl : i = (shq a b bud A B w).length := by omega
  rw [QB_l1.eq, Q3 (by omega), Z22]; rfl
 | succ s ih =>
  intro i h1 h2
  have hi : i < (shq a b bud A B w).length := by omega
  have eg : ((shq a b bud A B w).map ipr)[i]? = some (ipr (shq a b bud A B w)[i]) := by rw [Z11, Z3 hi]; rfl
  have ef : (out ++ ((shq a b bud A B w).take i).map (shf A B w)).map ipr ++ [ipr (shf A B w (shq a b bud A B w)[i])] = (out ++ ((shq a b bud A B w).take (i + 1)).map (shf A B w)).map ipr := by
   rw [Q2z _ _ hi, Z15, Z15, Z15, Z15, Z28]; rfl
  rw [QB_l1.eq, Q2 (by omega), Q02, eg, Z0, Z5, eg, Z0, shift_eq a b ha hb bud A B hA hB w _ (Z14 hi), ef, Q2 (by simp only [Z1, Z10, Z8, Z2, Z6]; omega), Q6 i (by omega)]
  exact ih (i + 1) (by omega) (by omega)
theorem specShare_l1 (w : List Nat) (j : Int) (P : List (List Int × Int × Int × Int × Int)) (out : List (Nat × Nat)) (ho : out.length ≤ 1000000) (x : List Int) (r1 r2 : Int) : ∀ (s i : Nat), (shq a b bud A B w).length - i = s → i ≤ (shq a b bud A B w).length →
  QK_l1 bud P j i ((out ++ ((shq a b bud A B w).take i).map (shf A B w)).map ipr) a b x (spLo A w) r1 (spLo B w) r2 ((shq a b bud A B w).map ipr) =
   QK_l0 bud P (IntKind.i64.wrap (j + 1)) ((out ++ shw a b bud A B w).map ipr) a b := by
 have hl := shq_len a b ha bud A B hA w
 intro s
 induction s with
 | zero =>
  intro i h1 h2
  obtain rfl : i = (shq a b bud A B w).length := by omega
  rw [QK_l1.eq, Z1, Q3 (by omega), Z22]; rfl
 | succ s ih =>
  intro i h1 h2
  have hi : i < (shq a b bud A B w).length := by omega
  have eg : ((shq a b bud A B w).map ipr)[i]? = some (ipr (shq a b bud A B w)[i]) := by rw [Z11, Z3 hi]; rfl
  have ef : (out ++ ((shq a b bud A B w).take i).map (shf A B w)).map ipr ++ [ipr (shf A B w (shq a b bud A B w)[i])] = (out ++ ((shq a b bud A B w).take (i + 1)).map (shf A B w)).map ipr := by
   rw [Q2z _ _ hi, Z15, Z15, Z15, Z15, Z28]; rfl
  rw [QK_l1.eq, Z1, Q2 (by omega)]
  simp only [Q02, Z5, eg, Z0]
  rw [shift_eq a b ha hb bud A B hA hB w _ (Z14 hi), ef, Q2 (by simp only [Z1, Z10, Z8, Z2, Z6]; omega), Q6 i (by omega)]
  exact ih (i + 1) (by omega) (by omega)
theorem implShare_l0 (W : Ls) (hW : W.length ≤ 602) : ∀ (s i : Nat), W.length - i = s → i ≤ W.length →
  QB_l0 bud W.length i a b (((W.take i).flatMap (shw a b bud A B)).map ipr) (W.map (part A B)) = some ((W.flatMap (shw a b bud A B)).map ipr) := by
 intro s
 induction s with
 | zero =>
  intro i h1 h2
  obtain rfl : i = W.length := by omega
  rw [QB_l0.eq, Q3 (by omega), Z22]
 | succ s ih =>
  intro i h1 h2
  have hi : i < W.length := by omega
  have eg : (W.map (part A B))[i]? = some (part A B W[i]) := by rw [Z11, Z3 hi]; rfl
  have s1 := sp_le A W[i]
  have s2 := sp_len A W[i]
  have s3 := sp_le B W[i]
  have s4 := sp_len B W[i]
  have hq := implWithin_eq (seg a (spLo A W[i]) (spHi A W[i])) (seg b (spLo B W[i]) (spHi B W[i])) (Z35 (seg_len _ _ _) ha) (Z35 (seg_len _ _ _) hb) bud
  have ho := Q3h (shw_len a b ha bud A B hA) (W.take i)
  rw [Z8] at ho
  have h1' := implShare_l1 a b ha hb bud A B hA hB W[i] W.length i (W.map (part A B)) ((W.take i).flatMap (shw a b bud A B)) (by omega) (ints W[i]) (spHi A W[i]) (spHi B W[i]) _ 0 rfl (Z20 _)
  have ih := ih (i + 1) (by omega) (by omega)
  rw [Q2z _ _ hi, Z105, Z104, List.flatMap_nil, Z30] at ih
  rw [Z39, Z59, Z30, Q6 i (by omega), ih] at h1'
  rw [QB_l0.eq, Q2 (by omega), Q02, eg, Z0, Z5, eg, Z0]
  show (bif decide (0 ≤ (spHi A W[i] : Int) ∧ (spHi A W[i] : Int) ≤ (a.length : Int)) then
    bif decide (0 ≤ (spLo A W[i] : Int) ∧ (spLo A W[i] : Int) ≤ ((((spHi A W[i] : Nat) : Int).toNat : Nat) : Int)) then
    bif decide (0 ≤ (spHi B W[i] : Int) ∧ (spHi B W[i] : Int) ≤ (b.length : Int)) then
    bif decide (0 ≤ (spLo B W[i] : Int) ∧ (spLo B W[i] : Int) ≤ ((((spHi B W[i] : Nat) : Int).toNat : Nat) : Int)) then _ else none else none else none else none) = _
  rw [Q2 (by omega), Q2 (by omega), Q2 (by omega), Q2 (by omega)]
  show (Q1a (seg a (spLo A W[i]) (spHi A W[i])) (seg b (spLo B W[i]) (spHi B W[i])) bud).bind _ = _
  rw [hq, Z0, Z1]
  exact h1'
theorem specShare_l0 (W : Ls) (hW : W.length ≤ 602) : ∀ (s i : Nat), W.length - i = s → i ≤ W.length →
  QK_l0 bud (W.map (part A B)) i (((W.take i).flatMap (shw a b bud A B)).map ipr) a b = some ((W.flatMap (shw a b bud A B)).map ipr) := by
 intro s
 induction s with
 | zero =>
  intro i h1 h2
  obtain rfl : i = W.length := by omega
  rw [QK_l0.eq, Z1, Q3 (by omega), Z22]
 | succ s ih =>
  intro i h1 h2
  have hi : i < W.length := by omega
  have eg : (W.map (part A B))[i]? = some (part A B W[i]) := by rw [Z11, Z3 hi]; rfl
  have s1 := sp_le A W[i]
  have s2 := sp_len A W[i]
  have s3 := sp_le B W[i]
  have s4 := sp_len B W[i]
  have hq := specWithin_eq (seg a (spLo A W[i]) (spHi A W[i])) (seg b (spLo B W[i]) (spHi B W[i])) (Z35 (seg_len _ _ _) ha) (Z35 (seg_len _ _ _) hb) bud
  have ho := Q3h (shw_len a b ha bud A B hA) (W.take i)
  rw [Z8] at ho
  have h1' := specShare_l1 a b ha hb bud A B hA hB W[i] i (W.map (part A B)) ((W.take i).flatMap (shw a b bud A B)) (by omega) (ints W[i]) (spHi A W[i]) (spHi B W[i]) _ 0 rfl (Z20 _)
  have ih := ih (i + 1) (by omega) (by omega)
  rw [Q2z _ _ hi, Z105, Z104, List.flatMap_nil, Z30] at ih
  rw [Z39, Z59, Z30, Q6 i (by omega), ih] at h1'
  rw [QK_l0.eq, Z1, Q2 (by omega), Q02, eg, Z0]
  show (bif decide (0 ≤ (spHi A W[i] : Int) ∧ (spHi A W[i] : Int) ≤ (a.length : Int)) then
    bif decide (0 ≤ (spLo A W[i] : Int) ∧ (spLo A W[i] : Int) ≤ ((((spHi A W[i] : Nat) : Int).toNat : Nat) : Int)) then
    bif decide (0 ≤ (spHi B W[i] : Int) ∧ (spHi B W[i] : Int) ≤ (b.length : Int)) then
    bif decide (0 ≤ (spLo B W[i] : Int) ∧ (spLo B W[i] : Int) ≤ ((((spHi B W[i] : Nat) : Int).toNat : Nat) : Int)) then _ else none else none else none else none) = _
  rw [Q2 (by omega), Q2 (by omega), Q2 (by omega), Q2 (by omega)]
  show (Q12 (seg a (spLo A W[i]) (spHi A W[i])) (seg b (spLo B W[i]) (spHi B W[i])) bud).bind _ = _
  rw [hq, Z0]
  exact h1'
end
def share (R T : List Nat) (d : Nat) (bud : Int) : List (Nat × Nat) := shv (ints (bwt R)) (ints (bwt T)) bud (hd R d) (hd T d)
section
variable (R T : List Nat) (hR : R.length ≤ 300) (hT : T.length ≤ 300) (bR : Qq R) (bT : Qq T) (d : Nat) (hd8 : d ≤ 8) (bud : Int)
include hR hT bR bT hd8
theorem implShare_eq : QB (ints R) (ints T) d bud = some ((share R T d bud).map ipr) := by
 have l1 := Q10 R
 have l2 := Q10 T
 have k1 := hd_len R d
 have k2 := hd_len T d
 have wl := words_len (hd R d ++ hd T d)
 rw [Z10] at wl
 have h := implShare_l0 (ints (bwt R)) (ints (bwt T)) (by rw [Q9]; omega) (by rw [Q9]; omega) bud (hd R d) (hd T d) (by rw [Q9]; omega) (by rw [Q9]; omega) (words (hd R d ++ hd T d)) (by omega) _ 0 rfl (Z20 _)
 rw [QB.eq, Q2X R hR bR, Z0, Q2X T hT bT, Z0, implParts_eq R T hR hT bR bT d hd8, Z0]
 unfold parts
 rw [Z1]
 rw [Z39] at h
 exact h
theorem specShare_eq : QK (ints R) (ints T) d bud = some ((share R T d bud).map ipr) := by
 have l1 := Q10 R
 have l2 := Q10 T
 have k1 := hd_len R d
 have k2 := hd_len T d
 have wl := words_len (hd R d ++ hd T d)
 rw [Z10] at wl
 have h := specShare_l0 (ints (bwt R)) (ints (bwt T)) (by rw [Q9]; omega) (by rw [Q9]; omega) bud (hd R d) (hd T d) (by rw [Q9]; omega) (by rw [Q9]; omega) (words (hd R d ++ hd T d)) (by omega) _ 0 rfl (Z20 _)
 rw [QK.eq, specParts_eq R T hR hT bR bT d hd8, Z0, Q3n R hR bR, Z0, Q3n T hT bT, Z0]
 unfold parts
 rw [Z39] at h
 exact h
end
theorem share_up (R T : List Nat) (d : Nat) (bud : Int) : (share R T d bud).Pairwise Up := shv_up _ _ _ _ _
theorem share_at (R T : List Nat) (d : Nat) (bud : Int) : ∀ q ∈ share R T d bud, ∃ v, (bwt R)[q.1]? = some v ∧ (bwt T)[q.2]? = some v := fun q hq => by
 obtain ⟨v, h1, h2⟩ := shv_at _ _ _ _ _ q hq
 rw [Z11] at h1 h2
 obtain ⟨x, hx, ex⟩ := Option.map_eq_some_iff.1 h1
 obtain ⟨y, hy, ey⟩ := Option.map_eq_some_iff.1 h2
 refine ⟨x, hx, ?_⟩
 rw [hy]; congr 1; omega
end Go.Ev.W
/- Patches and waves of two texts: plain facts. -/
set_option linter.unusedVariables false
set_option linter.unusedSimpArgs false
namespace Go.Ev.W
open Go.Ev
def at0 : List Nat → List Bool → List Nat
 | x :: X, b :: bs => (if b then [] else [x]) ++ at0 X bs
 | _, _ => []
def at1 : List Nat → List Bool → List Nat
 | x :: X, b :: bs => (if b then [x] else []) ++ at1 X bs
 | _, _ => []
theorem at0_not : ∀ (X : List Nat) (bs : List Bool), at0 X (bs.map not) = at1 X bs
 | [], [] => rfl
 | [], _ :: _ => rfl
 | _ :: _, [] => rfl
 | x :: X, b :: bs => by
  rw [Z16, at0, at1, at0_not X bs]
  cases b <;> rfl
theorem at0_snoc : ∀ (X : List Nat) (bs : List Bool) (i : Nat) (hi : i < X.length) (hb : i < bs.length), at0 (X.take (i + 1)) bs = at0 (X.take i) bs ++ (if bs[i] then [] else [X[i]])
 | [], _, _, hi, _ => by simp at hi
 | _ :: _, [], _, _, hb => by simp at hb
 | x :: X, b :: bs, 0, _, _ => by cases b <;> simp [at0]
 | x :: X, b :: bs, i + 1, hi, hb => by
  rw [Z100, Z100, at0, at0, at0_snoc X bs i (by simpa using hi) (by simpa using hb), Z28]; rfl
theorem at1_snoc : ∀ (X : List Nat) (bs : List Bool) (i : Nat) (hi : i < X.length) (hb : i < bs.length), at1 (X.take (i + 1)) bs = at1 (X.take i) bs ++ (if bs[i] then [X[i]] else [])
 | [], _, _, hi, _ => by simp at hi
 | _ :: _, [], _, _, hb => by simp at hb
 | x :: X, b :: bs, 0, _, _ => by cases b <;> simp [at1]
 | x :: X, b :: bs, i + 1, hi, hb => by
  rw [Z100, Z100, at1, at1, at1_snoc X bs i (by simpa using hi) (by simpa using hb), Z28]; rfl
theorem Q38 : ∀ (X : List Nat) (bs : List Bool), ∀ x ∈ at0 X bs, x ∈ X
 | [], [], x, h => by cases h
 | [], _ :: _, x, h => by cases h
 | _ :: _, [], x, h => by cases h
 | y :: X, b :: bs, x, h => by
  rw [at0] at h
  rcases Z26.1 h with h | h
  ·cases b
   ·rw [if_neg (by simp)] at h; rw [Z38.1 h]; exact Z43
   ·cases h
  ·exact Z57 _ (Q38 X bs x h)
theorem Q2H : ∀ (X : List Nat) (bs : List Bool), (at0 X bs).length ≤ X.length
 | [], [] => by simp [at0]
 | [], _ :: _ => by simp [at0]
 | _ :: _, [] => by simp [at0]
 | y :: X, b :: bs => by
  have := Q2H X bs
  rw [at0, Z10, Z2]
  cases b <;> simp <;> omega
theorem at1_len : ∀ (X : List Nat) (bs : List Bool), X.length = bs.length → (at1 X bs).length = one bs bs.length
 | [], [], _ => by simp [at1, one]
 | [], _ :: _, h => by cases h
 | _ :: _, [], h => by cases h
 | y :: X, b :: bs, h => by
  have := at1_len X bs (by simpa using h)
  unfold one at this ⊢
  rw [Z22] at this ⊢
  rw [at1, Z10, this, Z32]
  cases b <;> simp <;> omega
theorem zer_cons (b : Bool) (bs : List Bool) : zer (b :: bs) (b :: bs).length = (if b then 0 else 1) + zer bs bs.length := by
 unfold zer
 rw [Z22, Z22, Z32]
 cases b <;> simp <;> omega
theorem one_cons (b : Bool) (bs : List Bool) : one (b :: bs) (b :: bs).length = (if b then 1 else 0) + one bs bs.length := by
 unfold one
 rw [Z22, Z22, Z32]
 cases b <;> simp <;> omega
def pat : List Bool → List Nat → List Nat → List Nat
 | [], _, _ => []
 | true :: bs, T, R => T.headD 0 :: pat bs T.tail R
 | false :: bs, T, R => R.headD 0 :: pat bs T R.tail
theorem Q3r : ∀ (bs : List Bool) (T R : List Nat), (pat bs T R).length = bs.length
 | [], _, _ => rfl
 | true :: bs, T, R => by rw [pat, Z2, Z2, Q3r bs]
 | false :: bs, T, R => by rw [pat, Z2, Z2, Q3r bs]
theorem pat_snoc : ∀ (bs : List Bool) (T R : List Nat) (i : Nat) (hi : i < bs.length), zer bs bs.length = R.length → one bs bs.length = T.length →
  (pat bs T R)[i]? = if bs[i] then T[one bs i]? else R[zer bs i]?
 | [], _, _, _, hi, _, _ => by simp at hi
 | true :: bs, T, R, i, hi, h1, h2 => by
  rw [zer_cons, if_pos rfl, Z25] at h1
  rw [one_cons, if_pos rfl] at h2
  cases T with
  | nil => simp at h2
  | cons t T =>
   rw [Z2] at h2
   cases i with
   | zero => rfl
   | succ i =>
    have ih := pat_snoc bs T R i (by simpa using hi) h1 (by omega)
    have e1 : one (true :: bs) (i + 1) = one bs i + 1 := by unfold one; simp
    have e2 : zer (true :: bs) (i + 1) = zer bs i := by unfold zer; simp
    rw [pat, Z108, List.getElem_cons_succ, e1, e2, Z108]
    exact ih
 | false :: bs, T, R, i, hi, h1, h2 => by
  rw [zer_cons, if_neg (by simp)] at h1
  rw [one_cons, if_neg (by simp), Z25] at h2
  cases R with
  | nil => simp at h1
  | cons r R =>
   rw [Z2] at h1
   cases i with
   | zero => rfl
   | succ i =>
    have ih := pat_snoc bs T R i (by simpa using hi) (by omega) h2
    have e1 : one (false :: bs) (i + 1) = one bs i := by unfold one; simp
    have e2 : zer (false :: bs) (i + 1) = zer bs i + 1 := by unfold zer; simp
    rw [pat, Z108, List.getElem_cons_succ, e1, e2, Z108]
    exact ih
def wvV (Y : List Nat) : Int × List Int × List (Int × List Int) := ((Y.length : Int), ints (wLv 9 0 Y).1, LI (wLv 9 0 Y).2)
end Go.Ev.W
/- How many bits are as told: both functions. -/
set_option linter.unusedVariables false
set_option linter.unusedSimpArgs false
namespace Go.Ev.W
open Go.Ev
theorem countB_l0 (bs : List Bool) (b : Bool) (hn : bs.length ≤ 5000) : ∀ (d i : Nat), bs.length - i = d → i ≤ bs.length → Qs_l0 (bint b) (bef bs i b : Nat) (Qe bs) bs.length i = some ((bef bs bs.length b : Nat) : Int)
 | 0, i, h1, h2 => by
  obtain rfl : i = bs.length := by omega
  rw [Qs_l0.eq, Q3 (by omega)]
 | d + 1, i, h1, h2 => by
  have hi : i < bs.length := by omega
  have hz := bef_le bs i b
  have ih := countB_l0 bs b hn d (i + 1) (by omega) (by omega)
  rw [bef_succ bs i b hi] at ih
  rw [Qs_l0.eq, Q2 (by omega), Q2K bs i hi, Z0, bint_eq, Q6 i (by omega), Q6 (bef bs i b) (by omega)]
  cases hb : (bs[i] == b) with
  | true => rw [hb, if_pos rfl] at ih; rw [QW]; exact ih
  | false => rw [hb, if_neg (by simp), Z31] at ih; rw [Qg]; exact ih
theorem bef_zero (bs : List Bool) (b : Bool) : bef bs 0 b = 0 := rfl
theorem countB_eq (bs : List Bool) (b : Bool) (hn : bs.length ≤ 5000) : Qs (Qe bs) (bint b) = some ((bef bs bs.length b : Nat) : Int) := by
 rw [Qs.eq, Z1]
 have := countB_l0 bs b hn _ 0 rfl (by omega)
 rw [bef_zero] at this
 exact this
end Go.Ev.W
/- Patches: both functions. -/
set_option linter.unusedVariables false
set_option linter.unusedSimpArgs false
namespace Go.Ev.W
open Go.Ev
theorem bint_one (b : Bool) : (bint b == (1 : Int)) = b := by cases b <;> rfl
theorem bint_not (b : Bool) : IntKind.i64.wrap ((1 : Int) - bint b) = bint (!b) := by cases b <;> rfl
theorem flip_l0 (bs : List Bool) (hn : bs.length ≤ 5000) (a : Int) (b : List Int) : ∀ (d i : Nat), bs.length - i = d → i ≤ bs.length → Q0v_l0 bs.length i a b (Qe ((bs.take i).map not ++ bs.drop i)) = some ((bs.length : Int), ints (wrds (bs.map not)))
 | 0, i, h1, h2 => by
  obtain rfl : i = bs.length := by omega
  rw [Q0v_l0.eq, Q3 (by omega), Z22, Z74, Z30, Q3p _ (by rw [Z1]; omega), Z0, Z1]
 | d + 1, i, h1, h2 => by
  have hi : i < bs.length := by omega
  have hl : ((bs.take i).map not).length = i := by rw [Z1, Z8]; omega
  have hg : (Qe ((bs.take i).map not ++ bs.drop i))[i]? = some (bint bs[i]) := by
   rw [Z11, Z76 (by omega), hl, Nat.sub_self, Z61, Z31, Z3 hi]; rfl
  have hs : (Qe ((bs.take i).map not ++ bs.drop i)).set i (bint (!bs[i])) = Qe ((bs.take (i + 1)).map not ++ bs.drop (i + 1)) := by
   have e : ((bs.take i).map not ++ bs.drop i).set i (!bs[i]) = (bs.take (i + 1)).map not ++ bs.drop (i + 1) := by
    rw [List.set_append_right _ _ (by omega), hl, Nat.sub_self, Z27 hi, List.set_cons_zero, Z48, Z3 hi, Z15, Z28]; rfl
   rw [← e]
   exact (List.map_set (f := bint)).symm
  rw [Q0v_l0.eq, Q2 (by omega)]
  simp only [Q02, Z5, hg, Z0]
  rw [bint_not, hs, Q6 i (by omega)]
  exact flip_l0 bs hn a b d (i + 1) (by omega) (by omega)
theorem flip_eq (m : Nat) (W : List Nat) (hm : m ≤ 5000) (hl : W.length ≤ 1048576) (hx : ∀ x ∈ W, x < 2 ^ 64) (hv : vOk m W = true) : Q0v ((m : Int), ints W) = some ((m : Int), ints (wrds ((bts m W).map not))) := by
 have ht := (Q2O m W hx).1 (by simp only [vOk, Z4] at hv; simpa using hv.2)
 have hb := Q2c m W
 rw [Q0v.eq]
 try simp only
 rw [Q3M _ _ hl hx, hv, Z0, Z12, Qg, Q3B m W hm hx ht, Z0, Q2A]
 have := flip_l0 (bts m W) (by omega) 0 [] _ 0 rfl (by omega)
 rw [Z39, Z59, Z40, Z58] at this
 refine this.trans ?_
 rw [hb]
theorem unmarked_l0 (X : List Nat) (m : Nat) (W : List Nat) (hm : m ≤ 5000) (ht : tight m W) (hX : X.length ≤ m) : ∀ (d i : Nat), X.length - i = d → i ≤ X.length → QH_l0 (ints X) X.length i m (ints W) (ints (at0 (X.take i) (bts m W))) = some (ints (at0 X (bts m W)))
 | 0, i, h1, h2 => by
  obtain rfl : i = X.length := by omega
  rw [QH_l0.eq, Q3 (by omega), Z22]
 | d + 1, i, h1, h2 => by
  have hi : i < X.length := by omega
  have hb := Q2c m W
  have hbi : (bts m W)[i]'(by omega) = bit W i := by simp [bts]
  have hle := Q2H (X.take i) (bts m W)
  rw [Z8] at hle
  have ih := unmarked_l0 X m W hm ht hX d (i + 1) (by omega) (by omega)
  rw [at0_snoc X (bts m W) i hi (by omega), hbi] at ih
  rw [QH_l0.eq, Q2 (by omega), Q0M _ _ hi, Z0, bitsAt_eq _ W ht.2.1 i (by omega) (by have := ht.1; unfold nw at this; omega), Z0, Q2P, Q6 i (by omega)]
  cases hb : bit W i with
  | true =>
   rw [hb, if_pos rfl, Z30] at ih
   rw [Z12, Qg]; exact ih
  | false =>
   rw [hb, if_neg (by simp), ← Q2G] at ih
   rw [Z62, QW, Q2 (by simp only [Z2, Z6, Q9]; omega)]
   exact ih
theorem Q3S (X : List Nat) (m : Nat) (W : List Nat) (hm : m ≤ 5000) (ht : tight m W) (hX : X.length ≤ m) : QH (ints X) ((m : Int), ints W) = some (ints (at0 X (bts m W))) := by
 rw [QH.eq, Q9]
 have := unmarked_l0 X m W hm ht hX _ 0 rfl (by omega)
 rw [Z39] at this
 have e : at0 [] (bts m W) = [] := by cases bts m W <;> rfl
 rw [e] at this
 exact this
theorem zeros_l0 (X : List Nat) (bs : List Bool) (hX : X.length ≤ bs.length) (hb : bs.length ≤ 5000) : ∀ (d i : Nat), X.length - i = d → i ≤ X.length → Q0j_l0 (ints X) (Qe bs) i (ints (at0 (X.take i) bs)) = some (ints (at0 X bs))
 | 0, i, h1, h2 => by
  obtain rfl : i = X.length := by omega
  rw [Q0j_l0.eq, Q9, Q3 (by omega), Z22]
 | d + 1, i, h1, h2 => by
  have hi : i < X.length := by omega
  have hle := Q2H (X.take i) bs
  rw [Z8] at hle
  have ih := zeros_l0 X bs hX hb d (i + 1) (by omega) (by omega)
  rw [at0_snoc X bs i hi (by omega)] at ih
  rw [Q0j_l0.eq, Q9, Q2 (by omega), Q2K bs i (by omega), Z0, Q2P, Q6 i (by omega)]
  cases hb : bs[i] with
  | true =>
   rw [hb, if_pos rfl, Z30] at ih
   rw [Z12, Qg]; exact ih
  | false =>
   rw [hb, if_neg (by simp), ← Q2G] at ih
   rw [Z62, QW, Q0M _ _ hi, Z0, Q2 (by simp only [Z2, Z6, Q9]; omega)]
   exact ih
theorem zeros_eq (X : List Nat) (bs : List Bool) (hX : X.length ≤ bs.length) (hb : bs.length ≤ 5000) : Q0j (ints X) (Qe bs) = some (ints (at0 X bs)) := by
 rw [Q0j.eq]
 have := zeros_l0 X bs hX hb _ 0 rfl (by omega)
 rw [Z39] at this
 have e : at0 [] bs = [] := by cases bs <;> rfl
 rw [e] at this
 exact this
section
variable (bs : List Bool) (T R : List Nat) (hz : zer bs bs.length = R.length) (ho : one bs bs.length = T.length)
include hz ho
theorem pat_step (i : Nat) (hi : i < bs.length) : (∃ y, (pat bs T R)[i]? = some y ∧ ints ((pat bs T R).take i) ++ [(y : Int)] = ints ((pat bs T R).take (i + 1)) ∧ (bs[i] = true → ∃ h : one bs i < T.length, y = T[one bs i] ∧ one bs (i + 1) = one bs i + 1 ∧ zer bs (i + 1) = zer bs i) ∧
  (bs[i] = false → ∃ h : zer bs i < R.length, y = R[zer bs i] ∧ one bs (i + 1) = one bs i ∧ zer bs (i + 1) = zer bs i + 1)) := by
 have hl := Q3r bs T R
 have hp := pat_snoc bs T R i hi hz ho
 have h1 := Q3A bs i hi
 have h2 := Q2Z bs i hi
 have m1 := one_mono bs (i + 1) (bs.length - (i + 1)) (by omega)
 have m2 := zer_mono bs (i + 1) (bs.length - (i + 1)) (by omega)
 rw [show i + 1 + (bs.length - (i + 1)) = bs.length by omega] at m1 m2
 have hpi : i < (pat bs T R).length := by omega
 refine ⟨(pat bs T R)[i], Z3 hpi, by rw [Q2G, ← Q3C _ i hpi], fun hb => ?_, fun hb => ?_⟩
 ·rw [hb, if_pos rfl] at h1 h2 hp
  have hlt : one bs i < T.length := by omega
  rw [Z3 hpi, Z3 hlt] at hp
  injection hp with hp
  exact ⟨hlt, hp, h1, by omega⟩
 ·rw [hb] at h1 h2 hp
  simp only [Z77, if_false] at h1 h2 hp
  have hlt : zer bs i < R.length := by omega
  rw [Z3 hpi, Z3 hlt] at hp
  injection hp with hp
  exact ⟨hlt, hp, by omega, h2⟩
variable (hn : bs.length ≤ 5000)
include hn
theorem implPatch_l3 : ∀ (d i : Nat), bs.length - i = d → i ≤ bs.length → Qo_l3 (one bs i) (T.length - one bs i) (ints (R.drop (zer bs i))) bs.length i (ints T) (ints ((pat bs T R).take i)) (Qe bs) = some (ints (pat bs T R), true)
 | 0, i, h1, h2 => by
  obtain rfl : i = bs.length := by omega
  rw [Qo_l3.eq, Q3 (by omega), Z37 (by rw [Q3r]; omega)]
 | d + 1, i, h1, h2 => by
  have hi : i < bs.length := by omega
  obtain ⟨y, _, p2, p3, p4⟩ := pat_step bs T R hz ho i hi
  have ih := implPatch_l3 d (i + 1) (by omega) (by omega)
  rw [Qo_l3.eq, Q2 (by omega)]
  simp only [Q2K bs i hi, Q37 bs i hi, Z5, Z0, bint_one]
  have hol : (ints ((pat bs T R).take i)).length ≤ 5000 := by rw [Q9, Z8, Q3r]; omega
  cases hb : bs[i] with
  | true =>
   obtain ⟨q1, q2, q3, q4⟩ := p3 hb
   rw [q3, q4] at ih
   rw [QW, Q2 (by omega), Q2p _ _ q1, Z0, Q2 (by simp only [Z2, Z6]; omega), Q2 (by omega), Q6 i (by omega), ← q2, p2, show T.length - one bs i - 1 = T.length - (one bs i + 1) by omega]
   exact ih
  | false =>
   obtain ⟨q1, q2, q3, q4⟩ := p4 hb
   rw [q3, q4] at ih
   have hd : R.drop (zer bs i) = R[zer bs i] :: R.drop (zer bs i + 1) := Z27 q1
   have hdl : (R.drop (zer bs i)).length = R.length - zer bs i := Z19 ..
   have ht : ((ints (R.drop (zer bs i))).take (ints (R.drop (zer bs i))).length).drop 1 = ints (R.drop (zer bs i + 1)) := by
    rw [Z22, hd]; rfl
   have ha : at? (ints (R.drop (zer bs i))) 0 = some ((R[zer bs i] : Nat) : Int) := by rw [at?_zero, hd]; rfl
   rw [Qg, ha, Z0, Q2 (by simp only [Z2, Z6]; omega), Q2 (by rw [Q9]; omega), Q6 i (by omega), ht, ← q2, p2]
   exact ih
theorem implPatch_l2 : ∀ (d i : Nat), bs.length - i = d → i ≤ bs.length → one bs i = 0 → Qo_l2 (ints (R.drop (zer bs i))) bs.length i (ints T) (ints ((pat bs T R).take i)) (Qe bs) = some (ints (pat bs T R), true)
 | 0, i, h1, h2, h0 => by
  obtain rfl : i = bs.length := by omega
  rw [Qo_l2.eq, Q3 (by omega), Z37 (by rw [Q3r]; omega)]
 | d + 1, i, h1, h2, h0 => by
  have hi : i < bs.length := by omega
  obtain ⟨y, _, p2, p3, p4⟩ := pat_step bs T R hz ho i hi
  rw [Qo_l2.eq, Q2 (by omega)]
  simp only [Q2K bs i hi, Q37 bs i hi, Z5, Z0, bint_one]
  have hol : (ints ((pat bs T R).take i)).length ≤ 5000 := by rw [Q9, Z8, Q3r]; omega
  cases hb : bs[i] with
  | true =>
   obtain ⟨q1, q2, q3, q4⟩ := p3 hb
   have ih := implPatch_l3 bs T R hz ho hn d (i + 1) (by omega) (by omega)
   rw [q3, q4, h0] at ih
   simp only [h0] at q1 q2
   rw [QW, at?_zero, Q2p _ 0 q1, Z0, Z0, Q2 (by simp only [Z2, Z6]; omega), Q2 (by rw [Q9]; omega), Q6 i (by omega), ← q2, p2, Q9]
   exact ih
  | false =>
   obtain ⟨q1, q2, q3, q4⟩ := p4 hb
   have ih := implPatch_l2 d (i + 1) (by omega) (by omega) (by omega)
   rw [q4] at ih
   have hd : R.drop (zer bs i) = R[zer bs i] :: R.drop (zer bs i + 1) := Z27 q1
   have hdl : (R.drop (zer bs i)).length = R.length - zer bs i := Z19 ..
   have ht : ((ints (R.drop (zer bs i))).take (ints (R.drop (zer bs i))).length).drop 1 = ints (R.drop (zer bs i + 1)) := by
    rw [Z22, hd]; rfl
   have ha : at? (ints (R.drop (zer bs i))) 0 = some ((R[zer bs i] : Nat) : Int) := by rw [at?_zero, hd]; rfl
   rw [Qg, ha, Z0, Q2 (by simp only [Z2, Z6]; omega), Q2 (by rw [Q9]; omega), Q6 i (by omega), ht, ← q2, p2]
   exact ih
end
def pOkB (A : List Nat) (n1 : Int) (W1 : List Nat) (n2 : Int) (W2 : List Nat) (R : List Nat) : Bool :=
 vOk n1 W1 && (vOk n2 W2 && (decide (n1 = A.length) && (decide (n2 ≤ 301) && (decide (one (bts n1.toNat W1) n1.toNat = one (bts n2.toNat W2) n2.toNat) && decide (zer (bts n2.toNat W2) n2.toNat = R.length)))))
def pVal (A : List Nat) (n1 : Int) (W1 : List Nat) (n2 : Int) (W2 : List Nat) (R : List Nat) : List Nat := pat (bts n2.toNat W2) (at1 A (bts n1.toNat W1)) R
section
variable (A : List Nat) (hA : A.length ≤ 301) (n1 : Int) (W1 : List Nat) (n2 : Int) (W2 : List Nat) (R : List Nat) (l1 : W1.length ≤ 1048576) (x1 : ∀ x ∈ W1, x < 2 ^ 64) (l2 : W2.length ≤ 1048576) (x2 : ∀ x ∈ W2, x < 2 ^ 64)
include hA l1 x1 l2 x2
theorem implPatchDo_eq : Qo (ints A) (n1, ints W1, n2, ints W2, ints R) = some (bif pOkB A n1 W1 n2 W2 R then (ints (pVal A n1 W1 n2 W2 R), true) else ([], false)) := by
 rw [Qo.eq, Q9, Q3 (by omega)]
 try simp only
 rw [Q3M _ _ l1 x1, Z0, Q3M _ _ l2 x2]
 unfold pOkB
 cases hv1 : vOk n1 W1 with
 | false => rfl
 | true =>
  rw [Z12, Qg, Z0, Z29]
  cases hv2 : vOk n2 W2 with
  | false => rfl
  | true =>
   rw [Z12, Qg, Z29]
   by_cases h1 : n1 = (A.length : Int)
   ·rw [Q20 h1, decide_eq_true h1, Z29]
    by_cases h2 : n2 ≤ 301
    ·rw [Q3 (by omega), decide_eq_true h2, Z29, Qo_l0.eq]
     have b1 := hv1; have b2 := hv2
     simp only [vOk, Z4, decide_eq_true_eq] at b1 b2
     obtain ⟨m1, rfl⟩ : ∃ m : Nat, n1 = m := ⟨n1.toNat, by omega⟩
     obtain ⟨m2, rfl⟩ : ∃ m : Nat, n2 = m := ⟨n2.toNat, by omega⟩
     simp only [Z5] at b1 b2 ⊢
     have t1 := (Q2O m1 W1 x1).1 b1.2
     have t2 := (Q2O m2 W2 x2).1 b2.2
     have e1 := Q2c m1 W1
     have e2 := Q2c m2 W2
     have hA1 : A.length = (bts m1 W1).length := by omega
     have c1 := countB_eq (bts m1 W1) true (by omega)
     have c2 := countB_eq (bts m2 W2) true (by omega)
     rw [bef_true, e1, show bint true = 1 from rfl] at c1
     rw [bef_true, e2, show bint true = 1 from rfl] at c2
     have hal := at1_len A (bts m1 W1) hA1
     rw [e1] at hal
     have hzo := Q2F (bts m2 W2) m2 (by omega)
     rw [Q3B m2 W2 (by omega) x2 t2, Z0, c2, Z0, Q3B m1 W1 (by omega) x1 t1, Z0, c1, Z0]
     by_cases h4 : one (bts m1 W1) m1 = one (bts m2 W2) m2
     ·rw [Q20 (by omega), decide_eq_true h4, Z29, Qa (by omega) (by omega), Q9]
      by_cases h5 : zer (bts m2 W2) m2 = R.length
      ·have ht' := Q2d ((bts m1 W1).map not)
       rw [Z1, e1] at ht'
       have hbt : bts m1 (wrds ((bts m1 W1).map not)) = (bts m1 W1).map not := by
        have := Q2D ((bts m1 W1).map not)
        rw [Z1, e1] at this
        exact this
       rw [Q20 (by omega), decide_eq_true h5, QW, Qo_l1.eq, flip_eq m1 W1 (by omega) l1 x1 hv1, Z0]
       try simp only
       rw [Q3S A m1 _ (by omega) ht' (by omega), hbt, at0_not, Z0, Q3B m2 W2 (by omega) x2 t2, Z0, Q2A]
       have h6 := implPatch_l2 (bts m2 W2) (at1 A (bts m1 W1)) R (by rw [e2]; exact h5) (by rw [e2]; omega) (by omega) _ 0 rfl (by omega) (one_zero _)
       rw [Q3o, Z39, Z58] at h6
       refine h6.trans ?_
       unfold pVal
       simp only [Z5]
      ·rw [Q2j (by omega), decide_eq_false h5]; rfl
     ·rw [Q2j (by omega), decide_eq_false h4]; rfl
    ·rw [Q2 (by omega), decide_eq_false h2]; rfl
   ·rw [Q2j h1, decide_eq_false h1]; rfl
end
end Go.Ev.W
/- Flags of pairs: marks, patches. -/
set_option linter.unusedVariables false
set_option linter.unusedSimpArgs false
namespace Go.Ev.W
open Go.Ev
def fl (n : Nat) (I : List Nat) : List Bool := (List.range n).map fun i => decide (i ∈ I)
theorem Q1O (n : Nat) (I : List Nat) : (fl n I).length = n := by simp [fl]
theorem fl_get (n : Nat) (I : List Nat) (i : Nat) (h : i < n) : (fl n I)[i]'(by rw [Q1O]; exact h) = decide (i ∈ I) := by simp [fl]
theorem fl_nil (n : Nat) : fl n [] = List.replicate n false := by
 unfold fl
 refine Z75 (by simp) fun i h1 h2 => by simp
theorem fl_set (n : Nat) (I : List Nat) (a : Nat) (ha : a < n) : (fl n I).set a true = fl n (I ++ [a]) := by
 refine Z75 (by rw [Z92, Q1O, Q1O]) fun i h1 h2 => ?_
 rw [Z92, Q1O] at h1
 rw [List.getElem_set, fl_get n _ i h1, fl_get n _ i h1]
 by_cases h : a = i
 ·subst h; simp
 ·rw [if_neg h]
  refine decide_eq_decide.2 ?_
  rw [Z26, Z38]
  exact ⟨.inl, fun h' => h'.elim id fun h' => absurd h'.symm h⟩
theorem bints_set (bs : List Bool) (a : Nat) : (Qe bs).set a (1 : Int) = Qe (bs.set a true) := (List.map_set (f := bint) (a := true)).symm
theorem bints_rep (n : Nat) : List.replicate n (0 : Int) = Qe (fl n []) := by rw [fl_nil, Qe, List.map_replicate]; rfl
theorem at1_filter (X : List Nat) (bs : List Bool) (h : X.length = bs.length) : ∀ i, i ≤ X.length → at1 (X.take i) bs = ((List.range i).filter fun k => bs.getD k false).map fun k => X.getD k 0
 | 0, _ => by cases bs <;> simp [at1]
 | i + 1, hi => by
  rw [at1_snoc X bs i (by omega) (by omega), at1_filter X bs h i (by omega), Z88, Z63, Z15]
  congr 1
  rw [Z32, Z9, Z3 (show i < bs.length by omega), Z41]
  cases bs[i]
  ·rfl
  ·show [X[i]] = [X.getD i 0]
   rw [Z9, Z3 (show i < X.length by omega)]; rfl
theorem nat_unique : ∀ {S T : List Nat}, S.Pairwise (· < ·) → T.Pairwise (· < ·) → (∀ x, x ∈ S ↔ x ∈ T) → S = T
 | [], [], _, _, _ => rfl
 | [], b :: T, _, _, h => by have := (h b).2 Z43; cases this
 | a :: S, [], _, _, h => by have := (h a).1 Z43; cases this
 | a :: S, b :: T, h1, h2, h => by
  obtain ⟨p1, q1⟩ := Z81.1 h1
  obtain ⟨p2, q2⟩ := Z81.1 h2
  have hab : a = b := by
   rcases Z13.1 ((h a).1 Z43) with h3 | h3
   ·exact h3
   ·rcases Z13.1 ((h b).2 Z43) with h4 | h4
    ·exact h4.symm
    ·have := p1 b h4; have := p2 a h3; omega
  subst hab
  rw [nat_unique q1 q2 fun x => ⟨fun hx => ?_, fun hx => ?_⟩]
  ·rcases Z13.1 ((h x).1 (Z57 _ hx)) with h3 | h3
   ·subst h3; exact absurd (p1 x hx) (Nat.lt_irrefl x)
   ·exact h3
  ·rcases Z13.1 ((h x).2 (Z57 _ hx)) with h3 | h3
   ·subst h3; exact absurd (p2 x hx) (Nat.lt_irrefl x)
   ·exact h3
theorem fl_filter (n : Nat) (I : List Nat) (hu : I.Pairwise (· < ·)) (hn : ∀ i ∈ I, i < n) : ((List.range n).filter fun k => (fl n I).getD k false) = I := by
 refine nat_unique (List.pairwise_lt_range.filter _) hu fun x => ?_
 rw [Z73, Z50]
 constructor
 ·rintro ⟨h1, h2⟩
  rw [Z9, Z3 (by rw [Q1O]; exact h1), Z41, fl_get n I x h1] at h2
  simpa using h2
 ·intro h
  refine ⟨hn x h, ?_⟩
  rw [Z9, Z3 (by rw [Q1O]; exact hn x h), Z41, fl_get n I x (hn x h)]
  simpa using h
theorem at1_fl (X : List Nat) (n : Nat) (hX : X.length = n) (I : List Nat) (hu : I.Pairwise (· < ·)) (hn : ∀ i ∈ I, i < n) : at1 X (fl n I) = I.map fun k => X.getD k 0 := by
 have h := at1_filter X (fl n I) (by rw [Q1O]; exact hX) X.length (Z7 _)
 rw [Z22] at h
 rw [h, hX, fl_filter n I hu hn]
theorem fl_one (n : Nat) (I : List Nat) (hu : I.Pairwise (· < ·)) (hn : ∀ i ∈ I, i < n) : one (fl n I) n = I.length := by
 have h1 := at1_len (List.replicate n 0) (fl n I) (by rw [Z84, Q1O])
 rw [Q1O, at1_fl _ n (by rw [Z84]) I hu hn, Z1] at h1
 exact h1.symm
theorem pat_back : ∀ (X : List Nat) (bs : List Bool), X.length = bs.length → pat bs (at1 X bs) (at0 X bs) = X
 | [], [], _ => rfl
 | [], _ :: _, h => by cases h
 | _ :: _, [], h => by cases h
 | x :: X, b :: bs, h => by
  have ih := pat_back X bs (by simpa using h)
  cases b with
  | true =>
   rw [at1, at0, if_pos rfl, if_pos rfl, Z40, Z106, pat, List.headD_cons, List.tail_cons, ih]
  | false =>
   rw [at1, at0, if_neg (by simp), if_neg (by simp), Z40, Z106, pat, List.headD_cons, List.tail_cons, ih]
theorem at0_len' : ∀ (X : List Nat) (bs : List Bool), X.length = bs.length → (at0 X bs).length = zer bs bs.length
 | [], [], _ => by simp [at0, zer]
 | [], _ :: _, h => by cases h
 | _ :: _, [], h => by cases h
 | y :: X, b :: bs, h => by
  have := at0_len' X bs (by simpa using h)
  rw [zer_cons, at0, Z10, this]
  cases b <;> simp
theorem marks_l0 (P : List (Nat × Nat)) (m n : Nat) (hm : m ≤ 5000) (hn : n ≤ 5000) (hl : P.length ≤ 100000) (hP : ∀ q ∈ P, q.1 < m ∧ q.2 < n) (k e : Int) (x y : List Int) : ∀ (s i : Nat), P.length - i = s → i ≤ P.length →
  Q0n_l0 (P.map ipr) P.length i k x e y (Qe (fl m ((P.take i).map Prod.fst))) (Qe (fl n ((P.take i).map Prod.snd))) = some (((m : Int), ints (wrds (fl m (P.map Prod.fst)))), ((n : Int), ints (wrds (fl n (P.map Prod.snd))))) := by
 intro s
 induction s with
 | zero =>
  intro i h1 h2
  obtain rfl : i = P.length := by omega
  rw [Q0n_l0.eq, Q3 (by omega), Z22, Q3p _ (by rw [Q1O]; exact hm), Z0, Q3p _ (by rw [Q1O]; exact hn), Z0, Q1O, Q1O]
 | succ s ih =>
  intro i h1 h2
  have hi : i < P.length := by omega
  have ⟨b1, b2⟩ := hP _ (Z14 hi)
  have eg : (P.map ipr)[i]? = some (ipr P[i]) := by rw [Z11, Z3 hi]; rfl
  have g1 : (Qe (fl m ((P.take i).map Prod.fst)))[P[i].1]? = some (bint (decide (P[i].1 ∈ (P.take i).map Prod.fst))) := by
   rw [Z11, Z3 (by rw [Q1O]; exact b1), Z47, fl_get _ _ _ b1]
  have g2 : (Qe (fl n ((P.take i).map Prod.snd)))[P[i].2]? = some (bint (decide (P[i].2 ∈ (P.take i).map Prod.snd))) := by
   rw [Z11, Z3 (by rw [Q1O]; exact b2), Z47, fl_get _ _ _ b2]
  have ih := ih (i + 1) (by omega) (by omega)
  rw [Q2z _ _ hi, Z15, Z15, Z16, Z59, Z16, Z59, ← fl_set m _ _ b1, ← fl_set n _ _ b2, ← bints_set, ← bints_set] at ih
  rw [Q0n_l0.eq, Q2 (by omega), Q02, eg, Z0]
  show (at? _ ((P[i].1 : Nat) : Int)).bind _ = _
  rw [Q02, g1, Z0]
  show ((Qe (fl m ((P.take i).map Prod.fst)))[P[i].1]?).bind _ = _
  rw [g1, Z0]
  show (at? _ ((P[i].2 : Nat) : Int)).bind _ = _
  rw [Q02, g2, Z0]
  show ((Qe (fl n ((P.take i).map Prod.snd)))[P[i].2]?).bind _ = _
  rw [g2, Z0, Q6 i (by omega)]
  exact ih
theorem marks_eq (P : List (Nat × Nat)) (m n : Nat) (hm : m ≤ 5000) (hn : n ≤ 5000) (hl : P.length ≤ 100000) (hP : ∀ q ∈ P, q.1 < m ∧ q.2 < n) :
  Q0n m n (P.map ipr) = some (((m : Int), ints (wrds (fl m (P.map Prod.fst)))), ((n : Int), ints (wrds (fl n (P.map Prod.snd))))) := by
 have h := marks_l0 P m n hm hn hl hP 0 0 [] [] _ 0 rfl (Z20 _)
 rw [Z39, Z59, Z59] at h
 rw [Q0n.eq, decide_eq_true (by omega), decide_eq_true (by omega), Z29, QW, decide_eq_true (by omega), decide_eq_true (by omega), Z29, QW, Z1, Z5, Z5, bints_rep, bints_rep]
 exact h
theorem patchS_l1 (X : List Nat) (bs : List Bool) (hX : X.length = bs.length) (hb : bs.length ≤ 5000) (k e a b : Int) (x y z u v : List Int) : ∀ (s i : Nat), X.length - i = s → i ≤ X.length →
  QL_l1 (ints X) i k e x y z (Qe bs) a b u v (ints (at0 (X.take i) bs)) = some (a, u, b, v, ints (at0 X bs)) := by
 intro s
 induction s with
 | zero =>
  intro i h1 h2
  obtain rfl : i = X.length := by omega
  rw [QL_l1.eq, Q9, Q3 (by omega), Z22]
 | succ s ih =>
  intro i h1 h2
  have hi : i < X.length := by omega
  have hle := Q2H (X.take i) bs
  rw [Z8] at hle
  have ih := ih (i + 1) (by omega) (by omega)
  rw [at0_snoc X bs i hi (by omega)] at ih
  rw [QL_l1.eq, Q9, Q2 (by omega), Q2K bs i (by omega), Z0, Z5, Q37 bs i (by omega), Z0, Q2P, Q6 i (by omega)]
  cases hb : bs[i] with
  | true =>
   rw [hb, if_pos rfl, Z30] at ih
   rw [Z12, Qg]; exact ih
  | false =>
   rw [hb, if_neg (by simp), ← Q2G] at ih
   rw [Z62, QW, Q0M _ _ hi, Z0, Q2 (by simp only [Z2, Z6, Q9]; omega)]
   exact ih
theorem patchS_l0 (X : List Nat) (P : List (Nat × Nat)) (m : Nat) (hm : m ≤ 5000) (hn : X.length ≤ 5000) (hl : P.length ≤ 100000) (hP : ∀ q ∈ P, q.1 < m ∧ q.2 < X.length) (k e : Int) (x y z : List Int) : ∀ (s i : Nat), P.length - i = s → i ≤ P.length →
  QL_l0 (ints X) (P.map ipr) i k e x y z (Qe (fl m ((P.take i).map Prod.fst))) (Qe (fl X.length ((P.take i).map Prod.snd))) = some ((m : Int), ints (wrds (fl m (P.map Prod.fst))), (X.length : Int), ints (wrds (fl X.length (P.map Prod.snd))), ints (at0 X (fl X.length (P.map Prod.snd)))) := by
 intro s
 induction s with
 | zero =>
  intro i h1 h2
  obtain rfl : i = P.length := by omega
  have h := patchS_l1 X (fl X.length (P.map Prod.snd)) (by rw [Q1O]) (by rw [Q1O]; exact hn) k e m X.length x y z (ints (wrds (fl m (P.map Prod.fst)))) (ints (wrds (fl X.length (P.map Prod.snd)))) _ 0 rfl (Z20 _)
  rw [Z39] at h
  have e0 : at0 [] (fl X.length (P.map Prod.snd)) = [] := by cases fl X.length (P.map Prod.snd) <;> rfl
  rw [e0] at h
  rw [QL_l0.eq, Z1, Q3 (by omega), Z22, Q3m _ (by rw [Q1O]; exact hm), Z0, Q3m _ (by rw [Q1O]; exact hn), Z0, Q1O, Q1O]
  exact h
 | succ s ih =>
  intro i h1 h2
  have hi : i < P.length := by omega
  have ⟨b1, b2⟩ := hP _ (Z14 hi)
  have eg : (P.map ipr)[i]? = some (ipr P[i]) := by rw [Z11, Z3 hi]; rfl
  have g1 : (Qe (fl m ((P.take i).map Prod.fst)))[P[i].1]? = some (bint (decide (P[i].1 ∈ (P.take i).map Prod.fst))) := by
   rw [Z11, Z3 (by rw [Q1O]; exact b1), Z47, fl_get _ _ _ b1]
  have g2 : (Qe (fl X.length ((P.take i).map Prod.snd)))[P[i].2]? = some (bint (decide (P[i].2 ∈ (P.take i).map Prod.snd))) := by
   rw [Z11, Z3 (by rw [Q1O]; exact b2), Z47, fl_get _ _ _ b2]
  have ih := ih (i + 1) (by omega) (by omega)
  rw [Q2z _ _ hi, Z15, Z15, Z16, Z59, Z16, Z59, ← fl_set m _ _ b1, ← fl_set X.length _ _ b2, ← bints_set, ← bints_set] at ih
  rw [QL_l0.eq, Z1, Q2 (by omega), Q02, eg, Z0]
  show (at? _ ((P[i].1 : Nat) : Int)).bind _ = _
  rw [Q02, g1, Z0]
  show ((Qe (fl m ((P.take i).map Prod.fst)))[P[i].1]?).bind _ = _
  rw [g1, Z0, Z0]
  show (at? _ ((P[i].2 : Nat) : Int)).bind _ = _
  rw [Q02, g2, Z0]
  show ((Qe (fl X.length ((P.take i).map Prod.snd)))[P[i].2]?).bind _ = _
  rw [g2, Z0, Q6 i (by omega)]
  exact ih
theorem patchS_eq (X : List Nat) (P : List (Nat × Nat)) (m : Nat) (hm : m ≤ 5000) (hn : X.length ≤ 5000) (hl : P.length ≤ 100000) (hP : ∀ q ∈ P, q.1 < m ∧ q.2 < X.length) :
  QL m (ints X) (P.map ipr) = some ((m : Int), ints (wrds (fl m (P.map Prod.fst))), (X.length : Int), ints (wrds (fl X.length (P.map Prod.snd))), ints (at0 X (fl X.length (P.map Prod.snd)))) := by
 have h := patchS_l0 X P m hm hn hl hP 0 0 [] [] [] _ 0 rfl (Z20 _)
 rw [Z39, Z59, Z59] at h
 rw [QL.eq, decide_eq_true (by omega), decide_eq_true (by omega), Z29, QW, decide_eq_true (by omega), decide_eq_true (by rw [Q9]; omega), Z29, QW, Q9, Z5, Z5, bints_rep, bints_rep]
 exact h
end Go.Ev.W
/- Relative indexes: equality and the laws' helpers. -/
set_option linter.unusedVariables false
set_option linter.unusedSimpArgs false
namespace Go.Ev.W
open Go.Ev
abbrev RelT := Int × Int × Int × (List Int) × Int × (List Int) × Int × (List Int) × (List (Int × (List Int))) × Int × (List Int) × (List (Int × (List Int))) × FmT11
instance decRelA : DecidableEq (Int × (List Int) × (List (Int × (List Int))) × FmT11) := @instDecidableEqProd Int _ inferInstance decFm13
instance decRelB : DecidableEq (Int × (List Int) × (List (Int × (List Int))) × Int × (List Int) × (List (Int × (List Int))) × FmT11) := @instDecidableEqProd Int _ inferInstance (@instDecidableEqProd (List Int) _ inferInstance (@instDecidableEqProd (List (Int × (List Int))) _ inferInstance decRelA))
instance decRelC : DecidableEq (Int × (List Int) × Int × (List Int) × Int × (List Int) × (List (Int × (List Int))) × Int × (List Int) × (List (Int × (List Int))) × FmT11) := @instDecidableEqProd Int _ inferInstance (@instDecidableEqProd (List Int) _ inferInstance (@instDecidableEqProd Int _ inferInstance (@instDecidableEqProd (List Int) _ inferInstance decRelB)))
instance decRel : DecidableEq RelT := @instDecidableEqProd Int _ inferInstance (@instDecidableEqProd Int _ inferInstance decRelC)
theorem rel_dec (x y : RelT) : decide (x = y) = (decide (x.1 = y.1) && (decide (x.2.1 = y.2.1) && (decide ((x.2.2.1, x.2.2.2.1) = (y.2.2.1, y.2.2.2.1)) && (decide ((x.2.2.2.2.1, x.2.2.2.2.2.1) = (y.2.2.2.2.1, y.2.2.2.2.2.1)) && (decide ((x.2.2.2.2.2.2.1, x.2.2.2.2.2.2.2.1, x.2.2.2.2.2.2.2.2.1) = (y.2.2.2.2.2.2.1, y.2.2.2.2.2.2.2.1, y.2.2.2.2.2.2.2.2.1)) && (decide ((x.2.2.2.2.2.2.2.2.2.1, x.2.2.2.2.2.2.2.2.2.2.1, x.2.2.2.2.2.2.2.2.2.2.2.1) = (y.2.2.2.2.2.2.2.2.2.1, y.2.2.2.2.2.2.2.2.2.2.1, y.2.2.2.2.2.2.2.2.2.2.2.1)) && (decide (x.2.2.2.2.2.2.2.2.2.2.2.2.1 = y.2.2.2.2.2.2.2.2.2.2.2.2.1) && (decide ((x.2.2.2.2.2.2.2.2.2.2.2.2.2.1, x.2.2.2.2.2.2.2.2.2.2.2.2.2.2.1) = (y.2.2.2.2.2.2.2.2.2.2.2.2.2.1, y.2.2.2.2.2.2.2.2.2.2.2.2.2.2.1)) && (decide ((x.2.2.2.2.2.2.2.2.2.2.2.2.2.2.2.1, x.2.2.2.2.2.2.2.2.2.2.2.2.2.2.2.2.1, x.2.2.2.2.2.2.2.2.2.2.2.2.2.2.2.2.2.1, x.2.2.2.2.2.2.2.2.2.2.2.2.2.2.2.2.2.2.1) = (y.2.2.2.2.2.2.2.2.2.2.2.2.2.2.2.1, y.2.2.2.2.2.2.2.2.2.2.2.2.2.2.2.2.1, y.2.2.2.2.2.2.2.2.2.2.2.2.2.2.2.2.2.1, y.2.2.2.2.2.2.2.2.2.2.2.2.2.2.2.2.2.2.1)) && decide (x.2.2.2.2.2.2.2.2.2.2.2.2.2.2.2.2.2.2.2 = y.2.2.2.2.2.2.2.2.2.2.2.2.2.2.2.2.2.2.2)))))))))) := by
 obtain ⟨a1, a2, a3, a4, a5, a6, a7, a8, a9, a10, a11, a12, a13, a14, a15, a16, a17, a18, a19, a20⟩ := x
 obtain ⟨b1, b2, b3, b4, b5, b6, b7, b8, b9, b10, b11, b12, b13, b14, b15, b16, b17, b18, b19, b20⟩ := y
 simp only [Q2Q, Bool.and_assoc]
structure SmRel (x : RelT) (k : Nat) : Prop where
 ref : x.2.2.2.1.length ≤ k
 inn : x.2.2.2.2.2.1.length ≤ k
 z1 : x.2.2.2.2.2.2.2.1.length ≤ k
 l1 : x.2.2.2.2.2.2.2.2.1.length ≤ k
 z2 : x.2.2.2.2.2.2.2.2.2.2.1.length ≤ k
 l2 : x.2.2.2.2.2.2.2.2.2.2.2.1.length ≤ k
 c : x.2.2.2.2.2.2.2.2.2.2.2.2.1.length ≤ k
 m : x.2.2.2.2.2.2.2.2.2.2.2.2.2.2.1.length ≤ k
 s : x.2.2.2.2.2.2.2.2.2.2.2.2.2.2.2.2.2.2.1.length ≤ k
 i : x.2.2.2.2.2.2.2.2.2.2.2.2.2.2.2.2.2.2.2.2.2.2.length ≤ k
 v1 : ∀ p ∈ x.2.2.2.2.2.2.2.2.1, p.2.length ≤ k
 v2 : ∀ p ∈ x.2.2.2.2.2.2.2.2.2.2.2.1, p.2.length ≤ k
structure GdRel (x : RelT) : Prop where
 sm : SmRel x 1048576
 wv1 : Small x.2.2.2.2.2.2.2.1 x.2.2.2.2.2.2.2.2.1
 wv2 : Small x.2.2.2.2.2.2.2.2.2.2.1 x.2.2.2.2.2.2.2.2.2.2.2.1
theorem samePacked_v (v w : Int × Int × Int × List Int) (h : v.2.2.2.length < 4611686018427387904) : Q0K v w = some (decide (v = w)) := Q4k v.1 v.2.1 v.2.2.1 v.2.2.2 w.1 w.2.1 w.2.2.1 w.2.2.2 h
theorem sameRel_eq (x y : RelT) (k : Nat) (hk : k < 4611686018427387904) (h : SmRel x k) : Q1u x y = some (decide (x = y)) := by
 rw [Q1u.eq, rel_dec, Q3D _ _ _ _ (by have := h.ref; omega), Q3D _ _ _ _ (by have := h.inn; omega), Q4F _ _ _ _ _ _ (by have := h.z1; omega) (by have := h.l1; omega) (fun p hp => by have := h.v1 p hp; omega), Q4F _ _ _ _ _ _ (by have := h.z2; omega) (by have := h.l2; omega) (fun p hp => by have := h.v2 p hp; omega), equalI_eq _ _ (by have := h.c; omega), Q3D _ _ _ _ (by have := h.m; omega), Q4k _ _ _ _ _ _ _ _ (by have := h.s; omega), samePacked_v _ _ (by have := h.i; omega), Q2E, Q2E]
 simp only [Z0]
 cases decide (x.1 = y.1)
 ·rfl
 cases decide (x.2.1 = y.2.1)
 ·rfl
 cases decide ((x.2.2.1, x.2.2.2.1) = (y.2.2.1, y.2.2.2.1))
 ·rfl
 cases decide ((x.2.2.2.2.1, x.2.2.2.2.2.1) = (y.2.2.2.2.1, y.2.2.2.2.2.1))
 ·rfl
 cases decide ((x.2.2.2.2.2.2.1, x.2.2.2.2.2.2.2.1, x.2.2.2.2.2.2.2.2.1) = (y.2.2.2.2.2.2.1, y.2.2.2.2.2.2.2.1, y.2.2.2.2.2.2.2.2.1))
 ·rfl
 cases decide ((x.2.2.2.2.2.2.2.2.2.1, x.2.2.2.2.2.2.2.2.2.2.1, x.2.2.2.2.2.2.2.2.2.2.2.1) = (y.2.2.2.2.2.2.2.2.2.1, y.2.2.2.2.2.2.2.2.2.2.1, y.2.2.2.2.2.2.2.2.2.2.2.1))
 ·rfl
 cases decide (x.2.2.2.2.2.2.2.2.2.2.2.2.1 = y.2.2.2.2.2.2.2.2.2.2.2.2.1)
 ·rfl
 cases decide ((x.2.2.2.2.2.2.2.2.2.2.2.2.2.1, x.2.2.2.2.2.2.2.2.2.2.2.2.2.2.1) = (y.2.2.2.2.2.2.2.2.2.2.2.2.2.1, y.2.2.2.2.2.2.2.2.2.2.2.2.2.2.1))
 ·rfl
 cases decide ((x.2.2.2.2.2.2.2.2.2.2.2.2.2.2.2.1, x.2.2.2.2.2.2.2.2.2.2.2.2.2.2.2.2.1, x.2.2.2.2.2.2.2.2.2.2.2.2.2.2.2.2.2.1, x.2.2.2.2.2.2.2.2.2.2.2.2.2.2.2.2.2.2.1) = (y.2.2.2.2.2.2.2.2.2.2.2.2.2.2.2.1, y.2.2.2.2.2.2.2.2.2.2.2.2.2.2.2.2.1, y.2.2.2.2.2.2.2.2.2.2.2.2.2.2.2.2.2.1, y.2.2.2.2.2.2.2.2.2.2.2.2.2.2.2.2.2.2.1))
 ·rfl
 rfl
end Go.Ev.W
/- Relative indexes: the text of a valid one. -/
set_option linter.unusedVariables false
set_option linter.unusedSimpArgs false
namespace Go.Ev.W
open Go.Ev
structure XWords (x : RelT) : Prop where
 ref : ∀ y ∈ x.2.2.2.1, 0 ≤ y ∧ y < ((2 ^ 64 : Nat) : Int)
 inn : ∀ y ∈ x.2.2.2.2.2.1, 0 ≤ y ∧ y < ((2 ^ 64 : Nat) : Int)
 w1 : ∀ p ∈ x.2.2.2.2.2.2.2.2.1, ∀ y ∈ p.2, 0 ≤ y ∧ y < ((2 ^ 64 : Nat) : Int)
 w2 : ∀ p ∈ x.2.2.2.2.2.2.2.2.2.2.2.1, ∀ y ∈ p.2, 0 ≤ y ∧ y < ((2 ^ 64 : Nat) : Int)
def relV (R D : List Nat) (x : RelT) (W1 W2 : List Nat) : RelT :=
 ((D.length : Int), x.2.1, x.2.2.1, x.2.2.2.1, x.2.2.2.2.1, x.2.2.2.2.2.1, (wvV (at0 (bwt R) (bts x.2.2.1.toNat W1))).1, (wvV (at0 (bwt R) (bts x.2.2.1.toNat W1))).2.1, (wvV (at0 (bwt R) (bts x.2.2.1.toNat W1))).2.2,
  (wvV (at0 (bwt D) (bts x.2.2.2.2.1.toNat W2))).1, (wvV (at0 (bwt D) (bts x.2.2.2.2.1.toNat W2))).2.1, (wvV (at0 (bwt D) (bts x.2.2.2.2.1.toNat W2))).2.2, (fmV D x.2.1.toNat).2.2.2.2.2)
structure RelOkV (f : FmT) (x : RelT) (R D : List Nat) : Prop where
 dl : D.length ≤ 300
 db : ∀ y ∈ D, y < 256
 r1 : 1 ≤ x.2.1
 r2 : x.2.1 ≤ 64
 fv : FmOkV f R ∧ FmW f R
 ft : Q08 f = some (ints R, true)
 fi : Q0r f = some (ints R, true)
 ref : ∃ W1, x.2.2.2.1 = ints W1 ∧ W1.length ≤ 1048576 ∧ (∀ y ∈ W1, y < 2 ^ 64) ∧ vOk x.2.2.1 W1 = true
 inn : ∃ W2, x.2.2.2.2.2.1 = ints W2 ∧ W2.length ≤ 1048576 ∧ (∀ y ∈ W2, y < 2 ^ 64) ∧ vOk x.2.2.2.2.1 W2 = true
 wv1 : ∃ L, x.2.2.2.2.2.2.2.2.1 = LI L ∧ (∀ p ∈ L, p.2.length ≤ 1048576) ∧ (∀ p ∈ L, ∀ y ∈ p.2, y < 2 ^ 64) ∧ wOk x.2.2.2.2.2.2.1 x.2.2.2.2.2.2.2.1 L = true
 wv2 : ∃ L, x.2.2.2.2.2.2.2.2.2.2.2.1 = LI L ∧ (∀ p ∈ L, p.2.length ≤ 1048576) ∧ (∀ p ∈ L, ∀ y ∈ p.2, y < 2 ^ 64) ∧ wOk x.2.2.2.2.2.2.2.2.2.1 x.2.2.2.2.2.2.2.2.2.2.1 L = true
 tail : x.2.2.2.2.2.2.2.2.2.2.2.2 = (fmV D x.2.1.toNat).2.2.2.2.2
 full : ∃ W1 W2, relV R D x W1 W2 = x ∧ x.2.2.2.1 = ints W1 ∧ x.2.2.2.2.2.1 = ints W2 ∧ (∀ y ∈ W1, y < 2 ^ 64) ∧ (∀ y ∈ W2, y < 2 ^ 64) ∧ W1.length ≤ 1048576 ∧ W2.length ≤ 1048576 ∧ vOk x.2.2.1 W1 = true ∧ vOk x.2.2.2.2.1 W2 = true ∧ x.2.2.1 = ((bwt R).length : Int) ∧ x.2.2.2.2.1 = ((bwt D).length : Int) ∧ at1 (bwt R) (bts x.2.2.1.toNat W1) = at1 (bwt D) (bts x.2.2.2.2.1.toNat W2)
theorem wave_small {Y : List Nat} {k : Nat} (h : Y.length ≤ k) (hk : k ≤ 400) : (wvV Y).2.1.length ≤ 1000 ∧ (wvV Y).2.2.length ≤ 1000 ∧ ∀ p ∈ (wvV Y).2.2, p.2.length ≤ 1000 := by
 have h1 := wLv_len' 9 0 Y
 refine ⟨?_, ?_, fun p hp => ?_⟩
 ·show (ints (wLv 9 0 Y).1).length ≤ 1000
  rw [Q9]; omega
 ·show (LI (wLv 9 0 Y).2).length ≤ 1000
  rw [Z1]; omega
 ·have hp' : p ∈ LI (wLv 9 0 Y).2 := hp
  obtain ⟨q, hq, rfl⟩ := Z18.1 hp'
  rw [Q9, Q3Q _ _ _ q hq]
  unfold nw; omega
end Go.Ev.W
/- Relative indexes made: both functions. -/
-- names as printed
set_option linter.unusedVariables false
set_option linter.unusedSimpArgs false
namespace Go.Ev.W
open Go.Ev
structure Q1T (R D : List Nat) (P : List (Nat × Nat)) : Prop where
 up : P.Pairwise Up
 eq : ∀ q ∈ P, ∃ v, (bwt R)[q.1]? = some v ∧ (bwt D)[q.2]? = some v
theorem Q1T.lt {R D : List Nat} {P : List (Nat × Nat)} (h : Q1T R D P) : ∀ q ∈ P, q.1 < R.length + 1 ∧ q.2 < D.length + 1 := fun q hq => by
 obtain ⟨v, h1, h2⟩ := h.eq q hq
 have k1 := (Z107.1 h1).1
 have k2 := (Z107.1 h2).1
 rw [Q10] at k1 k2
 exact ⟨k1, k2⟩
theorem up_len : ∀ (I : List Nat) (a n : Nat), I.Pairwise (· < ·) → (∀ i ∈ I, a ≤ i ∧ i < n) → I.length ≤ n - a
 | [], _, _, _, _ => by simp
 | i :: I, a, n, h, hn => by
  obtain ⟨p, q⟩ := Z81.1 h
  have h1 := hn i Z43
  have := up_len I (i + 1) n q fun j hj => ⟨p j hj, (hn j (Z57 _ hj)).2⟩
  rw [Z2]; omega
theorem Q1T.up1 {R D : List Nat} {P : List (Nat × Nat)} (h : Q1T R D P) : (P.map Prod.fst).Pairwise (· < ·) := by
 rw [List.pairwise_map]; exact h.up.imp fun h => h.1
theorem Q1T.up2 {R D : List Nat} {P : List (Nat × Nat)} (h : Q1T R D P) : (P.map Prod.snd).Pairwise (· < ·) := by
 rw [List.pairwise_map]; exact h.up.imp fun h => h.2
theorem Q1T.m1 {R D : List Nat} {P : List (Nat × Nat)} (h : Q1T R D P) : ∀ i ∈ P.map Prod.fst, i < R.length + 1 := fun i hi => by
 obtain ⟨q, hq, rfl⟩ := Z18.1 hi
 exact (h.lt q hq).1
theorem Q1T.m2 {R D : List Nat} {P : List (Nat × Nat)} (h : Q1T R D P) : ∀ i ∈ P.map Prod.snd, i < D.length + 1 := fun i hi => by
 obtain ⟨q, hq, rfl⟩ := Z18.1 hi
 exact (h.lt q hq).2
theorem Q1T.len {R D : List Nat} {P : List (Nat × Nat)} (h : Q1T R D P) : P.length ≤ D.length + 1 := by
 have := up_len (P.map Prod.snd) 0 (D.length + 1) h.up2 fun i hi => ⟨Z20 _, h.m2 i hi⟩
 rw [Z1] at this; omega
theorem Q1T.len1 {R D : List Nat} {P : List (Nat × Nat)} (h : Q1T R D P) : P.length ≤ R.length + 1 := by
 have := up_len (P.map Prod.fst) 0 (R.length + 1) h.up1 fun i hi => ⟨Z20 _, h.m1 i hi⟩
 rw [Z1] at this; omega
def fl1 (R : List Nat) (P : List (Nat × Nat)) : List Bool := fl (R.length + 1) (P.map Prod.fst)
def fl2 (D : List Nat) (P : List (Nat × Nat)) : List Bool := fl (D.length + 1) (P.map Prod.snd)
theorem fl1_len (R : List Nat) (P : List (Nat × Nat)) : (fl1 R P).length = R.length + 1 := Q1O _ _
theorem Q3s (D : List Nat) (P : List (Nat × Nat)) : (fl2 D P).length = D.length + 1 := Q1O _ _
theorem Q1T.same {R D : List Nat} {P : List (Nat × Nat)} (h : Q1T R D P) : at1 (bwt R) (fl1 R P) = at1 (bwt D) (fl2 D P) := by
 unfold fl1 fl2
 rw [at1_fl _ _ (Q10 R) _ h.up1 h.m1, at1_fl _ _ (Q10 D) _ h.up2 h.m2, Z23, Z23]
 refine Z45 fun q hq => ?_
 obtain ⟨v, h1, h2⟩ := h.eq q hq
 simp only [Function.comp, Z9, h1, h2]
theorem Q1T.one1 {R D : List Nat} {P : List (Nat × Nat)} (h : Q1T R D P) : one (fl1 R P) (R.length + 1) = P.length := by
 have := fl_one _ _ h.up1 h.m1; rw [Z1] at this; exact this
theorem Q1T.one2 {R D : List Nat} {P : List (Nat × Nat)} (h : Q1T R D P) : one (fl2 D P) (D.length + 1) = P.length := by
 have := fl_one _ _ h.up2 h.m2; rw [Z1] at this; exact this
theorem share_ok (R D : List Nat) (d : Nat) (bud : Int) : Q1T R D (share R D d bud) := ⟨share_up R D d bud, share_at R D d bud⟩
def relX (R D : List Nat) (P : List (Nat × Nat)) (r : Nat) : RelT :=
 ((D.length : Int), (r : Int), ((R.length + 1 : Nat) : Int), ints (wrds (fl1 R P)), ((D.length + 1 : Nat) : Int), ints (wrds (fl2 D P)), (wvV (at0 (bwt R) (fl1 R P))).1, (wvV (at0 (bwt R) (fl1 R P))).2.1, (wvV (at0 (bwt R) (fl1 R P))).2.2,
  (wvV (at0 (bwt D) (fl2 D P))).1, (wvV (at0 (bwt D) (fl2 D P))).2.1, (wvV (at0 (bwt D) (fl2 D P))).2.2, (fmV D r).2.2.2.2.2)
def rel0 : RelT := (0, 0, 0, [], 0, [], 0, [], [], 0, [], [], [], 0, [], 0, 0, 0, [], 0, 0, 0, [])
section
variable (R D : List Nat) (hR : R.length ≤ 300) (hD : D.length ≤ 300) (bR : Qq R) (bD : Qq D) (P : List (Nat × Nat)) (hP : Q1T R D P) (r : Nat) (h1 : 1 ≤ r) (h64 : r ≤ 64)
include hR hD bR bD hP h1 h64
theorem implMade_eq : ∃ y, Q0n (IntKind.i64.wrap (((ints R).length : Int) + 1)) (IntKind.i64.wrap (((ints D).length : Int) + 1)) (P.map ipr) = some y ∧ Q1o (ints R) (ints D) y.1 y.2 r = some (relX R D P r, ints R, ints D) := by
 have l1 := Q10 R
 have l2 := Q10 D
 have f1 := fl1_len R P
 have f2 := Q3s D P
 have pl := hP.len
 have hm := marks_eq P (R.length + 1) (D.length + 1) (by omega) (by omega) (by omega) hP.lt
 refine ⟨_, by rw [Q9, Q9, Q6 _ (by omega), Q6 _ (by omega)]; exact hm, ?_⟩
 have u1 := Q3S (bwt R) (fl1 R P).length (wrds (fl1 R P)) (by omega) (Q2d _) (by omega)
 have u2 := Q3S (bwt D) (fl2 D P).length (wrds (fl2 D P)) (by omega) (Q2d _) (by omega)
 rw [Q2D, f1] at u1
 rw [Q2D, f2] at u2
 have a1 := Q2H (bwt R) (fl1 R P)
 have a2 := Q2H (bwt D) (fl2 D P)
 have v1 := Q3N (at0 (bwt R) (fl1 R P)) (by omega) fun y hy => by have := Q2M R bR y (Q38 _ _ y hy); omega
 have v2 := Q3N (at0 (bwt D) (fl2 D P)) (by omega) fun y hy => by have := Q2M D bD y (Q38 _ _ y hy); omega
 rw [Q1o.eq, implFm_eq D hD bD r (by omega) h64, Z0, Q2X R hR bR, Z0]
 show (QH _ (((R.length + 1 : Nat) : Int), ints (wrds (fl1 R P)))).bind _ = _
 rw [u1, Z0, v1, Z0, Q2X D hD bD, Z0]
 show (QH _ (((D.length + 1 : Nat) : Int), ints (wrds (fl2 D P)))).bind _ = _
 rw [u2, Z0, v2, Z0]
 rfl
theorem specMade_eq : Q1h (ints R) (ints D) (P.map ipr) r = some (relX R D P r) := by
 have l1 := Q10 R
 have l2 := Q10 D
 have f1 := fl1_len R P
 have f2 := Q3s D P
 have pl := hP.len
 have a1 := Q2H (bwt R) (fl1 R P)
 have a2 := Q2H (bwt D) (fl2 D P)
 have v1 := Q4h (at0 (bwt R) (fl1 R P)) (by omega) fun y hy => by have := Q2M R bR y (Q38 _ _ y hy); omega
 have v2 := Q4h (at0 (bwt D) (fl2 D P)) (by omega) fun y hy => by have := Q2M D bD y (Q38 _ _ y hy); omega
 have hp := patchS_eq (bwt D) P (R.length + 1) (by omega) (by omega) (by omega) fun q hq => by have := hP.lt q hq; omega
 have t1 := Q2d (fl1 R P)
 have hl := Q4d (fl1 R P).length (wrds (fl1 R P)) (by omega) (by have := t1.1; unfold nw at this; omega) t1.2.1
 rw [Q2D, f1] at hl
 have hz := zeros_eq (bwt R) (fl1 R P) (by omega) (by omega)
 rw [l2] at hp
 rw [Q1h.eq, specFm_eq D hD bD r (by omega) h64, Z0, Q3n D hD bD, Z0, Q9, Q6 _ (by omega), hp, Z0, Q3n R hR bR, Z0]
 show (Qr (((R.length + 1 : Nat) : Int), ints (wrds (fl1 R P)))).bind _ = _
 rw [hl, Z0, hz, Z0, v1, Z0]
 show (Qk (ints (at0 (bwt D) (fl2 D P)))).bind _ = _
 rw [v2, Z0]
 rfl
end
theorem relX_small (R D : List Nat) (hR : R.length ≤ 300) (hD : D.length ≤ 300) (P : List (Nat × Nat)) (r : Nat) : SmRel (relX R D P r) 1000 := by
 have l1 := Q10 R
 have l2 := Q10 D
 have q1 := wave_small (k := 301) (show (at0 (bwt R) (fl1 R P)).length ≤ 301 by have := Q2H (bwt R) (fl1 R P); omega) (by omega)
 have q2 := wave_small (k := 301) (show (at0 (bwt D) (fl2 D P)).length ≤ 301 by have := Q2H (bwt D) (fl2 D P); omega) (by omega)
 have hsm := fmV_small D hD r
 refine ⟨?_, ?_, q1.1, q1.2.1, q2.1, q2.2.1, hsm.c, hsm.m, hsm.s, hsm.i, q1.2.2, q2.2.2⟩
 ·show (ints (wrds (fl1 R P))).length ≤ 1000
  rw [Q9, Q1U, fl1_len]; unfold nw; omega
 ·show (ints (wrds (fl2 D P))).length ≤ 1000
  rw [Q9, Q1U, Q3s]; unfold nw; omega
structure OfV (f : FmT) (D : List Nat) (d r : Int) (R : List Nat) : Prop where
 fv : FmOkV f R ∧ FmW f R
 ft : Q08 f = some (ints R, true)
 fi : Q0r f = some (ints R, true)
 dl : D.length ≤ 300
 d0 : 0 ≤ d
 d8 : d ≤ 8
 r1 : 1 ≤ r
 r64 : r ≤ 64
theorem relOf_eq (f : FmT) (hf : SmFm f 1048576) (hw : ∀ p ∈ f.2.2.2.2.1, ∀ x ∈ p.2, 0 ≤ x ∧ x < ((2 ^ 64 : Nat) : Int)) (D : List Nat) (bD : Qq D) (d bud r : Int) :
  (Q0S f (ints D) d bud r = some (rel0, false) ∧ Q0G f (ints D) d bud r = some (rel0, false) ∧ (∀ bud, Q0G f (ints D) d bud r = some (rel0, false))) ∨
  ∃ R, OfV f D d r R ∧ ∀ bud, Q0S f (ints D) d bud r = some (relX R D (share R D d.toNat bud) r.toNat, true) ∧ Q0G f (ints D) d bud r = some (relX R D (share R D d.toNat bud) r.toNat, true) := by
 obtain ⟨v1, R, t1, f1, f2, f3⟩ := fmRead_eq f hf hw
 cases v1 with
 | false =>
  have f1' : Q08 f = some (([] : List Int), false) := f1
  have f2' : Q0r f = some (t1, false) := f2
  have key : ∀ bud, Q0G f (ints D) d bud r = some (rel0, false) := fun bud => by rw [Q0G.eq, f2']; rfl
  exact .inl ⟨by rw [Q0S.eq, f1']; rfl, key bud, key⟩
 | true =>
  have f1' : Q08 f = some (ints R, true) := f1
  have f2' : Q0r f = some (ints R, true) := f2
  obtain ⟨k1, k2⟩ := f3 rfl
  obtain ⟨d1, d2, d3, d4, d5⟩ := k1
  have hsh : Q0Q (ints R) (ints D) d = some (decide (R.length ≤ 300 ∧ D.length ≤ 300 ∧ 0 ≤ d ∧ d ≤ 8)) := by
   rw [Q0Q.eq, Q0Y.eq, Q0Y.eq, Q9, Q9, Z0, Q2 (by omega), Z0]
   by_cases h2 : D.length ≤ 300
   ·rw [Q2 (by omega), Q3l, Z0]
    congr 1
    rw [Z67, Z4, decide_eq_true_eq, decide_eq_true_eq, decide_eq_true_eq]; omega
   ·rw [Q3 (by omega), decide_eq_false (by omega)]
  by_cases hc : R.length ≤ 300 ∧ D.length ≤ 300 ∧ 0 ≤ d ∧ d ≤ 8
  ·cases hr : decide (1 ≤ r) && decide (r ≤ 64) with
   | false =>
    have key : ∀ bud, Q0G f (ints D) d bud r = some (rel0, false) := fun bud => by
     rw [Q0G.eq, f2', Z0, Z12, Qg, hsh, Z0, decide_eq_true hc, Z12, Qg, Q3P, hr]; rfl
    exact .inl ⟨by rw [Q0S.eq, f1', Z0, Z12, Qg, l13Fit_eq, Z0, decide_eq_true hc, Z12, Qg, Q4j, hr]; rfl, key bud, key⟩
   | true =>
    have hr' := hr
    simp only [Z4, decide_eq_true_eq] at hr'
    obtain ⟨c1, c2, c3, c4⟩ := hc
    obtain ⟨dn, rfl⟩ : ∃ n : Nat, d = n := ⟨d.toNat, by omega⟩
    obtain ⟨rn, rfl⟩ : ∃ n : Nat, r = n := ⟨r.toNat, by omega⟩
    refine .inr ⟨R, ⟨⟨⟨d1, d2, d3, d4, d5⟩, k2⟩, f1', f2', c2, c3, c4, hr'.1, hr'.2⟩, fun bud => ⟨?_, ?_⟩⟩
    ·rw [Q0S.eq, f1', Z0, Z12, Qg, l13Fit_eq, Z0, decide_eq_true ⟨c1, c2, c3, c4⟩, Z12, Qg, Q4j, hr, Z0, Z12, Qg, specShare_eq R D c1 c2 d2 bD dn (by omega) bud, Z0, specMade_eq R D c1 c2 d2 bD _ (share_ok R D dn bud) rn (by omega) (by omega)]
     rfl
    ·obtain ⟨y, m1, m2⟩ := implMade_eq R D c1 c2 d2 bD _ (share_ok R D dn bud) rn (by omega) (by omega)
     rw [Q0G.eq, f2', Z0, Z12, Qg, hsh, Z0, decide_eq_true ⟨c1, c2, c3, c4⟩, Z12, Qg, Q3P, hr, Z0, Z12, Qg, implShare_eq R D c1 c2 d2 bD dn (by omega) bud, Z0]
     simp only
     rw [m1, Z0, m2]
     rfl
  ·have key : ∀ bud, Q0G f (ints D) d bud r = some (rel0, false) := fun bud => by
    rw [Q0G.eq, f2', Z0, Z12, Qg, hsh, Z0, decide_eq_false hc]; rfl
   exact .inl ⟨by rw [Q0S.eq, f1', Z0, Z12, Qg, l13Fit_eq, Z0, decide_eq_false hc]; rfl, key bud, key⟩
end Go.Ev.W
/- Sparse lists: plain facts. -/
set_option linter.unusedVariables false
set_option linter.unusedSimpArgs false
namespace Go.Ev.W
open Go.Ev
def ones (bs : List Bool) : Nat := (bs.filter id).length
end Go.Ev.W
/- Sparse lists: widths, packed numbers as a list. -/
set_option linter.unusedVariables false
set_option linter.unusedSimpArgs false
namespace Go.Ev.W
open Go.Ev
def hv (W : List Nat) (o w : Nat) : Nat → Nat
 | 0 => 0
 | d + 1 => 2 * hv W o w d + (bit W (o + (w - (d + 1)))).toNat
section
variable (w n : Nat) (W : List Nat) (hw : w ≤ 32) (hn : n ≤ 5000) (hm : n * w ≤ 5000) (hx : ∀ x ∈ W, x < 2 ^ 64) (ht : tight (n * w) W)
include hw hn hm hx ht
end
end Go.Ev.W
/- Walking back in a text by its rows: plain facts. -/
set_option linter.unusedVariables false
set_option linter.unusedSimpArgs false
namespace Go.Ev.W
open Go.Ev
theorem Q4G {p : Nat → Bool} {A B : List Nat} (h : A.Perm B) : (A.filter p).length = (B.filter p).length := (h.filter p).length_eq
theorem srt_perm (D : List Nat) : (srt D).Perm (List.range (D.length + 1)) := List.mergeSort_perm ..
def sufB (D : List Nat) (a b : Nat) : Bool := decide (cmpN (D.drop a) (D.drop b) < 0)
theorem sufB_iff (D : List Nat) (a b : Nat) : sufB D a b = true ↔ Q1S D a b := decide_eq_true_iff
theorem srt_split (D : List Nat) (k : Nat) (hk : k < (srt D).length) (q : Nat → Bool) : ((srt D).take k).filter q = (srt D).filter fun t => sufB D t (srt D)[k] && q t := by
 have hpw := (Q2q D).pw
 have h1 : ((srt D).take k).filter (fun t => sufB D t (srt D)[k] && q t) = ((srt D).take k).filter q := by
  refine List.filter_congr fun t ht => ?_
  obtain ⟨i, hi, rfl⟩ := List.mem_iff_getElem.1 ht
  rw [Z8] at hi
  rw [List.getElem_take, (sufB_iff D _ _).2 (get_lt hpw (show i < k by omega) hk), Z29]
 have h2 : ((srt D).drop k).filter (fun t => sufB D t (srt D)[k] && q t) = [] := by
  refine List.filter_eq_nil_iff.2 fun t ht => ?_
  obtain ⟨i, hi, rfl⟩ := List.mem_iff_getElem.1 ht
  rw [Z19] at hi
  rw [List.getElem_drop]
  have : ¬ Q1S D (srt D)[k + i] (srt D)[k] := by
   by_cases h0 : i = 0
   ·subst h0; exact Q3y D _
   ·intro h
    exact Q3y D _ (Q4c (get_lt hpw (show k < k + i by omega) (by omega)) h)
  cases hb : sufB D (srt D)[k + i] (srt D)[k] with
  | false => simp
  | true => exact absurd ((sufB_iff D _ _).1 hb) this
 generalize (srt D)[k] = z at h1 h2 ⊢
 have e : (srt D).filter (fun t => sufB D t z && q t) = ((srt D).take k ++ (srt D).drop k).filter (fun t => sufB D t z && q t) := by rw [Z82]
 rw [e, Z63, h2, Z30, h1]
theorem srt_rank (D : List Nat) (k : Nat) (hk : k < (srt D).length) : ((List.range (D.length + 1)).filter fun t => sufB D t (srt D)[k]).length = k := by
 have h := srt_split D k hk (fun _ => true)
 rw [← Q4G (srt_perm D)]
 have e : (fun t => sufB D t (srt D)[k] && true) = fun t => sufB D t (srt D)[k] := by funext t; rw [Bool.and_true]
 rw [e] at h
 rw [← h, List.filter_eq_self.2 (fun _ _ => rfl), Z8]; omega
theorem filter_add (A B C : Nat → Bool) : ∀ l : List Nat, (∀ t ∈ l, (A t).toNat + (B t).toNat = (C t).toNat) → (l.filter A).length + (l.filter B).length = (l.filter C).length
 | [], _ => rfl
 | t :: l, h => by
  have ih := filter_add A B C l fun x hx => h x (Z57 _ hx)
  have ht := h t Z43
  rw [Z32, Z32, Z32]
  cases hA : A t <;> cases hB : B t <;> cases hC : C t <;> rw [hA, hB, hC] at ht <;> simp at ht ⊢ <;> omega
theorem Q4U (P : Nat → Bool) (n : Nat) : ((List.range (n + 1)).filter P).length = (P 0).toNat + ((List.range n).filter fun t => P (t + 1)).length := by
 rw [List.range_succ_eq_map, Z32, List.filter_map]
 have e : (P ∘ Nat.succ) = fun t => P (t + 1) := rfl
 rw [e]
 cases P 0 <;> simp <;> omega
theorem filter_range_last (P : Nat → Bool) (n : Nat) : ((List.range (n + 1)).filter P).length = ((List.range n).filter P).length + (P n).toNat := by
 rw [Z88, Z63, Z10]
 cases h : P n <;> simp [h]
theorem drop_cons (D : List Nat) (t : Nat) (h : t < D.length) : D.drop t = D[t] :: D.drop (t + 1) := Z27 h
theorem lf_row (D : List Nat) (k : Nat) (hk : k < (srt D).length) (h0 : (srt D)[k] ≠ 0) : ∃ h : lfV (bwt D) k < (srt D).length, (srt D)[lfV (bwt D) k] + 1 = (srt D)[k] := by
 have hlen := Q27 D
 have hmem := (Q2L D _).1 (Z14 hk)
 obtain ⟨s, hs⟩ : ∃ s, (srt D)[k] = s + 1 := ⟨(srt D)[k] - 1, by omega⟩
 have hsl : s < D.length := by omega
 obtain ⟨j, hj, hjs⟩ := List.mem_iff_getElem.1 ((Q2L D s).2 (by omega))
 have hr := srt_rank D j hj
 rw [hjs] at hr
 have hbk : k < (bwt D).length := by rw [Q10]; omega
 have hX : (bwt D)[k] = D[s] + 1 := by
  have e0 : (bwt D)[k] = bwS D (srt D)[k] := by simp [bwt]
  rw [e0, hs]
  unfold bwS
  rw [if_neg (by omega), Z103, Z9, Z3 hsl]; rfl
 have key : lfV (bwt D) k = j := by
  rw [lfV_at _ _ hbk, hX]
  unfold ltc eqc
  have e1 : ((bwt D).filter fun x => decide (x < D[s] + 1)).length = ((List.range (D.length + 1)).filter fun t => decide (bwS D t < D[s] + 1)).length := by
   rw [← Q4G (srt_perm D)]
   unfold bwt
   rw [List.filter_map, Z1]; rfl
  have e2 : (((bwt D).take k).filter fun x => decide (x = D[s] + 1)).length = ((List.range (D.length + 1)).filter fun t => sufB D t (s + 1) && decide (bwS D t = D[s] + 1)).length := by
   rw [← Q4G (srt_perm D)]
   unfold bwt
   rw [← Z91, List.filter_map, Z1]
   have := srt_split D k hk (fun t => decide (bwS D t = D[s] + 1))
   rw [hs] at this
   rw [← this]; rfl
  rw [e1, e2, Q4U, Q4U, ← hr, filter_range_last]
  have z1 : decide (bwS D 0 < D[s] + 1) = true := decide_eq_true (by unfold bwS; rw [if_pos rfl]; omega)
  have z2 : (sufB D 0 (s + 1) && decide (bwS D 0 = D[s] + 1)) = false := by
   rw [show decide (bwS D 0 = D[s] + 1) = false from decide_eq_false (by unfold bwS; rw [if_pos rfl]; omega), Z98]
  have z3 : sufB D D.length s = true := by
   unfold sufB
   rw [Z74, drop_cons D s hsl]; rfl
  rw [z1, z2, z3]
  have hadd := filter_add (fun t => decide (bwS D (t + 1) < D[s] + 1)) (fun t => sufB D (t + 1) (s + 1) && decide (bwS D (t + 1) = D[s] + 1)) (fun t => sufB D t s) (List.range D.length) (by
   intro t ht
   have htl : t < D.length := Z50.1 ht
   have hb : bwS D (t + 1) = D[t] + 1 := by
    unfold bwS
    rw [if_neg (by omega), Z103, Z9, Z3 htl]; rfl
   unfold sufB
   rw [hb, drop_cons D t htl, drop_cons D s hsl, cmpN]
   by_cases h1 : D[t] < D[s]
   ·rw [if_pos h1, decide_eq_true (show D[t] + 1 < D[s] + 1 by omega), decide_eq_false (show ¬ D[t] + 1 = D[s] + 1 by omega), Z98]; rfl
   ·rw [if_neg h1, decide_eq_false (show ¬ D[t] + 1 < D[s] + 1 by omega)]
    by_cases h2 : D[s] < D[t]
    ·rw [if_pos h2, decide_eq_false (show ¬ D[t] + 1 = D[s] + 1 by omega), Z98]; rfl
    ·rw [if_neg h2, decide_eq_true (show D[t] + 1 = D[s] + 1 by omega), Bool.and_true]
     exact Z25 _)
  show 1 + _ + (0 + _) = _ + 1
  omega
 refine ⟨by rw [key]; exact hj, ?_⟩
 simp only [key, hjs, hs]
end Go.Ev.W
/- The text of the rows of a text. -/
set_option linter.unusedVariables false
set_option linter.unusedSimpArgs false
namespace Go.Ev.W
open Go.Ev
theorem srt_first (D : List Nat) (h : 0 < (srt D).length) : (srt D)[0] = D.length := by
 obtain ⟨k, hk, e⟩ := List.mem_iff_getElem.1 ((Q2L D D.length).2 (Z7 _))
 by_cases h0 : k = 0
 ·subst h0; exact e
 ·have := get_lt (Q2q D).pw (show 0 < k by omega) hk
  rw [e] at this
  unfold Q1S at this
  rw [Z74] at this
  cases hd : D.drop (srt D)[0] with
  | nil => rw [hd] at this; simp [cmpN] at this
  | cons a x => rw [hd] at this; simp [cmpN] at this
theorem wk_back (D : List Nat) : ∀ (j r : Nat) (hr : r < (srt D).length) (acc : List Nat), (srt D)[r] = j → (wk (bwt D) j r acc).1 = D.take j ++ acc
 | 0, r, hr, acc, _ => by simp [wk]
 | j + 1, r, hr, acc, hj => by
  have hm := (Q2L D (srt D)[r]).1 (Z14 hr)
  have hl := Q27 D
  have hb := Q10 D
  have hx : (bwt D).getD r 0 = D[j]'(by omega) + 1 := by
   rw [Z9, Z3 (by omega), Z41]
   unfold bwt
   rw [Z87]
   unfold bwS
   rw [if_neg (by omega), hj, Z103, Z9, Z3 (by omega), Z41]
  obtain ⟨h1, h2⟩ := lf_row D r hr (by omega)
  rw [wk, if_neg (by omega), wk_back D j _ h1 _ (by omega), hx, Z103, Z48, Z3 (by omega), Z28]
  rfl
theorem bT_bwt (D : List Nat) : bT (bwt D) = (ints D, true) := by
 have hl := Q27 D
 have hb := Q10 D
 have h := wk_back D D.length 0 (by omega) [] (srt_first D (by omega))
 unfold bT
 rw [decide_eq_false (by omega), Qg, hb, Z103, h, Z22, Z30]
 unfold tFin
 rw [decide_eq_true rfl, QW]
end Go.Ev.W
/- An index made tells its text. -/
-- names as printed
set_option linter.unusedVariables false
set_option linter.unusedSimpArgs false
namespace Go.Ev.W
open Go.Ev
theorem bits_valid (bs : List Bool) (h : bs.length ≤ 5000) : vOk (bs.length : Int) (wrds bs) = true := by
 unfold vOk
 rw [Z5, (Q2O bs.length (wrds bs) (Q2d bs).2.1).2 (Q2d bs)]
 simp only [Bool.and_true, Z4, decide_eq_true_eq]; omega
theorem zer_len (bs : List Bool) : zer bs bs.length + one bs bs.length = bs.length := by
 have := Q2F bs bs.length (Z7 _)
 omega
section
variable (R D : List Nat) (hR : R.length ≤ 300) (hD : D.length ≤ 300) (bR : Qq R) (bD : Qq D) (P : List (Nat × Nat)) (hP : Q1T R D P) (r : Nat) (h1 : 1 ≤ r) (h64 : r ≤ 64)
include hR hD bR bD hP h1 h64
omit hP in
theorem relMade_eq : Q1c (ints R) (ints D) ((relX R D P r).2.2.1, (relX R D P r).2.2.2.1) ((relX R D P r).2.2.2.2.1, (relX R D P r).2.2.2.2.2.1) (relX R D P r).2.1 = some (relX R D P r, ints R, ints D) := by
 have l1 := Q10 R
 have l2 := Q10 D
 have f1 := fl1_len R P
 have f2 := Q3s D P
 have u1 := Q3S (bwt R) (fl1 R P).length (wrds (fl1 R P)) (by omega) (Q2d _) (by omega)
 have u2 := Q3S (bwt D) (fl2 D P).length (wrds (fl2 D P)) (by omega) (Q2d _) (by omega)
 rw [Q2D, f1] at u1
 rw [Q2D, f2] at u2
 have a1 := Q2H (bwt R) (fl1 R P)
 have a2 := Q2H (bwt D) (fl2 D P)
 have v1 := Q3N (at0 (bwt R) (fl1 R P)) (by omega) fun y hy => by have := Q2M R bR y (Q38 _ _ y hy); omega
 have v2 := Q3N (at0 (bwt D) (fl2 D P)) (by omega) fun y hy => by have := Q2M D bD y (Q38 _ _ y hy); omega
 show Q1c (ints R) (ints D) (((R.length + 1 : Nat) : Int), ints (wrds (fl1 R P))) (((D.length + 1 : Nat) : Int), ints (wrds (fl2 D P))) (r : Int) = _
 rw [Q1c.eq, implFm_eq D hD bD r (by omega) h64, Z0, Q2X R hR bR, Z0]
 show (QH _ (((R.length + 1 : Nat) : Int), ints (wrds (fl1 R P)))).bind _ = _
 rw [u1, Z0, v1, Z0, Q2X D hD bD, Z0]
 show (QH _ (((D.length + 1 : Nat) : Int), ints (wrds (fl2 D P)))).bind _ = _
 rw [u2, Z0, v2, Z0]
 rfl
theorem relBack (f : FmT) (fi : Q0r f = some (ints R, true)) : Q1d (relX R D P r) f = some (ints D, true) := by
 have l1 := Q10 R
 have l2 := Q10 D
 have f1 := fl1_len R P
 have f2 := Q3s D P
 have o1 := hP.one1
 have o2 := hP.one2
 have a1 := at0_len' (bwt R) (fl1 R P) (by omega)
 have a2 := at0_len' (bwt D) (fl2 D P) (by omega)
 have z2 := zer_len (fl2 D P)
 have hQ : ∀ y ∈ at0 (bwt D) (fl2 D P), y ≤ 511 := fun y hy => by have := Q2M D bD y (Q38 _ _ y hy); omega
 have hb := wave_back (at0 (bwt D) (fl2 D P)) (by omega) hQ
 have hYl : ∀ p ∈ (wLv 9 0 (at0 (bwt D) (fl2 D P))).2, p.2.length ≤ 1048576 := fun p hp => by rw [Q3Q 9 0 _ p hp]; unfold nw; omega
 have hrd := waveRead_eq ((at0 (bwt D) (fl2 D P)).length : Int) (ints (wLv 9 0 (at0 (bwt D) (fl2 D P))).1) (wLv 9 0 (at0 (bwt D) (fl2 D P))).2 hYl (Q4l [] 9 0 _)
 rw [hb.1, QW] at hrd
 have hQe : ints (snds (rows ((wLv 9 0 (at0 (bwt D) (fl2 D P))).2.map lvb) (start ((at0 (bwt D) (fl2 D P)).length : Int).toNat))) = ints (at0 (bwt D) (fl2 D P)) := by
  have e : wList (at0 (bwt D) (fl2 D P)).length (wLv 9 0 (at0 (bwt D) (fl2 D P))).2 = _ := hb.2
  rw [Z5]
  exact congrArg ints e
 rw [hQe] at hrd
 have v1 := bits_valid (fl1 R P) (by omega)
 have v2 := bits_valid (fl2 D P) (by omega)
 have t1 := Q2d (fl1 R P)
 have t2 := Q2d (fl2 D P)
 have hp := implPatchDo_eq (bwt R) (by omega) ((fl1 R P).length : Int) (wrds (fl1 R P)) ((fl2 D P).length : Int) (wrds (fl2 D P)) (at0 (bwt D) (fl2 D P)) (by rw [Q1U]; unfold nw; omega) t1.2.1 (by rw [Q1U]; unfold nw; omega) t2.2.1
 have hpo : pOkB (bwt R) ((fl1 R P).length : Int) (wrds (fl1 R P)) ((fl2 D P).length : Int) (wrds (fl2 D P)) (at0 (bwt D) (fl2 D P)) = true := by
  unfold pOkB
  rw [v1, v2, Z5, Z5, Q2D, Q2D, f1, f2, o1, o2]
  rw [f2] at a2
  rw [a2, decide_eq_true (by omega), decide_eq_true (by omega), decide_eq_true rfl, decide_eq_true rfl]
  rfl
 have hpv : pVal (bwt R) ((fl1 R P).length : Int) (wrds (fl1 R P)) ((fl2 D P).length : Int) (wrds (fl2 D P)) (at0 (bwt D) (fl2 D P)) = bwt D := by
  unfold pVal
  rw [Z5, Z5, Q2D, Q2D, hP.same]
  exact pat_back _ _ (by omega)
 rw [hpo, QW, hpv, f1, f2] at hp
 have hm := relMade_eq R D hR hD bR bD P r h1 h64
 have hse := sameRel_eq (relX R D P r) (relX R D P r) 1000 (by omega) (relX_small R D hR hD P r)
 rw [decide_eq_true rfl] at hse
 rw [Q1d.eq]
 show (Q0r f).bind _ = _
 rw [fi, Z0]
 show (Qc (((at0 (bwt D) (fl2 D P)).length : Int), ints (wLv 9 0 (at0 (bwt D) (fl2 D P))).1, LI (wLv 9 0 (at0 (bwt D) (fl2 D P))).2)).bind _ = _
 rw [hrd, Z0, Z12, Qg, Qg]
 show (Q0H (r : Int)).bind _ = _
 rw [Q3P, decide_eq_true (by omega), decide_eq_true (by omega), Z0, Z29, Z12, Qg]
 have hpt : Q1b (ints R) (((R.length + 1 : Nat) : Int), ints (wrds (fl1 R P))) (((D.length + 1 : Nat) : Int), ints (wrds (fl2 D P))) (ints (at0 (bwt D) (fl2 D P))) = some (ints D, true) := by
  rw [Q1b.eq, Q2X R hR bR, Z0]
  show (Qo (ints (bwt R)) (((R.length + 1 : Nat) : Int), ints (wrds (fl1 R P)), ((D.length + 1 : Nat) : Int), ints (wrds (fl2 D P)), ints (at0 (bwt D) (fl2 D P)))).bind _ = _
  rw [hp, Z0, Z12, Qg, Q4S (bwt D) (by omega) (Q2M D bD), bT_bwt]
  rfl
 show (Q1b (ints R) (((R.length + 1 : Nat) : Int), ints (wrds (fl1 R P))) (((D.length + 1 : Nat) : Int), ints (wrds (fl2 D P))) (ints (at0 (bwt D) (fl2 D P)))).bind _ = _
 rw [hpt, Z0, QW, hm, Z0, hse, Z0]
end
end Go.Ev.W
/- Drawn inputs: a reader of bytes always gives something, within bounds. -/
set_option linter.unusedVariables false
set_option linter.unusedSimpArgs false
namespace Go.Ev.W
open Go.Ev
abbrev Cur := List Int × Int × Int
def QQ (k : Nat) (c : Cur) : Prop := c.1.length ≤ 1048576 ∧ 0 ≤ c.2.1 ∧ c.2.1 ≤ k ∧ 0 ≤ c.2.2 ∧ c.2.2 ≤ 100000 ∧ ∀ x ∈ c.1, 0 ≤ x ∧ x ≤ 255
theorem QQ.mono {k m : Nat} {c : Cur} (h : QQ k c) (hm : k ≤ m) : QQ m c := by
 obtain ⟨a, b, c, d⟩ := h
 exact ⟨a, b, by omega, d⟩
def Bytes (xs : List Int) : Prop := xs.length ≤ 1048576 ∧ ∀ x ∈ xs, 0 ≤ x ∧ x ≤ 255
theorem Q3t (x n : Int) (hx : 0 ≤ x) (hn : 0 < n) : 0 ≤ x.tmod n ∧ x.tmod n < n := by
 rw [Int.tmod_eq_emod_of_nonneg hx]
 exact ⟨Int.emod_nonneg _ (by omega), Int.emod_lt_of_pos _ hn⟩
theorem open_ok (xs : List Int) (h : Bytes xs) : ∃ c, Q1q xs = some c ∧ QQ 0 c := by
 rw [Q1q.eq]
 have := Q3t (xs.length : Int) 1000 (by omega) (by omega)
 refine ⟨_, rfl, h.1, Int.le_refl _, Int.le_refl _, ?_, ?_, h.2⟩
 ·show 0 ≤ IntKind.i64.wrap _; rw [Qa (by omega) (by omega)]; omega
 ·show IntKind.i64.wrap _ ≤ _; rw [Qa (by omega) (by omega)]; omega
theorem Q0e {k : Nat} {c : Cur} (h : QQ k c) (hk : k < 1000000000000) (n : Int) : ∃ x c', Qb c n = some (x, c') ∧ QQ (k + 1) c' ∧ 0 ≤ x ∧ (x < n ∨ x = 0) := by
 obtain ⟨code, at_, seed⟩ := c
 obtain ⟨h1, h2, h3, h4, h5, h6⟩ := h
 simp only at h1 h2 h3 h4 h5 h6
 rw [Qb.eq]
 by_cases hn : n < 2
 ·rw [Q2 hn]
  exact ⟨0, _, rfl, ⟨h1, h2, by simp only; omega, h4, h5, h6⟩, Int.le_refl _, .inr rfl⟩
 rw [Q3 hn]
 have ha : IntKind.i64.wrap (at_ + 1) = at_ + 1 := Qa (by omega) (by omega)
 have s1 : IntKind.i64.wrap (seed * 1103) = seed * 1103 := Qa (by omega) (by omega)
 have s2 : IntKind.i64.wrap (seed * 1103 + 12345) = seed * 1103 + 12345 := Qa (by omega) (by omega)
 have s3 := Q3t (seed * 1103 + 12345) 65521 (by omega) (by omega)
 simp only [ha, s1, s2]
 generalize (seed * 1103 + 12345).tmod 65521 = s at s3
 by_cases hlt : at_ < (code.length : Int)
 ·obtain ⟨i, rfl⟩ : ∃ i : Nat, at_ = i := ⟨at_.toNat, by omega⟩
  have hi : i < code.length := by omega
  have hb := h6 _ (Z14 hi)
  rw [Q2 hlt, Q2o _ _ hi, Z0, Q3 (by omega), Qa (by omega) (by omega)]
  have := Q3t code[i] n hb.1 (by omega)
  exact ⟨_, _, rfl, ⟨h1, by simp only; omega, by simp only; omega, h4, h5, h6⟩, this.1, .inl this.2⟩
 ·rw [Q3 hlt]
  by_cases hc : (code.length : Int) > 0
  ·rw [Q2 hc, Q3 (by omega)]
   have hm := Q3t at_ code.length h2 (by omega)
   obtain ⟨i, hi⟩ : ∃ i : Nat, at_.tmod code.length = i := ⟨(at_.tmod code.length).toNat, by omega⟩
   rw [hi] at hm ⊢
   have hi : i < code.length := by omega
   have hb := h6 _ (Z14 hi)
   have hd : 0 ≤ s.tdiv 7 ∧ s.tdiv 7 ≤ s := by
    rw [Int.tdiv_eq_ediv_of_nonneg s3.1]; omega
   rw [Q2o _ _ hi, Z0, Q3 (by omega), Qa (x := s.tdiv 7) (by omega) (by omega), Qa (x := code[i]) (by omega) (by omega), Qa (by omega) (by omega)]
   have := Q3t (s.tdiv 7 + code[i]) n (by omega) (by omega)
   exact ⟨_, _, rfl, ⟨h1, by simp only; omega, by simp only; omega, s3.1, by simp only; omega, h6⟩, this.1, .inl this.2⟩
  ·rw [Q3 hc, Q3 (by omega)]
   have := Q3t 0 n (by omega) (by omega)
   exact ⟨_, _, rfl, ⟨h1, by simp only; omega, by simp only; omega, s3.1, by simp only; omega, h6⟩, this.1, .inl this.2⟩
theorem Q39 {k : Nat} {c : Cur} (h : QQ k c) (hk : k < 1000000000000) (n : Int) : ∃ x c', Q0d c n = some (x, c') ∧ QQ (k + 1) c' := by
 obtain ⟨x, c', e, h', _⟩ := Q0e h hk n
 rw [Q0d.eq]
 simp only [Q1K, e, Z0]
 exact ⟨_, _, rfl, h'⟩
theorem size_ok {k : Nat} {c : Cur} (h : QQ k c) (hk : k < 1000000000000) (n : Int) (hn : 0 ≤ n) (hn2 : n ≤ 1000000) : ∃ x c', Q0Z c n = some (x, c') ∧ QQ (k + 1) c' ∧ 0 ≤ x ∧ x ≤ n := by
 have hl := h.1
 have hd : (c.1.length : Int).tdiv 8 = (c.1.length : Int) / 8 := Int.tdiv_eq_ediv_of_nonneg (by omega)
 rw [Q0Z.eq]
 simp only [Q1K]
 rw [hd, Qa (x := (c.1.length : Int) / 8) (by omega) (by omega), Qa (x := 1 + (c.1.length : Int) / 8) (by omega) (by omega)]
 obtain ⟨m, hm⟩ : ∃ m, m = (if 1 + (c.1.length : Int) / 8 < n then 1 + (c.1.length : Int) / 8 else n) := ⟨_, rfl⟩
 rw [← hm]
 have hmn : 0 ≤ m ∧ m ≤ n := by rw [hm]; split <;> omega
 rw [Qa (by omega) (by omega)]
 obtain ⟨x, c', e, h', h1, h2⟩ := Q0e h hk (m + 1)
 rw [e, Z0]
 exact ⟨x, c', rfl, h', h1, by omega⟩
theorem wide_ok {k : Nat} {c : Cur} (h : QQ k c) (hk : k + 3 < 1000000000000) (n : Int) (hn : 0 < n) : ∃ x c', Q1r c n = some (x, c') ∧ QQ (k + 3) c' ∧ 0 ≤ x ∧ x < n := by
 obtain ⟨x1, c1, e1, g1, a1, b1⟩ := Q0e h (by omega) 256
 obtain ⟨x2, c2, e2, g2, a2, b2⟩ := Q0e g1 (by omega) 256
 obtain ⟨x3, c3, e3, g3, a3, b3⟩ := Q0e g2 (by omega) 256
 rw [Q1r.eq]
 simp only [Q1K, e1, e2, e3, Z0]
 rw [Q3 (by omega), Qa (x := 65536 * x1) (by omega) (by omega), Qa (x := 256 * x2) (by omega) (by omega), Qa (x := 65536 * x1 + 256 * x2) (by omega) (by omega), Qa (by omega) (by omega)]
 have := Q3t (65536 * x1 + 256 * x2 + x3) n (by omega) hn
 exact ⟨_, _, rfl, g3, this.1, this.2⟩
theorem numbers_l0_ok (top : Int) : ∀ (m k : Nat) (c : Cur) (out : List Int), QQ k c → k + 3 * m < 1000000000000 → out.length + m ≤ 1000000 → (∀ x ∈ out, 0 ≤ x ∧ x < max 1 top) →
  ∃ l c', Q07_l0 top m c.1 c.2.1 c.2.2 out = some (l, c') ∧ QQ (k + 3 * m) c' ∧ l.length = out.length + m ∧ ∀ x ∈ l, 0 ≤ x ∧ x < max 1 top := by
 intro m
 induction m with
 | zero =>
  intro k c out h hk ho hx
  rw [Q07_l0.eq, Q3 (by omega)]
  exact ⟨out, c, rfl, h, rfl, hx⟩
 | succ m ih =>
  intro k c out h hk ho hx
  rw [Q07_l0.eq, Q2 (by omega)]
  have e0 : (if top > 1 then top else 1) = max 1 top := by split <;> omega
  obtain ⟨x, c', e, h', h1, h2⟩ := wide_ok h (by omega) (max 1 top) (by omega)
  simp only [Q1K, e0, e, Z0]
  rw [Q2 (by simp only [Z2, Z6]; omega), Qa (by omega) (by omega), show ((m + 1 : Nat) : Int) - 1 = m by omega]
  obtain ⟨l, c2, e2, g1, g2, g3⟩ := ih (k + 3) c' (out ++ [x]) h' (by omega) (by simp; omega) (by
   intro y hy
   rcases Z26.1 hy with hy | hy
   ·exact hx y hy
   ·rw [Z38.1 hy]; exact ⟨h1, h2⟩)
  exact ⟨l, c2, e2, g1.mono (by omega), by rw [g2]; simp; omega, g3⟩
theorem numbers_ok {k : Nat} {c : Cur} (h : QQ k c) (hk : k < 100000000000) (n top : Int) (hn : 0 ≤ n) (hn2 : n ≤ 1000000) : ∃ l c', Q07 c n top = some (l, c') ∧ QQ (k + 3000001) c' ∧ (l.length : Int) ≤ n ∧ ∀ x ∈ l, 0 ≤ x ∧ x < max 1 top := by
 obtain ⟨x, c1, e1, g1, a1, b1⟩ := size_ok h (by omega) n hn hn2
 obtain ⟨m, rfl⟩ : ∃ m : Nat, x = m := ⟨x.toNat, by omega⟩
 rw [Q07.eq]
 simp only [Q1K, e1, Z0]
 obtain ⟨l, c2, e2, h1, h2, h3⟩ := numbers_l0_ok top m (k + 1) c1 [] g1 (by omega) (by simp; omega) (by simp)
 exact ⟨l, c2, e2, h1.mono (by omega), by rw [h2]; simpa using b1, h3⟩
theorem Q2e {α : Type} (xs : List α) (x : Int) (h0 : 0 ≤ x) (h1 : x < xs.length) : ∃ y, at? xs x = some y ∧ xs[x.toNat]? = some y ∧ y ∈ xs := by
 have hlt : x.toNat < xs.length := by omega
 exact ⟨xs[x.toNat], by rw [at?_int _ _ h0, Z3 hlt], Z3 hlt, Z14 hlt⟩
theorem Q2R {k : Nat} {c : Cur} (h : QQ k c) (hk : k < 100000000000) : ∃ x c', QV c = some (x, c') ∧ QQ (k + 2) c' ∧ -9223372036854775808 ≤ x ∧ x ≤ 9223372036854775807 := by
 obtain ⟨x1, c1, e1, g1, a1, b1⟩ := Q0e h (by omega) 8
 rw [QV.eq]
 simp only [Q1K, e1, Z0]
 by_cases h1 : x1 = 0
 ·obtain ⟨x2, c2, e2, g2, a2, b2⟩ := Q0e g1 (by omega) 256
  rw [Q0w h1]
  simp only [e2, Z0]
  exact ⟨_, c2, rfl, g2, by rw [Qa (by omega) (by omega)]; omega, by rw [Qa (by omega) (by omega)]; omega⟩
 rw [Q0I h1]
 by_cases h2 : x1 = 1
 ·obtain ⟨x2, c2, e2, g2, a2, b2⟩ := Q0e g1 (by omega) 8
  rw [Q0w h2]
  simp only [e2, Z0]
  obtain ⟨y, y1, y2, y3⟩ := Q2e ([9223372036854775807, -9223372036854775808, 4611686018427387904, 4294967295, 4294967296, -1000, 1000, 257] : List Int) x2 a2 (by simp; omega)
  rw [y1, Z0, y2, Z0]
  refine ⟨y, c2, rfl, g2, ?_⟩
  simp only [Z13, Z99, or_false] at y3
  omega
 ·obtain ⟨x2, c2, e2, g2, a2, b2⟩ := Q0e g1 (by omega) 14
  rw [Q0I h2]
  simp only [e2, Z0]
  exact ⟨_, c2, rfl, g2, by rw [Qa (by omega) (by omega)]; omega, by rw [Qa (by omega) (by omega)]; omega⟩
end Go.Ev.W
/- Drawn inputs: rows of bits, packed numbers, texts, wavelet matrices: there is always something, within bounds. -/
set_option linter.unusedVariables false
set_option linter.unusedSimpArgs false
namespace Go.Ev.W
open Go.Ev
theorem pick2 (x : Int) (h0 : 0 ≤ x) (h1 : x < 2 ∨ x = 0) : ∃ b : Bool, x = bint b := by
 rcases Int.lt_or_le x 1 with h | h
 ·exact ⟨false, by show x = 0; omega⟩
 ·exact ⟨true, by show x = 1; omega⟩
theorem bool_ok (b : Bool) : Q0N b = some (bint b) := by rw [Q0N.eq]; cases b <;> rfl
theorem bints_snoc (bs : List Bool) (b : Bool) : Qe bs ++ [bint b] = Qe (bs ++ [b]) := by rw [← Q3O]; rfl
theorem row_l1 : ∀ (d k : Nat) (c : Cur) (bs : List Bool), QQ k c → k + d + 1 < 100000000000 → bs.length + d = 5001 → ∃ bs' c', QP_l1 c.1 c.2.1 c.2.2 (Qe bs) = some (Qe bs', c') ∧ QQ (k + d + 1) c' ∧ bs'.length ≤ 5001 := by
 intro d
 induction d with
 | zero =>
  intro k c bs h hk hl
  obtain ⟨x, c1, e1, g1, a1, b1⟩ := Q0e h (by omega) 2
  rw [QP_l1.eq]
  simp only [Q1K, e1, Z0]
  rw [Q2A, Qa (x := 5000 + x) (by omega) (by omega), Q3 (by omega)]
  exact ⟨bs, c1, rfl, g1.mono (by omega), by omega⟩
 | succ d ih =>
  intro k c bs h hk hl
  obtain ⟨x, c1, e1, g1, a1, b1⟩ := Q0e h (by omega) 2
  rw [QP_l1.eq]
  simp only [Q1K, e1, Z0]
  rw [Q2A, Qa (x := 5000 + x) (by omega) (by omega)]
  by_cases hlt : (bs.length : Int) < 5000 + x
  ·have e2 : ((bs.length : Int).tmod 3).tdiv 2 = ((bs.length % 3 / 2 : Nat) : Int) := rfl
   obtain ⟨b, hb⟩ : ∃ b : Bool, IntKind.i64.wrap (((bs.length : Int).tmod 3).tdiv 2) = bint b := by
    rw [e2, Q2J (by omega)]
    exact pick2 _ (by omega) (.inl (by omega))
   rw [Q2 hlt, hb, Q2 (by simp only [Z2, Z6]; omega), bints_snoc]
   obtain ⟨bs', c', e3, g3, h3⟩ := ih (k + 1) c1 (bs ++ [b]) g1 (by omega) (by simp only [Z10, Z2, Z6]; omega)
   exact ⟨bs', c', e3, g3.mono (by omega), h3⟩
  ·rw [Q3 hlt]
   exact ⟨bs, c1, rfl, g1.mono (by omega), by omega⟩
theorem row_l0 (lean : Int) : ∀ (m k : Nat) (c : Cur) (bs : List Bool), QQ k c → k + 2 * m + 5003 < 100000000000 → bs.length + m ≤ 5001 → ∃ bs' c', QP_l0 lean m c.1 c.2.1 c.2.2 (Qe bs) = some (Qe bs', c') ∧ QQ (k + 2 * m + 5003) c' ∧ bs'.length ≤ 5001 := by
 intro m
 induction m with
 | zero =>
  intro k c bs h hk hl
  obtain ⟨x, c1, e1, g1⟩ := Q39 h (by omega) 60
  rw [QP_l0.eq, Q3 (by omega)]
  simp only [Q1K, e1, Z0]
  cases x with
  | false => exact ⟨bs, c1, rfl, g1.mono (by omega), by omega⟩
  | true =>
   rw [QW]
   obtain ⟨bs', c', e2, g2, h2⟩ := row_l1 (5001 - bs.length) (k + 1) c1 bs g1 (by omega) (by omega)
   exact ⟨bs', c', e2, g2.mono (by omega), h2⟩
 | succ m ih =>
  intro k c bs h hk hl
  obtain ⟨x, c1, e1, g1, a1, b1⟩ := Q0e h (by omega) 2
  rw [QP_l0.eq, Q2 (by omega)]
  simp only [Q1K, e1, Z0]
  rw [Qa (x := ((m + 1 : Nat) : Int) - 1) (by omega) (by omega), show ((m + 1 : Nat) : Int) - 1 = m by omega]
  by_cases h0 : lean = 0
  ·rw [Q0w h0]
   obtain ⟨y, c2, e2, g2⟩ := Q39 g1 (by omega) 9
   simp only [e2, Z0, bool_ok]
   rw [Q2 (by rw [Q2A]; simp only [Z2, Z6]; omega), bints_snoc]
   obtain ⟨bs', c', e3, g3, h3⟩ := ih (k + 2) c2 (bs ++ [y]) g2 (by omega) (by simp only [Z10, Z2, Z6]; omega)
   exact ⟨bs', c', e3, g3.mono (by omega), h3⟩
  ·rw [Q0I h0]
   obtain ⟨b, rfl⟩ := pick2 x a1 b1
   rw [Q2 (by rw [Q2A]; simp only [Z2, Z6]; omega), bints_snoc]
   obtain ⟨bs', c', e3, g3, h3⟩ := ih (k + 1) c1 (bs ++ [b]) g1 (by omega) (by simp only [Z10, Z2, Z6]; omega)
   exact ⟨bs', c', e3, g3.mono (by omega), h3⟩
theorem row_ok {k : Nat} {c : Cur} (h : QQ k c) (hk : k < 10000000000) : ∃ bs c', QP c = some (Qe bs, c') ∧ QQ (k + 10000) c' ∧ bs.length ≤ 5001 := by
 obtain ⟨x1, c1, e1, g1, a1, b1⟩ := Q0e h (by omega) 4
 obtain ⟨x2, c2, e2, g2, a2, b2⟩ := Q0e g1 (by omega) 3
 obtain ⟨y, y1, y2, y3⟩ := Q2e ([5, 40, 140] : List Int) x2 a2 (by simp; omega)
 obtain ⟨x3, c3, e3, g3, a3, b3⟩ := Q0e g2 (by omega) y
 rw [QP.eq]
 simp only [Q1K, e1, e2, Z0, y1, y2, e3]
 have hy : y ≤ 140 := by simp only [Z13, Z99, or_false] at y3; omega
 obtain ⟨m, rfl⟩ : ∃ m : Nat, x3 = m := ⟨x3.toNat, by omega⟩
 obtain ⟨bs', c', e4, g4, h4⟩ := row_l0 x1 m (k + 3) c3 [] g3 (by omega) (by simp; omega)
 exact ⟨bs', c', e4, g4.mono (by omega), h4⟩
theorem bitsOf_ok (bs : List Bool) : ∃ (n : Int) (W : List Nat) (b : Bool), Qm (Qe bs) = some ((n, ints W), b) ∧ W.length ≤ 79 ∧ ∀ x ∈ W, x < 2 ^ 64 := by
 by_cases h : bs.length ≤ 5000
 ·exact ⟨_, _, true, Q3m bs h, by rw [Q1U]; unfold nw; omega, (Q2d bs).2.1⟩
 ·refine ⟨0, [], false, ?_, by simp, by simp⟩
  rw [Qm.eq, Q2A, Q2 (by omega)]; rfl
theorem badBits_ok {k : Nat} {c : Cur} (h : QQ k c) (hk : k < 10000000000) : ∃ (n : Int) (W : List Nat) (c' : Cur), Q0L c = some ((n, ints W), c') ∧ QQ (k + 10010) c' ∧ W.length ≤ 80 ∧ ∀ x ∈ W, x < 2 ^ 64 := by
 obtain ⟨bs, c1, e1, g1, h1⟩ := row_ok h hk
 obtain ⟨n, W, b, e2, l2, w2⟩ := bitsOf_ok bs
 obtain ⟨x, c2, e3, g3, a3, b3⟩ := Q0e g1 (by omega) 14
 rw [Q0L.eq]
 simp only [Q1K, e1, Z0, e2, e3]
 by_cases q0 : x = 0
 ·rw [Q0w q0]
  obtain ⟨z, c4, e4, g4, _⟩ := Q2R g3 (by omega)
  obtain ⟨z5, c5, e5, g5, a5, b5⟩ := Q0e g4 (by omega) 3
  obtain ⟨y, y1, y2, y3⟩ := Q2e ([z, IntKind.i64.wrap (n + 1), IntKind.i64.wrap (n - 1)] : List Int) z5 a5 (by simp; omega)
  simp only [e4, Z0, e5, y1, y2]
  exact ⟨y, W, c5, rfl, g5.mono (by omega), by omega, w2⟩
 rw [Q0I q0]
 by_cases q1 : x = 1
 ·rw [Q0w q1]
  obtain ⟨z5, c5, e5, g5, a5, b5⟩ := Q0e g3 (by omega) 2
  obtain ⟨m, rfl⟩ : ∃ m : Nat, z5 = m := ⟨z5.toNat, by omega⟩
  simp only [e5, Z0]
  rw [wrapUn (by omega), Q2 (by rw [Q9]; simp only [Z2, Z6]; omega), Q2G]
  refine ⟨n, W ++ [m], c5, rfl, g5.mono (by omega), by simp; omega, fun x hx => ?_⟩
  rcases Z26.1 hx with hx | hx
  ·exact w2 x hx
  ·rw [Z38.1 hx]; omega
 rw [Q0I q1]
 by_cases q2 : x = 2
 ·rw [Q0w q2, Q9]
  by_cases hW : (W.length : Int) > 0
  ·rw [Q2 hW]
   obtain ⟨z5, c5, e5, g5, a5, b5⟩ := Q0e g3 (by omega) W.length
   obtain ⟨m, rfl⟩ : ∃ m : Nat, z5 = m := ⟨z5.toNat, by omega⟩
   have hm : m < W.length := by omega
   simp only [e5, Z0]
   rw [Q0M W m hm, Z0, Z5, Q2p W m hm, Z0]
   refine ⟨n, W.set m 18446744073709551615, c5, ?_, g5.mono (by omega), by rw [Z92]; omega, fun x hx => ?_⟩
   ·rw [← ints_set]; rfl
   ·rcases List.mem_or_eq_of_mem_set hx with hx | hx
    ·exact w2 x hx
    ·rw [hx]; decide
  ·rw [Q3 hW]
   exact ⟨n, W, c2, rfl, g3.mono (by omega), by omega, w2⟩
 ·rw [Q0I q2]
  exact ⟨n, W, c2, rfl, g3.mono (by omega), by omega, w2⟩
theorem nums_ok {k : Nat} {c : Cur} (h : QQ k c) (hk : k < 100000000000) (n : Nat) (hn : n ≤ 1000) (top : Int) : ∃ (X : List Nat) (c' : Cur), Q07 c n top = some (ints X, c') ∧ QQ (k + 3000001) c' ∧ X.length ≤ n ∧ ∀ x ∈ X, (x : Int) < max 1 top := by
 obtain ⟨l, c', e, g, h1, h2⟩ := numbers_ok h hk n top (by omega) (by omega)
 obtain ⟨X, rfl, hX⟩ := ints_of l (max 1 top).toNat fun x hx => ⟨(h2 x hx).1, by have := (h2 x hx).2; omega⟩
 rw [Q9] at h1
 exact ⟨X, c', e, g, by omega, fun x hx => by have := hX x hx; omega⟩
theorem badPacked_ok {k : Nat} {c : Cur} (h : QQ k c) (hk : k < 1000000000) : ∃ (w n b : Int) (W : List Nat) (c' : Cur), Q1s c = some ((w, n, b, ints W), c') ∧ QQ (k + 4000000) c' ∧ W.length ≤ 80 ∧ ∀ x ∈ W, x < 2 ^ 64 := by
 obtain ⟨x1, c1, e1, g1, a1, b1⟩ := Q0e h (by omega) 5
 obtain ⟨y, y1, y2, y3⟩ := Q2e ([0, 1, 3, 7, 24] : List Int) x1 a1 (by simp; omega)
 obtain ⟨w, rfl⟩ : ∃ w : Nat, y = w := ⟨y.toNat, by simp only [Z13, Z99, or_false] at y3; omega⟩
 have hw : w ≤ 24 := by simp only [Z13, Z99, or_false] at y3; omega
 have hp := Nat.two_pow_pos w
 obtain ⟨X, c2, e2, g2, l2, x2⟩ := nums_ok g1 (by omega) 20 (by omega) ((2 ^ w : Nat) : Int)
 have hXw : X.length * w ≤ 20 * 24 := Nat.mul_le_mul l2 hw
 have hpk := Q4D w (by omega) X (by omega) (by omega) (fun x hx => by have := x2 x hx; omega)
 have hpl := pk_words w X
 obtain ⟨x3, c3, e3, g3, a3, b3⟩ := Q0e g2 (by omega) 12
 have hpw : ∀ x ∈ wrds (dgs w X), x < 2 ^ 64 := (Q2d _).2.1
 have hwl : (wrds (dgs w X)).length ≤ 79 := by rw [Q1U, Q2Y]; unfold nw; omega
 rw [Q1s.eq]
 have e2' : Q07 c1 20 ((2 ^ w : Nat) : Int) = some (ints X, c2) := e2
 simp only [Q1K, e1, Z0, y1, y2, l02Pow_eq w (by omega), e2', hpk, e3]
 unfold pk
 by_cases q0 : x3 = 0
 ·rw [Q0w q0]
  obtain ⟨z, c4, e4, g4, _⟩ := Q2R g3 (by omega)
  obtain ⟨z5, c5, e5, g5, a5, b5⟩ := Q0e g4 (by omega) 3
  obtain ⟨y, y1, y2, y3⟩ := Q2e ([z, 32, 33] : List Int) z5 a5 (by simp; omega)
  simp only [e4, Z0, e5, y1, y2]
  exact ⟨_, _, _, _, c5, rfl, g5.mono (by omega), by omega, hpw⟩
 rw [Q0I q0]
 by_cases q1 : x3 = 1
 ·rw [Q0w q1]
  obtain ⟨z, c4, e4, g4, _⟩ := Q2R g3 (by omega)
  obtain ⟨z5, c5, e5, g5, a5, b5⟩ := Q0e g4 (by omega) 2
  obtain ⟨y, y1, y2, y3⟩ := Q2e ([z, IntKind.i64.wrap ((X.length : Int) + 1)] : List Int) z5 a5 (by simp; omega)
  simp only [e4, Z0, e5, y1, y2]
  exact ⟨_, _, _, _, c5, rfl, g5.mono (by omega), by omega, hpw⟩
 rw [Q0I q1]
 by_cases q2 : x3 = 2
 ·rw [Q0w q2]
  obtain ⟨n, W, c5, e5, g5, l5, w5⟩ := badBits_ok g3 (by omega)
  simp only [e5, Z0]
  exact ⟨_, _, _, _, c5, rfl, g5.mono (by omega), by omega, w5⟩
 ·rw [Q0I q2]
  exact ⟨_, _, _, _, c3, rfl, g3.mono (by omega), by omega, hpw⟩
end Go.Ev.W
/- Drawn inputs: texts, wavelet matrices, indexes: there is always something, within bounds. -/
set_option linter.unusedVariables false
set_option linter.unusedSimpArgs false
namespace Go.Ev.W
open Go.Ev
theorem ba_at (A : ByteArray) (x : Int) (h0 : 0 ≤ x) (h1 : x < A.size) : ∃ u : UInt8, at? A.data.toList x = some u := by
 have hs : A.data.toList.length = A.size := Z36
 obtain ⟨y, y1, _, _⟩ := Q2e A.data.toList x h0 (by rw [hs]; exact h1)
 exact ⟨y, y1⟩
theorem Qq.app {A B : List Nat} (h : Qq A) (g : Qq B) : Qq (A ++ B) := fun x hx => (Z26.1 hx).elim (h x) (g x)
theorem textOf_l0 (n : Nat) (hn : n ≤ 1000) (A : ByteArray) (hA : 1 ≤ A.size) : ∀ (m k : Nat) (c : Cur) (D : List Nat), QQ k c → k + 3 * m < 100000000000 → D.length + 6 * m ≤ 1000000 → Qq D →
  ∃ (D' : List Nat) (c' : Cur), QI_l0 n A m c.1 c.2.1 c.2.2 (ints D) = some (ints D', c') ∧ QQ (k + 3 * m) c' ∧ D'.length ≤ n ∧ Qq D' := by
 intro m
 induction m with
 | zero =>
  intro k c D h hk hl hD
  rw [QI_l0.eq, Q3 (by omega), Q9]
  by_cases hlt : (D.length : Int) > n
  ·rw [Q2 hlt, Q2 (by omega), Z5, Nat.sub_zero, Q3R]
   exact ⟨D.take n, c, rfl, h, by rw [Z8]; omega, fun x hx => hD x (Z109 hx)⟩
  ·rw [Q3 hlt]
   exact ⟨D, c, rfl, h, by omega, hD⟩
 | succ m ih =>
  intro k c D h hk hl hD
  have letter : ∀ (k' : Nat) (c' : Cur), QQ k' c' → k' ≤ k + 1 → ∃ (D' : List Nat) (c2 : Cur), ((Qb (c'.1, c'.2.1, c'.2.2) (A.size : Int)).bind fun y6 =>
    (at? A.data.toList y6.1).bind fun y7 =>
    bif decide (((ints D).length + ([(y7.toNat : Int)] : List Int).length) * 1 ≤ 140737488355328) then
     QI_l0 n A m y6.2.1 y6.2.2.1 y6.2.2.2 (ints D ++ ([(y7.toNat : Int)] : List Int))
    else
     none) = some (ints D', c2) ∧ QQ (k + 3 * (m + 1)) c2 ∧ D'.length ≤ n ∧ Qq D' := by
   intro k' c' h' hk'
   obtain ⟨x, c1, e1, g1, a1, b1⟩ := Q0e h' (by omega) (A.size : Int)
   obtain ⟨u, hu⟩ := ba_at A x a1 (by omega)
   have hu2 : u.toNat < 256 := u.toNat_lt
   simp only [Q1K, e1, Z0, hu]
   rw [Q2 (by rw [Q9]; simp only [Z2, Z6]; omega), Q2G]
   obtain ⟨D', c2, e2, g2, l2, b2⟩ := ih (k' + 1) c1 (D ++ [u.toNat]) g1 (by omega) (by simp only [Z10, Z2, Z6]; omega) (hD.app fun x hx => by rw [Z38.1 hx]; exact hu2)
   exact ⟨D', c2, e2, g2.mono (by omega), l2, b2⟩
  rw [QI_l0.eq, Q2 (by omega)]
  have em : IntKind.i64.wrap (((m + 1 : Nat) : Int) - 1) = m := by rw [Qa (by omega) (by omega)]; omega
  simp only [em]
  by_cases h3 : ((ints D).length : Int) > 3
  ·rw [Q2 h3]
   rw [Q9] at h3
   obtain ⟨b, c1, e1, g1⟩ := Q39 h (by omega) 6
   simp only [Q1K, e1, Z0]
   cases b with
   | false =>
    rw [Qg]
    exact letter (k + 1) c1 g1 (by omega)
   | true =>
    rw [QW]
    obtain ⟨x2, c2, e2, g2, a2, b2⟩ := Q0e g1 (by omega) ((ints D).length : Int)
    obtain ⟨x3, c3, e3, g3, a3, b3⟩ := Q0e g2 (by omega) 6
    simp only [Q1K, e2, e3, Z0]
    rw [Q9] at b2
    rw [Qa (x := x2 + 1) (by omega) (by omega), Qa (x := x2 + 1 + x3) (by omega) (by omega)]
    obtain ⟨t, ht⟩ : ∃ t, t = (if x2 + 1 + x3 < ((ints D).length : Int) then x2 + 1 + x3 else ((ints D).length : Int)) := ⟨_, rfl⟩
    rw [← ht]
    have ht2 : x2 ≤ t ∧ t ≤ (D.length : Int) ∧ t ≤ x2 + 6 := by
     rw [Q9] at ht
     rw [ht]; split <;> omega
    have hsub : ((ints D).drop x2.toNat).take (t.toNat - x2.toNat) = ints ((D.drop x2.toNat).take (t.toNat - x2.toNat)) := by rw [ints_dropN, Q3R]
    have hsl : ((D.drop x2.toNat).take (t.toNat - x2.toNat)).length ≤ 6 := by rw [Z8]; omega
    rw [Q9, Q2 (by omega), Q2 (by omega), hsub, Q9, Q2 (by omega), show ints D ++ ints ((D.drop x2.toNat).take (t.toNat - x2.toNat)) = ints (D ++ (D.drop x2.toNat).take (t.toNat - x2.toNat)) from Z15.symm]
    obtain ⟨D', c4, e4, g4, l4, b4⟩ := ih (k + 3) c3 (D ++ (D.drop x2.toNat).take (t.toNat - x2.toNat)) g3 (by omega) (by rw [Z10]; omega) (hD.app fun x hx => hD x (List.mem_of_mem_drop (Z109 hx)))
    exact ⟨D', c4, e4, g4.mono (by omega), l4, b4⟩
  ·rw [Q3 h3]
   exact letter k c h (by omega)
theorem textOf_ok {k : Nat} {c : Cur} (h : QQ k c) (hk : k < 10000000000) (n : Nat) (hn : n ≤ 100) : ∃ (D : List Nat) (c' : Cur), QI c n = some (ints D, c') ∧ QQ (k + 1000) c' ∧ D.length ≤ n ∧ Qq D := by
 obtain ⟨x1, c1, e1, g1, a1, b1⟩ := Q0e h (by omega) 5
 obtain ⟨y, y1, y2, y3⟩ := Q2e ([(⟨#[97]⟩ : ByteArray), (⟨#[97, 98]⟩ : ByteArray), (⟨#[97, 98, 99]⟩ : ByteArray), (⟨#[97, 99, 103, 116]⟩ : ByteArray), (⟨#[0, 255]⟩ : ByteArray)] : List ByteArray) x1 a1 (by simp; omega)
 obtain ⟨x2, c2, e2, g2, a2, b2⟩ := size_ok g1 (by omega) n (by omega) (by omega)
 obtain ⟨m, rfl⟩ : ∃ m : Nat, x2 = m := ⟨x2.toNat, by omega⟩
 have hA : 1 ≤ y.size := by
  simp only [Z13, Z99, or_false] at y3
  rcases y3 with rfl | rfl | rfl | rfl | rfl <;> decide
 rw [QI.eq]
 simp only [Q1K, e1, Z0, y1, y2, e2]
 obtain ⟨D, c3, e3, g3, l3, b3⟩ := textOf_l0 n (by omega) y hA m (k + 2) c2 [] g2 (by omega) (by simp; omega) (fun x hx => by cases hx)
 exact ⟨D, c3, e3, g3.mono (by omega), l3, b3⟩
theorem rate_ok {k : Nat} {c : Cur} (h : QQ k c) (hk : k < 10000000000) : ∃ (r : Nat) (c' : Cur), Q0R c = some ((r : Int), c') ∧ QQ (k + 1) c' ∧ 1 ≤ r ∧ r ≤ 64 := by
 obtain ⟨x1, c1, e1, g1, a1, b1⟩ := Q0e h (by omega) 5
 obtain ⟨y, y1, y2, y3⟩ := Q2e ([1, 2, 3, 8, 64] : List Int) x1 a1 (by simp; omega)
 have hy : 1 ≤ y ∧ y ≤ 64 := by simp only [Z13, Z99, or_false] at y3; omega
 obtain ⟨r, rfl⟩ : ∃ r : Nat, y = r := ⟨y.toNat, by omega⟩
 rw [Q0R.eq]
 simp only [Q1K, e1, Z0, y1, y2]
 exact ⟨r, c1, rfl, g1, by omega, by omega⟩
def LvIn (L : List (Int × List Nat)) : Prop := L.length ≤ 9 ∧ ∀ p ∈ L, p.2.length ≤ 80 ∧ ∀ x ∈ p.2, x < 2 ^ 64
theorem wave_l0 {k : Nat} {c : Cur} (h : QQ k c) (hk : k < 1000000000) (v3 : Int) (v4 : List Int) (v5 : Lv) (X : List Nat) (hX : X.length ≤ 100) (hx : ∀ x ∈ X, x ≤ 511) :
  ∃ (n : Int) (Z : List Int) (L : List (Int × List Nat)) (c' : Cur), Q0B_l0 c.1 c.2.1 c.2.2 v3 v4 v5 (ints X) = some ((n, Z, LI L), c') ∧ QQ (k + 20000) c' ∧ Z.length ≤ 10 ∧ LvIn L := by
 have hlen := wLv_len 9 0 X
 have hZ : (ints (wLv 9 0 X).1).length = 9 := by rw [Q9]; exact hlen.1
 have hLl : (LI (wLv 9 0 X).2).length = 9 := (Z1 ..).trans hlen.2
 have hin : LvIn (wLv 9 0 X).2 := ⟨by omega, fun p hp => ⟨by rw [Q3Q 9 0 X p hp]; unfold nw; omega, Q4l X 9 0 X p hp⟩⟩
 obtain ⟨x1, c1, e1, g1, a1, b1⟩ := Q0e h (by omega) 14
 rw [Q0B_l0.eq, Q4h X (by omega) hx]
 simp only [Q1K, e1, Z0]
 by_cases q0 : x1 = 0
 ·rw [Q0w q0]
  obtain ⟨x2, c2, e2, g2, _⟩ := Q0e g1 (by omega) 3
  simp only [e2, Z0]
  exact ⟨_, _, _, c2, rfl, g2.mono (by omega), by omega, hin⟩
 rw [Q0I q0]
 by_cases q1 : x1 = 1
 ·rw [Q0w q1]
  obtain ⟨x2, c2, e2, g2, a2, b2⟩ := Q0e g1 (by omega) 9
  obtain ⟨x3, c3, e3, g3, _⟩ := Q2R g2 (by omega)
  obtain ⟨y, y1, y2, y3⟩ := Q2e (ints (wLv 9 0 X).1) x2 a2 (by omega)
  simp only [e2, e3, Z0, y1, y2]
  exact ⟨_, _, _, c3, rfl, g3.mono (by omega), by rw [Z92]; omega, hin⟩
 rw [Q0I q1]
 by_cases q2 : x1 = 2
 ·rw [Q0w q2]
  obtain ⟨x2, c2, e2, g2, a2, b2⟩ := Q0e g1 (by omega) 9
  obtain ⟨n, W, c3, e3, g3, l3, w3⟩ := badBits_ok g2 (by omega)
  obtain ⟨y, y1, y2, y3⟩ := Q2e (LI (wLv 9 0 X).2) x2 a2 (by omega)
  simp only [e2, e3, Z0, y1, y2]
  refine ⟨(X.length : Int), ints (wLv 9 0 X).1, (wLv 9 0 X).2.set x2.toNat (n, W), c3, ?_, g3.mono (by omega), by omega, by rw [Z92]; omega, fun p hp => ?_⟩
  ·have : (LI (wLv 9 0 X).2).set x2.toNat (n, ints W) = LI ((wLv 9 0 X).2.set x2.toNat (n, W)) := (List.map_set (f := fun p : Int × List Nat => (p.1, ints p.2)) (l := (wLv 9 0 X).2) (i := x2.toNat) (a := (n, W))).symm
   rw [this]
  ·rcases List.mem_or_eq_of_mem_set hp with hp | hp
   ·exact hin.2 p hp
   ·rw [hp]; exact ⟨l3, w3⟩
 rw [Q0I q2]
 by_cases q3 : x1 = 3
 ·rw [Q0w q3]
  obtain ⟨x2, c2, e2, g2, a2, b2⟩ := Q0e g1 (by omega) 9
  simp only [e2, Z0]
  rw [Q2 (by omega)]
  refine ⟨(X.length : Int), ints (wLv 9 0 X).1, (wLv 9 0 X).2.take (x2.toNat - 0), c2, ?_, g2.mono (by omega), by omega, by rw [Z8]; omega, fun p hp => hin.2 p (Z109 hp)⟩
  have : (LI (wLv 9 0 X).2).take (x2.toNat - 0) = LI ((wLv 9 0 X).2.take (x2.toNat - 0)) := (Z91).symm
  rw [this]
 rw [Q0I q3]
 by_cases q4 : x1 = 4
 ·rw [Q0w q4, hZ, Q2 (by simp only [Z2, Z6]; omega)]
  exact ⟨_, _, _, c1, rfl, g1.mono (by omega), by rw [Z10, hZ]; simp, hin⟩
 ·rw [Q0I q4]
  exact ⟨_, _, _, c1, rfl, g1.mono (by omega), by omega, hin⟩
theorem wave_ok {k : Nat} {c : Cur} (h : QQ k c) (hk : k < 100000000) : ∃ (n : Int) (Z : List Int) (L : List (Int × List Nat)) (c' : Cur), Q0B c = some ((n, Z, LI L), c') ∧ QQ (k + 4000000) c' ∧ Z.length ≤ 10 ∧ LvIn L := by
 obtain ⟨x1, c1, e1, g1, a1, b1⟩ := Q0e h (by omega) 3
 obtain ⟨y, y1, y2, y3⟩ := Q2e ([3, 100, 512] : List Int) x1 a1 (by simp; omega)
 have hy : 1 ≤ y ∧ y ≤ 512 := by simp only [Z13, Z99, or_false] at y3; omega
 obtain ⟨X, c2, e2, g2, l2, x2⟩ := nums_ok g1 (by omega) 24 (by omega) y
 obtain ⟨b, c3, e3, g3⟩ := Q39 g2 (by omega) 3
 have e2' : Q07 c1 24 y = some (ints X, c2) := e2
 rw [Q0B.eq]
 simp only [Q1K, e1, Z0, y1, y2, e2', e3]
 cases b with
 | false =>
  rw [Qg]
  obtain ⟨n, Z, L, c4, e4, g4, h4⟩ := wave_l0 g3 (by omega) 0 [] [] X (by omega) (fun x hx => by have := x2 x hx; omega)
  exact ⟨n, Z, L, c4, e4, g4.mono (by omega), h4⟩
 | true =>
  rw [QW]
  obtain ⟨D, c4, e4, g4, l4, b4⟩ := textOf_ok g3 (by omega) 24 (by omega)
  have e4' : QI c3 24 = some (ints D, c4) := e4
  simp only [e4', Z0]
  rw [Q3n D (by omega) b4, Z0]
  obtain ⟨n, Z, L, c5, e5, g5, h5⟩ := wave_l0 g4 (by omega) 0 [] [] (bwt D) (by rw [Q10]; omega) (fun x hx => by have := Q2M D b4 x hx; omega)
  exact ⟨n, Z, L, c5, e5, g5.mono (by omega), h5⟩
def FmIn (f : FmT) : Prop := SmFm f 1048576 ∧ ∀ p ∈ f.2.2.2.2.1, ∀ x ∈ p.2, 0 ≤ x ∧ x < ((2 ^ 64 : Nat) : Int)
theorem LvIn.words {L : List (Int × List Nat)} (h : LvIn L) : (LI L).length ≤ 9 ∧ (∀ p ∈ LI L, p.2.length ≤ 80) ∧ ∀ p ∈ LI L, ∀ x ∈ p.2, 0 ≤ x ∧ x < ((2 ^ 64 : Nat) : Int) := by
 refine ⟨by rw [Z1]; exact h.1, fun p hp => ?_, fun p hp x hx => ?_⟩
 ·obtain ⟨q, hq, rfl⟩ := Z18.1 hp
  rw [Q9]; exact (h.2 q hq).1
 ·obtain ⟨q, hq, rfl⟩ := Z18.1 hp
  obtain ⟨y, hy, rfl⟩ := Z18.1 hx
  have := (h.2 q hq).2 y hy
  omega
theorem fm_ok {k : Nat} {c : Cur} (h : QQ k c) (hk : k < 10000000) : ∃ (f : FmT) (c' : Cur), Q1t c = some (f, c') ∧ QQ (k + 5000000) c' ∧ FmIn f := by
 obtain ⟨D, c1, e1, g1, l1, b1⟩ := textOf_ok h (by omega) 24 (by omega)
 have e1' : QI c 24 = some (ints D, c1) := e1
 obtain ⟨r, c2, e2, g2, r1, r2⟩ := rate_ok g1 (by omega)
 have e3 := specFm_eq D (by omega) b1 r (by omega) r2
 obtain ⟨x, c4, e4, g4, a4, b4⟩ := Q0e g2 (by omega) 16
 have hs := fmV_small D (by omega) r
 have hw := fmV_words D r
 have hC : (fmV D r).2.2.2.2.2.1.length = 258 := by show (ints _).length = _; rw [Q9, Z1, Z42]
 obtain ⟨f, hf⟩ : ∃ f, f = fmV D r := ⟨_, rfl⟩
 rw [← hf] at e3 hs hw hC
 obtain ⟨z, l, w, cc, m, s, i⟩ := hs
 rw [Q1t.eq]
 simp only [Q1K, e1', Z0, e2, e3, e4]
 by_cases q0 : x = 0
 ·rw [Q0w q0]
  obtain ⟨x5, c5, e5, g5, _⟩ := Q0e g4 (by omega) 3
  simp only [e5, Z0]
  exact ⟨_, c5, rfl, g5.mono (by omega), ⟨by simp only; omega, by simp only; omega, fun p hp => by have := w p hp; omega, by simp only; omega, by simp only; omega, by simp only; omega, by simp only; omega⟩, hw⟩
 rw [Q0I q0]
 by_cases q1 : x = 1
 ·rw [Q0w q1]
  obtain ⟨x5, c5, e5, g5, _⟩ := Q2R g4 (by omega)
  obtain ⟨x6, c6, e6, g6, a6, b6⟩ := Q0e g5 (by omega) 4
  obtain ⟨y, y1, y2, y3⟩ := Q2e ([x5, 64, 65, 2] : List Int) x6 a6 (by simp; omega)
  simp only [e5, e6, Z0, y1, y2]
  exact ⟨_, c6, rfl, g6.mono (by omega), ⟨by simp only; omega, by simp only; omega, fun p hp => by have := w p hp; omega, by simp only; omega, by simp only; omega, by simp only; omega, by simp only; omega⟩, hw⟩
 rw [Q0I q1]
 by_cases q2 : x = 2
 ·rw [Q0w q2]
  obtain ⟨n, Z, L, c5, e5, g5, hZ, hL⟩ := wave_ok g4 (by omega)
  obtain ⟨k1, k2, k3⟩ := hL.words
  simp only [e5, Z0]
  exact ⟨_, c5, rfl, g5.mono (by omega), ⟨by simp only; omega, by simp only; omega, fun p hp => by have := k2 p hp; omega, by simp only; omega, by simp only; omega, by simp only; omega, by simp only; omega⟩, k3⟩
 rw [Q0I q2]
 by_cases q3 : x = 3
 ·rw [Q0w q3]
  obtain ⟨x5, c5, e5, g5, a5, b5⟩ := Q0e g4 (by omega) 250
  obtain ⟨x6, c6, e6, g6, _⟩ := Q2R g5 (by omega)
  obtain ⟨y, y1, y2, y3⟩ := Q2e f.2.2.2.2.2.1 x5 a5 (by omega)
  simp only [e5, e6, Z0, y1, y2]
  exact ⟨_, c6, rfl, g6.mono (by omega), ⟨by simp only; omega, by simp only; omega, fun p hp => by have := w p hp; omega, by simp only [Z92]; omega, by simp only; omega, by simp only; omega, by simp only; omega⟩, hw⟩
 rw [Q0I q3]
 by_cases q4 : x = 4
 ·rw [Q0w q4]
  obtain ⟨n, W, c5, e5, g5, l5, _⟩ := badBits_ok g4 (by omega)
  simp only [e5, Z0]
  have hl : (ints W).length ≤ 80 := by rw [Q9]; exact l5
  exact ⟨_, c5, rfl, g5.mono (by omega), ⟨by simp only; omega, by simp only; omega, fun p hp => by have := w p hp; omega, by simp only; omega, by simp only; omega, by simp only; omega, by simp only; omega⟩, hw⟩
 rw [Q0I q4]
 by_cases q5 : x = 5
 ·rw [Q0w q5]
  obtain ⟨u, n, b, W, c5, e5, g5, l5, _⟩ := badPacked_ok g4 (by omega)
  simp only [e5, Z0]
  have hl : (ints W).length ≤ 80 := by rw [Q9]; exact l5
  exact ⟨_, c5, rfl, g5.mono (by omega), ⟨by simp only; omega, by simp only; omega, fun p hp => by have := w p hp; omega, by simp only; omega, by simp only; omega, by simp only; omega, by simp only; omega⟩, hw⟩
 rw [Q0I q5]
 by_cases q6 : x = 6
 ·rw [Q0w q6]
  exact ⟨_, c4, rfl, g4.mono (by omega), ⟨by simp only; omega, by simp only; omega, fun p hp => by have := w p hp; omega, by simp only; omega, by simp only; omega, by simp only; omega, by simp only; omega⟩, hw⟩
 ·rw [Q0I q6]
  exact ⟨_, c4, rfl, g4.mono (by omega), ⟨by omega, by omega, fun p hp => by have := w p hp; omega, by omega, by omega, by omega, by omega⟩, hw⟩
theorem bigD_eq (xs : List Int) : Q1p xs = some (decide ((xs.length : Int) > 1048576)) := Q1p.eq xs
theorem codeD_bytes {xs : List Int} (h : AllP (α := Tup [CT.int .u8]) (allL (goodC 4) [CT.int .u8]) xs) (hl : ¬ (xs.length : Int) > 1048576) : Bytes xs := by
 refine ⟨by omega, fun x hx => ?_⟩
 have := h.2 x hx
 have : (Lit.int .u8 x).wf = true := this
 simp only [Lit.wf, Z4, decide_eq_true_eq] at this
 exact this
end Go.Ev.W
/- Drawn inputs: two texts alike, depths, budgets. -/
set_option linter.unusedVariables false
set_option linter.unusedSimpArgs false
namespace Go.Ev.W
open Go.Ev
theorem twin_l1 (n : Nat) (c : Cur) (R T : List Nat) (hT : Qq T) : ∃ T', QU_l1 n c.1 c.2.1 c.2.2 (ints R) (ints T) = some (ints R, ints T', c) ∧ T'.length ≤ n ∧ Qq T' := by
 rw [QU_l1.eq, Q9]
 by_cases h : (T.length : Int) > n
 ·rw [Q2 h, Q2 (by omega), Z5, Nat.sub_zero, Q3R]
  exact ⟨T.take n, rfl, by rw [Z8]; omega, fun x hx => hT x (Z109 hx)⟩
 ·rw [Q3 h]
  exact ⟨T, rfl, by omega, hT⟩
theorem twin_l0 (n : Nat) (hn : n ≤ 100) (R : List Nat) : ∀ (m k : Nat) (c : Cur) (T : List Nat), QQ k c → k + 3 * m + 2000 < 10000000000 → T.length + 2 * m ≤ 1000 → m ≤ 10 → Qq T →
  ∃ (T' : List Nat) (c' : Cur), QU_l0 n m c.1 c.2.1 c.2.2 (ints R) (ints T) = some (ints R, ints T', c') ∧ QQ (k + 3 * m + 2000) c' ∧ T'.length ≤ n ∧ Qq T' := by
 intro m
 induction m with
 | zero =>
  intro k c T h hk hl _ hT
  rw [QU_l0.eq, Q3 (by omega)]
  obtain ⟨b, c1, e1, g1⟩ := Q39 h (by omega) 6
  simp only [Q1K, e1, Z0]
  cases b with
  | true =>
   rw [QW]
   obtain ⟨D, c2, e2, g2, l2, b2⟩ := textOf_ok g1 (by omega) n hn
   simp only [e2, Z0]
   obtain ⟨T', e3, l3, b3⟩ := twin_l1 n c2 R D b2
   exact ⟨T', c2, e3, g2.mono (by omega), l3, b3⟩
  | false =>
   rw [Qg]
   obtain ⟨T', e3, l3, b3⟩ := twin_l1 n c1 R T hT
   exact ⟨T', c1, e3, g1.mono (by omega), l3, b3⟩
 | succ m ih =>
  intro k c T h hk hl hm hT
  rw [QU_l0.eq, Q2 (by omega), Q9, Q6 _ (by omega)]
  obtain ⟨x1, c1, e1, g1, a1, b1⟩ := Q0e h (by omega) ((T.length + 1 : Nat) : Int)
  obtain ⟨x2, c2, e2, g2, a2, b2⟩ := Q0e g1 (by omega) 4
  obtain ⟨y, y1, y2, y3⟩ := Q2e ([(⟨#[]⟩ : ByteArray), (⟨#[97]⟩ : ByteArray), (⟨#[98]⟩ : ByteArray), (⟨#[122, 122]⟩ : ByteArray)] : List ByteArray) x2 a2 (by simp; omega)
  obtain ⟨x3, c3, e3, g3, a3, b3⟩ := Q0e g2 (by omega) 3
  obtain ⟨i, rfl⟩ : ∃ i : Nat, x1 = i := ⟨x1.toNat, by omega⟩
  obtain ⟨B, hB, lB, bB⟩ : ∃ B : List Nat, (y.data.toList.map fun b => (b.toNat : Int)) = ints B ∧ B.length ≤ 2 ∧ Qq B := by
   refine ⟨y.data.toList.map UInt8.toNat, by simp [ints, Z23, Function.comp_def], ?_, fun x hx => ?_⟩
   ·rw [Z1]
    simp only [Z13, Z99, or_false] at y3
    rcases y3 with rfl | rfl | rfl | rfl <;> decide
   ·obtain ⟨u, _, rfl⟩ := Z18.1 hx
    exact u.toNat_lt
  have hi : i ≤ T.length := by omega
  have ht : (if IntKind.i64.wrap ((i : Int) + x3) < (T.length : Int) then IntKind.i64.wrap ((i : Int) + x3) else (T.length : Int)) = ((min T.length (i + x3.toNat) : Nat) : Int) := by
   rw [Qa (by omega) (by omega)]; split <;> omega
  have em : IntKind.i64.wrap (((m + 1 : Nat) : Int) - 1) = m := by rw [Qa (by omega) (by omega)]; omega
  have hdr : ((ints T).drop (min T.length (i + x3.toNat))).take (T.length - min T.length (i + x3.toNat)) = ints (T.drop (min T.length (i + x3.toNat))) := by
   rw [ints_dropN, Z37 (by rw [Q9, Z19]; omega)]
  have htk : [] ++ ((ints T).drop 0).take (i - 0) = ints (T.take i) := by rw [Z40, Z58, Nat.sub_zero, Q3R]
  have l1 : (T.take i).length ≤ i := by rw [Z8]; omega
  have l2 : (T.drop (min T.length (i + x3.toNat))).length ≤ T.length - i := by rw [Z19]; omega
  simp only [Q1K, e1, e2, Z0, y1, y2, Z5, hB, e3, ht, hdr, htk, em]
  rw [Q2 (by omega), Q2 (by simp only [Z6, Z8, Z19, Z1]; omega), Q2 (by simp only [Q9]; omega), Q2 (by omega)]
  rw [show ints (T.take i) ++ ints B = ints (T.take i ++ B) from Z15.symm, show ints (T.take i ++ B) ++ ints (T.drop (min T.length (i + x3.toNat))) = ints (T.take i ++ B ++ T.drop (min T.length (i + x3.toNat))) from Z15.symm]
  rw [Q2 (by simp only [Q9, Z10]; omega)]
  obtain ⟨T', c4, e4, g4, l4, b4⟩ := ih (k + 3) c3 (T.take i ++ B ++ T.drop (min T.length (i + x3.toNat))) g3 (by omega) (by simp only [Z10]; omega) (by omega)
   (((show Qq (T.take i) from fun x hx => hT x (Z109 hx)).app bB).app fun x hx => hT x (List.mem_of_mem_drop hx))
  exact ⟨T', c4, e4, g4.mono (by omega), l4, b4⟩
theorem twin_ok {k : Nat} {c : Cur} (h : QQ k c) (hk : k < 1000000000) : ∃ (R T : List Nat) (c' : Cur), QU c 20 = some (ints R, ints T, c') ∧ QQ (k + 4000) c' ∧ R.length ≤ 20 ∧ T.length ≤ 20 ∧ Qq R ∧ Qq T := by
 obtain ⟨R, c1, e1, g1, l1, b1⟩ := textOf_ok h (by omega) 20 (by omega)
 have e1' : QI c 20 = some (ints R, c1) := e1
 obtain ⟨x, c2, e2, g2, a2, b2⟩ := Q0e g1 (by omega) 4
 obtain ⟨m, rfl⟩ : ∃ m : Nat, x = m := ⟨x.toNat, by omega⟩
 obtain ⟨T, c3, e3, g3, l3, b3⟩ := twin_l0 20 (by omega) R m (k + 1000 + 1) c2 R g2 (by omega) (by omega) (by omega) b1
 rw [QU.eq]
 simp only [e1', Z0]
 rw [Q2 (by rw [Q9]; simp only [Z6]; omega), Z40]
 simp only [e2, Z0]
 exact ⟨R, T, c3, e3, g3.mono (by omega), l1, l3, b1, b3⟩
theorem Q3T {k : Nat} {c : Cur} (h : QQ k c) (hk : k < 1000000000) : ∃ (x : Int) (c' : Cur), Q0U c = some (x, c') ∧ QQ (k + 3) c' := by
 obtain ⟨x1, c1, e1, g1, _⟩ := Q2R h (by omega)
 obtain ⟨x2, c2, e2, g2, a2, b2⟩ := Q0e g1 (by omega) 6
 obtain ⟨y, y1, y2, y3⟩ := Q2e ([(0 : Int), (1 : Int), (2 : Int), (3 : Int), (8 : Int), x1] : List Int) x2 a2 (by simp; omega)
 rw [Q0U.eq]
 simp only [Q1K, e1, e2, Z0, y1, y2]
 exact ⟨y, c2, rfl, g2.mono (by omega)⟩
theorem Q3U {k : Nat} {c : Cur} (h : QQ k c) (hk : k < 1000000000) : ∃ (x : Int) (c' : Cur), Q0V c = some (x, c') ∧ QQ (k + 3) c' := by
 obtain ⟨x1, c1, e1, g1, _⟩ := Q2R h (by omega)
 obtain ⟨x2, c2, e2, g2, a2, b2⟩ := Q0e g1 (by omega) 5
 obtain ⟨y, y1, y2, y3⟩ := Q2e ([(0 : Int), (1 : Int), (3 : Int), (1000 : Int), x1] : List Int) x2 a2 (by simp; omega)
 rw [Q0V.eq]
 simp only [Q1K, e1, e2, Z0, y1, y2]
 exact ⟨y, c2, rfl, g2.mono (by omega)⟩
theorem fmV_in (D : List Nat) (hD : D.length ≤ 300) (r : Nat) : FmIn (fmV D r) := by
 obtain ⟨z, l, w, cc, m, s, i⟩ := fmV_small D hD r
 exact ⟨⟨by omega, by omega, fun p hp => by have := w p hp; omega, by omega, by omega, by omega, by omega⟩, fmV_words D r⟩
theorem drawRelOf_ok (xs : List Int) (h : Bytes xs) : ∃ (f : FmT) (T : List Nat) (d b r : Int), Q09 xs = some (f, ints T, d, b, r) ∧ FmIn f ∧ T.length ≤ 20 ∧ Qq T := by
 obtain ⟨c, e0, g0⟩ := open_ok xs h
 obtain ⟨R, T, c1, e1, g1, lR, lT, bR, bT⟩ := twin_ok g0 (by omega)
 obtain ⟨r, c2, e2, g2, r1, r2⟩ := rate_ok g1 (by omega)
 have e3 := specFm_eq R (by omega) bR r (by omega) r2
 obtain ⟨b, c4, e4, g4⟩ := Q39 g2 (by omega) 9
 have hin := fmV_in R (by omega) r
 obtain ⟨f, hf⟩ : ∃ f, f = fmV R r := ⟨_, rfl⟩
 rw [← hf] at e3 hin
 have tail : ∀ (k : Nat) (c : Cur) (z : Int), QQ k c → k < 20000000 → ∃ (d b r : Int) (c' : Cur), ((Q0U c).bind fun y4 => (Q0V y4.2).bind fun y5 => some (y4.1, y5.1, z)) = some (d, b, r) := by
  intro k c z h hk
  obtain ⟨d, c5, e5, g5⟩ := Q3T h (by omega)
  obtain ⟨b, c6, e6, g6⟩ := Q3U g5 (by omega)
  simp only [e5, e6, Z0]
  exact ⟨d, b, z, c6, rfl⟩
 rw [Q09.eq]
 simp only [Q1K, e0, e1, e2, e3, e4, Z0]
 cases b with
 | true =>
  rw [QW]
  obtain ⟨f2, c5, e5, g5, hf2⟩ := fm_ok g4 (by omega)
  simp only [e5, Z0]
  obtain ⟨r6, c6, e6, g6, _⟩ := rate_ok g5 (by omega)
  obtain ⟨b7, c7, e7, g7⟩ := Q39 g6 (by omega) 12
  rw [Q09_l0.eq]
  simp only [Q1K, e6, e7, Z0]
  cases b7 with
  | true =>
   obtain ⟨x8, c8, e8, g8, _⟩ := Q2R g7 (by omega)
   obtain ⟨d, c9, e9, g9⟩ := Q3T g8 (by omega)
   obtain ⟨b10, c10, e10, g10⟩ := Q3U g9 (by omega)
   simp only [QW, e8, e9, e10, Z0]
   exact ⟨f2, T, d, b10, x8, rfl, hf2, lT, bT⟩
  | false =>
   obtain ⟨d, c9, e9, g9⟩ := Q3T g7 (by omega)
   obtain ⟨b10, c10, e10, g10⟩ := Q3U g9 (by omega)
   simp only [Qg, e9, e10, Z0]
   exact ⟨f2, T, d, b10, r6, rfl, hf2, lT, bT⟩
 | false =>
  rw [Qg]
  obtain ⟨r6, c6, e6, g6, _⟩ := rate_ok g4 (by omega)
  obtain ⟨b7, c7, e7, g7⟩ := Q39 g6 (by omega) 12
  rw [Q09_l1.eq]
  simp only [Q1K, e6, e7, Z0]
  cases b7 with
  | true =>
   obtain ⟨x8, c8, e8, g8, _⟩ := Q2R g7 (by omega)
   obtain ⟨d, c9, e9, g9⟩ := Q3T g8 (by omega)
   obtain ⟨b10, c10, e10, g10⟩ := Q3U g9 (by omega)
   simp only [QW, e8, e9, e10, Z0]
   exact ⟨f, T, d, b10, x8, rfl, hin, lT, bT⟩
  | false =>
   obtain ⟨d, c9, e9, g9⟩ := Q3T g7 (by omega)
   obtain ⟨b10, c10, e10, g10⟩ := Q3U g9 (by omega)
   simp only [Qg, e9, e10, Z0]
   exact ⟨f, T, d, b10, r6, rfl, hin, lT, bT⟩
end Go.Ev.W
/- The law FnRelOwn. -/
set_option linter.unusedVariables false
set_option linter.unusedSimpArgs false
namespace Go.Ev.W
open Go.Ev
theorem sameBits_l1 (a b : Int) (X : List Int) (hX : X.length < 1000000) : ∀ (d i : Nat), X.length - i = d → i ≤ X.length → Q01_l1 i a X b X = some true := by
 intro d
 induction d with
 | zero =>
  intro i h1 h2
  obtain rfl : i = X.length := by omega
  rw [Q01_l1.eq, Q3 (by omega)]
 | succ d ih =>
  intro i h1 h2
  have hi : i < X.length := by omega
  rw [Q01_l1.eq, Q2 (by omega)]
  simp only [Q02, Z3 hi, Z0]
  rw [Q20 rfl, Q6 i (by omega)]
  exact ih (i + 1) (by omega) (by omega)
theorem sameBits_refl (n : Int) (X : List Int) (hX : X.length < 1000000) : Q01 (n, X) (n, X) = some true := by
 rw [Q01.eq]
 simp only
 rw [Q20 rfl, Q20 rfl, Q01_l0.eq]
 exact sameBits_l1 n n X hX _ 0 rfl (Z20 _)
section
variable (R D : List Nat) (hR : R.length ≤ 300) (hD : D.length ≤ 300) (bR : Qq R) (bD : Qq D) (P : List (Nat × Nat)) (hP : Q1T R D P) (r : Nat) (h1 : 1 ≤ r) (h64 : r ≤ 64)
include hR hD bR bD hP h1 h64
theorem relOk_made (f : FmT) (fi : Q0r f = some (ints R, true)) : Q1v f (relX R D P r) = some true := by
 rw [Q1v.eq]
 show (Q1d (relX R D P r) f).bind _ = _
 rw [relBack R D hR hD bR bD P hP r h1 h64 f fi]; rfl
theorem relOwn_made (f : FmT) (fi : Q0r f = some (ints R, true)) : Q1w f (relX R D P r) = some ((D.length + 1 - P.length : Nat) : Int) := by
 have f2 := Q3s D P
 have o2 := hP.one2
 have z2 := zer_len (fl2 D P)
 have t2 := Q2d (fl2 D P)
 have hl := Q3B (fl2 D P).length (wrds (fl2 D P)) (by omega) t2.2.1 t2
 rw [Q2D, f2] at hl
 have hc := countB_eq (fl2 D P) false (by omega)
 rw [show bint false = 0 from rfl] at hc
 have hbef : bef (fl2 D P) (fl2 D P).length false = D.length + 1 - P.length := by
  have e : bef (fl2 D P) (fl2 D P).length false = zer (fl2 D P) (fl2 D P).length := bef_false _ _
  rw [e]
  rw [f2] at z2 ⊢
  omega
 rw [Q1w.eq, relOk_made R D hR hD bR bD P hP r h1 h64 f fi, Z0, Z12, Qg]
 show (QN (((D.length + 1 : Nat) : Int), ints (wrds (fl2 D P)))).bind _ = _
 rw [hl, Z0, hc, hbef, Z0]
end
theorem law_FnRelOwn (xs : List Int) (hx : goodA tab Q1N.as xs) : Q1N.fn xs = some true := by
 show Q1N xs = some true
 rw [Q1N.eq, bigD_eq, Z0]
 by_cases h : (xs.length : Int) > 1048576
 ·rw [Q2 h]
 rw [Q3 h]
 obtain ⟨f, D, d, b, r, ed, hf, hD, bD⟩ := drawRelOf_ok xs (codeD_bytes hx h)
 rw [ed, Z0]
 simp only
 rcases relOf_eq f hf.1 hf.2 D bD d b r with ⟨k1, k2, _⟩ | ⟨R, hv, k⟩
 ·rw [k1, k2]; rfl
 ·obtain ⟨k1, k2⟩ := k b
  obtain ⟨⟨⟨d1, d2, d3, d4, d5⟩, _⟩, ft, fi, dl, hd0, hd8, hr1, hr64⟩ := hv
  obtain ⟨dn, rfl⟩ : ∃ n : Nat, d = n := ⟨d.toNat, by omega⟩
  obtain ⟨rn, rfl⟩ : ∃ n : Nat, r = n := ⟨r.toNat, by omega⟩
  rw [Z5, Z5] at k1 k2
  have hP := share_ok R D dn b
  obtain ⟨P, hPe⟩ : ∃ P, P = share R D dn b := ⟨_, rfl⟩
  rw [← hPe] at k1 k2 hP
  have hlen := hP.len
  have hlen1 := hP.len1
  have f1 := fl1_len R P
  have f2 := Q3s D P
  have o1 := hP.one1
  have o2 := hP.one2
  have z1 := zer_len (fl1 R P)
  have z2 := zer_len (fl2 D P)
  have l1 := Q10 R
  have l2 := Q10 D
  have a1 := at0_len' (bwt R) (fl1 R P) (by omega)
  have a2 := at0_len' (bwt D) (fl2 D P) (by omega)
  have hsh : Q0Q (ints R) (ints D) dn = some true := by
   rw [Q0Q.eq, Q0Y.eq, Q0Y.eq, Q9, Q9, Z0, Q2 (by omega), Z0, Q2 (by omega), Q3l, Z0, decide_eq_true (by omega), decide_eq_true (by omega)]; rfl
  have hSO : Q1y (ints R) (ints D) dn b = some (P.map ipr) := by
   rw [Q1y.eq, hsh, Z0, Z12, Qg, implShare_eq R D d1 dl d2 bD dn (by omega) b, ← hPe]; rfl
  have hft : Q1x f = some (ints R) := by rw [Q1x.eq, ft]; rfl
  have hN : f.1 = (R.length : Int) := by rw [d5]; rfl
  have e1 : IntKind.i64.wrap (IntKind.i64.wrap ((D.length : Int) + 1) - (P.length : Int)) = ((D.length + 1 - P.length : Nat) : Int) := by
   rw [Q6 _ (by omega), Qa (by omega) (by omega)]; omega
  have e2 : IntKind.i64.wrap (IntKind.i64.wrap (f.1 + 1) - (P.length : Int)) = ((R.length + 1 - P.length : Nat) : Int) := by
   rw [hN, Q6 _ (by omega), Qa (by omega) (by omega)]; omega
  rw [k1, k2, Z0, Z0]
  simp only
  rw [beq_self_eq_true, Z12, Qg, Qg, hft, Z0, hSO, Z0, relOwn_made R D d1 dl d2 bD P hP rn (by omega) (by omega) f fi, Z0]
  simp only [Z1]
  rw [e1, e2, Q0w rfl]
  have g1 : (relX R D P rn).2.2.2.2.2.2.2.2.2.1 = ((D.length + 1 - P.length : Nat) : Int) := by
   show ((at0 (bwt D) (fl2 D P)).length : Int) = _
   rw [a2]; rw [f2] at z2 ⊢; omega
  have g2 : (relX R D P rn).2.2.2.2.2.2.1 = ((R.length + 1 - P.length : Nat) : Int) := by
   show ((at0 (bwt R) (fl1 R P)).length : Int) = _
   rw [a1]; rw [f1] at z1 ⊢; omega
  rw [g1, g2, Q0w rfl, Q0w rfl, sameBits_refl _ _ (by
   show (ints (wrds (fl2 D P))).length < 1000000
   rw [Q9, Q1U]; unfold nw; omega)]
  rfl
end Go.Ev.W
