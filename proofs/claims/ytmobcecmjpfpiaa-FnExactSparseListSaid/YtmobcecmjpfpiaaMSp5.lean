/- Sparse lists of numbers: both functions answer alike. -/
import Derived.Test.YtmobcecmjpfpiaaEvC
import Derived.Test.YtmobcecmjpfpiaaPp1
import Derived.Test.YtmobcecmjpfpiaaPp2
import Derived.Test.YtmobcecmjpfpiaaMSp4
set_option linter.unusedVariables false
set_option linter.unusedSimpArgs false
namespace Go.Ev.W
open Go.Ev

instance spDec1 : DecidableEq (Int × List Int × Int × List Int) := fun a b => inferInstance
instance spDec2 : DecidableEq (Int × Int × Int × List Int × Int × List Int) := fun a b => inferInstance
instance spDec : DecidableEq SpV := fun a b => inferInstanceAs (Decidable (a = b))
def spK (v : SpV) (PW : List Nat) : List Nat := bif pOk v.2.2.1 v.2.2.2.1 v.2.2.2.2.1 PW then pkL v.2.2.1.toNat v.2.2.2.1.toNat PW else []
def spBb (v : SpV) (BW : List Nat) : List Bool := bif vOk v.2.2.2.2.2.2.1 BW then bts v.2.2.2.2.2.2.1.toNat BW else []
theorem spK_props (v : SpV) (PW : List Nat) : (spK v PW).length ≤ 5000 ∧ (∀ x ∈ spK v PW, x < 2 ^ (min v.2.2.1.toNat 32)) ∧ (spK v PW = [] ∨ v.2.2.1 = ((min v.2.2.1.toNat 32 : Nat) : Int)) := by
  unfold spK
  cases h : pOk v.2.2.1 v.2.2.2.1 v.2.2.2.2.1 PW with
  | false => exact ⟨by simp, fun x hx => by simp at hx, Or.inl rfl⟩
  | true =>
    obtain ⟨w, n, h1, h2, h3, h4, h5, h6, _⟩ := pOk_nat h
    rw [bif_true, h1, h2, Int.toNat_natCast, Int.toNat_natCast, show min w 32 = w by omega]
    exact ⟨by rw [pkL_len]; exact h5, pkL_lt w n PW, Or.inr rfl⟩
theorem spBb_len (v : SpV) (BW : List Nat) : (spBb v BW).length ≤ 5000 := by
  unfold spBb
  cases h : vOk v.2.2.2.2.2.2.1 BW with
  | false => simp
  | true =>
    simp only [vOk, Bool.and_eq_true, decide_eq_true_eq] at h
    rw [bif_true, bts_length]; omega
def spLst (v : SpV) (PW BW : List Nat) : List Nat := deS (2 ^ (min v.2.2.1.toNat 32)) (spBb v BW) 0 (spK v PW)
theorem spLst_len (v : SpV) (PW BW : List Nat) : (spLst v PW BW).length ≤ 5000 := by
  have := (spK_props v PW).1
  unfold spLst
  rw [deS_len]; omega
theorem spLst_lt (v : SpV) (PW BW : List Nat) : ∀ x ∈ spLst v PW BW, x < 4611686018427387904 := by
  intro x hx
  have h1 := deS_bound _ (spBb v BW) 0 (spK v PW) (spK_props v PW).2.1 x hx
  have h2 := spBb_len v BW
  have hp : 2 ^ (min v.2.2.1.toNat 32) ≤ 2 ^ 32 := Nat.pow_le_pow_right (by omega) (by omega)
  have hm : (0 + (spBb v BW).length) * 2 ^ (min v.2.2.1.toNat 32) ≤ 5000 * 2 ^ 32 := Nat.mul_le_mul (by omega) hp
  omega
theorem spOf_cases (U : Int) (X : List Nat) : spOf U X = spZ ∨ ∃ u : Nat, U = u ∧ u ≤ 1000000 ∧ fineL u X ∧ X.length + u / 2 ^ spW u X + 1 ≤ 5000 ∧ X.length * spW u X ≤ 5000 ∧ spOf U X = (spV u X, true) := by
  unfold spOf
  by_cases h : (0 ≤ U ∧ U ≤ 1000000) ∧ fineL U.toNat X
  rotate_left
  · refine Or.inl ?_
    have : (decide (0 ≤ U) && decide (U ≤ 1000000) && decide (fineL U.toNat X)) = false := by
      rw [Bool.eq_false_iff]
      intro e
      simp only [Bool.and_eq_true, decide_eq_true_eq] at e
      exact h e
    rw [this]; rfl
  obtain ⟨⟨h1, h2⟩, h3⟩ := h
  rw [decide_eq_true h1, decide_eq_true h2, decide_eq_true h3]
  obtain ⟨u, rfl⟩ : ∃ u : Nat, U = u := ⟨U.toNat, by omega⟩
  rw [Int.toNat_natCast] at h3
  show spR _ _ = _ ∨ _
  rw [Int.toNat_natCast]
  unfold spR
  by_cases h4 : X.length + u / 2 ^ spW u X + 1 ≤ 5000
  · by_cases h5 : X.length * spW u X ≤ 5000
    · exact Or.inr ⟨u, rfl, by omega, h3, h4, h5, by
        show spR _ _ = _
        unfold spR
        rw [decide_eq_true h4, decide_eq_true h5]; rfl⟩
    · rw [decide_eq_false h5, Bool.and_false]; exact Or.inl rfl
  · rw [decide_eq_false h4, Bool.false_and]; exact Or.inl rfl
theorem spV_lens (u : Nat) (X : List Nat) (hu : u ≤ 1000000) (hn : X.length ≤ 5000) (hf : fineL u X) (hT : X.length + u / 2 ^ spW u X + 1 ≤ 5000) (hm : X.length * spW u X ≤ 5000) :
    (ints (wrds (dgs (spW u X) (spL u X)))).length < 4611686018427387904 ∧ (ints (wrds (spH u X))).length < 4611686018427387904 ∧ (spH u X).length ≤ 5000 ∧ (spL u X).length = X.length := by
  have h1 := spH_len u X hu hn hf
  have h2 : (spL u X).length = X.length := List.length_map ..
  refine ⟨?_, ?_, by omega, h2⟩
  · rw [ints_len, wrds_length, dgs_len, h2]; unfold nw; omega
  · rw [ints_len, wrds_length, h1]; unfold nw; omega
theorem spZ_ne (v : SpV) : ¬ spZ = (v, true) := by
  intro e
  have := (Prod.mk.inj e).2
  cases this
theorem spFin_eq (a n w pn pb : Int) (P : List Int) (bn : Int) (B : List Int) (L : List Nat) (hL : L.length ≤ 5000) : spFin (a, n, w, pn, pb, P, bn, B) (ints L) = some (ints L, decide (spOf a L = ((a, n, w, pn, pb, P, bn, B), true))) := by
  unfold spFin
  try simp only
  rw [implSparseOf_eq a L hL, Option.bind_some]
  rcases spOf_cases a L with h | ⟨u, rfl, hu, hf, hT, hm, h⟩
  · rw [h, decide_eq_false (spZ_ne _)]; rfl
  · obtain ⟨h1, h2, _, _⟩ := spV_lens u L hu hL hf hT hm
    rw [h]
    unfold spV spVW
    try simp only
    rw [samePacked_eq _ _ _ _ _ _ _ _ h1, Option.bind_some, sameBits_eq _ _ _ _ h2, Option.bind_some, beq_dec]
    simp only [dec_pair, decide_true, Bool.true_and, Bool.and_true]
    cases decide ((L.length : Int) = n) <;> cases decide ((spW u L : Int) = w) <;> cases decide (((spL u L).length : Int) = pn) <;> cases decide ((((spL u L).length * spW u L : Nat) : Int) = pb) <;> cases decide (ints (wrds (dgs (spW u L) (spL u L))) = P) <;> rfl
theorem specOk_eq (a n w pn pb : Int) (PW : List Nat) (bn : Int) (BW : List Nat) (hP : PW.length ≤ 1048576) (hPx : ∀ x ∈ PW, x < 2 ^ 64) (hB : BW.length ≤ 1048576) (hBx : ∀ x ∈ BW, x < 2 ^ 64) :
    ((pOk w pn pb PW && vOk bn BW) = true → spec_l03List (a, n, w, pn, pb, ints PW, bn, ints BW) = some (ints (spLst (a, n, w, pn, pb, ints PW, bn, ints BW) PW BW))) ∧
    spec_SparseOk (a, n, w, pn, pb, ints PW, bn, ints BW) = some (pOk w pn pb PW && vOk bn BW && decide (w ≤ 20) && decide (spOf a (spLst (a, n, w, pn, pb, ints PW, bn, ints BW) PW BW) = ((a, n, w, pn, pb, ints PW, bn, ints BW), true))) := by
  have hlist : (pOk w pn pb PW && vOk bn BW) = true → spec_l03List (a, n, w, pn, pb, ints PW, bn, ints BW) = some (ints (spLst (a, n, w, pn, pb, ints PW, bn, ints BW) PW BW)) := by
    intro h
    rw [Bool.and_eq_true] at h
    obtain ⟨h1, h2⟩ := h
    obtain ⟨w', n', rfl, rfl, rfl, h5, h6, h7, h8⟩ := pOk_nat h1
    have hp := spK_props (a, n, (w' : Int), (n' : Int), ((n' * w' : Nat) : Int), ints PW, bn, ints BW) PW
    obtain ⟨p1, p2, p3⟩ := hp
    have hbl := spBb_len (a, n, (w' : Int), (n' : Int), ((n' * w' : Nat) : Int), ints PW, bn, ints BW) BW
    have hs := srd_l0 _ _ (a, n, (w' : Int), (n' : Int), ((n' * w' : Nat) : Int), ints PW, bn, ints BW) (min (w' : Int).toNat 32) hbl p1 (by omega) p3 p2 (by show (w' : Int) = _; rw [Int.toNat_natCast, show min w' 32 = w' by omega]) _ 0 0 [] rfl (by omega) (by omega) (by simp)
    have hb : spBb (a, n, (w' : Int), (n' : Int), ((n' * w' : Nat) : Int), ints PW, bn, ints BW) BW = bts bn.toNat BW := by unfold spBb; rw [show vOk _ BW = true from h2]; rfl
    have hk : spK (a, n, (w' : Int), (n' : Int), ((n' * w' : Nat) : Int), ints PW, bn, ints BW) PW = pkL (w' : Int).toNat (n' : Int).toNat PW := by unfold spK; rw [show pOk _ _ _ PW = true from h1]; rfl
    rw [hb, hk] at hs
    simp only [vOk, Bool.and_eq_true, decide_eq_true_eq] at h2
    obtain ⟨m, rfl⟩ : ∃ m : Nat, bn = m := ⟨bn.toNat, by omega⟩
    rw [Int.toNat_natCast] at h2
    have ht := (okW_iff m BW hBx).1 h2.2
    have hl1 := l01List_eq m BW (by omega) (by have := ht.1; unfold nw at this; omega) hBx
    rw [spec_l03List.eq]
    try simp only
    rw [specPackList_eq _ _ _ _ hP hPx, h1, bif_true, Option.bind_some, hl1, Option.bind_some]
    unfold spLst
    rw [hb, hk]
    exact hs
  refine ⟨hlist, ?_⟩
  rw [spec_SparseOk.eq]
  try simp only
  rw [specPackOk_eq _ _ _ _ hP hPx, Option.bind_some, specBitsOk_eq _ _ hB hBx, Option.bind_some]
  cases h1 : pOk w pn pb PW with
  | false => rfl
  | true =>
    cases h2 : vOk bn BW with
    | false => rfl
    | true =>
      rw [h1, h2] at hlist
      by_cases h3 : w ≤ 20
      rotate_left
      · rw [Bool.not_true, bif_false, bif_false, bif_dec (by omega), decide_eq_false h3]; rfl
      rw [Bool.not_true, bif_false, bif_false, bif_ndec (by omega), hlist rfl, Option.bind_some, decide_eq_true h3, Bool.and_true, Bool.and_true, Bool.true_and,
        specSparseOf_eq a _ (spLst_len _ PW BW) (spLst_lt _ PW BW), Option.bind_some]
      have hL := spLst_len (a, n, w, pn, pb, ints PW, bn, ints BW) PW BW
      obtain ⟨L, hLe⟩ : ∃ L, spLst (a, n, w, pn, pb, ints PW, bn, ints BW) PW BW = L := ⟨_, rfl⟩
      rw [hLe] at hL ⊢
      rcases spOf_cases a L with h | ⟨u, rfl, hu, hf, hT, hm, h⟩
      · rw [h, decide_eq_false (spZ_ne _)]; rfl
      · obtain ⟨e1, e2, _, _⟩ := spV_lens u L hu hL hf hT hm
        rw [h]
        unfold spV spVW
        try simp only
        rw [l03Same_eq _ _ _ _ e1, Option.bind_some, l03Same_eq _ _ _ _ e2, Option.bind_some, beq_dec, beq_dec, beq_dec]
        simp only [dec_pair, decide_true, Bool.true_and, Bool.and_true]
        cases decide ((L.length : Int) = n) <;> cases decide ((spW u L : Int) = w) <;> cases decide (((spL u L).length : Int) = pn) <;> cases decide ((((spL u L).length * spW u L : Nat) : Int) = pb) <;> cases decide (ints (wrds (dgs (spW u L) (spL u L))) = ints PW) <;> rfl
/-- What a list that is read back holds. -/
theorem spBack (a n w pn pb : Int) (PW : List Nat) (bn : Int) (BW : List Nat) (h : spOf a (spLst (a, n, w, pn, pb, ints PW, bn, ints BW) PW BW) = ((a, n, w, pn, pb, ints PW, bn, ints BW), true)) :
    pOk w pn pb PW = true ∧ vOk bn BW = true ∧ w ≤ 20 ∧ ones (spBb (a, n, w, pn, pb, ints PW, bn, ints BW) BW) ≤ (spK (a, n, w, pn, pb, ints PW, bn, ints BW) PW).length := by
  have hL := spLst_len (a, n, w, pn, pb, ints PW, bn, ints BW) PW BW
  have hlen : (spLst (a, n, w, pn, pb, ints PW, bn, ints BW) PW BW).length = min (ones (spBb (a, n, w, pn, pb, ints PW, bn, ints BW) BW)) (spK (a, n, w, pn, pb, ints PW, bn, ints BW) PW).length := by
    unfold spLst; rw [deS_len]
  obtain ⟨L, hLe⟩ : ∃ L, spLst (a, n, w, pn, pb, ints PW, bn, ints BW) PW BW = L := ⟨_, rfl⟩
  rw [hLe] at hL h hlen
  rcases spOf_cases a L with h0 | ⟨u, rfl, hu, hf, hT, hm, h0⟩
  · rw [h0] at h; exact absurd h (spZ_ne _)
  rw [h0] at h
  obtain ⟨_, _, e3, e4⟩ := spV_lens u L hu hL hf hT hm
  have hw := lwd_le L.length u hu
  have h1 := (Prod.mk.inj h).1
  unfold spV spVW at h1
  simp only [Prod.mk.injEq] at h1
  obtain ⟨_, q1, q2, q3, q4, q5, q6, q7⟩ := h1
  have q5' := ints_inj' q5
  have q7' := ints_inj' q7
  subst q2 q3 q4 q5' q6 q7'
  have hv : vOk ((spH u L).length : Int) (wrds (spH u L)) = true := by
    simp only [vOk, Bool.and_eq_true, decide_eq_true_eq, Int.toNat_natCast]
    exact ⟨⟨by omega, by omega⟩, (okW_iff _ _ (wrds_tight _).2.1).2 (wrds_tight _)⟩
  have hd : (dgs (spW u L) (spL u L)).length = (spL u L).length * spW u L := dgs_len _ _
  have hp : pOk (spW u L : Int) ((spL u L).length : Int) (((spL u L).length * spW u L : Nat) : Int) (wrds (dgs (spW u L) (spL u L))) = true := by
    have hm' : (spL u L).length * spW u L ≤ 5000 := by rw [e4]; exact hm
    have hw' : spW u L ≤ 19 := hw
    have ht := wrds_tight (dgs (spW u L) (spL u L))
    rw [hd] at ht
    simp only [pOk, vOk, Bool.and_eq_true, decide_eq_true_eq, Int.toNat_natCast]
    exact ⟨⟨⟨⟨by omega, by omega⟩, by omega, by omega⟩, ⟨⟨by omega, by omega⟩, (okW_iff _ _ ht.2.1).2 ht⟩⟩, by rw [Nat.mul_comm]; simp⟩
  refine ⟨hp, hv, by have : spW u L ≤ 19 := hw; omega, ?_⟩
  have hb : ones (spH u L) = L.length := by unfold spH; exact ones_hiB ..
  have hbb : spBb ((u : Int), n, (spW u L : Int), ((spL u L).length : Int), (((spL u L).length * spW u L : Nat) : Int), ints (wrds (dgs (spW u L) (spL u L))), ((spH u L).length : Int), ints (wrds (spH u L))) (wrds (spH u L)) = spH u L := by
    unfold spBb
    rw [show vOk _ (wrds (spH u L)) = true from hv, bif_true, Int.toNat_natCast, bts_wrds]
  rw [hbb] at hlen ⊢
  omega
theorem sparseList_both (a n w pn pb : Int) (PW : List Nat) (bn : Int) (BW : List Nat) (hP : PW.length ≤ 1048576) (hPx : ∀ x ∈ PW, x < 2 ^ 64) (hB : BW.length ≤ 1048576) (hBx : ∀ x ∈ BW, x < 2 ^ 64) :
    ∃ R : List Nat, R.length ≤ 5000 ∧ spec_SparseList (a, n, w, pn, pb, ints PW, bn, ints BW) = some (ints R) ∧ impl_SparseList (a, n, w, pn, pb, ints PW, bn, ints BW) = some (ints R) := by
  obtain ⟨s1, s2⟩ := specOk_eq a n w pn pb PW bn BW hP hPx hB hBx
  obtain ⟨p1, p2, p3⟩ := spK_props (a, n, w, pn, pb, ints PW, bn, ints BW) PW
  have hbl := spBb_len (a, n, w, pn, pb, ints PW, bn, ints BW) BW
  have hL := spLst_len (a, n, w, pn, pb, ints PW, bn, ints BW) PW BW
  have hi := ird_l0 _ _ (a, n, w, pn, pb, ints PW, bn, ints BW) (min w.toNat 32) hbl p1 (by omega) p3 p2 _ 0 0 [] rfl (by omega) (by omega) (by simp)
  have hk : impl_PackList (w, pn, pb, ints PW) = some (ints (spK (a, n, w, pn, pb, ints PW, bn, ints BW) PW)) := by
    rw [implPackList_eq _ _ _ _ hP hPx]
    unfold spK
    cases pOk w pn pb PW <;> rfl
  have hb : impl_BitsList (bn, ints BW) = some (bints (spBb (a, n, w, pn, pb, ints PW, bn, ints BW) BW)) := by
    rw [implBitsList_eq _ _ hB hBx]
    unfold spBb
    cases vOk bn BW <;> rfl
  have hread : impl_Sparse_read (a, n, w, pn, pb, ints PW, bn, ints BW) = if ones (spBb (a, n, w, pn, pb, ints PW, bn, ints BW) BW) ≤ (spK (a, n, w, pn, pb, ints PW, bn, ints BW) PW).length then
      some (ints (spLst (a, n, w, pn, pb, ints PW, bn, ints BW) PW BW), decide (spOf a (spLst (a, n, w, pn, pb, ints PW, bn, ints BW) PW BW) = ((a, n, w, pn, pb, ints PW, bn, ints BW), true))) else some ([], false) := by
    rw [impl_Sparse_read.eq]
    try simp only
    rw [hk, Option.bind_some, hb, Option.bind_some, bints_len]
    refine hi.trans ?_
    have e : spFin (a, n, w, pn, pb, ints PW, bn, ints BW) (ints (spLst (a, n, w, pn, pb, ints PW, bn, ints BW) PW BW)) = _ := spFin_eq a n w pn pb (ints PW) bn (ints BW) _ hL
    rw [← e]; rfl
  by_cases hok : spOf a (spLst (a, n, w, pn, pb, ints PW, bn, ints BW) PW BW) = ((a, n, w, pn, pb, ints PW, bn, ints BW), true)
  · obtain ⟨q1, q2, q3, q4⟩ := spBack a n w pn pb PW bn BW hok
    refine ⟨_, hL, ?_, ?_⟩
    · rw [spec_SparseList.eq, s2, q1, q2, decide_eq_true q3, decide_eq_true hok, Option.bind_some, s1 (by rw [q1, q2]; rfl)]; rfl
    · rw [impl_SparseList.eq, hread, if_pos q4, decide_eq_true hok]; rfl
  · refine ⟨[], by simp, ?_, ?_⟩
    · rw [spec_SparseList.eq, s2, decide_eq_false hok, Bool.and_false]; rfl
    · rw [impl_SparseList.eq, hread, decide_eq_false hok]
      by_cases h : ones (spBb (a, n, w, pn, pb, ints PW, bn, ints BW) BW) ≤ (spK (a, n, w, pn, pb, ints PW, bn, ints BW) PW).length
      · rw [if_pos h]; rfl
      · rw [if_neg h]; rfl
end Go.Ev.W
