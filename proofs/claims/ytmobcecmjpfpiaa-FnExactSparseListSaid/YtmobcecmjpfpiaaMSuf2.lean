/- The rows of suffixes: the program's and the reference's. -/
import Derived.Test.YtmobcecmjpfpiaaEvC
import Derived.Test.YtmobcecmjpfpiaaPp4
import Derived.Test.YtmobcecmjpfpiaaMSuf
set_option linter.unusedVariables false
set_option linter.unusedSimpArgs false
namespace Go.Ev.W
open Go.Ev

theorem sufLt_irrefl (D : List Nat) (a : Nat) : ¬ sufLt D a a := by unfold sufLt; rw [cmpN_self]; omega
theorem sufLt_trans {D : List Nat} {a b c : Nat} (h1 : sufLt D a b) (h2 : sufLt D b c) : sufLt D a c := cmpN_trans h1 h2
theorem sufLt_not {D : List Nat} {a b : Nat} (ha : a ≤ D.length) (hb : b ≤ D.length) (hne : a ≠ b) (h : ¬ sufLt D a b) : sufLt D b a :=
  Classical.byContradiction fun h' => hne (suf_tri D a b ha hb h h')
/-- Sorted, and just the numbers from lo to the text's end. -/
structure SS (D : List Nat) (lo : Nat) (S : List Nat) : Prop where
  pw : S.Pairwise (sufLt D)
  mem : ∀ x, x ∈ S ↔ lo ≤ x ∧ x ≤ D.length
theorem sorted_unique {D : List Nat} : ∀ {S T : List Nat}, S.Pairwise (sufLt D) → T.Pairwise (sufLt D) → (∀ x, x ∈ S ↔ x ∈ T) → S = T
  | [], [], _, _, _ => rfl
  | [], b :: T, _, _, h => by have := (h b).2 List.mem_cons_self; cases this
  | a :: S, [], _, _, h => by have := (h a).1 List.mem_cons_self; cases this
  | a :: S, b :: T, h1, h2, h => by
    obtain ⟨p1, q1⟩ := List.pairwise_cons.1 h1
    obtain ⟨p2, q2⟩ := List.pairwise_cons.1 h2
    have hab : a = b := by
      rcases List.mem_cons.1 ((h a).1 List.mem_cons_self) with h3 | h3
      · exact h3
      · rcases List.mem_cons.1 ((h b).2 List.mem_cons_self) with h4 | h4
        · exact h4.symm
        · exact absurd (sufLt_trans (p1 b h4) (p2 a h3)) (sufLt_irrefl D a)
    subst hab
    rw [sorted_unique q1 q2 fun x => ⟨fun hx => ?_, fun hx => ?_⟩]
    · rcases List.mem_cons.1 ((h x).1 (List.mem_cons_of_mem _ hx)) with h3 | h3
      · subst h3; exact absurd (p1 x hx) (sufLt_irrefl D x)
      · exact h3
    · rcases List.mem_cons.1 ((h x).2 (List.mem_cons_of_mem _ hx)) with h3 | h3
      · subst h3; exact absurd (p2 x hx) (sufLt_irrefl D x)
      · exact h3
theorem SS.unique {D : List Nat} {lo : Nat} {S T : List Nat} (h : SS D lo S) (k : SS D lo T) : S = T :=
  sorted_unique h.pw k.pw fun x => (h.mem x).trans (k.mem x).symm
theorem SS.nodup {D : List Nat} {lo : Nat} {S : List Nat} (h : SS D lo S) : S.Nodup :=
  h.pw.imp fun {a b} hab e => by subst e; exact sufLt_irrefl D a hab
theorem SS.length {D : List Nat} {lo : Nat} {S : List Nat} (h : SS D lo S) (hlo : lo ≤ D.length + 1) : S.length = D.length + 1 - lo := by
  have hp : S.Perm ((List.range (D.length + 1 - lo)).map (· + lo)) := by
    refine (List.perm_ext_iff_of_nodup h.nodup ?_).2 fun x => ?_
    · exact List.Pairwise.map _ (fun a b hab => by simp only [ne_eq] at hab ⊢; omega) List.nodup_range
    · rw [h.mem]
      simp only [List.mem_map, List.mem_range]
      constructor
      · intro ⟨h1, h2⟩; exact ⟨x - lo, by omega, by omega⟩
      · rintro ⟨y, hy, rfl⟩; omega
  have := hp.length_eq
  simpa using this
/-- The rows. -/
def srt (D : List Nat) : List Nat := (List.range (D.length + 1)).mergeSort fun a b => !decide (cmpN (D.drop b) (D.drop a) < 0)
theorem srt_SS (D : List Nat) : SS D 0 (srt D) := by
  have hperm : (srt D).Perm (List.range (D.length + 1)) := List.mergeSort_perm ..
  have hmem : ∀ x, x ∈ srt D ↔ 0 ≤ x ∧ x ≤ D.length := fun x => by rw [hperm.mem_iff, List.mem_range]; omega
  refine ⟨?_, hmem⟩
  have hnd : (srt D).Nodup := hperm.nodup_iff.2 List.nodup_range
  have hs : (srt D).Pairwise fun a b => (!decide (cmpN (D.drop b) (D.drop a) < 0)) = true := by
    refine List.pairwise_mergeSort (fun a b c h1 h2 => ?_) (fun a b => ?_) _
    · simp only [Bool.not_eq_true', decide_eq_false_iff_not] at h1 h2 ⊢
      have e1 := cmpN_neg (D.drop a) (D.drop b)
      have e2 := cmpN_neg (D.drop b) (D.drop c)
      have e3 := cmpN_neg (D.drop a) (D.drop c)
      have := cmpN_le (D.drop a) (D.drop b) (D.drop c) (by omega) (by omega)
      omega
    · have e1 := cmpN_neg (D.drop a) (D.drop b)
      by_cases h : cmpN (D.drop b) (D.drop a) < 0
      · have : ¬ cmpN (D.drop a) (D.drop b) < 0 := by omega
        simp [this]
      · simp [h]
  have hand := List.Pairwise.and hs hnd
  refine List.Pairwise.imp_of_mem (fun {a b} ha hb h => ?_) hand
  obtain ⟨h1, h2⟩ := h
  simp only [Bool.not_eq_true', decide_eq_false_iff_not] at h1
  exact Classical.byContradiction fun h3 => h2 (suf_tri D a b ((hmem a).1 ha).2 ((hmem b).1 hb).2 h3 h1)

/-! #### the reference: insertion -/
theorem get_lt {D S : List Nat} (h : S.Pairwise (sufLt D)) {i j : Nat} (hij : i < j) (hj : j < S.length) : sufLt D (S[i]'(by omega)) S[j] :=
  List.pairwise_iff_getElem.1 h i j (by omega) hj hij
theorem SS.insert {D : List Nat} {i : Nat} {S : List Nat} (h : SS D (i + 1) S) (hi : i ≤ D.length) (k : Nat) (hk : k ≤ S.length) (h1 : ∀ j, (hj : j < S.length) → j < k → sufLt D S[j] i) (h2 : ∀ j, (hj : j < S.length) → k ≤ j → sufLt D i S[j]) : SS D i (S.take k ++ i :: S.drop k) := by
  refine ⟨?_, fun x => ?_⟩
  · have hpw := h.pw
    rw [← List.take_append_drop k S] at hpw
    obtain ⟨p1, p2, p3⟩ := List.pairwise_append.1 hpw
    refine List.pairwise_append.2 ⟨p1, List.pairwise_cons.2 ⟨fun x hx => ?_, p2⟩, fun x hx y hy => ?_⟩
    · obtain ⟨j, hj, rfl⟩ := List.getElem_of_mem hx
      rw [List.getElem_drop]
      rw [List.length_drop] at hj
      exact h2 (k + j) (by omega) (by omega)
    · have hxi : sufLt D x i := by
        obtain ⟨j, hj, rfl⟩ := List.getElem_of_mem hx
        rw [List.getElem_take]
        rw [List.length_take] at hj
        exact h1 j (by omega) (by omega)
      rcases List.mem_cons.1 hy with rfl | hy
      · exact hxi
      · exact p3 x hx y hy
  · have hm := h.mem x
    rw [← List.take_append_drop k S, List.mem_append] at hm
    rw [List.mem_append, List.mem_cons]
    constructor
    · rintro (h3 | h3 | h3)
      · have := hm.1 (.inl h3); omega
      · omega
      · have := hm.1 (.inr h3); omega
    · intro h3
      by_cases hx : x = i
      · exact .inr (.inl hx)
      · rcases hm.2 (by omega) with h4 | h4
        · exact .inl h4
        · exact .inr (.inr h4)
theorem specSuf_l1 (D : List Nat) (hD : D.length ≤ 300) (i : Nat) (hi : i ≤ D.length) (S : List Nat) (hS : SS D (i + 1) S) : ∀ (d lo hi' : Nat), hi' - lo = d → lo ≤ hi' → hi' ≤ S.length → (∀ j, (hj : j < S.length) → j < lo → sufLt D S[j] i) → (∀ j, (hj : j < S.length) → hi' ≤ j → sufLt D i S[j]) →
    ∃ T, SS D i T ∧ spec_SuffixRows_l1 (ints D) i lo hi' (ints S) = spec_SuffixRows_l0 (ints D) ((i : Int) - 1) (ints T) := by
  have hSl := hS.length (by omega)
  intro d
  induction d using Nat.strongRecOn with
  | ind d ih =>
    intro lo hi' hd hle hhi h1 h2
    rw [spec_SuffixRows_l1.eq]
    by_cases hlt : lo < hi'
    · have e1 : (((lo : Int) + hi').tdiv 2) = (((lo + hi') / 2 : Nat) : Int) := by rw [show (lo : Int) + hi' = ((lo + hi' : Nat) : Int) by omega]; rfl
      have hm : (lo + hi') / 2 < S.length := by omega
      have hmx := (hS.mem S[(lo + hi') / 2]).1 (List.getElem_mem hm)
      rw [bif_dec (by omega), wrapI (x := (lo : Int) + hi') (by omega) (by omega), e1, wrapIn (by omega), at?_ints _ _ hm, Option.bind_some, Int.toNat_natCast, getElem?_ints _ _ hm, Option.bind_some, List.length_map,
        bif_dec (show (0 : Int) ≤ ((S[(lo + hi') / 2] : Nat) : Int) ∧ ((S[(lo + hi') / 2] : Nat) : Int) ≤ ((D.length : Nat) : Int) by omega), bif_dec (show (0 : Int) ≤ (i : Int) ∧ (i : Int) ≤ ((D.length : Nat) : Int) by omega), Int.toNat_natCast, Int.toNat_natCast]
      have e2 : ∀ a : Nat, ((ints D).take D.length).drop a = ints (D.drop a) := fun a => by rw [List.take_of_length_le (by rw [List.length_map]; omega)]; exact (List.map_drop).symm
      rw [e2, e2, l05Cmp_eq _ _ (by rw [List.length_drop]; omega) (by rw [List.length_drop]; omega), Option.bind_some]
      by_cases hc : cmpN (D.drop S[(lo + hi') / 2]) (D.drop i) < 0
      · rw [bif_dec hc, wrapS _ (by omega)]
        refine ih (hi' - ((lo + hi') / 2 + 1)) (by omega) ((lo + hi') / 2 + 1) hi' rfl (by omega) hhi (fun j hj hjl => ?_) h2
        by_cases hj2 : j = (lo + hi') / 2
        · subst hj2; exact hc
        · exact sufLt_trans (get_lt hS.pw (show j < (lo + hi') / 2 by omega) hm) hc
      · rw [bif_ndec hc]
        have hlt2 : sufLt D i S[(lo + hi') / 2] := sufLt_not hmx.2 hi (by omega) hc
        refine ih ((lo + hi') / 2 - lo) (by omega) lo ((lo + hi') / 2) rfl (by omega) (by omega) h1 (fun j hj hjl => ?_)
        by_cases hj2 : j = (lo + hi') / 2
        · subst hj2; exact hlt2
        · exact sufLt_trans hlt2 (get_lt hS.pw (show (lo + hi') / 2 < j by omega) hj)
    · have hll : (ints S).length = S.length := List.length_map ..
      obtain rfl : lo = hi' := by omega
      rw [bif_ndec (by omega)]
      simp only [Int.toNat_natCast, List.drop_zero, Nat.sub_zero, List.nil_append, hll]
      have e3 : ((ints S).drop lo).take (S.length - lo) = ints (S.drop lo) := by rw [List.take_of_length_le (by rw [List.length_drop, hll]; omega)]; exact (List.map_drop).symm
      have e4 : (ints S).take lo = ints (S.take lo) := (List.map_take).symm
      rw [e3, e4]
      rw [bif_dec (show (0 : Int) ≤ (lo : Int) ∧ (lo : Int) ≤ ((S.length : Nat) : Int) by omega), bif_dec (by simp only [List.length_cons, List.length_nil, List.length_map, List.length_drop]; omega), bif_dec (show (0 : Int) ≤ (lo : Int) ∧ (lo : Int) ≤ ((S.length : Nat) : Int) by omega), bif_dec (by simp only [List.length_nil, List.length_map, List.length_take]; omega),
        bif_dec (by simp only [List.length_append, List.length_cons, List.length_nil, List.length_map, List.length_take, List.length_drop]; omega), wrapI (by omega) (by omega)]
      refine ⟨_, hS.insert hi lo hhi h1 h2, ?_⟩
      congr 1
      show _ = List.map _ _
      rw [List.map_append]; rfl
theorem specSuf_l0 (D : List Nat) (hD : D.length ≤ 300) : ∀ (i : Nat) (S : List Nat), i ≤ D.length + 1 → SS D i S → spec_SuffixRows_l0 (ints D) ((i : Int) - 1) (ints S) = some (ints (srt D)) := by
  intro i
  induction i with
  | zero =>
    intro S hi hS
    rw [spec_SuffixRows_l0.eq, bif_ndec (show ¬ ((0 : Nat) : Int) - 1 ≥ 0 by omega), hS.unique (srt_SS D)]
  | succ i ih =>
    intro S hi hS
    have hSl := hS.length hi
    rw [spec_SuffixRows_l0.eq, show ((i + 1 : Nat) : Int) - 1 = (i : Int) by omega, bif_dec (show (i : Int) ≥ 0 by omega), List.length_map]
    obtain ⟨T, hT, e⟩ := specSuf_l1 D hD i (by omega) S hS _ 0 S.length rfl (by omega) (by omega) (fun j hj h => by omega) (fun j hj h => by omega)
    exact e.trans (ih T (by omega) hT)
theorem specSuf_eq (D : List Nat) (hD : D.length ≤ 300) : spec_SuffixRows (ints D) = some (ints (srt D)) := by
  rw [spec_SuffixRows.eq, spec_TextOk.eq, List.length_map, Option.bind_some, decide_eq_true (show (D.length : Int) ≤ 300 by omega), Bool.not_true, bif_false]
  have := specSuf_l0 D hD (D.length + 1) [] (by omega) ⟨.nil, fun x => ⟨fun h => (List.not_mem_nil h).elim, fun h => by omega⟩⟩
  rw [show ((D.length + 1 : Nat) : Int) - 1 = (D.length : Int) by omega] at this
  exact this

/-! #### the program: a sort -/
end Go.Ev.W
