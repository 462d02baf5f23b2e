/- Waves: arguments; bytes. -/
import Derived.Test.YtmobcecmjpfpiaaEvC
import Derived.Test.YtmobcecmjpfpiaaPp8
import Derived.Test.YtmobcecmjpfpiaaMWave2
import Derived.Test.YtmobcecmjpfpiaaMWaveS
set_option linter.unusedVariables false
set_option linter.unusedSimpArgs false
namespace Go.Ev.W
open Go.Ev

theorem words_in {d : Nat} {xs : List Int} (h : AllP (α := Tup [CT.int .u64]) (allL (goodC (d + 1)) [CT.int .u64]) xs) : ∀ x ∈ xs, 0 ≤ x ∧ x < ((2 ^ 64 : Nat) : Int) := by
  intro x hx
  have := h.2 x hx
  have : (Lit.int .u64 x).wf = true := this
  simp only [Lit.wf, Bool.and_eq_true, decide_eq_true_eq] at this
  have e : IntKind.u64.max = 18446744073709551615 := rfl
  have e2 : IntKind.u64.min = 0 := rfl
  rw [e, e2] at this
  omega
theorem lv_of (X : List (Int × List Int)) (h : ∀ p ∈ X, ∀ x ∈ p.2, 0 ≤ x ∧ x < ((2 ^ 64 : Nat) : Int)) : ∃ L : List (Int × List Nat), X = LI L ∧ ∀ p ∈ L, ∀ x ∈ p.2, x < 2 ^ 64 := by
  refine ⟨X.map fun p => (p.1, p.2.map Int.toNat), ?_, fun p hp x hx => ?_⟩
  · unfold LI
    rw [List.map_map]
    refine (List.map_id X).symm.trans (List.map_congr_left fun p hp => ?_)
    obtain ⟨n, xs⟩ := p
    refine Prod.ext rfl ?_
    show xs = ints (xs.map Int.toNat)
    unfold ints
    rw [List.map_map]
    refine (List.map_id xs).symm.trans (List.map_congr_left fun x hx => ?_)
    have := h _ hp x hx
    simp only [Function.comp, id]
    omega
  · obtain ⟨q, hq, rfl⟩ := List.mem_map.1 hp
    obtain ⟨y, hy, rfl⟩ := List.mem_map.1 hx
    have := h q hq y hy
    omega
theorem LI_len {L : List (Int × List Nat)} {k : Nat} (h : ∀ p ∈ LI L, p.2.length ≤ k) : ∀ p ∈ L, p.2.length ≤ k := by
  intro p hp
  have := h (p.1, ints p.2) (List.mem_map.2 ⟨p, hp, rfl⟩)
  simpa using this
theorem wOk_at {n : Int} {Z : List Int} {L : List (Int × List Nat)} (h : wOk n Z L = true) : 0 ≤ n ∧ n ≤ 1000 ∧ Z.length = 9 ∧ L.length = 9 ∧ ∀ p ∈ L, vOk p.1 p.2 = true ∧ p.1 = n := by
  unfold wOk at h
  simp only [Bool.and_eq_true, decide_eq_true_eq] at h
  obtain ⟨⟨⟨⟨h1, h2⟩, h3⟩, h4⟩, h5⟩ := h
  refine ⟨h1, h2, h3, h4, fun p hp => ?_⟩
  obtain ⟨i, hi, rfl⟩ := List.getElem_of_mem hp
  have hz : i < (L.zip Z).length := by rw [List.length_zip]; omega
  have := List.all_eq_true.1 h5 _ (List.getElem_mem hz)
  rw [List.getElem_zip] at this
  simp only [lOk, Bool.and_eq_true, decide_eq_true_eq] at this
  exact this.1
def wB (n : Int) (Z : List Int) (L : List (Int × List Nat)) : List Nat := bif wOk n Z L then (L.map fun p => bb p.1 p.2).flatten else []
theorem wB_parts (L : List (Int × List Nat)) (hv : ∀ p ∈ L, vOk p.1 p.2 = true) : ((L.map fun p => bb p.1 p.2).flatten).length ≤ 700 * L.length := by
  induction L with
  | nil => simp
  | cons p L ih =>
    have h1 := ih fun q hq => hv q (List.mem_cons_of_mem _ hq)
    have h2 := hv p List.mem_cons_self
    simp only [vOk, Bool.and_eq_true, decide_eq_true_eq] at h2
    have h3 := bb_len p.1 p.2 h2.1.2
    rw [List.map_cons, List.flatten_cons, List.length_append, List.length_cons]; omega
theorem wB_len (n : Int) (Z : List Int) (L : List (Int × List Nat)) : (wB n Z L).length ≤ 7000 := by
  unfold wB
  cases h : wOk n Z L with
  | false => simp
  | true =>
    obtain ⟨_, _, _, h4, h5⟩ := wOk_at h
    have := wB_parts L fun p hp => (h5 p hp).1
    rw [bif_true]; omega
theorem implWaveBytes_l0 (L : List (Int × List Nat)) (h9 : L.length = 9) (hx : ∀ p ∈ L, ∀ x ∈ p.2, x < 2 ^ 64) (hv : ∀ p ∈ L, vOk p.1 p.2 = true) : ∀ (d i : Nat), L.length - i = d → i ≤ L.length → ∀ out : List Int, out.length ≤ 1000000 * i →
    impl_waveBytes_l0 (LI L) L.length i out = some (out ++ ints (((L.drop i).map fun p => bb p.1 p.2).flatten)) := by
  intro d
  induction d with
  | zero =>
    intro i h1 h2 out ho
    rw [impl_waveBytes_l0.eq, bif_ndec (by omega), List.drop_eq_nil_of_le (by omega)]; simp
  | succ d ih =>
    intro i h1 h2 out ho
    have hi : i < L.length := by omega
    have hm := List.getElem_mem hi
    have hvi := hv _ hm
    simp only [vOk, Bool.and_eq_true, decide_eq_true_eq] at hvi
    have hb := bb_len L[i].1 L[i].2 hvi.1.2
    have hbl : (ints (bb L[i].1 L[i].2)).length = (bb L[i].1 L[i].2).length := List.length_map ..
    have hbb : impl_bitsBytes (L[i].1, ints L[i].2) = some (ints (bb L[i].1 L[i].2)) := by
      have ht := (okW_iff _ _ (hx _ hm)).1 hvi.2
      have := bitsBytes_eq L[i].1.toNat L[i].2 (by omega) ht
      rw [show ((L[i].1.toNat : Nat) : Int) = L[i].1 by omega] at this
      exact this
    rw [impl_waveBytes_l0.eq, bif_dec (by omega), at?_LI L i hi, Option.bind_some]
    try simp only
    rw [hbb, Option.bind_some, bif_dec (by omega), wrapS i (by omega), ih (i + 1) (by omega) (by omega) _ (by rw [List.length_append]; omega), List.drop_eq_getElem_cons hi, List.map_cons, List.flatten_cons, ints_app, List.append_assoc]
theorem implwaveBytes_eq (n : Int) (Z : List Int) (L : List (Int × List Nat)) (h9 : L.length = 9) (hx : ∀ p ∈ L, ∀ x ∈ p.2, x < 2 ^ 64) (hv : ∀ p ∈ L, vOk p.1 p.2 = true) : impl_waveBytes (n, Z, LI L) = some (ints ((L.map fun p => bb p.1 p.2).flatten)) := by
  rw [impl_waveBytes.eq]
  try simp only
  have := implWaveBytes_l0 L h9 hx hv _ 0 rfl (by omega) [] (by simp)
  rw [List.length_map]
  simpa using this
theorem implWaveBytes_eq (n : Int) (Z : List Int) (L : List (Int × List Nat)) (hl : ∀ p ∈ L, p.2.length ≤ 1048576) (hx : ∀ p ∈ L, ∀ x ∈ p.2, x < 2 ^ 64) : impl_WaveBytes (n, Z, LI L) = some (ints (wB n Z L)) := by
  rw [impl_WaveBytes.eq]
  try simp only
  rw [implWaveOk_eq n Z L hl hx, Option.bind_some]
  unfold wB
  cases h : wOk n Z L with
  | false => rfl
  | true =>
    obtain ⟨_, _, _, h4, h5⟩ := wOk_at h
    rw [Bool.not_true, bif_false, bif_true, implwaveBytes_eq n Z L h4 hx (fun p hp => (h5 p hp).1), Option.bind_some]
end Go.Ev.W
