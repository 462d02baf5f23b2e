/- Waves: the wave of a list is valid, and its numbers are the list. -/
import Derived.Test.YtmobcecmjpfpiaaGreatEvC
import Derived.Test.YtmobcecmjpfpiaaGreatMWaveInv
set_option linter.unusedVariables false
set_option linter.unusedSimpArgs false
namespace Go.Ev.W
open Go.Ev

theorem vOk_tight {m : Nat} {W : List Nat} (hm : m ≤ 5000) (ht : tight m W) : vOk m W = true := by
  unfold vOk
  rw [Int.toNat_natCast, (okW_iff m W ht.2.1).2 ht, decide_eq_true (show (0 : Int) ≤ m by omega), decide_eq_true (show (m : Int) ≤ 5000 by omega)]; rfl
theorem vOk_wrds (bs : List Bool) (h : bs.length ≤ 5000) : vOk bs.length (wrds bs) = true := vOk_tight h (wrds_tight bs)
theorem lvb_wrds (bs : List Bool) (n : Nat) (h : bs.length = n) : lvb ((n : Int), wrds bs) = bs := by
  unfold lvb
  simp only [Int.toNat_natCast]
  rw [← h]
  exact bts_wrds bs
theorem wLv_ok : ∀ (d l : Nat) (X : List Nat), X.length ≤ 1000 → (((wLv d l X).2.zip (ints (wLv d l X).1)).all fun q => lOk X.length q.1 q.2) = true
  | 0, l, X, _ => rfl
  | d + 1, l, X, h => by
    have hl := lohi_len l X
    have ih := wLv_ok d (l + 1) (wlo l X ++ whi l X) (by rw [List.length_append]; omega)
    rw [List.length_append, hl] at ih
    rw [wLv]
    show (List.all (((X.length : Int), wrds (wbs l X)) :: _ |>.zip (((wlo l X).length : Int) :: ints _)) _) = true
    rw [List.zip_cons_cons, List.all_cons, ih, Bool.and_true]
    have hb := wbs_len l X
    have h1 := vOk_wrds (wbs l X) (by omega)
    rw [hb] at h1
    unfold lOk
    simp only [Bool.and_eq_true, decide_eq_true_eq]
    refine ⟨⟨h1, trivial⟩, ?_⟩
    rw [lvb_wrds _ _ hb, zer_wbs, hb, List.take_length]; rfl
theorem wLv_path : ∀ (d l : Nat) (X : List Nat), d + l = 9 → ∀ k (hk : k < X.length), (path ((wLv d l X).2.map lvb) (k, 0)).2 = X[k] % 2 ^ d
  | 0, l, X, _, k, hk => by
    show 0 = _
    rw [Nat.pow_zero, Nat.mod_one]
  | d + 1, l, X, h, k, hk => by
    have hl := lohi_len l X
    have hb := wbs_len l X
    have hnx := nxt_lt (wbs l X) k (by omega)
    rw [hb] at hnx
    have hlen : nxt (wbs l X) k < (wlo l X ++ whi l X).length := by rw [List.length_append, hl]; exact hnx
    have ih := wLv_path d (l + 1) (wlo l X ++ whi l X) (by omega) (nxt (wbs l X) k) hlen
    have hp := part_at l X k hk
    rw [List.getElem?_eq_getElem hlen] at hp
    injection hp with hp
    rw [wLv]
    show (path (lvb ((X.length : Int), wrds (wbs l X)) :: (wLv d (l + 1) (wlo l X ++ whi l X)).2.map lvb) (k, 0)).2 = _
    rw [lvb_wrds _ _ hb]
    show (path ((wLv d (l + 1) (wlo l X ++ whi l X)).2.map lvb) (nxt (wbs l X) k, 2 * 0 + ((wbs l X).getD k false).toNat)).2 = _
    have hgd : (wbs l X).getD k false = wbit l X[k] := by
      rw [List.getD_eq_getElem?_getD]; unfold wbs; rw [List.getElem?_map, List.getElem?_eq_getElem hk]; rfl
    rw [path_val, ih, hp, hgd, List.length_map, (wLv_len' d (l + 1) _).2, Nat.mul_zero, Nat.zero_add]
    have hw : (wbit l X[k]).toNat = X[k] / 2 ^ d % 2 := by
      unfold wbit
      rw [show 8 - l = d by omega]
      rcases Nat.mod_two_eq_zero_or_one (X[k] / 2 ^ d) with h2 | h2 <;> rw [h2] <;> rfl
    rw [hw, Nat.mod_pow_succ, Nat.mul_comm, Nat.add_comm]
theorem wave_back (X : List Nat) (hX : X.length ≤ 1000) (hx : ∀ x ∈ X, x ≤ 511) : wOk X.length (ints (wLv 9 0 X).1) (wLv 9 0 X).2 = true ∧ wList X.length (wLv 9 0 X).2 = X := by
  have hl := wLv_len' 9 0 X
  constructor
  · unfold wOk
    rw [wLv_ok 9 0 X hX, decide_eq_true (show (0 : Int) ≤ X.length by omega), decide_eq_true (show (X.length : Int) ≤ 1000 by omega), decide_eq_true (show (ints (wLv 9 0 X).1).length = 9 by rw [List.length_map]; exact hl.1), decide_eq_true hl.2]; rfl
  · rw [wList_eq]
    refine List.ext_getElem (by rw [List.length_map, List.length_range]) fun k h1 h2 => ?_
    have := hx _ (List.getElem_mem h2)
    rw [List.getElem_map, List.getElem_range, wLv_path 9 0 X rfl k h2, Nat.mod_eq_of_lt (by omega)]
end Go.Ev.W
