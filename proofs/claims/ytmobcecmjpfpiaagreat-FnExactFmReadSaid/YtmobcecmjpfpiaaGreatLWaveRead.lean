/- The law of WaveRead. -/
import Derived.Test.YtmobcecmjpfpiaaGreatEvC
import Derived.Test.YtmobcecmjpfpiaaGreatPz1
import Derived.Test.YtmobcecmjpfpiaaGreatMWave3
import Derived.Test.YtmobcecmjpfpiaaGreatMWaveH
import Derived.Test.YtmobcecmjpfpiaaGreatMRead3
set_option linter.unusedVariables false
set_option linter.unusedSimpArgs false
namespace Go.Ev.W
open Go.Ev

theorem BRd_ok {D : List Nat} {a : Int} (h : (BRd D a).2.2 = true) : ∃ (m : Nat) (W : List Nat), (BRd D a).1 = ((m : Int), ints W) ∧ m ≤ 5000 ∧ W.length ≤ 100 ∧ tight m W := by
  unfold BRd at h ⊢
  cases hv : (VRd D a).2.2 with
  | false => rw [hv] at h; cases h
  | true =>
    rw [hv] at h
    rw [Bool.not_true, bif_false] at h ⊢
    split at h
    · cases h
    · rename_i h1
      rw [if_neg h1]
      split at h
      · cases h
      · rename_i h2
        rw [if_neg h2]
        unfold brFin at h ⊢
        simp only at h ⊢
        split at h
        · rename_i h3
          rw [if_pos h3]
          have ht := wrds_tight (lbits ((D.drop (VRd D a).2.1.toNat).take (((VRd D a).1.toNat + 7) / 8)) (VRd D a).1.toNat)
          rw [lbits_length] at ht
          refine ⟨_, _, rfl, by omega, ?_, ht⟩
          rw [ht.1]; exact nw_le (by omega)
        · cases h
theorem vOk_of {m : Nat} {W : List Nat} (hm : m ≤ 5000) (ht : tight m W) : vOk m W = true := by
  unfold vOk
  rw [Int.toNat_natCast, (okW_iff m W ht.2.1).2 ht, decide_eq_true (show (0 : Int) ≤ m by omega), decide_eq_true (show (m : Int) ≤ 5000 by omega)]; rfl
abbrev Wv := Int × List Int × List (Int × List Int)
def badW : Wv × Int × Bool := ((0, [], []), 0, false)
def WL (D : List Nat) : Nat → Int → Int → List Int → List (Int × List Nat) → Wv × Int × Bool
  | 0, a, n, Z, L => bif wOk n Z L then ((n, Z, LI L), a, true) else badW
  | k + 1, a, _, Z, L => bif !(BRd D a).2.2 then badW else
      let p := ((BRd D a).1.1, (BRd D a).1.2.map Int.toNat)
      WL D k (BRd D a).2.1 p.1 (Z ++ [((zer (lvb p) (lvb p).length : Nat) : Int)]) (L ++ [p])
theorem toNat_ints' (W : List Nat) : (ints W).map Int.toNat = W := by
  unfold ints
  rw [List.map_map]
  exact (List.map_congr_left fun x _ => by simp).trans (List.map_id W)
theorem LI_app (L : List (Int × List Nat)) (p : Int × List Nat) : LI (L ++ [p]) = LI L ++ [(p.1, ints p.2)] := List.map_append
theorem specWaveRead_l (D : List Nat) (hD : ByteL D) (hl : D.length ≤ 1048576) (c1 : Int) (c2 : List Int) (c3 : List (Int × List Int)) : ∀ (d i : Nat) (a n : Int) (Z : List Int) (L : List (Int × List Nat)), 9 - i = d → i ≤ 9 → Z.length = i → L.length = i → (∀ p ∈ L, p.2.length ≤ 100) → (∀ p ∈ L, ∀ x ∈ p.2, x < 2 ^ 64) →
    spec_WaveRead_l0 (ints D) a i c1 c2 c3 n Z (LI L) = some (WL D d a n Z L) := by
  intro d
  induction d with
  | zero =>
    intro i a n Z L h1 h2 h3 h4 h5 h6
    rw [spec_WaveRead_l0.eq, bif_ndec (by omega), specWaveOk_eq n Z L (fun p hp => by have := h5 p hp; omega) h6, Option.bind_some, WL]
    cases wOk n Z L <;> rfl
  | succ d ih =>
    intro i a n Z L h1 h2 h3 h4 h5 h6
    rw [spec_WaveRead_l0.eq, bif_dec (by omega), specBitsRead_eq D hD hl, Option.bind_some, WL]
    cases hb : (BRd D a).2.2 with
    | false => rfl
    | true =>
      obtain ⟨m, W, e1, e2, e3, e4⟩ := BRd_ok hb
      rw [Bool.not_true, bif_false, bif_false]
      simp only [e1, toNat_ints']
      have hbl : (lvb ((m : Int), W)).length = m := by unfold lvb; rw [bts_length, Int.toNat_natCast]
      rw [rank_eq m W e2 (by omega) e4.2.1 (vOk_of e2 e4), Option.bind_some, bif_dec (by simp only [List.length_cons, List.length_nil]; omega), bif_dec (by simp only [List.length_cons, List.length_nil, List.length_map]; omega), wrapS i (by omega)]
      have e5 : (zer (bts m W) m) = zer (lvb ((m : Int), W)) (lvb ((m : Int), W)).length := by rw [hbl]; unfold lvb; rw [Int.toNat_natCast]
      rw [e5, ← LI_app L ((m : Int), W)]
      refine ih (i + 1) _ _ _ _ (by omega) (by omega) (by rw [List.length_append, h3]; rfl) (by rw [List.length_append, h4]; rfl) ?_ ?_
      · intro p hp
        rcases List.mem_append.1 hp with hp | hp
        · exact h5 p hp
        · rw [List.mem_singleton.1 hp]; exact e3
      · intro p hp
        rcases List.mem_append.1 hp with hp | hp
        · exact h6 p hp
        · rw [List.mem_singleton.1 hp]; exact e4.2.1
theorem implWaveRead_l (D : List Nat) (hD : ByteL D) (hl : D.length ≤ 1048576) (c1 : Int) (c2 : List Int) (c3 : List (Int × List Int)) : ∀ (d i : Nat) (a n : Int) (Z : List Int) (L : List (Int × List Nat)), 9 - i = d → i ≤ 9 → Z.length = i → L.length = i → (∀ p ∈ L, p.2.length ≤ 100) → (∀ p ∈ L, ∀ x ∈ p.2, x < 2 ^ 64) →
    impl_WaveRead_l0 (ints D) a i c1 c2 c3 n Z (LI L) = some (WL D d a n Z L) := by
  intro d
  induction d with
  | zero =>
    intro i a n Z L h1 h2 h3 h4 h5 h6
    rw [impl_WaveRead_l0.eq, bif_ndec (by omega), implWaveOk_eq n Z L (fun p hp => by have := h5 p hp; omega) h6, Option.bind_some, WL]
    cases wOk n Z L <;> rfl
  | succ d ih =>
    intro i a n Z L h1 h2 h3 h4 h5 h6
    rw [impl_WaveRead_l0.eq, bif_dec (by omega), implBitsRead_eq D hD hl, Option.bind_some, WL]
    cases hb : (BRd D a).2.2 with
    | false => rfl
    | true =>
      obtain ⟨m, W, e1, e2, e3, e4⟩ := BRd_ok hb
      rw [Bool.not_true, bif_false, bif_false]
      simp only [e1, toNat_ints']
      have hbl : (lvb ((m : Int), W)).length = m := by unfold lvb; rw [bts_length, Int.toNat_natCast]
      have e5 : bts m W = lvb ((m : Int), W) := by unfold lvb; rw [Int.toNat_natCast]
      rw [bitsList_eq m W e2 e4.2.1 e4, Option.bind_some, e5, count_eq _ (by omega), Option.bind_some, bif_dec (by simp only [List.length_cons, List.length_nil]; omega), bif_dec (by simp only [List.length_cons, List.length_nil, List.length_map]; omega), wrapS i (by omega)]
      rw [← LI_app L ((m : Int), W)]
      refine ih (i + 1) _ _ _ _ (by omega) (by omega) (by rw [List.length_append, h3]; rfl) (by rw [List.length_append, h4]; rfl) ?_ ?_
      · intro p hp
        rcases List.mem_append.1 hp with hp | hp
        · exact h5 p hp
        · rw [List.mem_singleton.1 hp]; exact e3
      · intro p hp
        rcases List.mem_append.1 hp with hp | hp
        · exact h6 p hp
        · rw [List.mem_singleton.1 hp]; exact e4.2.1
def WRd (D : List Nat) (a : Int) : Wv × Int × Bool := WL D 9 a 0 [] []
theorem specWaveRead_eq (D : List Nat) (hD : ByteL D) (hl : D.length ≤ 1048576) (a : Int) : spec_WaveRead (ints D) a = some (WRd D a) := by
  rw [spec_WaveRead.eq]
  exact specWaveRead_l D hD hl 0 [] [] 9 0 a 0 [] [] rfl (by omega) rfl rfl (by simp) (by simp)
theorem implWaveRead_eq (D : List Nat) (hD : ByteL D) (hl : D.length ≤ 1048576) (a : Int) : impl_WaveRead (ints D) a = some (WRd D a) := by
  rw [impl_WaveRead.eq]
  exact implWaveRead_l D hD hl 0 [] [] 9 0 a 0 [] [] rfl (by omega) rfl rfl (by simp) (by simp)
theorem sum_le' (k : Nat) : ∀ (L : List Nat), (∀ x ∈ L, x ≤ k) → L.sum ≤ L.length * k
  | [], _ => by simp
  | x :: L, h => by
    have h1 := sum_le' k L fun y hy => h y (List.mem_cons_of_mem _ hy)
    have h2 := h x List.mem_cons_self
    rw [List.sum_cons, List.length_cons, Nat.add_mul]; omega
theorem WL_small (D : List Nat) : ∀ (d : Nat) (a n : Int) (Z : List Int) (L : List (Int × List Nat)), d + Z.length ≤ 9 → d + L.length ≤ 9 → (∀ p ∈ L, p.2.length ≤ 100) → Small (WL D d a n Z L).1.2.1 (WL D d a n Z L).1.2.2 := by
  intro d
  induction d with
  | zero =>
    intro a n Z L h1 h2 h3
    rw [WL]
    cases wOk n Z L with
    | false => exact ⟨by simp [badW], by simp [badW], by simp [badW], by simp [badW]⟩
    | true =>
      rw [bif_true]
      have h4 : ∀ p ∈ LI L, p.2.length ≤ 100 := fun p hp => by
        obtain ⟨q, hq, rfl⟩ := List.mem_map.1 hp
        have := h3 q hq
        simpa using this
      have h5 := sum_le' 100 ((LI L).map fun p => p.2.length) fun x hx => by
        obtain ⟨p, hp, rfl⟩ := List.mem_map.1 hx
        exact h4 p hp
      have h6 : (LI L).length = L.length := List.length_map ..
      rw [List.length_map, h6] at h5
      have h7 : L.length * 100 ≤ 9 * 100 := Nat.mul_le_mul_right _ (by omega)
      exact ⟨by show Z.length ≤ _; omega, by show (LI L).length ≤ _; omega, fun p hp => by have := h4 p hp; omega, by show Z.length + (LI L).length + ((LI L).map fun p => p.2.length).sum ≤ 1048576; omega⟩
  | succ d ih =>
    intro a n Z L h1 h2 h3
    rw [WL]
    cases hb : (BRd D a).2.2 with
    | false => exact ⟨by simp [badW], by simp [badW], by simp [badW], by simp [badW]⟩
    | true =>
      obtain ⟨m, W, e1, e2, e3, e4⟩ := BRd_ok hb
      rw [Bool.not_true, bif_false]
      refine ih _ _ _ _ (by rw [List.length_append]; simp; omega) (by rw [List.length_append]; simp; omega) fun p hp => ?_
      rcases List.mem_append.1 hp with hp | hp
      · exact h3 p hp
      · rw [List.mem_singleton.1 hp]
        simp only [e1, toNat_ints']; exact e3
end Go.Ev.W
