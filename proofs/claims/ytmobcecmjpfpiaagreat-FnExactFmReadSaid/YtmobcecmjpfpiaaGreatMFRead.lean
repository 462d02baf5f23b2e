/- Frames out of bytes; an index out of bytes: both functions. -/
import Derived.Test.YtmobcecmjpfpiaaGreatEvC
import Derived.Test.YtmobcecmjpfpiaaGreatPz1
import Derived.Test.YtmobcecmjpfpiaaGreatPz2
import Derived.Test.YtmobcecmjpfpiaaGreatMFmRound
import Derived.Test.YtmobcecmjpfpiaaGreatMRead3
import Derived.Test.YtmobcecmjpfpiaaGreatMFmOcc
import Derived.Test.YtmobcecmjpfpiaaGreatLWaveRead
set_option linter.unusedVariables false
set_option linter.unusedSimpArgs false
namespace Go.Ev.W
open Go.Ev

abbrev FrT := (Int × List Int) × Int × Bool
def badF : FrT := ((0, []), 0, false)
def frFin (D : List Nat) (n b : Nat) : FrT :=
  if b + n + 4 ≤ D.length ∧ frame (D.getD 1 0) ((D.take (b + n)).drop b) = D.take (b + n + 4) then (((D.getD 1 0 : Nat), ints ((D.take (b + n)).drop b)), ((b + n + 4 : Nat) : Int), true) else badF
def FRd (D : List Nat) : FrT :=
  if D.length < 2 then badF else if (VRd D 2).2.2 = false then badF else if (VRd D 2).1 > 8000 then badF else frFin D (VRd D 2).1.toNat (VRd D 2).2.1.toNat
theorem frame_size (k : Nat) (B : List Nat) (h : B.length ≤ 8000) : (frame k B).length = 2 + (Var B.length).length + B.length + 4 := by
  unfold frame
  rw [if_pos h, List.length_append]
  unfold frH
  simp only [List.length_append, List.length_cons, List.length_nil]
  simp [four]
theorem frame_head (k : Nat) (B : List Nat) (h : B.length ≤ 8000) : (frame k B).head? = some 90 := by
  unfold frame
  rw [if_pos h]; rfl
theorem clone_eq' (x : List Int) (h : x.length ≤ 1048576) : bytes_Clone x = some x := by
  have e : (bif decide ((([] : List Int).length + x.length) * 1 ≤ 140737488355328) then some (([] : List Int) ++ x) else none) = some x := by
    rw [bif_dec (by simp only [List.length_nil]; omega)]; rfl
  rw [bytes_Clone.eq, e]
  cases x with
  | nil => exact both_self _
  | cons y ys => rfl
theorem td_ints (D : List Nat) (a b : Nat) : ((ints D).take a).drop b = ints ((D.take a).drop b) := by rw [ints_takeN, ints_dropN]
theorem equalB_eq (X Y : List Nat) (hX : ByteL X) (hY : ByteL Y) : bytes_Equal (ints X) (ints Y) = some (decide (X = Y)) := by
  rw [bytes_Equal.eq, strOf_eq X Y hX hY]
theorem frame_bytes (k : Nat) (B : List Nat) (hk : k < 256) (hB : ∀ x ∈ B, x < 256) : ByteL (frame k B) := by
  intro x hx
  unfold frame at hx
  split at hx
  · rcases List.mem_append.1 hx with hx | hx
    · exact frH_bytes k B hk hB x hx
    · simp only [four, List.mem_cons, List.not_mem_nil, or_false] at hx
      omega
  · cases hx
theorem implFrameRead_eq (D : List Nat) (hD : ByteL D) (hl : D.length ≤ 1048576) : impl_FrameRead (ints D) 0 = some (FRd D) := by
  rw [impl_FrameRead.eq, withinN_eq, ints_len, wrapI (x := (D.length : Int) - 2) (by omega) (by omega), Option.bind_some]
  unfold FRd
  by_cases h2 : D.length < 2
  · rw [if_pos h2, decide_eq_true (show (0 : Int) ≤ 0 by omega), decide_eq_false (show ¬ (0 : Int) ≤ (D.length : Int) - 2 by omega)]; rfl
  rw [if_neg h2, decide_eq_true (show (0 : Int) ≤ 0 by omega), decide_eq_true (show (0 : Int) ≤ (D.length : Int) - 2 by omega), Bool.and_true, Bool.not_true, bif_false, show IntKind.i64.wrap ((0 : Int) + 2) = 2 from rfl, implVarRead_eq D hD hl, Option.bind_some]
  cases hv : (VRd D 2).2.2 with
  | false => rfl
  | true =>
    obtain ⟨a', n, b, ha, hn, hb, q1, q2, q3, q4⟩ := VRd_ok (show VRd D 2 = ((VRd D 2).1, (VRd D 2).2.1, true) from Prod.ext rfl (Prod.ext rfl hv))
    rw [Bool.not_true, bif_false, if_neg (by simp), hn, hb, Int.toNat_natCast, Int.toNat_natCast]
    by_cases h3 : (n : Int) > 8000
    · rw [bif_dec h3, if_pos h3]; rfl
    rw [bif_ndec h3, if_neg h3, wrapI (x := (n : Int) + 4) (by omega) (by omega), wrapI (x := (D.length : Int) - (b : Int)) (by omega) (by omega)]
    unfold frFin
    by_cases h4 : b + n + 4 ≤ D.length
    · have h1 : 1 < D.length := by omega
      have hg : D.getD 1 0 = D[1] := by rw [List.getD_eq_getElem?_getD, List.getElem?_eq_getElem h1]; rfl
      have hk := hD _ (List.getElem_mem h1)
      have hB : ByteL ((D.take (b + n)).drop b) := fun x hx => hD x (List.mem_of_mem_take (List.mem_of_mem_drop hx))
      rw [bif_ndec (by omega), impl_FrameRead_l0.eq, show IntKind.i64.wrap ((0 : Int) + 1) = ((1 : Nat) : Int) from rfl, at?_ints _ _ h1, Option.bind_some, wrapI (x := (b : Int) + (n : Int)) (by omega) (by omega), show (b : Int) + (n : Int) = ((b + n : Nat) : Int) by omega, wrapI (x := ((b + n : Nat) : Int) + 4) (by omega) (by omega), show ((b + n : Nat) : Int) + 4 = ((b + n + 4 : Nat) : Int) by omega, ints_len, bif_dec (by omega), Int.toNat_natCast, bif_dec (by omega), Int.toNat_natCast, td_ints, clone_eq' _ (by rw [ints_len, List.length_drop, List.length_take]; omega), Option.bind_some, wrapIn (z := D[1]) (by omega), implFrame_eq _ _ hk hB, Option.bind_some, bif_dec (by omega), Int.toNat_natCast, bif_dec (by omega), show (0 : Int).toNat = 0 from rfl, td_ints, List.drop_zero, equalB_eq _ _ (frame_bytes _ _ hk hB) (fun x hx => hD x (List.mem_of_mem_take hx)), Option.bind_some, hg]
      by_cases h5 : frame D[1] ((D.take (b + n)).drop b) = D.take (b + n + 4)
      · rw [decide_eq_true h5, Bool.not_true, bif_false, if_pos ⟨h4, h5⟩]
      · rw [decide_eq_false h5, Bool.not_false, bif_true, if_neg (fun h => h5 h.2)]; rfl
    · rw [bif_dec (by omega), if_neg (fun h => h4 h.1)]; rfl
theorem specFrameRead_eq (D : List Nat) (hD : ByteL D) (hl : D.length ≤ 1048576) : spec_FrameRead (ints D) 0 = some (FRd D) := by
  rw [spec_FrameRead.eq, bif_ndec (by omega), ints_len, wrapI (x := (D.length : Int) - 2) (by omega) (by omega)]
  unfold FRd
  by_cases h2 : D.length < 2
  · rw [if_pos h2, bif_dec (by omega)]; rfl
  have h0 : 0 < D.length := by omega
  have h1 : 1 < D.length := by omega
  rw [if_neg h2, bif_ndec (by omega), at?_zero, getElem?_ints _ 0 h0, Option.bind_some]
  by_cases h90 : D[0] = 90
  · rw [bif_nne (by omega), spec_FrameRead_l0.eq, show IntKind.i64.wrap ((0 : Int) + 2) = 2 from rfl, specVarRead_eq D hD hl, Option.bind_some]
    cases hv : (VRd D 2).2.2 with
    | false => rfl
    | true =>
      obtain ⟨a', n, b, ha, hn, hb, q1, q2, q3, q4⟩ := VRd_ok (show VRd D 2 = ((VRd D 2).1, (VRd D 2).2.1, true) from Prod.ext rfl (Prod.ext rfl hv))
      have ha2 : a' = 2 := by omega
      rw [hn] at q1
      rw [Bool.not_true, bif_false, if_neg (by simp), hn, hb, Int.toNat_natCast, Int.toNat_natCast]
      by_cases h3 : (n : Int) > 8000
      · rw [bif_dec h3, if_pos h3]; rfl
      rw [bif_ndec h3, if_neg h3, ints_len, wrapI (x := (D.length : Int) - (b : Int)) (by omega) (by omega)]
      unfold frFin
      by_cases h6 : b + n ≤ D.length
      · have hg : D.getD 1 0 = D[1] := by rw [List.getD_eq_getElem?_getD, List.getElem?_eq_getElem h1]; rfl
        have hk := hD _ (List.getElem_mem h1)
        have hB : ByteL ((D.take (b + n)).drop b) := fun x hx => hD x (List.mem_of_mem_take (List.mem_of_mem_drop hx))
        have hBl : ((D.take (b + n)).drop b).length = n := by rw [List.length_drop, List.length_take]; omega
        have hfs := frame_size D[1] ((D.take (b + n)).drop b) (by omega)
        rw [hBl] at hfs
        have hfs' : (frame D[1] ((D.take (b + n)).drop b)).length = b + n + 4 := by omega
        rw [bif_ndec (by omega), spec_FrameRead_l1.eq, show IntKind.i64.wrap ((0 : Int) + 1) = ((1 : Nat) : Int) from rfl, at?_ints _ _ h1, Option.bind_some, wrapI (x := (b : Int) + (n : Int)) (by omega) (by omega), show (b : Int) + (n : Int) = ((b + n : Nat) : Int) by omega, ints_len, bif_dec (by omega), Int.toNat_natCast, bif_dec (by omega), Int.toNat_natCast, td_ints, bif_dec (by rw [ints_len, hBl]; simp only [List.length_nil]; omega), List.nil_append, wrapIn (z := D[1]) (by omega), specFrame_eq _ _ hk hB, Option.bind_some, ints_len, hfs', wrapI (x := (0 : Int) + ((b + n + 4 : Nat) : Int)) (by omega) (by omega), show (0 : Int) + ((b + n + 4 : Nat) : Int) = ((b + n + 4 : Nat) : Int) by omega]
        by_cases h4 : b + n + 4 ≤ D.length
        · rw [bif_ndec (by omega), bif_dec (by omega), Int.toNat_natCast, bif_dec (by omega), show (0 : Int).toNat = 0 from rfl, td_ints, List.drop_zero, strOf_eq _ _ (fun x hx => hD x (List.mem_of_mem_take hx)) (frame_bytes _ _ hk hB), hg]
          by_cases h5 : frame D[1] ((D.take (b + n)).drop b) = D.take (b + n + 4)
          · rw [decide_eq_true h5.symm, Bool.not_true, bif_false, if_pos ⟨h4, h5⟩]
          · rw [decide_eq_false (fun h => h5 h.symm), Bool.not_false, bif_true, if_neg (fun h => h5 h.2)]; rfl
        · rw [bif_dec (by omega), if_neg (fun h => h4 h.1)]; rfl
      · rw [bif_dec (by omega), if_neg (fun h => by omega)]; rfl
  · rw [bif_ne (by omega)]
    have hbad : (if (VRd D 2).2.2 = false then badF else if (VRd D 2).1 > 8000 then badF else frFin D (VRd D 2).1.toNat (VRd D 2).2.1.toNat) = badF := by
      split
      · rfl
      · split
        · rfl
        · rename_i c1 c2
          unfold frFin
          rw [if_neg]
          rintro ⟨c3, c4⟩
          have hBl : ((D.take ((VRd D 2).2.1.toNat + (VRd D 2).1.toNat)).drop (VRd D 2).2.1.toNat).length ≤ 8000 := by rw [List.length_drop, List.length_take]; omega
          have c5 := frame_head (D.getD 1 0) _ hBl
          rw [c4] at c5
          cases D with
          | nil => simp at h0
          | cons d D =>
            rw [List.take_succ_cons] at c5
            simp at c5
            exact h90 c5
    rw [hbad]; rfl
abbrev fmZ : FmT := (0, 0, 0, [], [], [], 0, [], 0, 0, 0, [], 0, 0, 0, [])
theorem specFm_bad (D : List Nat) (hl : D.length ≤ 300) (r : Int) (h : ¬ (1 ≤ r ∧ r ≤ 64)) : spec_FmOf (ints D) r = some (fmZ, false) := by
  rw [spec_FmOf.eq, specTextOk_eq, decide_eq_true hl, Option.bind_some, Bool.not_true, bif_false, specRate_eq, Option.bind_some]
  cases hd : (decide (1 ≤ r) && decide (r ≤ 64)) with
  | false => rfl
  | true =>
    rw [Bool.and_eq_true, decide_eq_true_eq, decide_eq_true_eq] at hd
    exact absurd hd h
/-- What reading an index comes to: nothing, or the index of a text whose bytes these are. -/
theorem fmRd_both (E : List Nat) (hE : ByteL E) (hl : E.length ≤ 1048576) : ∃ (G : FmT) (v : Bool), spec_FmRead (ints E) = some (G, v) ∧ impl_FmRead (ints E) = some (G, v) ∧ SmFm G 1000 := by
  have bad : ∀ s i : Option (FmT × Bool), s = some (fmZ, false) → i = some (fmZ, false) → ∃ (G : FmT) (v : Bool), s = some (G, v) ∧ i = some (G, v) ∧ SmFm G 1000 :=
    fun s i h1 h2 => ⟨fmZ, false, h1, h2, ⟨by simp, by simp, by simp, by simp, by simp, by simp, by simp⟩⟩
  rw [spec_FmRead.eq, impl_FmRead.eq, impl_frameOnly.eq, specFrameRead_eq E hE hl, implFrameRead_eq E hE hl, Option.bind_some, Option.bind_some, ints_len]
  have hv0 := implVarRead_eq [] (by intro x hx; cases hx) (by simp) 0
  rw [show ints [] = ([] : List Int) from rfl] at hv0
  obtain ⟨F, hF⟩ : ∃ F, F = FRd E := ⟨_, rfl⟩
  rw [← hF]
  have hBF : F.2.2 = true → ∃ B : List Nat, F.1.2 = ints B ∧ ByteL B ∧ B.length ≤ 1048576 := by
    intro h
    rw [hF] at h ⊢
    unfold FRd at h ⊢
    split at h
    · cases h
    · rename_i c1
      rw [if_neg c1]
      split at h
      · cases h
      · rename_i c2
        rw [if_neg c2]
        split at h
        · cases h
        · rename_i c3
          rw [if_neg c3]
          unfold frFin at h ⊢
          split at h
          · rename_i c4
            rw [if_pos c4]
            exact ⟨_, rfl, fun x hx => hE x (List.mem_of_mem_take (List.mem_of_mem_drop hx)), by rw [List.length_drop, List.length_take]; omega⟩
          · cases h
  have hFb : F.2.2 = false → F.1.2 = [] := by
    intro h
    rw [hF] at h ⊢
    unfold FRd at h ⊢
    split at h
    · rename_i c1; rw [if_pos c1]; rfl
    · rename_i c1
      rw [if_neg c1]
      split at h
      · rename_i c2; rw [if_pos c2]; rfl
      · rename_i c2
        rw [if_neg c2]
        split at h
        · rename_i c3; rw [if_pos c3]; rfl
        · rename_i c3
          rw [if_neg c3]
          unfold frFin at h ⊢
          split at h
          · cases h
          · rename_i c4; rw [if_neg c4]; rfl
  cases h1 : F.2.2 with
  | false =>
    refine bad _ _ rfl ?_
    rw [bif_false, Option.bind_some]
    simp only [hFb h1]
    rw [hv0, Option.bind_some]; rfl
  | true =>
    obtain ⟨B, b1, b2, b3⟩ := hBF h1
    have hvB := implVarRead_eq B b2 b3 0
    have hvS := specVarRead_eq B b2 b3 0
    rw [Bool.not_true, bif_false, bif_true]
    by_cases h2 : F.2.1 = (E.length : Int)
    · rw [bif_nne h2, bif_eq h2, Option.bind_some]
      simp only [b1]
      rw [hvB, Option.bind_some]
      by_cases h3 : F.1.1 = 1
      · rw [bif_nne h3, h3]
        simp only [beq_self_eq_true, Bool.not_true, bif_false]
        rw [spec_FmRead_l0.eq, hvS, Option.bind_some]
        cases h4 : (VRd B 0).2.2 with
        | false => exact bad _ _ rfl rfl
        | true =>
          rw [Bool.not_true, bif_false, bif_false, implRate_eq, Option.bind_some, specWaveRead_eq B b2 b3, Option.bind_some, impl_FmRead_l0.eq, implWaveRead_eq B b2 b3, Option.bind_some]
          obtain ⟨r, hr⟩ : ∃ r, r = (VRd B 0).1 := ⟨_, rfl⟩
          obtain ⟨Q, hQ⟩ : ∃ Q, Q = WRd B (VRd B 0).2.1 := ⟨_, rfl⟩
          rw [← hr, ← hQ]
          have hWv : ∃ L, Q.1.2.2 = LI L ∧ (∀ p ∈ L, p.2.length ≤ 1048576) ∧ (∀ p ∈ L, ∀ x ∈ p.2, x < 2 ^ 64) := by
            have hg : ∀ (d : Nat) (a n : Int) (Z : List Int) (L : List (Int × List Nat)), (∀ p ∈ L, p.2.length ≤ 100) → (∀ p ∈ L, ∀ x ∈ p.2, x < 2 ^ 64) → ∃ M, (WL B d a n Z L).1.2.2 = LI M ∧ (∀ p ∈ M, p.2.length ≤ 1048576) ∧ (∀ p ∈ M, ∀ x ∈ p.2, x < 2 ^ 64) := by
              intro d
              induction d with
              | zero =>
                intro a n Z L g1 g2
                rw [WL]
                cases wOk n Z L with
                | false => exact ⟨[], rfl, by simp, by simp⟩
                | true => exact ⟨L, rfl, fun p hp => by have := g1 p hp; omega, g2⟩
              | succ d ih =>
                intro a n Z L g1 g2
                rw [WL]
                cases hb : (BRd B a).2.2 with
                | false => exact ⟨[], rfl, by simp, by simp⟩
                | true =>
                  obtain ⟨m, W, e1, e2, e3, e4⟩ := BRd_ok hb
                  rw [Bool.not_true, bif_false]
                  refine ih _ _ _ _ (fun p hp => ?_) (fun p hp => ?_)
                  · rcases List.mem_append.1 hp with hp | hp
                    · exact g1 p hp
                    · rw [List.mem_singleton.1 hp]
                      simp only [e1, toNat_ints']; exact e3
                  · rcases List.mem_append.1 hp with hp | hp
                    · exact g2 p hp
                    · rw [List.mem_singleton.1 hp]
                      simp only [e1, toNat_ints']; exact e4.2.1
            rw [hQ]; exact hg 9 _ _ _ _ (by simp) (by simp)
          obtain ⟨L, l1, l2, l3⟩ := hWv
          have hls := specWaveList_eq Q.1.1 Q.1.2.1 L l2 l3
          have hli : impl_WaveList (Q.1.1, Q.1.2.1, LI L) = some (bif wOk Q.1.1 Q.1.2.1 L then ints (wList Q.1.1.toNat L) else []) := by
            rw [impl_WaveList.eq]
            show (impl_Wave_read (Q.1.1, Q.1.2.1, LI L)).bind _ = _
            rw [waveRead_eq _ _ L l2 l3, Option.bind_some]
            cases wOk Q.1.1 Q.1.2.1 L <;> rfl
          rw [← l1] at hls hli
          have hls' : spec_WaveList Q.1 = _ := hls
          have hli' : impl_WaveList Q.1 = _ := hli
          rw [hls', Option.bind_some, hli', Option.bind_some]
          obtain ⟨X, hX⟩ : ∃ X : List Nat, X = bif wOk Q.1.1 Q.1.2.1 L then wList Q.1.1.toNat L else [] := ⟨_, rfl⟩
          have hXi : (bif wOk Q.1.1 Q.1.2.1 L then ints (wList Q.1.1.toNat L) else []) = ints X := by
            rw [hX]; cases wOk Q.1.1 Q.1.2.1 L <;> rfl
          have hXl : X.length ≤ 1000 := by
            rw [hX]
            cases hw : wOk Q.1.1 Q.1.2.1 L with
            | false => simp
            | true => rw [bif_true, wList_len]; have := wOk_at hw; omega
          rw [hXi]
          have hfz : ∀ (D : List Nat), D.length ≤ 300 → (∀ x ∈ D, x < 256) → ∃ G w, spec_FmOf (ints D) r = some (G, w) := by
            intro D g1 g2
            by_cases hrr : 1 ≤ r ∧ r ≤ 64
            · obtain ⟨m, rfl⟩ : ∃ m : Nat, r = m := ⟨r.toNat, by omega⟩
              exact ⟨_, _, specFm_eq D g1 g2 m (by omega) (by omega)⟩
            · exact ⟨_, _, specFm_bad D g1 r hrr⟩
          have hnil : ∃ G w, spec_FmOf [] r = some (G, w) := hfz [] (by simp) (by simp)
          obtain ⟨G0, w0, hG0⟩ := hnil
          have badT : spec_BwtText (ints X) = some ([], false) → impl_BwtText (ints X) = some ([], false) → ∃ (G : FmT) (v : Bool), ((spec_BwtText (ints X)).bind fun y4 => (spec_FmOf y4.1 r).bind fun y5 => bif !Q.2.2 then some (fmZ, false) else bif !y4.2 then some (fmZ, false) else bif !y5.2 then some (fmZ, false) else (spec_FmBytes y5.1).bind fun y6 => bif !((strOf (y6.map fun x => x)).toList == (strOf ((ints E).map fun x => x)).toList) then some (fmZ, false) else some (y5.1, true)) = some (G, v) ∧
              (bif !(decide (1 ≤ r) && decide (r ≤ 64)) then some (fmZ, false) else bif !Q.2.2 then some (fmZ, false) else (impl_BwtText (ints X)).bind fun y3 => bif !y3.2 then some (fmZ, false) else (impl_fmOf y3.1 r).bind fun y4 => (impl_fmBytes y4).bind fun y5 => (bytes_Equal y5 (ints E)).bind fun y6 => bif !y6 then some (fmZ, false) else some (y4, true)) = some (G, v) ∧ SmFm G 1000 := by
            intro g1 g2
            refine bad _ _ ?_ ?_
            · rw [g1, Option.bind_some, hG0, Option.bind_some]
              cases Q.2.2 <;> rfl
            · rw [g2]
              cases (decide (1 ≤ r) && decide (r ≤ 64)) <;> cases Q.2.2 <;> rfl
          cases hs : sOk (ints X) with
          | false => exact badT (specText_short _ (by rw [ints_len]; omega) hs) (implText_short _ (by rw [ints_len]; omega) hs)
          | true =>
            have hXs := hs
            simp only [sOk, Bool.and_eq_true, decide_eq_true_eq, List.all_eq_true] at hXs
            rw [ints_len] at hXs
            have hXx : ∀ y ∈ X, y ≤ 256 := by
              intro y hy
              have := hXs.2 (y : Int) (List.mem_map.2 ⟨y, hy, rfl⟩)
              omega
            have t1 := specBwtText_eq X hXs.1 hXx
            have t2 := implBwtText_eq X hXs.1 hXx
            cases hbt : (bT X).2 with
            | false =>
              have hb1 : bT X = ([], false) := by
                unfold bT at hbt ⊢
                cases h0 : decide (X.length = 0) with
                | true => rfl
                | false =>
                  rw [h0] at hbt
                  rw [bif_false] at hbt ⊢
                  unfold tFin at hbt ⊢
                  cases h1 : decide (bwt (wk X (X.length - 1) 0 []).1 = X) with
                  | true => rw [h1] at hbt; cases hbt
                  | false => rfl
              rw [hb1] at t1 t2
              exact badT t1 t2
            | true =>
              obtain ⟨D, e1, e2, e3, e4⟩ := bT_true X hXs.1 hXx hbt
              rw [e1] at t1 t2
              rw [t1, t2, Option.bind_some]
              simp only [Option.bind_some, Bool.not_true, bif_false]
              by_cases hrr : 1 ≤ r ∧ r ≤ 64
              · obtain ⟨m, hm⟩ : ∃ m : Nat, r = m := ⟨r.toNat, by omega⟩
                have hfs := specFm_eq D e3 e4 m (by omega) (by omega)
                have hfi := implFm_eq D e3 e4 m (by omega) (by omega)
                rw [← hm] at hfs hfi
                obtain ⟨R, r1, r2, r3⟩ := fmBytes_round D e3 e4 m (by omega) (by omega) (by rw [e2]; exact e1)
                rw [decide_eq_true hrr.1, decide_eq_true hrr.2, Bool.and_true, Bool.not_true, bif_false, hfs, hfi, Option.bind_some, Option.bind_some]
                cases hq : Q.2.2 with
                | false => exact bad _ _ rfl rfl
                | true =>
                  simp only [Bool.not_true, bif_false]
                  rw [r1, r2, Option.bind_some, Option.bind_some, bytes_Equal.eq, Option.bind_some]
                  have hsm := fmV_small D e3 m
                  cases hc : ((strOf ((ints R).map fun x => x)).toList == (strOf ((ints E).map fun x => x)).toList) with
                  | false => exact bad _ _ rfl rfl
                  | true => exact ⟨fmV D m, true, rfl, rfl, hsm⟩
              · have hd : (decide (1 ≤ r) && decide (r ≤ 64)) = false := by
                  cases hd : (decide (1 ≤ r) && decide (r ≤ 64)) with
                  | false => rfl
                  | true =>
                    rw [Bool.and_eq_true, decide_eq_true_eq, decide_eq_true_eq] at hd
                    exact absurd hd hrr
                rw [specFm_bad D e3 r hrr, hd, Option.bind_some]
                refine bad _ _ ?_ rfl
                cases Q.2.2 <;> rfl
      · refine bad _ _ (by rw [bif_ne h3]) ?_
        have hbq : (F.1.1 == 1) = false := by rw [beq_dec, decide_eq_false h3]
        simp only [hbq]; rfl
    · refine bad _ _ (by rw [bif_ne h2]) ?_
      rw [bif_neq h2, Option.bind_some]
      simp only [b1]
      rw [hvB, Option.bind_some]; rfl
end Go.Ev.W
