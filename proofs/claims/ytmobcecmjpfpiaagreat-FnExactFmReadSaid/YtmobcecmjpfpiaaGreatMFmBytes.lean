/- An index as bytes: both functions. -/
import Derived.Test.YtmobcecmjpfpiaaGreatEvC
import Derived.Test.YtmobcecmjpfpiaaGreatPz1
import Derived.Test.YtmobcecmjpfpiaaGreatPz2
import Derived.Test.YtmobcecmjpfpiaaGreatMFm3
import Derived.Test.YtmobcecmjpfpiaaGreatMFrame
import Derived.Test.YtmobcecmjpfpiaaGreatMPackB
import Derived.Test.YtmobcecmjpfpiaaGreatMWaveBack
set_option linter.unusedVariables false
set_option linter.unusedSimpArgs false
namespace Go.Ev.W
open Go.Ev

theorem pOk_pk (w : Nat) (hw : w ≤ 32) (X : List Nat) (hl : X.length ≤ 5000) (h : X.length * w ≤ 5000) : pOk w X.length ((X.length * w : Nat) : Int) (wrds (dgs w X)) = true := by
  have h1 := vOk_wrds (dgs w X) (by rw [dgs_len]; omega)
  rw [dgs_len] at h1
  unfold pOk
  rw [h1, decide_eq_true (show (0 : Int) ≤ w by omega), decide_eq_true (show (w : Int) ≤ 32 by omega), decide_eq_true (show (0 : Int) ≤ (X.length : Int) by omega), decide_eq_true (show (X.length : Int) ≤ 5000 by omega), decide_eq_true (by rw [Nat.mul_comm]; simp)]; rfl
/-- The bytes of packed numbers. -/
def pkB (w : Nat) (X : List Nat) : List Nat := pB w X.length ((X.length * w : Nat) : Int) (wrds (dgs w X))
theorem specPk_eq (w : Nat) (X : List Nat) (hl : X.length * w ≤ 5000) : spec_PackBytes (pk w X) = some (ints (pkB w X)) :=
  specPackBytes_eq _ _ _ _ (by rw [wrds_length, dgs_len]; unfold nw; omega) (wrds_tight _).2.1
theorem implPk_eq (w : Nat) (X : List Nat) (hl : X.length * w ≤ 5000) : impl_PackBytes (pk w X) = some (ints (pkB w X)) :=
  implPackBytes_eq _ _ _ _ (by rw [wrds_length, dgs_len]; unfold nw; omega) (wrds_tight _).2.1
def mkBy (r : Nat) (S : List Nat) : List Nat := bb (mkB r S).length (wrds (mkB r S))
def fmEnds (D : List Nat) (r : Nat) : List Nat := mkBy r (srt D) ++ pkB (wd D.length) (saL r (srt D)) ++ pkB (wd D.length) (isaL r D.length (srt D))
def fmBody (r : Nat) (L : List (Int × List Nat)) (E : List Nat) : List Nat := Var r ++ (L.map fun p => bb p.1 p.2).flatten ++ E
theorem bys_bytes (l : List Bool) : ∀ x ∈ bys l, x < 256 := by
  intro x hx
  unfold bys at hx
  obtain ⟨m, _, rfl⟩ := List.mem_map.1 hx
  exact byt_lt l m
theorem pB_bytes (w n b : Int) (W : List Nat) : ∀ x ∈ pB w n b W, x < 256 := by
  intro x hx
  unfold pB at hx
  cases h : pOk w n b W with
  | false => rw [h] at hx; cases hx
  | true =>
    rw [h, bif_true] at hx
    rcases List.mem_append.1 hx with hx | hx
    · rcases List.mem_append.1 hx with hx | hx
      · exact Var_bytes _ x hx
      · exact Var_bytes _ x hx
    · exact bb_bytes _ _ x hx
theorem lv_bytes (L : List (Int × List Nat)) : ∀ x ∈ (L.map fun p => bb p.1 p.2).flatten, x < 256 := by
  intro x hx
  obtain ⟨l, hl, h2⟩ := List.mem_flatten.1 hx
  obtain ⟨p, _, rfl⟩ := List.mem_map.1 hl
  exact bb_bytes _ _ x h2
theorem fmEnds_bytes (D : List Nat) (r : Nat) : ∀ x ∈ fmEnds D r, x < 256 := by
  intro x hx
  unfold fmEnds at hx
  rcases List.mem_append.1 hx with hx | hx
  · rcases List.mem_append.1 hx with hx | hx
    · exact bb_bytes _ _ x hx
    · exact pB_bytes _ _ _ _ x hx
  · exact pB_bytes _ _ _ _ x hx
theorem fmBody_bytes (r : Nat) (L : List (Int × List Nat)) (E : List Nat) (hE : ∀ x ∈ E, x < 256) : ∀ x ∈ fmBody r L E, x < 256 := by
  intro x hx
  unfold fmBody at hx
  rcases List.mem_append.1 hx with hx | hx
  · rcases List.mem_append.1 hx with hx | hx
    · exact Var_bytes _ x hx
    · exact lv_bytes L x hx
  · exact hE x hx
theorem fmEnds_len (D : List Nat) (r : Nat) (hl : D.length ≤ 300) : (fmEnds D r).length ≤ 2700 := by
  have hs := srt_len' D
  have h1 := bb_len ((mkB r (srt D)).length : Int) (wrds (mkB r (srt D))) (by rw [mkB_len]; omega)
  have h2 := pB_len (wd D.length : Nat) (saL r (srt D)).length (((saL r (srt D)).length * wd D.length : Nat) : Int) (wrds (dgs (wd D.length) (saL r (srt D))))
  have h3 := pB_len (wd D.length : Nat) (isaL r D.length (srt D)).length (((isaL r D.length (srt D)).length * wd D.length : Nat) : Int) (wrds (dgs (wd D.length) (isaL r D.length (srt D))))
  unfold fmEnds mkBy pkB
  simp only [List.length_append]; omega
theorem ints_app3 (a b c : List Nat) : (ints a ++ ints b) ++ ints c = ints (a ++ b ++ c) := by simp only [List.map_append]
/-- The three last parts. -/
theorem specEnds_eq (D : List Nat) (hl : D.length ≤ 300) (r : Nat) : spec_l16Ends (((mkB r (srt D)).length : Int), ints (wrds (mkB r (srt D)))) (pk (wd D.length) (saL r (srt D))) (pk (wd D.length) (isaL r D.length (srt D))) = some (ints (fmEnds D r)) := by
  have hs := srt_len' D
  have hw := wd_le9 (n := D.length) (by omega)
  have hsa := saL_len r (srt D)
  have hd : D.length / r ≤ D.length := Nat.div_le_self _ _
  have h1 := specPk_eq (wd D.length) (saL r (srt D)) (pk_size (by omega) hw)
  have h2 := specPk_eq (wd D.length) (isaL r D.length (srt D)) (pk_size (by rw [isaL_len]; omega) hw)
  have h3 := vOk_wrds (mkB r (srt D)) (by rw [mkB_len]; omega)
  have hle := fmEnds_len D r hl
  have hbb := bb_len ((mkB r (srt D)).length : Int) (wrds (mkB r (srt D))) (by rw [mkB_len]; omega)
  unfold fmEnds at hle
  simp only [List.length_append] at hle
  rw [spec_l16Ends.eq]
  show ((spec_BitsBytes (((mkB r (srt D)).length : Int), ints (wrds (mkB r (srt D))))).bind fun y1 => (spec_PackBytes (pk (wd D.length) (saL r (srt D)))).bind fun y2 => bif decide ((y1.length + y2.length) * 1 ≤ 140737488355328) then (spec_PackBytes (pk (wd D.length) (isaL r D.length (srt D)))).bind fun y3 => bif decide (((y1 ++ y2).length + y3.length) * 1 ≤ 140737488355328) then some ((y1 ++ y2) ++ y3) else none else none) = _
  rw [specBitsBytes_eq _ _ (by rw [wrds_length, mkB_len]; unfold nw; omega) (wrds_tight _).2.1, h3, bif_true, h1, h2]
  simp only [Option.bind_some]
  unfold mkBy at hle
  rw [bif_dec (by simp only [ints_len]; omega), bif_dec (by simp only [List.length_append, ints_len]; omega), ints_app3]; rfl
theorem fmB_len (r : Nat) (n : Int) (Z : List Int) (L : List (Int × List Nat)) (h : wOk n Z L = true) : ((L.map fun p => bb p.1 p.2).flatten).length ≤ 6300 := by
  obtain ⟨_, _, _, h4, h5⟩ := wOk_at h
  have := wB_parts L fun p hp => (h5 p hp).1
  omega
theorem fmBytes_both (f : FmT) (D : List Nat) (h1 : FmOkV f D) (h2 : FmW f D) : ∃ R : List Nat, spec_l16Ends (f.2.2.2.2.2.2.1, f.2.2.2.2.2.2.2.1) (f.2.2.2.2.2.2.2.2.1, f.2.2.2.2.2.2.2.2.2.1, f.2.2.2.2.2.2.2.2.2.2.1, f.2.2.2.2.2.2.2.2.2.2.2.1) f.2.2.2.2.2.2.2.2.2.2.2.2 = some (ints (fmEnds D f.2.1.toNat)) ∧
    ((spec_VarOf f.2.1).bind fun y2 => (spec_WaveBytes (f.2.2.1, f.2.2.2.1, f.2.2.2.2.1)).bind fun y3 => bif decide ((y2.length + y3.length) * 1 ≤ 140737488355328) then
        (spec_l16Ends (f.2.2.2.2.2.2.1, f.2.2.2.2.2.2.2.1) (f.2.2.2.2.2.2.2.2.1, f.2.2.2.2.2.2.2.2.2.1, f.2.2.2.2.2.2.2.2.2.2.1, f.2.2.2.2.2.2.2.2.2.2.2.1) f.2.2.2.2.2.2.2.2.2.2.2.2).bind fun y4 =>
        bif decide (((y2 ++ y3).length + y4.length) * 1 ≤ 140737488355328) then (spec_FrameOf ((1 : Int), (y2 ++ y3) ++ y4)).bind fun y5 => some y5 else none else none) = some (ints R) ∧ impl_fmBytes f = some (ints R) ∧ R.length ≤ 8020 := by
  obtain ⟨d1, d2, d3, d4, d5⟩ := h1
  obtain ⟨⟨L, l1, l2, l3, l4⟩, _⟩ := h2
  obtain ⟨r, hr⟩ : ∃ r : Nat, f.2.1 = r := ⟨f.2.1.toNat, by omega⟩
  rw [hr, Int.toNat_natCast] at d5 ⊢
  have hE : spec_l16Ends (f.2.2.2.2.2.2.1, f.2.2.2.2.2.2.2.1) (f.2.2.2.2.2.2.2.2.1, f.2.2.2.2.2.2.2.2.2.1, f.2.2.2.2.2.2.2.2.2.2.1, f.2.2.2.2.2.2.2.2.2.2.2.1) f.2.2.2.2.2.2.2.2.2.2.2.2 = some (ints (fmEnds D r)) := by
    rw [d5]; exact specEnds_eq D d1 r
  have hs := srt_len' D
  have hw := wd_le9 (n := D.length) (by omega)
  have hsa := saL_len r (srt D)
  have hd : D.length / r ≤ D.length := Nat.div_le_self _ _
  have hM : impl_bitsBytes (f.2.2.2.2.2.2.1, f.2.2.2.2.2.2.2.1) = some (ints (mkBy r (srt D))) := by
    rw [d5]; exact bitsBytes_eq (mkB r (srt D)).length _ (by rw [mkB_len]; omega) (wrds_tight _)
  have hS : impl_PackBytes (f.2.2.2.2.2.2.2.2.1, f.2.2.2.2.2.2.2.2.2.1, f.2.2.2.2.2.2.2.2.2.2.1, f.2.2.2.2.2.2.2.2.2.2.2.1) = some (ints (pkB (wd D.length) (saL r (srt D)))) := by
    rw [d5]; exact implPk_eq (wd D.length) (saL r (srt D)) (pk_size (by omega) hw)
  have hI : impl_PackBytes f.2.2.2.2.2.2.2.2.2.2.2.2 = some (ints (pkB (wd D.length) (isaL r D.length (srt D)))) := by
    rw [d5]; exact implPk_eq (wd D.length) (isaL r D.length (srt D)) (pk_size (by rw [isaL_len]; omega) hw)
  have hWs : spec_WaveBytes (f.2.2.1, f.2.2.2.1, f.2.2.2.2.1) = some (ints ((L.map fun p => bb p.1 p.2).flatten)) := by
    rw [l1, specWaveBytes_eq _ _ L l2 l3]
    unfold wB; rw [l4, bif_true]
  obtain ⟨_, _, _, w4, w5⟩ := wOk_at l4
  have hWi : impl_waveBytes (f.2.2.1, f.2.2.2.1, f.2.2.2.2.1) = some (ints ((L.map fun p => bb p.1 p.2).flatten)) := by
    rw [l1]; exact implwaveBytes_eq _ _ L w4 l3 (fun p hp => (w5 p hp).1)
  have v1 := Var_len r
  have v2 := fmB_len r _ _ L l4
  have v3 := fmEnds_len D r d1
  have hbb := fmBody_bytes r L (fmEnds D r) (fmEnds_bytes D r)
  refine ⟨frame 1 (fmBody r L (fmEnds D r)), hE, ?_, ?_, frame_len _ _⟩
  · rw [specVarOf_eq, Option.bind_some, hWs, Option.bind_some, bif_dec (by simp only [ints_len]; omega), hE, Option.bind_some, bif_dec (by simp only [List.length_append, ints_len]; omega), ints_app3]
    have := specFrame_eq 1 (fmBody r L (fmEnds D r)) (by omega) hbb
    rw [show ((1 : Nat) : Int) = 1 from rfl] at this
    unfold fmBody at this ⊢
    rw [this]; rfl
  · rw [impl_fmBytes.eq, hr, implVarOf_eq, Option.bind_some, hWi, Option.bind_some, hM, Option.bind_some, hS, Option.bind_some]
    show ((impl_PackBytes f.2.2.2.2.2.2.2.2.2.2.2.2).bind _) = _
    unfold fmEnds at v3
    simp only [List.length_append] at v3
    rw [hI, Option.bind_some, concat_eq _ (by simp) (by simp only [List.map_cons, List.map_nil, List.sum_cons, List.sum_nil, List.length_map]; omega), Option.bind_some]
    have e : ([ints (Var r), ints ((L.map fun p => bb p.1 p.2).flatten), ints (mkBy r (srt D)), ints (pkB (wd D.length) (saL r (srt D))), ints (pkB (wd D.length) (isaL r D.length (srt D)))] : List (List Int)).flatten = ints (fmBody r L (fmEnds D r)) := by
      unfold fmBody fmEnds
      simp only [List.flatten_cons, List.flatten_nil, List.append_nil, List.map_append, List.append_assoc]
    rw [e]
    have := implFrame_eq 1 (fmBody r L (fmEnds D r)) (by omega) hbb
    rw [show ((1 : Nat) : Int) = 1 from rfl] at this
    rw [this]; rfl
end Go.Ev.W
