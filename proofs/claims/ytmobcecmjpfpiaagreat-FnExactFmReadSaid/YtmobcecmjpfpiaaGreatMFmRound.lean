/- The index of a text is valid. -/
import Derived.Test.YtmobcecmjpfpiaaGreatEvC
import Derived.Test.YtmobcecmjpfpiaaGreatPz1
import Derived.Test.YtmobcecmjpfpiaaGreatPz2
import Derived.Test.YtmobcecmjpfpiaaGreatMFmBytes
set_option linter.unusedVariables false
set_option linter.unusedSimpArgs false
namespace Go.Ev.W
open Go.Ev

theorem wLv_words64 (X : List Nat) : ∀ (d l : Nat) (Y : List Nat), ∀ p ∈ (wLv d l Y).2, ∀ x ∈ p.2, x < 2 ^ 64
  | 0, l, Y, p, h, _, _ => by cases h
  | d + 1, l, Y, p, h, x, hx => by
    rw [wLv] at h
    rcases List.mem_cons.1 h with rfl | h
    · exact (wrds_tight (wbs l Y)).2.1 x hx
    · exact wLv_words64 X d (l + 1) _ p h x hx
theorem fmV_ok (D : List Nat) (h1 : D.length ≤ 300) (h2 : ∀ x ∈ D, x < 256) (r : Nat) (h3 : 1 ≤ r) (h4 : r ≤ 64) (hb : bT (bwt D) = (ints D, true)) : FmOkV (fmV D r) D ∧ FmW (fmV D r) D := by
  have hl := bwt_len D
  have hle := bwt_le D h2
  have e : (fmV D r).2.1 = (r : Int) := rfl
  refine ⟨⟨h1, h2, by rw [e]; omega, by rw [e]; omega, by rw [e, Int.toNat_natCast]⟩, ⟨(wLv 9 0 (bwt D)).2, rfl, fun p hp => ?_, wLv_words64 [] 9 0 (bwt D), ?_⟩, hb⟩
  · rw [wLv_words 9 0 (bwt D) p hp]; unfold nw; omega
  · exact (wave_back (bwt D) (by omega) fun x hx => by have := hle x hx; omega).1
theorem fmV_words (D : List Nat) (r : Nat) : ∀ p ∈ (fmV D r).2.2.2.2.1, ∀ x ∈ p.2, 0 ≤ x ∧ x < ((2 ^ 64 : Nat) : Int) := by
  intro p hp x hx
  have hp' : p ∈ LI (wLv 9 0 (bwt D)).2 := hp
  obtain ⟨q, hq, rfl⟩ := List.mem_map.1 hp'
  obtain ⟨y, hy, rfl⟩ := List.mem_map.1 hx
  have := wLv_words64 [] 9 0 (bwt D) q hq y hy
  omega
theorem fmText_round (D : List Nat) (h1 : D.length ≤ 300) (h2 : ∀ x ∈ D, x < 256) (r : Nat) (h3 : 1 ≤ r) (h4 : r ≤ 64) (hb : bT (bwt D) = (ints D, true)) : spec_l09Text (fmV D r) = some (ints D, true) := by
  have hl := bwt_len D
  have hle := bwt_le D h2
  have hwb := wave_back (bwt D) (by omega) fun x hx => by have := hle x hx; omega
  have hlist := specWaveList_eq ((bwt D).length : Int) (ints (wLv 9 0 (bwt D)).1) (wLv 9 0 (bwt D)).2 (fun p hp => by rw [wLv_words 9 0 (bwt D) p hp]; unfold nw; omega) (wLv_words64 [] 9 0 (bwt D))
  rw [hwb.1, Int.toNat_natCast, hwb.2, bif_true] at hlist
  have hsm := fmV_small D h1 r
  rw [spec_l09Text.eq, specRate_eq]
  show (some (decide ((1 : Int) ≤ (r : Int)) && decide ((r : Int) ≤ 64))).bind _ = _
  rw [decide_eq_true (show (1 : Int) ≤ r by omega), decide_eq_true (show (r : Int) ≤ 64 by omega), Option.bind_some]
  have e3 : (fmV D r).2.2.1 = ((bwt D).length : Int) := rfl
  rw [Bool.and_true, Bool.not_true, bif_false, e3, bif_ndec (by omega), spec_l09Text_l0.eq]
  show ((spec_WaveList (((bwt D).length : Int), ints (wLv 9 0 (bwt D)).1, LI (wLv 9 0 (bwt D)).2)).bind _) = _
  rw [hlist, Option.bind_some, specBwtText_eq _ (by omega) hle, hb, Option.bind_some, Bool.not_true, bif_false]
  have hfs := specFm_eq D h1 h2 r (by omega) h4
  have e2 : (fmV D r).2.1 = (r : Int) := rfl
  simp only [e2, hfs, Option.bind_some, bne_self_eq_false, bif_false]
  rw [same_eq _ _ (by have := hsm.c; omega), l03Same_eq _ _ _ _ (by have := hsm.m; omega), l09Packs_eq _ _ _ _ _ _ _ _ (by have := hsm.s; omega), l09Packs_eq _ _ _ _ _ _ _ _ (by have := hsm.i; omega)]
  simp only [Option.bind_some, decide_true, Bool.not_true, bif_false]
theorem fmBytes_round (D : List Nat) (h1 : D.length ≤ 300) (h2 : ∀ x ∈ D, x < 256) (r : Nat) (h3 : 1 ≤ r) (h4 : r ≤ 64) (hb : bT (bwt D) = (ints D, true)) : ∃ R : List Nat, spec_FmBytes (fmV D r) = some (ints R) ∧ impl_fmBytes (fmV D r) = some (ints R) ∧ R.length ≤ 8020 := by
  obtain ⟨k1, k2⟩ := fmV_ok D h1 h2 r h3 h4 hb
  obtain ⟨R, _, r1, r2, r3⟩ := fmBytes_both (fmV D r) D k1 k2
  have hok1 : spec_FmOk (fmV D r) = some true := by
    rw [spec_FmOk.eq]
    show (spec_l09Text (fmV D r)).bind _ = _
    rw [fmText_round D h1 h2 r h3 h4 hb]; rfl
  refine ⟨R, ?_, r2, r3⟩
  rw [spec_FmBytes.eq]
  show (spec_FmOk (fmV D r)).bind _ = _
  rw [hok1, Option.bind_some, Bool.not_true, bif_false]
  exact r1
end Go.Ev.W
