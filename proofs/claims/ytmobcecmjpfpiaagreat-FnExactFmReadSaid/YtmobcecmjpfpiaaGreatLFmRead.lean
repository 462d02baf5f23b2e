/- The law of FmRead. -/
import Derived.Test.YtmobcecmjpfpiaaGreatEvC
import Derived.Test.YtmobcecmjpfpiaaGreatPz2
import Derived.Test.YtmobcecmjpfpiaaGreatPz3
import Derived.Test.YtmobcecmjpfpiaaGreatMFRead
import Derived.Test.YtmobcecmjpfpiaaGreatMFm4
set_option linter.unusedVariables false
set_option linter.unusedSimpArgs false
namespace Go.Ev.W
open Go.Ev

theorem heldPk_eq (a b c : Int) (n : Nat) (k : Int) (hk : 0 ≤ k) (h : k + (n : Int) < 4611686018427387904) : laws_heldPacked (a, b, c, markF IntKind.u64.wrap k n) k = some (k + n) := by
  rw [laws_heldPacked.eq, heldBits_eq _ n k hk h, Option.bind_some, bif_ndec (by omega)]
theorem markFm_held (f : FmT) (h : GdFm f) : ∃ (K : Int) (Z : List Int) (L : Lv) (C m s i : List Int),
    laws_markFm f 1 = some (K, (f.1, f.2.1, f.2.2.1, Z, L, C, f.2.2.2.2.2.2.1, m, f.2.2.2.2.2.2.2.2.1, f.2.2.2.2.2.2.2.2.2.1, f.2.2.2.2.2.2.2.2.2.2.1, s, f.2.2.2.2.2.2.2.2.2.2.2.2.1, f.2.2.2.2.2.2.2.2.2.2.2.2.2.1, f.2.2.2.2.2.2.2.2.2.2.2.2.2.2.1, i)) ∧
    laws_heldFm (f.1, f.2.1, f.2.2.1, Z, L, C, f.2.2.2.2.2.2.1, m, f.2.2.2.2.2.2.2.2.1, f.2.2.2.2.2.2.2.2.2.1, f.2.2.2.2.2.2.2.2.2.2.1, s, f.2.2.2.2.2.2.2.2.2.2.2.2.1, f.2.2.2.2.2.2.2.2.2.2.2.2.2.1, f.2.2.2.2.2.2.2.2.2.2.2.2.2.2.1, i) 1 = some K ∧ 0 ≤ K := by
  have hs := h.wv.sum
  have hE := mBE_eq (1 + f.2.2.2.1.length) (lens f.2.2.2.2.1)
  have g1 := h.sm.c
  have g2 := h.sm.m
  have g3 := h.sm.s
  have g4 := h.sm.i
  obtain ⟨a1, a2, a3, a4, a5, a6, a7, a8, a9, a10, a11, a12, a13, a14, a15, a16⟩ := f
  simp only at hs hE g1 g2 g3 g4
  refine ⟨mBE (1 + a4.length) (lens a5) + a6.length + a8.length + a12.length + a16.length, markF id 1 a4.length, mBS (1 + a4.length) (lens a5), markF id (mBE (1 + a4.length) (lens a5)) a6.length, markF IntKind.u64.wrap (mBE (1 + a4.length) (lens a5) + a6.length) a8.length,
    markF IntKind.u64.wrap (mBE (1 + a4.length) (lens a5) + a6.length + a8.length) a12.length, markF IntKind.u64.wrap (mBE (1 + a4.length) (lens a5) + a6.length + a8.length + a12.length) a16.length, ?_, ?_, by omega⟩
  · rw [laws_markFm.eq]
    simp only
    rw [markWave_eq a3 a4 a5 1 (by omega) (by omega) h.wv, Option.bind_some]
    simp only
    rw [markIntS_eq a6 _ (by omega) (by omega), Option.bind_some]
    simp only
    rw [markBits_eq a7 a8 _ (by omega) (by omega), Option.bind_some]
    simp only
    rw [markPacked_eq a9 a10 a11 a12 _ (by omega) (by omega), Option.bind_some]
    simp only
    rw [markPacked_eq a13 a14 a15 a16 _ (by omega) (by omega), Option.bind_some]
  · rw [laws_heldFm.eq]
    simp only
    rw [heldWave_eq a3 a4 a5 1 (by omega) (by omega) h.wv, Option.bind_some, bif_ndec (by omega), heldIntS_eq a6.length _ (by omega) (by omega), Option.bind_some, bif_ndec (by omega), heldBits_eq a7 a8.length _ (by omega) (by omega), Option.bind_some, bif_ndec (by omega), heldPk_eq a9 a10 a11 a12.length _ (by omega) (by omega), Option.bind_some, bif_ndec (by omega), heldPk_eq a13 a14 a15 a16.length _ (by omega) (by omega), Option.bind_some, bif_ndec (by omega)]
theorem gd_of_small (G : FmT) (h : SmFm G 1000) : GdFm G := by
  have h5 := sum_le' 1000 (G.2.2.2.2.1.map fun p => p.2.length) fun x hx => by
    obtain ⟨p, hp, rfl⟩ := List.mem_map.1 hx
    exact h.w p hp
  rw [List.length_map] at h5
  have h7 : G.2.2.2.2.1.length * 1000 ≤ 1000 * 1000 := Nat.mul_le_mul_right _ h.l
  have hz := h.z
  have hl := h.l
  exact ⟨⟨by omega, by omega, fun p hp => by have := h.w p hp; omega, by have := h.c; omega, by have := h.m; omega, by have := h.s; omega, by have := h.i; omega⟩, ⟨by omega, by omega, fun p hp => by have := h.w p hp; omega, by omega⟩⟩
theorem law_FmRead (xs : List Int) (hx : goodA tab laws_FnExactFmRead.as xs) : laws_FnExactFmRead.fn xs = some true := by
  show laws_FnExactFmRead xs = some true
  have hg : AllP (α := Tup [CT.int .u8]) (allL (goodC 4) [CT.int .u8]) xs := hx
  rw [laws_FnExactFmRead.eq]
  by_cases h : (xs.length : Int) > 1048576
  · rw [bif_dec h]
  rw [bif_ndec h]
  obtain ⟨D, rfl, hD⟩ := ints_of xs 256 (bytes_of hg)
  have hl : D.length ≤ 1048576 := by rw [List.length_map] at h; omega
  have hil : (ints D).length = D.length := List.length_map ..
  obtain ⟨G, v, hsp, him, hsm⟩ := fmRd_both D hD hl
  have hgd := gd_of_small G hsm
  have he := eqFm_eq G G hgd
  rw [decide_eq_true rfl] at he
  obtain ⟨K, Z, L, C, m, s, i, hm1, hm2, hm3⟩ := markFm_held G hgd
  have hK : decide (K < 0) = false := decide_eq_false (by omega)
  obtain ⟨a1, a2, a3, a4, a5, a6, a7, a8, a9, a10, a11, a12, a13, a14, a15, a16⟩ := G
  simp (disch := omega) only [toByteS_eq, hsp, him, he, hm1, hm2, hK, eqByteS_eq, markByteS_eq, laws_FnExactFmRead_l0.eq, laws_FnExactFmRead_l1.eq, laws_FnExactFmRead_l2.eq, Option.bind_some, decide_true, Bool.not_true, bif_false, beq_self_eq_true, bne_self_eq_false, one_lt]
end Go.Ev.W
