/- The law of SparseList. -/
import Derived.Test.YtmobcecmjpfpiaaEvC
import Derived.Test.YtmobcecmjpfpiaaPp1
import Derived.Test.YtmobcecmjpfpiaaPp3
import Derived.Test.YtmobcecmjpfpiaaMSp5
import Derived.Test.YtmobcecmjpfpiaaLPackBytes
set_option linter.unusedVariables false
set_option linter.unusedSimpArgs false
namespace Go.Ev.W
open Go.Ev

theorem eqSparse_self (a n w pn pb : Int) (P : List Int) (bn : Int) (B : List Int) (hP : P.length < 4611686018427387904) (hB : B.length < 4611686018427387904) : laws_eqSparse (a, n, w, pn, pb, P, bn, B) (a, n, w, pn, pb, P, bn, B) = some true := by
  rw [laws_eqSparse.eq]
  try simp only
  rw [bif_nne rfl, bif_nne rfl, eqPacked_eq _ _ _ _ _ _ _ _ hP, Option.bind_some, decide_eq_true rfl, Bool.not_true, bif_false, eqBits_eq _ _ _ _ hB, Option.bind_some, decide_eq_true rfl]; rfl
theorem law_SparseList (x : SpV) (hx : goodA tab laws_FnExactSparseList.as x) : laws_FnExactSparseList.fn x = some true := by
  obtain ⟨a, n, w, pn, pb, P, bn, B⟩ := x
  show laws_FnExactSparseList (a, n, w, pn, pb, P, bn, B) = some true
  have hgP : AllP (α := Tup [CT.int .u64]) (allL (goodC 4) [CT.int .u64]) P := hx.2.2.2.2.2.1
  have hgB : AllP (α := Tup [CT.int .u64]) (allL (goodC 4) [CT.int .u64]) B := hx.2.2.2.2.2.2.2
  have hmP : P.length ≤ maxLen := hgP.1
  have hmB : B.length ≤ maxLen := hgB.1
  rw [laws_FnExactSparseList.eq, laws_szSparse.eq, laws_szPacked.eq]
  try simp only
  have z1 : laws_szBits (pb, P) 1048576 = some (if (1048576 : Int) - (P.length : Int) < 0 then -1 else 1048576 - (P.length : Int)) := szBits_eq (pb, P) 1048576 (by omega) (by omega) hmP
  rw [z1, Option.bind_some, sz_pass, Option.bind_some, szcase]
  by_cases h : (1048576 : Int) - (P.length : Int) < 0
  · rw [bif_dec h]; rfl
  have z2 : laws_szBits (bn, B) (1048576 - (P.length : Int)) = some (if (1048576 : Int) - (P.length : Int) - (B.length : Int) < 0 then -1 else 1048576 - (P.length : Int) - (B.length : Int)) := szBits_eq (bn, B) _ (by omega) (by omega) hmB
  rw [bif_ndec h, if_neg h, z2, Option.bind_some, sz_pass, Option.bind_some, szcase]
  by_cases h2 : (1048576 : Int) - (P.length : Int) - (B.length : Int) < 0
  · rw [bif_dec h2]
  rw [bif_ndec h2]
  obtain ⟨PW, rfl, hPW⟩ := ints_of P (2 ^ 64) (words_of hgP)
  obtain ⟨BW, rfl, hBW⟩ := ints_of B (2 ^ 64) (words_of hgB)
  rw [ints_len] at h h2
  rw [ints_len] at h2
  have hPl : (ints PW).length = PW.length := ints_len PW
  have hBl : (ints BW).length = BW.length := ints_len BW
  obtain ⟨R, hR, hs, hi⟩ := sparseList_both a n w pn pb PW bn BW (by omega) hPW (by omega) hBW
  have hRl : (ints R).length = R.length := ints_len R
  have heq := eqSparse_self a n w pn pb (ints PW) bn (ints BW) (by omega) (by omega)
  simp (disch := omega) only [laws_toSparse.eq, laws_toPacked.eq, toBits_eq, hs, hi, heq, eqIntS_eq, laws_markSparse.eq, markPacked_eq, markBits_eq, markIntS_eq, heldIntS_eq, laws_FnExactSparseList_l0.eq, Option.bind_some, decide_true, Bool.not_true, cond_false, beq_self_eq_true, bne_self_eq_false, one_lt]
  have e : decide ((1 : Int) + (PW.length : Int) + (BW.length : Int) < 0) = false := decide_eq_false (by omega)
  simp only [hPl, hBl, e, cond_false]
end Go.Ev.W
