/- The index of a text: both functions. -/
import Derived.Test.YtmobcecmjpfpiaaEvC
import Derived.Test.YtmobcecmjpfpiaaPp4
import Derived.Test.YtmobcecmjpfpiaaMFm1
set_option linter.unusedVariables false
set_option linter.unusedSimpArgs false
namespace Go.Ev.W
open Go.Ev

abbrev FmT := Int × Int × Int × (List Int) × (List (Int × (List Int))) × (List Int) × Int × (List Int) × Int × Int × Int × (List Int) × Int × Int × Int × (List Int)
abbrev FmT4 := Int × Int × Int × (List Int)
abbrev FmT8 := Int × Int × Int × (List Int) × FmT4
abbrev FmT11 := (List Int) × Int × (List Int) × FmT8
instance decFm4 : DecidableEq FmT4 := inferInstance
instance decFm8 : DecidableEq FmT8 := inferInstance
instance decFm11 : DecidableEq FmT11 := inferInstance
instance decFm12 : DecidableEq ((List (Int × (List Int))) × FmT11) := @instDecidableEqProd _ _ inferInstance decFm11
instance decFm13 : DecidableEq ((List Int) × (List (Int × (List Int))) × FmT11) := @instDecidableEqProd _ _ inferInstance decFm12
instance decFm : DecidableEq FmT := @instDecidableEqProd Int _ inferInstance (@instDecidableEqProd Int _ inferInstance (@instDecidableEqProd Int _ inferInstance decFm13))
def fmV (D : List Nat) (r : Nat) : FmT :=
  ((D.length : Int), (r : Int), ((bwt D).length : Int), ints (wLv 9 0 (bwt D)).1, LI (wLv 9 0 (bwt D)).2, ints ((List.range 258).map (ltc (bwt D))), ((mkB r (srt D)).length : Int), ints (wrds (mkB r (srt D))),
    (pk (wd D.length) (saL r (srt D))).1, (pk (wd D.length) (saL r (srt D))).2.1, (pk (wd D.length) (saL r (srt D))).2.2.1, (pk (wd D.length) (saL r (srt D))).2.2.2, pk (wd D.length) (isaL r D.length (srt D)))
theorem srt_mem (D : List Nat) (x : Nat) : x ∈ srt D ↔ x ≤ D.length := by
  have := (srt_SS D).mem x
  simpa using this
theorem srt_nodup (D : List Nat) : (srt D).Nodup := (srt_SS D).nodup
theorem bwt_le (D : List Nat) (hD : ∀ x ∈ D, x < 256) : ∀ x ∈ bwt D, x ≤ 256 := by
  intro x hx
  unfold bwt at hx
  obtain ⟨s, _, rfl⟩ := List.mem_map.1 hx
  unfold bwS
  split
  · omega
  · rw [List.getD_eq_getElem?_getD]
    cases h : D[s - 1]? with
    | none => simp
    | some y =>
      have := hD y (List.mem_of_getElem? h)
      simp; omega
theorem mk_snoc (r : Nat) (S : List Nat) (i : Nat) (hi : i < S.length) : mkB r (S.take (i + 1)) = mkB r (S.take i) ++ [isM r S[i]] := by
  unfold mkB; rw [take_snoc S i hi, List.map_append]; rfl
theorem sa_snoc (r : Nat) (S : List Nat) (i : Nat) (hi : i < S.length) : saL r (S.take (i + 1)) = saL r (S.take i) ++ (if isM r S[i] then [S[i] / r] else []) := by
  unfold saL
  rw [take_snoc S i hi, List.filter_append, List.map_append]
  cases h : isM r S[i] <;> simp [h]
theorem isM_beq (r s : Nat) : (((s : Int).tmod (r : Int)) == (0 : Int)) = isM r s := by
  have e : (s : Int).tmod (r : Int) = ((s % r : Nat) : Int) := rfl
  rw [e, beq_dec]
  unfold isM
  rw [Bool.eq_iff_iff, decide_eq_true_eq, decide_eq_true_eq]; omega
theorem isa_snoc (r : Nat) (S : List Nat) (j : Nat) : (List.range (j + 1)).map (fun j => S.idxOf (j * r)) = (List.range j).map (fun j => S.idxOf (j * r)) ++ [S.idxOf (j * r)] := by
  rw [List.range_succ, List.map_append]; rfl
theorem sa_lt (D : List Nat) (r : Nat) (h : D.length < 302) : ∀ x ∈ saL r (srt D), x < 2 ^ wd D.length := by
  intro x hx
  have h2 := wd_lt D.length (by omega)
  unfold saL at hx
  obtain ⟨s, hs, rfl⟩ := List.mem_map.1 hx
  have h3 := (srt_mem D s).1 (List.mem_filter.1 hs).1
  have h4 : s / r ≤ s := Nat.div_le_self _ _
  omega
theorem isa_lt (D : List Nat) (r : Nat) (h : D.length < 302) (h1 : 0 < r) : ∀ x ∈ isaL r D.length (srt D), x < 2 ^ wd D.length := by
  intro x hx
  have h2 := wd_lt D.length (by omega)
  unfold isaL at hx
  obtain ⟨j, hj, rfl⟩ := List.mem_map.1 hx
  have h3 : j * r ≤ D.length := (Nat.le_div_iff_mul_le h1).1 (by have := List.mem_range.1 hj; omega)
  have h4 := List.idxOf_lt_length_of_mem ((srt_mem D (j * r)).2 h3)
  rw [srt_len'] at h4
  omega
theorem pk_size {n w : Nat} (h : n ≤ 301) (h2 : w ≤ 9) : n * w ≤ 5000 := by
  have := Nat.mul_le_mul h h2
  omega

/-! #### the program's -/
/-! #### the reference's -/
theorem specBool_eq (b : Bool) : spec_l01Bool b = some (bint b) := by rw [spec_l01Bool.eq]; cases b <;> rfl
theorem specTextOk_eq (D : List Nat) : spec_TextOk (ints D) = some (decide (D.length ≤ 300)) := by
  rw [spec_TextOk.eq, ints_len]
  congr 1
  rw [Bool.eq_iff_iff, decide_eq_true_eq, decide_eq_true_eq]; omega
end Go.Ev.W
