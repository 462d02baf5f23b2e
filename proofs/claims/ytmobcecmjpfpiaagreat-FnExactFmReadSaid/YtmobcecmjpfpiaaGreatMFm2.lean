/- The index of a text: both functions. -/
import Derived.Test.YtmobcecmjpfpiaaGreatEvC
import Derived.Test.YtmobcecmjpfpiaaGreatPz1
import Derived.Test.YtmobcecmjpfpiaaGreatPz2
import Derived.Test.YtmobcecmjpfpiaaGreatMFm1
set_option linter.unusedVariables false
set_option linter.unusedSimpArgs false
namespace Go.Ev.W
open Go.Ev

abbrev FmT := Int × Int × Int × (List Int) × (List (Int × (List Int))) × (List Int) × Int × (List Int) × Int × Int × Int × (List Int) × Int × Int × Int × (List Int)
abbrev FmT4 := Int × Int × Int × (List Int)
abbrev FmT8 := Int × Int × Int × (List Int) × FmT4
abbrev FmT11 := (List Int) × Int × (List Int) × FmT8
instance decFm4 : DecidableEq FmT4 := inferInstance
instance decFm8 : DecidableEq FmT8 := inferInstance
instance decFm11 : DecidableEq FmT11 := inferInstance
instance decFm12 : DecidableEq ((List (Int × (List Int))) × FmT11) := @instDecidableEqProd _ _ inferInstance decFm11
instance decFm13 : DecidableEq ((List Int) × (List (Int × (List Int))) × FmT11) := @instDecidableEqProd _ _ inferInstance decFm12
instance decFm : DecidableEq FmT := @instDecidableEqProd Int _ inferInstance (@instDecidableEqProd Int _ inferInstance (@instDecidableEqProd Int _ inferInstance decFm13))
def fmV (D : List Nat) (r : Nat) : FmT :=
  ((D.length : Int), (r : Int), ((bwt D).length : Int), ints (wLv 9 0 (bwt D)).1, LI (wLv 9 0 (bwt D)).2, ints ((List.range 258).map (ltc (bwt D))), ((mkB r (srt D)).length : Int), ints (wrds (mkB r (srt D))),
    (pk (wd D.length) (saL r (srt D))).1, (pk (wd D.length) (saL r (srt D))).2.1, (pk (wd D.length) (saL r (srt D))).2.2.1, (pk (wd D.length) (saL r (srt D))).2.2.2, pk (wd D.length) (isaL r D.length (srt D)))
theorem srt_mem (D : List Nat) (x : Nat) : x ∈ srt D ↔ x ≤ D.length := by
  have := (srt_SS D).mem x
  simpa using this
theorem srt_nodup (D : List Nat) : (srt D).Nodup := (srt_SS D).nodup
theorem bwt_le (D : List Nat) (hD : ∀ x ∈ D, x < 256) : ∀ x ∈ bwt D, x ≤ 256 := by
  intro x hx
  unfold bwt at hx
  obtain ⟨s, _, rfl⟩ := List.mem_map.1 hx
  unfold bwS
  split
  · omega
  · rw [List.getD_eq_getElem?_getD]
    cases h : D[s - 1]? with
    | none => simp
    | some y =>
      have := hD y (List.mem_of_getElem? h)
      simp; omega
theorem mk_snoc (r : Nat) (S : List Nat) (i : Nat) (hi : i < S.length) : mkB r (S.take (i + 1)) = mkB r (S.take i) ++ [isM r S[i]] := by
  unfold mkB; rw [take_snoc S i hi, List.map_append]; rfl
theorem sa_snoc (r : Nat) (S : List Nat) (i : Nat) (hi : i < S.length) : saL r (S.take (i + 1)) = saL r (S.take i) ++ (if isM r S[i] then [S[i] / r] else []) := by
  unfold saL
  rw [take_snoc S i hi, List.filter_append, List.map_append]
  cases h : isM r S[i] <;> simp [h]
theorem isM_beq (r s : Nat) : (((s : Int).tmod (r : Int)) == (0 : Int)) = isM r s := by
  have e : (s : Int).tmod (r : Int) = ((s % r : Nat) : Int) := rfl
  rw [e, beq_dec]
  unfold isM
  rw [Bool.eq_iff_iff, decide_eq_true_eq, decide_eq_true_eq]; omega
theorem isa_snoc (r : Nat) (S : List Nat) (j : Nat) : (List.range (j + 1)).map (fun j => S.idxOf (j * r)) = (List.range j).map (fun j => S.idxOf (j * r)) ++ [S.idxOf (j * r)] := by
  rw [List.range_succ, List.map_append]; rfl
theorem sa_lt (D : List Nat) (r : Nat) (h : D.length < 302) : ∀ x ∈ saL r (srt D), x < 2 ^ wd D.length := by
  intro x hx
  have h2 := wd_lt D.length (by omega)
  unfold saL at hx
  obtain ⟨s, hs, rfl⟩ := List.mem_map.1 hx
  have h3 := (srt_mem D s).1 (List.mem_filter.1 hs).1
  have h4 : s / r ≤ s := Nat.div_le_self _ _
  omega
theorem isa_lt (D : List Nat) (r : Nat) (h : D.length < 302) (h1 : 0 < r) : ∀ x ∈ isaL r D.length (srt D), x < 2 ^ wd D.length := by
  intro x hx
  have h2 := wd_lt D.length (by omega)
  unfold isaL at hx
  obtain ⟨j, hj, rfl⟩ := List.mem_map.1 hx
  have h3 : j * r ≤ D.length := (Nat.le_div_iff_mul_le h1).1 (by have := List.mem_range.1 hj; omega)
  have h4 := List.idxOf_lt_length_of_mem ((srt_mem D (j * r)).2 h3)
  rw [srt_len'] at h4
  omega
theorem pk_size {n w : Nat} (h : n ≤ 301) (h2 : w ≤ 9) : n * w ≤ 5000 := by
  have := Nat.mul_le_mul h h2
  omega

/-! #### the program's -/
theorem implFm_l1 (D : List Nat) (hl : D.length ≤ 300) (r : Nat) (h1 : 0 < r) (h2 : r ≤ 64) (v3 : Int) (v4 : Int) (v5 : Int) (v6 : Int) (v7 : Int) (v8 : Int) (v9 : Int) (v10 : Int) (v11 : Int) (v12 : Int) (v13 : List Int) (v14 : List (Int × (List Int))) (v15 : List Int) (v16 : List Int) (v17 : List Int) (v18 : List Int) (v19 : Int) (v20 : Int) (v21 : Int) (v22 : Int) (v23 : Int) (v24 : Int) (v25 : Int) (v26 : Int) (v27 : Int) (v28 : Int) (v29 : List Int) (v30 : List (Int × (List Int))) (v31 : List Int) (v32 : List Int) (v33 : List Int) (v34 : List Int) : ∀ (d j : Nat), D.length / r + 1 - j = d → j ≤ D.length / r + 1 →
    impl_fmOf_l1 (ints D) ((r : Int)) (((j * r : Nat) : Int)) v3 v4 v5 v6 v7 v8 v9 v10 v11 v12 v13 v14 v15 v16 v17 v18 v19 v20 v21 v22 v23 v24 v25 v26 v27 v28 v29 v30 v31 v32 v33 v34 (bints (mkB r (srt D))) (ints (saL r (srt D))) (ints ((List.range j).map fun j => (srt D).idxOf (j * r))) (ints (inv (srt D))) =
      some (v19, v20, v21, v29, v30, v31, ((mkB r (srt D)).length : Int), ints (wrds (mkB r (srt D))), (pk (wd D.length) (saL r (srt D))).1, (pk (wd D.length) (saL r (srt D))).2.1, (pk (wd D.length) (saL r (srt D))).2.2.1, (pk (wd D.length) (saL r (srt D))).2.2.2, pk (wd D.length) (isaL r D.length (srt D)))
  | 0, j, h3, h4 => by
    obtain rfl : j = D.length / r + 1 := by omega
    have h5 : D.length < (D.length / r + 1) * r := by
      have := Nat.div_add_mod D.length r
      have := Nat.mod_lt D.length h1
      rw [Nat.add_mul, Nat.mul_comm (D.length / r)]; omega
    have hd : D.length / r ≤ D.length := Nat.div_le_self _ _
    have hs := srt_len' D
    have hsa := saL_len r (srt D)
    have hw := wd_le9 (n := D.length) (by omega)
    rw [impl_fmOf_l1.eq, ints_len, bif_ndec (by omega), implBitsOf_eq _ (by rw [mkB_len]; omega), Option.bind_some, implWidth_eq _ (by omega), Option.bind_some, implPack_eq _ (by omega) _ (by omega) (pk_size (by omega) hw) (sa_lt D r (by omega)), Option.bind_some, Option.bind_some]
    have e : (List.range (D.length / r + 1)).map (fun j => (srt D).idxOf (j * r)) = isaL r D.length (srt D) := rfl
    rw [e, implPack_eq _ (by omega) _ (by rw [isaL_len]; omega) (pk_size (by rw [isaL_len]; omega) hw) (isa_lt D r (by omega) h1)]; rfl
  | d + 1, j, h3, h4 => by
    have h5 : j * r ≤ D.length := (Nat.le_div_iff_mul_le h1).1 (by omega)
    have hs := srt_len' D
    have hd : D.length / r ≤ D.length := Nat.div_le_self _ _
    have e2 : ((j * r : Nat) : Int) + (r : Int) = (((j + 1) * r : Nat) : Int) := by rw [Nat.add_mul]; omega
    rw [impl_fmOf_l1.eq, ints_len, bif_dec (by omega)]
    simp only [at?_nat, Int.toNat_natCast, List.getElem?_map, inv_at (srt D) (j * r) (by omega), Option.map_some, Option.bind_some]
    rw [bif_dec (by simp only [List.length_cons, List.length_nil, List.length_map, List.length_range]; omega), e2, wrapI (by omega) (by rw [Nat.add_mul]; omega), ints_snoc, ← isa_snoc]
    exact implFm_l1 D hl r h1 h2 v3 v4 v5 v6 v7 v8 v9 v10 v11 v12 v13 v14 v15 v16 v17 v18 v19 v20 v21 v22 v23 v24 v25 v26 v27 v28 v29 v30 v31 v32 v33 v34 d (j + 1) (by omega) (by omega)
theorem implFm_l0 (D : List Nat) (hl : D.length ≤ 300) (r : Nat) (h1 : 0 < r) (h2 : r ≤ 64) (v4 : Int) (v5 : Int) (v6 : Int) (v7 : Int) (v8 : Int) (v9 : Int) (v10 : Int) (v11 : Int) (v12 : Int) (v13 : Int) (v14 : List Int) (v15 : List (Int × (List Int))) (v16 : List Int) (v17 : List Int) (v18 : List Int) (v19 : List Int) (v21 : Int) (v22 : Int) (v23 : Int) (v24 : Int) (v25 : Int) (v26 : Int) (v27 : Int) (v28 : Int) (v29 : Int) (v30 : Int) (v31 : List Int) (v32 : List (Int × (List Int))) (v33 : List Int) (v34 : List Int) (v35 : List Int) (v36 : List Int) : ∀ (d i : Nat), (srt D).length - i = d → i ≤ (srt D).length →
    impl_fmOf_l0 (ints D) ((r : Int)) (((srt D).length : Int)) ((i : Int)) v4 v5 v6 v7 v8 v9 v10 v11 v12 v13 v14 v15 v16 v17 v18 v19 (ints (srt D)) v21 v22 v23 v24 v25 v26 v27 v28 v29 v30 v31 v32 v33 v34 v35 v36 (bints (mkB r ((srt D).take i))) (ints (saL r ((srt D).take i))) (([] : List Int)) =
      some (v21, v22, v23, v31, v32, v33, ((mkB r (srt D)).length : Int), ints (wrds (mkB r (srt D))), (pk (wd D.length) (saL r (srt D))).1, (pk (wd D.length) (saL r (srt D))).2.1, (pk (wd D.length) (saL r (srt D))).2.2.1, (pk (wd D.length) (saL r (srt D))).2.2.2, pk (wd D.length) (isaL r D.length (srt D)))
  | 0, i, h3, h4 => by
    obtain rfl : i = (srt D).length := by omega
    have hs := srt_len' D
    rw [impl_fmOf_l0.eq, bif_ndec (by omega), List.take_length, implInv_eq _ (by omega) (srt_nodup D) (fun x hx => by have := (srt_mem D x).1 hx; omega) (fun x hx => (srt_mem D x).2 (by omega)), Option.bind_some]
    have := implFm_l1 D hl r h1 h2 v4 v5 v6 v7 v8 v9 v10 v11 v12 v13 v14 v15 v16 v17 v18 v19 v21 v22 v23 v24 v25 v26 v27 v28 v29 v30 v31 v32 v33 v34 v35 v36 _ 0 rfl (Nat.zero_le _)
    rw [Nat.zero_mul] at this
    exact this
  | d + 1, i, h3, h4 => by
    have hi : i < (srt D).length := by omega
    have hs := srt_len' D
    have hx := (srt_mem D _).1 (List.getElem_mem hi)
    have hsa := saL_len r ((srt D).take i)
    rw [List.length_take] at hsa
    have e3 : ((srt D)[i] : Int).tdiv (r : Int) = (((srt D)[i] / r : Nat) : Int) := rfl
    have hdv : (srt D)[i] / r ≤ (srt D)[i] := Nat.div_le_self _ _
    have ih := implFm_l0 D hl r h1 h2 v4 v5 v6 v7 v8 v9 v10 v11 v12 v13 v14 v15 v16 v17 v18 v19 v21 v22 v23 v24 v25 v26 v27 v28 v29 v30 v31 v32 v33 v34 v35 v36 d (i + 1) (by omega) (by omega)
    rw [mk_snoc r _ i hi, sa_snoc r _ i hi, ← bints_app] at ih
    rw [impl_fmOf_l0.eq, bif_dec (by omega), at?_ints _ _ hi, Option.bind_some, Int.toNat_natCast, getElem?_ints _ _ hi, Option.bind_some, bif_ndec (by omega), isM_beq]
    cases hm : isM r (srt D)[i] with
    | true =>
      rw [hm, if_pos rfl, ← ints_snoc] at ih
      rw [bif_true, bif_dec (by simp only [List.length_cons, List.length_nil, bints_len, mkB_len, List.length_take]; omega), bif_ndec (by omega), bif_dec (by simp only [List.length_cons, List.length_nil, ints_len]; omega), wrapS i (by omega), e3, wrapIn (by omega)]
      exact ih
    | false =>
      rw [hm, if_neg (by simp), List.append_nil] at ih
      rw [bif_false, bif_dec (by simp only [List.length_cons, List.length_nil, bints_len, mkB_len, List.length_take]; omega), wrapS i (by omega)]
      exact ih
theorem implFm_eq (D : List Nat) (hl : D.length ≤ 300) (hD : ∀ x ∈ D, x < 256) (r : Nat) (h1 : 0 < r) (h2 : r ≤ 64) : impl_fmOf (ints D) r = some (fmV D r) := by
  have hb := bwt_len D
  have hble := bwt_le D hD
  rw [impl_fmOf.eq, implSuf_eq D hl hD, Option.bind_some, implBwt_eq D hl hD, Option.bind_some, counts_eq _ (by omega) hble, Option.bind_some, implWaveOf_eq _ (by omega) (fun x hx => by have := hble x hx; omega), Option.bind_some, ints_len, ints_len]
  exact implFm_l0 D hl r h1 h2 _ _ _ _ _ _ _ _ _ _ _ _ _ _ _ _ _ _ _ _ _ _ _ _ _ _ _ _ _ _ _ _ _ 0 rfl (by omega)

/-! #### the reference's -/
theorem specFm_l2 (D : List Nat) (hl : D.length ≤ 300) (r : Nat) (h1 : 0 < r) (h2 : r ≤ 64) (v3 : Int) (v4 : Int) (v5 : Int) (v6 : Int) (v7 : Int) (v8 : Int) (v9 : Int) (v10 : Int) (v11 : Int) (v12 : Int) (v13 : List Int) (v14 : List (Int × (List Int))) (v15 : List Int) (v16 : List Int) (v17 : List Int) (v18 : List Int) (v20 : Int) (v21 : Int) (v22 : Int) (v23 : Int) (v24 : Int) (v25 : Int) (v26 : Int) (v27 : Int) (v28 : Int) (v29 : Int) (v30 : List Int) (v31 : List (Int × (List Int))) (v32 : List Int) (v33 : List Int) (v34 : List Int) (v35 : List Int) : ∀ (d j : Nat), D.length / r + 1 - j = d → j ≤ D.length / r + 1 →
    spec_FmOf_l2 (ints D) ((r : Int)) (((j * r : Nat) : Int)) v3 v4 v5 v6 v7 v8 v9 v10 v11 v12 v13 v14 v15 v16 v17 v18 (ints (inv (srt D))) v20 v21 v22 v23 v24 v25 v26 v27 v28 v29 v30 v31 v32 v33 v34 v35 (bints (mkB r (srt D))) (ints (saL r (srt D))) (ints ((List.range j).map fun j => (srt D).idxOf (j * r))) =
      some ((v20, v21, v22, v30, v31, v32, ((mkB r (srt D)).length : Int), ints (wrds (mkB r (srt D))), (pk (wd D.length) (saL r (srt D))).1, (pk (wd D.length) (saL r (srt D))).2.1, (pk (wd D.length) (saL r (srt D))).2.2.1, (pk (wd D.length) (saL r (srt D))).2.2.2, pk (wd D.length) (isaL r D.length (srt D))), true)
  | 0, j, h3, h4 => by
    obtain rfl : j = D.length / r + 1 := by omega
    have h5 : D.length < (D.length / r + 1) * r := by
      have := Nat.div_add_mod D.length r
      have := Nat.mod_lt D.length h1
      rw [Nat.add_mul, Nat.mul_comm (D.length / r)]; omega
    have hd : D.length / r ≤ D.length := Nat.div_le_self _ _
    have hs := srt_len' D
    have hsa := saL_len r (srt D)
    have hw := wd_le9 (n := D.length) (by omega)
    rw [spec_FmOf_l2.eq, ints_len, bif_ndec (by omega), specBitsOf_eq _ (by rw [mkB_len]; omega), Option.bind_some, specWidth_eq _ (by omega), Option.bind_some, specPack_eq _ (by omega) _ (by omega) (pk_size (by omega) hw) (sa_lt D r (by omega)), Option.bind_some, Option.bind_some]
    have e : (List.range (D.length / r + 1)).map (fun j => (srt D).idxOf (j * r)) = isaL r D.length (srt D) := rfl
    rw [e, specPack_eq _ (by omega) _ (by rw [isaL_len]; omega) (pk_size (by rw [isaL_len]; omega) hw) (isa_lt D r (by omega) h1)]; rfl
  | d + 1, j, h3, h4 => by
    have h5 : j * r ≤ D.length := (Nat.le_div_iff_mul_le h1).1 (by omega)
    have hs := srt_len' D
    have hd : D.length / r ≤ D.length := Nat.div_le_self _ _
    have e2 : ((j * r : Nat) : Int) + (r : Int) = (((j + 1) * r : Nat) : Int) := by rw [Nat.add_mul]; omega
    rw [spec_FmOf_l2.eq, ints_len, bif_dec (by omega)]
    simp only [at?_nat, Int.toNat_natCast, List.getElem?_map, inv_at (srt D) (j * r) (by omega), Option.map_some, Option.bind_some]
    rw [bif_dec (by simp only [List.length_cons, List.length_nil, List.length_map, List.length_range]; omega), e2, wrapI (by omega) (by rw [Nat.add_mul]; omega), ints_snoc, ← isa_snoc]
    exact specFm_l2 D hl r h1 h2 v3 v4 v5 v6 v7 v8 v9 v10 v11 v12 v13 v14 v15 v16 v17 v18 v20 v21 v22 v23 v24 v25 v26 v27 v28 v29 v30 v31 v32 v33 v34 v35 d (j + 1) (by omega) (by omega)
theorem specBool_eq (b : Bool) : spec_l01Bool b = some (bint b) := by rw [spec_l01Bool.eq]; cases b <;> rfl
theorem specFm_l1 (D : List Nat) (hl : D.length ≤ 300) (r : Nat) (h1 : 0 < r) (h2 : r ≤ 64) (v3 : Int) (v4 : Int) (v5 : Int) (v6 : Int) (v7 : Int) (v8 : Int) (v9 : Int) (v10 : Int) (v11 : Int) (v12 : Int) (v13 : List Int) (v14 : List (Int × (List Int))) (v15 : List Int) (v16 : List Int) (v17 : List Int) (v18 : List Int) (v21 : Int) (v22 : Int) (v23 : Int) (v24 : Int) (v25 : Int) (v26 : Int) (v27 : Int) (v28 : Int) (v29 : Int) (v30 : Int) (v31 : List Int) (v32 : List (Int × (List Int))) (v33 : List Int) (v34 : List Int) (v35 : List Int) (v36 : List Int) : ∀ (d i : Nat), (srt D).length - i = d → i ≤ (srt D).length →
    spec_FmOf_l1 (ints D) ((r : Int)) ((i : Int)) v3 v4 v5 v6 v7 v8 v9 v10 v11 v12 v13 v14 v15 v16 v17 v18 (ints (srt D)) (ints (inv (srt D))) v21 v22 v23 v24 v25 v26 v27 v28 v29 v30 v31 v32 v33 v34 v35 v36 (bints (mkB r ((srt D).take i))) (ints (saL r ((srt D).take i))) =
      some ((v21, v22, v23, v31, v32, v33, ((mkB r (srt D)).length : Int), ints (wrds (mkB r (srt D))), (pk (wd D.length) (saL r (srt D))).1, (pk (wd D.length) (saL r (srt D))).2.1, (pk (wd D.length) (saL r (srt D))).2.2.1, (pk (wd D.length) (saL r (srt D))).2.2.2, pk (wd D.length) (isaL r D.length (srt D))), true)
  | 0, i, h3, h4 => by
    obtain rfl : i = (srt D).length := by omega
    have hs := srt_len' D
    rw [spec_FmOf_l1.eq, ints_len, bif_ndec (by omega), List.take_length]
    have := specFm_l2 D hl r h1 h2 v3 v4 v5 v6 v7 v8 v9 v10 v11 v12 v13 v14 v15 v16 v17 v18 v21 v22 v23 v24 v25 v26 v27 v28 v29 v30 v31 v32 v33 v34 v35 v36 _ 0 rfl (Nat.zero_le _)
    rw [Nat.zero_mul] at this
    exact this
  | d + 1, i, h3, h4 => by
    have hi : i < (srt D).length := by omega
    have hs := srt_len' D
    have hx := (srt_mem D _).1 (List.getElem_mem hi)
    have hsa := saL_len r ((srt D).take i)
    rw [List.length_take] at hsa
    have e3 : ((srt D)[i] : Int).tdiv (r : Int) = (((srt D)[i] / r : Nat) : Int) := rfl
    have hdv : (srt D)[i] / r ≤ (srt D)[i] := Nat.div_le_self _ _
    have ih := specFm_l1 D hl r h1 h2 v3 v4 v5 v6 v7 v8 v9 v10 v11 v12 v13 v14 v15 v16 v17 v18 v21 v22 v23 v24 v25 v26 v27 v28 v29 v30 v31 v32 v33 v34 v35 v36 d (i + 1) (by omega) (by omega)
    rw [mk_snoc r _ i hi, sa_snoc r _ i hi, ← bints_app] at ih
    rw [spec_FmOf_l1.eq, ints_len, bif_dec (by omega)]
    simp only [at?_ints _ _ hi, Option.bind_some, Int.toNat_natCast, getElem?_ints _ _ hi, isM_beq, specBool_eq]
    rw [bif_ndec (show ¬ (r : Int) = 0 by omega), bif_dec (by simp only [List.length_cons, List.length_nil, bints_len, mkB_len, List.length_take]; omega), bif_ndec (show ¬ (r : Int) = 0 by omega)]
    cases hm : isM r (srt D)[i] with
    | true =>
      rw [hm, if_pos rfl, ← ints_snoc] at ih
      rw [bif_true, bif_ndec (show ¬ (r : Int) = 0 by omega), bif_dec (by simp only [List.length_cons, List.length_nil, ints_len]; omega), wrapS i (by omega), e3, wrapIn (by omega)]
      exact ih
    | false =>
      rw [hm, if_neg (by simp), List.append_nil] at ih
      rw [bif_false, wrapS i (by omega)]
      exact ih
theorem specTextOk_eq (D : List Nat) : spec_TextOk (ints D) = some (decide (D.length ≤ 300)) := by
  rw [spec_TextOk.eq, ints_len]
  congr 1
  rw [Bool.eq_iff_iff, decide_eq_true_eq, decide_eq_true_eq]; omega
theorem specRate_eq (r : Int) : spec_l09Rate r = some (decide (1 ≤ r) && decide (r ≤ 64)) := by
  rw [spec_l09Rate.eq]
  by_cases h : 1 ≤ r
  · rw [bif_dec (by omega), decide_eq_true h]; rfl
  · rw [bif_ndec (by omega), decide_eq_false h]; rfl
theorem implRate_eq (r : Int) : impl_isRate r = some (decide (1 ≤ r) && decide (r ≤ 64)) := by
  rw [impl_isRate.eq, withinN_eq]; rfl
theorem specFm_eq (D : List Nat) (hl : D.length ≤ 300) (hD : ∀ x ∈ D, x < 256) (r : Nat) (h1 : 0 < r) (h2 : r ≤ 64) : spec_FmOf (ints D) r = some (fmV D r, true) := by
  have hb := bwt_len D
  have hs := srt_len' D
  have hble := bwt_le D hD
  rw [spec_FmOf.eq, specTextOk_eq, decide_eq_true hl, Option.bind_some, Bool.not_true, bif_false, specRate_eq, decide_eq_true (show (1 : Int) ≤ r by omega), decide_eq_true (show (r : Int) ≤ 64 by omega), Option.bind_some]
  rw [Bool.and_true, Bool.not_true, bif_false, spec_FmOf_l0.eq, specSuf_eq D hl, Option.bind_some, specInv_eq _ (by omega) (srt_nodup D) (fun x hx => (srt_mem D x).2 (by omega)), Option.bind_some, specBwt_eq D hl hD, Option.bind_some, specCounts_eq _ (by omega) hble, Option.bind_some, specWaveOf_eq _ (by omega) (fun x hx => by have := hble x hx; omega), Option.bind_some, ints_len]
  exact specFm_l1 D hl r h1 h2 _ _ _ _ _ _ _ _ _ _ _ _ _ _ _ _ _ _ _ _ _ _ _ _ _ _ _ _ _ _ _ _ _ 0 rfl (by omega)
end Go.Ev.W
