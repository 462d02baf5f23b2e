/- Waves: the numbers that the reference reads. -/
import Derived.Test.YtmobcecmjpfpiaaEvC
import Derived.Test.YtmobcecmjpfpiaaPp3
import Derived.Test.YtmobcecmjpfpiaaPp9
import Derived.Test.YtmobcecmjpfpiaaMWave3
set_option linter.unusedVariables false
set_option linter.unusedSimpArgs false
namespace Go.Ev.W
open Go.Ev

/-- How many rows before the i-th have its bit. -/
def bef (bs : List Bool) (i : Nat) (b : Bool) : Nat := ((bs.take i).filter (· == b)).length
theorem bef_false (bs : List Bool) (i : Nat) : bef bs i false = zer bs i := by
  unfold bef zer; congr 1; apply List.filter_congr; intro x _; cases x <;> rfl
theorem bef_true (bs : List Bool) (i : Nat) : bef bs i true = one bs i := by
  unfold bef one; congr 1; apply List.filter_congr; intro x _; cases x <;> rfl
theorem bint_eq (a b : Bool) : (bint a == bint b) = (a == b) := by cases a <;> cases b <;> rfl
theorem bef_succ (bs : List Bool) (k : Nat) (b : Bool) (h : k < bs.length) : bef bs (k + 1) b = bef bs k b + (if bs[k] == b then 1 else 0) := by
  unfold bef
  rw [List.take_add_one, List.getElem?_eq_getElem h, List.filter_append, List.length_append]
  cases bs[k] <;> cases b <;> rfl
theorem bef_le (bs : List Bool) (k : Nat) (b : Bool) : bef bs k b ≤ k := by
  unfold bef
  have := List.length_filter_le (· == b) (bs.take k)
  rw [List.length_take] at this
  omega
/-- The levels' bits, as the reference holds them. -/
abbrev bitsL (L : List (Int × List Nat)) : List (List Int) := L.map fun p => bints (lvb p)
theorem at?_bitsL (L : List (Int × List Nat)) (i : Nat) (h : i < L.length) : at? (bitsL L) (i : Int) = some (bints (lvb L[i])) := by
  rw [at?_nat, List.getElem?_map, List.getElem?_eq_getElem h]; rfl
theorem get?_bitsL (L : List (Int × List Nat)) (i : Nat) (h : i < L.length) : (bitsL L)[i]? = some (bints (lvb L[i])) := by
  rw [List.getElem?_map, List.getElem?_eq_getElem h]; rfl
theorem set_bitsL (L : List (Int × List Nat)) (i : Nat) (h : i < L.length) : (bitsL L).set i (bints (lvb L[i])) = bitsL L := by
  apply List.ext_getElem?
  intro j
  rw [List.getElem?_set]
  by_cases hj : i = j
  · subst hj
    rw [if_pos rfl, if_pos (by rw [List.length_map]; exact h), get?_bitsL L i h]
  · rw [if_neg hj]
theorem list_l3 (N : Nat) (hN : N ≤ 1000) (L : List (Int × List Nat)) (h9 : L.length = 9) (hb : ∀ p ∈ L, (lvb p).length = N) (i : Int) (at_ t : Nat) (ht : t < 9) (hat : at_ < N) (n : Int) (b : Bool) (Z : List Int) (W : List (Int × List Int)) (out : List Int) :
    ∀ (d j : Nat), N - j = d → j ≤ N → spec_l07List_l3 i at_ n t (bint b) (bef (lvb (L[t]'(by omega))) (min j at_) b : Nat) (zer (lvb (L[t]'(by omega))) j : Nat) j N Z W out (bitsL L) =
      (bif bint b == (1 : Int) then spec_l07List_l2 i (IntKind.i64.wrap ((zer (lvb (L[t]'(by omega))) N : Nat) + (bef (lvb (L[t]'(by omega))) at_ b : Nat))) (IntKind.i64.wrap ((IntKind.i64.wrap ((2 : Int) * n)) + bint b)) (IntKind.i64.wrap (t + 1)) N Z W out (bitsL L)
       else spec_l07List_l2 i (bef (lvb (L[t]'(by omega))) at_ b : Nat) (IntKind.i64.wrap ((IntKind.i64.wrap ((2 : Int) * n)) + bint b)) (IntKind.i64.wrap (t + 1)) N Z W out (bitsL L)) := by
  have htL : t < L.length := by omega
  have hbl := hb _ (List.getElem_mem htL)
  intro d
  induction d with
  | zero =>
    intro j h1 h2
    obtain rfl : j = N := by omega
    rw [spec_l07List_l3.eq, bif_ndec (by omega), Nat.min_eq_right (by omega)]
  | succ d ih =>
    intro j h1 h2
    have hj : j < (lvb L[t]).length := by omega
    have hz := zer_one (lvb L[t]) j (by omega)
    have hbe := bef_le (lvb L[t]) (min j at_) b
    rw [spec_l07List_l3.eq, bif_dec (by omega)]
    simp only [at?_bitsL L t htL, get?_bitsL L t htL, Int.toNat_natCast, Option.bind_some, set_bitsL L t htL, at?_bints _ j hj, get?_bints _ j hj, bint_zero, bint_eq]
    have ih' := ih (j + 1) (by omega) (by omega)
    rw [zer_succ _ j hj] at ih'
    rw [wrapS j (by omega), wrapS (zer (lvb L[t]) j) (by omega), wrapS (bef (lvb L[t]) (min j at_) b) (by omega)]
    by_cases hlt : j < at_
    · have hm : min (j + 1) at_ = min j at_ + 1 := by omega
      have hm2 : min j at_ = j := by omega
      rw [hm, bef_succ _ _ b (by omega)] at ih'
      simp only [hm2] at ih' ⊢
      rw [bif_dec (show (j : Int) < (at_ : Int) by omega), bif_dec (show (j : Int) < (at_ : Int) by omega)]
      cases hbj : (lvb L[t])[j] <;> cases b <;> simp only [hbj, Bool.not_true, Bool.not_false, bif_true, bif_false, beq_self_eq_true, if_true, Bool.false_eq_true, if_false, Nat.add_zero, show (true == false) = false from rfl, show (false == true) = false from rfl] at ih' ⊢ <;> exact ih'
    · have hm : min (j + 1) at_ = min j at_ := by omega
      rw [hm] at ih'
      rw [bif_ndec (show ¬ (j : Int) < (at_ : Int) by omega), bif_ndec (show ¬ (j : Int) < (at_ : Int) by omega)]
      cases hbj : (lvb L[t])[j] <;> simp only [hbj, Bool.not_true, Bool.not_false, bif_true, bif_false, if_true, Bool.false_eq_true, if_false, Nat.add_zero] at ih' ⊢ <;> exact ih'
def path (bss : List (List Bool)) (s : Nat × Nat) : Nat × Nat := bss.foldl (fun s bs => stp bs s) s
theorem rows_path : ∀ (bss : List (List Bool)) (S : List (Nat × Nat)), rows bss S = S.map (path bss)
  | [], S => by unfold rows path; simp
  | bs :: bss, S => by
    have := rows_path bss (S.map (stp bs))
    unfold rows path at this ⊢
    rw [List.foldl_cons, this, List.map_map]
    rfl
theorem list_l2 (N : Nat) (hN : N ≤ 1000) (L : List (Int × List Nat)) (h9 : L.length = 9) (hb : ∀ p ∈ L, (lvb p).length = N) (i : Nat) (hi : i < N) (Z : List Int) (W : List (Int × List Int)) (out : List Int) (ho : out.length ≤ 1000) :
    ∀ (d t : Nat), 9 - t = d → t ≤ 9 → ∀ (s : Nat × Nat), s.1 < N → s.2 < 2 ^ t → spec_l07List_l2 i s.1 s.2 t N Z W out (bitsL L) = spec_l07List_l1 (i + 1 : Nat) N Z W (out ++ [(((path ((L.drop t).map lvb) s).2 : Nat) : Int)]) (bitsL L) := by
  intro d
  induction d with
  | zero =>
    intro t h1 h2 s hs1 hs2
    obtain rfl : t = 9 := by omega
    rw [spec_l07List_l2.eq, bif_ndec (by omega), bif_dec (by simp only [List.length_cons, List.length_nil]; omega), wrapS i (by omega), List.drop_eq_nil_of_le (by omega)]
    rfl
  | succ d ih =>
    intro t h1 h2 s hs1 hs2
    have htL : t < L.length := by omega
    have hbl := hb _ (List.getElem_mem htL)
    have hs : s.1 < (lvb L[t]).length := by omega
    have hgd : (lvb L[t]).getD s.1 false = (lvb L[t])[s.1] := by rw [List.getD_eq_getElem?_getD, List.getElem?_eq_getElem hs]; rfl
    rw [spec_l07List_l2.eq, bif_dec (by omega)]
    simp only [at?_bitsL L t htL, get?_bitsL L t htL, Int.toNat_natCast, Option.bind_some, set_bitsL L t htL, at?_bints _ s.1 hs, get?_bints _ s.1 hs]
    have h3 := list_l3 N hN L h9 hb i s.1 t (by omega) hs1 s.2 (lvb L[t])[s.1] Z W out _ 0 rfl (by omega)
    rw [Nat.zero_min, show bef (lvb L[t]) 0 (lvb L[t])[s.1] = 0 from rfl, zer_zero] at h3
    refine h3.trans ?_
    have hnx := nxt_lt (lvb L[t]) s.1 hs
    have hp9 : 2 ^ t ≤ 2 ^ 9 := Nat.pow_le_pow_right (by omega) (by omega)
    have hz := zer_one (lvb L[t]) s.1 (by omega)
    have hz2 := zer_one (lvb L[t]) N (by omega)
    have hval : IntKind.i64.wrap ((IntKind.i64.wrap ((2 : Int) * (s.2 : Int))) + bint (lvb L[t])[s.1]) = (((stp (lvb L[t]) s).2 : Nat) : Int) := by
      have hb1 : ((lvb L[t])[s.1]).toNat ≤ 1 := by cases (lvb L[t])[s.1] <;> simp
      show _ = ((2 * s.2 + ((lvb L[t]).getD s.1 false).toNat : Nat) : Int)
      rw [hgd, wrapI (x := (2 : Int) * (s.2 : Int)) (by omega) (by omega)]
      unfold bint
      rw [wrapI (by omega) (by omega)]; omega
    have hdrop : (L.drop t).map lvb = lvb L[t] :: (L.drop (t + 1)).map lvb := by rw [List.drop_eq_getElem_cons htL, List.map_cons]
    have hfin := ih (t + 1) (by omega) (by omega) (stp (lvb L[t]) s) (by rw [hbl] at hnx; exact hnx) (by
      have hb1 : ((lvb L[t]).getD s.1 false).toNat ≤ 1 := by cases (lvb L[t]).getD s.1 false <;> simp
      show 2 * s.2 + ((lvb L[t]).getD s.1 false).toNat < 2 ^ (t + 1)
      rw [Nat.pow_succ]; omega)
    rw [hval, hdrop, wrapS t (by omega)]
    have hpos : ((stp (lvb L[t]) s).1 : Nat) = nxt (lvb L[t]) s.1 := rfl
    rw [hpos] at hfin
    cases hbit : (lvb L[t])[s.1] with
    | true =>
      have e : nxt (lvb L[t]) s.1 = zer (lvb L[t]) N + bef (lvb L[t]) s.1 true := by unfold nxt; rw [hgd, hbit, if_pos rfl, hbl, bef_true]
      rw [show (bint true == (1 : Int)) = true from rfl, bif_true, wrapI (by rw [bef_true]; omega) (by rw [bef_true]; omega), show ((zer (lvb L[t]) N : Nat) : Int) + ((bef (lvb L[t]) s.1 true : Nat) : Int) = ((nxt (lvb L[t]) s.1 : Nat) : Int) by rw [e]; omega]
      exact hfin
    | false =>
      have e : nxt (lvb L[t]) s.1 = bef (lvb L[t]) s.1 false := by unfold nxt; rw [hgd, hbit, bef_false]; rfl
      rw [show (bint false == (1 : Int)) = false from rfl, bif_false, ← e]
      exact hfin
theorem list_l1 (N : Nat) (hN : N ≤ 1000) (L : List (Int × List Nat)) (h9 : L.length = 9) (hb : ∀ p ∈ L, (lvb p).length = N) (Z : List Int) (W : List (Int × List Int)) :
    ∀ (d i : Nat), N - i = d → i ≤ N → spec_l07List_l1 i N Z W (ints ((List.range i).map fun j => (path (L.map lvb) (j, 0)).2)) (bitsL L) = some (ints ((List.range N).map fun j => (path (L.map lvb) (j, 0)).2)) := by
  intro d
  induction d with
  | zero =>
    intro i h1 h2
    obtain rfl : i = N := by omega
    rw [spec_l07List_l1.eq, bif_ndec (by omega)]
  | succ d ih =>
    intro i h1 h2
    have h3 := list_l2 N hN L h9 hb i (by omega) Z W (ints ((List.range i).map fun j => (path (L.map lvb) (j, 0)).2)) (by rw [List.length_map, List.length_map, List.length_range]; omega) 9 0 rfl (by omega) (i, 0) (by show i < N; omega) (by simp)
    rw [spec_l07List_l1.eq, bif_dec (by omega)]
    refine h3.trans ?_
    have e : ints ((List.range i).map fun j => (path (L.map lvb) (j, 0)).2) ++ [(((path ((L.drop 0).map lvb) (i, 0)).2 : Nat) : Int)] = ints ((List.range (i + 1)).map fun j => (path (L.map lvb) (j, 0)).2) := by
      rw [List.range_succ, List.map_append, List.drop_zero]
      exact (List.map_append (f := fun (x : Nat) => (x : Int)) (l₁ := (List.range i).map fun j => (path (L.map lvb) (j, 0)).2) (l₂ := [(path (L.map lvb) (i, 0)).2])).symm
    rw [e]
    exact ih (i + 1) (by omega) (by omega)
/-- The numbers of a wave. -/
def wList (N : Nat) (L : List (Int × List Nat)) : List Nat := snds (rows (L.map lvb) (start N))
theorem wList_eq (N : Nat) (L : List (Int × List Nat)) : wList N L = (List.range N).map fun j => (path (L.map lvb) (j, 0)).2 := by
  unfold wList start
  rw [rows_path]
  show List.map _ (List.map _ (List.map _ _)) = _
  rw [List.map_map, List.map_map]; rfl
theorem list_l0 (N : Nat) (hN : N ≤ 1000) (L : List (Int × List Nat)) (h9 : L.length = 9) (hv : ∀ p ∈ L, p.1 = (N : Int) ∧ vOk p.1 p.2 = true) (hx : ∀ p ∈ L, ∀ x ∈ p.2, x < 2 ^ 64) (Z : List Int) :
    ∀ (d t : Nat), 9 - t = d → t ≤ 9 → spec_l07List_l0 t N Z (LI L) [] ((bitsL L).take t) = some (ints (wList N L)) := by
  have hb : ∀ p ∈ L, (lvb p).length = N := fun p hp => by unfold lvb; rw [bts_length, (hv p hp).1, Int.toNat_natCast]
  intro d
  induction d with
  | zero =>
    intro t h1 h2
    obtain rfl : t = 9 := by omega
    rw [spec_l07List_l0.eq, bif_ndec (by omega), List.take_of_length_le (by rw [List.length_map]; omega), wList_eq]
    exact list_l1 N hN L h9 hb Z (LI L) _ 0 rfl (by omega)
  | succ d ih =>
    intro t h1 h2
    have htL : t < L.length := by omega
    have hvt := hv _ (List.getElem_mem htL)
    have hxt := hx _ (List.getElem_mem htL)
    have htight := (okW_iff N L[t].2 hxt).1 (by have := hvt.2; rw [hvt.1] at this; simp only [vOk, Bool.and_eq_true] at this; simpa using this.2)
    have hl01 : spec_l01List (L[t].1, ints L[t].2) = some (bints (lvb L[t])) := by
      rw [hvt.1, l01List_eq N L[t].2 (by omega) (by have := htight.1; unfold nw at this; omega) hxt]
      unfold lvb; rw [hvt.1, Int.toNat_natCast]
    have htk : (bitsL L).take t ++ [bints (lvb L[t])] = (bitsL L).take (t + 1) := by rw [List.take_add_one, get?_bitsL L t htL]; rfl
    rw [spec_l07List_l0.eq, bif_dec (by omega), at?_LI L t htL, Option.bind_some]
    try simp only
    rw [hl01, Option.bind_some, bif_dec (by simp only [List.length_cons, List.length_nil, List.length_take, List.length_map]; omega), wrapS t (by omega), htk]
    exact ih (t + 1) (by omega) (by omega)
theorem l07List_eq (n : Int) (Z : List Int) (L : List (Int × List Nat)) (hx : ∀ p ∈ L, ∀ x ∈ p.2, x < 2 ^ 64) (h : wOk n Z L = true) : spec_l07List (n, Z, LI L) = some (ints (wList n.toNat L)) := by
  obtain ⟨h1, h2, _, h4, h5⟩ := wOk_at h
  obtain ⟨N, rfl⟩ : ∃ m : Nat, n = m := ⟨n.toNat, by omega⟩
  rw [spec_l07List.eq]
  have := list_l0 N (by omega) L h4 (fun p hp => ⟨(h5 p hp).2, (h5 p hp).1⟩) hx Z 9 0 rfl (by omega)
  rw [List.take_zero] at this
  rw [Int.toNat_natCast]
  exact this
theorem wList_len (N : Nat) (L : List (Int × List Nat)) : (wList N L).length = N := by rw [wList_eq, List.length_map, List.length_range]
end Go.Ev.W
