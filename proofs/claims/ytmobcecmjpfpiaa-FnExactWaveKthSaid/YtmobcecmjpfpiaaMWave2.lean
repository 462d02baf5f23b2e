/- Waves: the program's decoding and the two validity checks. -/
import Derived.Test.YtmobcecmjpfpiaaEvC
import Derived.Test.YtmobcecmjpfpiaaPp8
import Derived.Test.YtmobcecmjpfpiaaPp9
import Derived.Test.YtmobcecmjpfpiaaMWave
set_option linter.unusedVariables false
set_option linter.unusedSimpArgs false
namespace Go.Ev.W
open Go.Ev

/-- Levels as the functions get them. -/
abbrev LI (L : List (Int × List Nat)) : List (Int × List Int) := L.map fun p => (p.1, ints p.2)
theorem at?_LI (L : List (Int × List Nat)) (i : Nat) (h : i < L.length) : at? (LI L) (i : Int) = some (L[i].1, ints L[i].2) := by
  rw [at?_nat, List.getElem?_map, List.getElem?_eq_getElem h]; rfl
abbrev fsts (S : List (Nat × Nat)) : List Nat := S.map (·.1)
abbrev snds (S : List (Nat × Nat)) : List Nat := S.map (·.2)

theorem ints_app (a b : List Nat) : ints (a ++ b) = ints a ++ ints b := List.map_append
theorem or_bit (v : Nat) (b : Bool) (hv : v ≤ 100000) : IntKind.i64.wrap (((BitVec.ofInt 64 (IntKind.i64.wrap ((v : Int) * 2 ^ 1))) ||| (BitVec.ofInt 64 (bint b))).toNat : Int) = ((2 * v + b.toNat : Nat) : Int) := by
  have e1 : (v : Int) * 2 ^ 1 = ((2 * v : Nat) : Int) := by simp; omega
  have hb : b.toNat ≤ 1 := by cases b <;> simp
  have e3 : IntKind.i64.wrap ((2 * v : Nat) : Int) = ((2 * v : Nat) : Int) := wrapIn (by omega)
  rw [e1, e3]
  have h1 := bv_or 64 (2 * v) b.toNat (by omega) (by omega)
  unfold bint
  have e2 : 2 * v ||| b.toNat = 2 * v + b.toNat := by
    have := Nat.two_pow_add_eq_or_of_lt (i := 1) (b := b.toNat) (by omega) v
    simpa using this.symm
  rw [h1, e2, wrapIn (by omega)]

section
variable (N : Nat) (hN : N ≤ 1000) (Z : List Int) (Y : List (Int × List Int))
include hN
theorem read_l1 (out : List Int) : ∀ (d i : Nat), N - i = d → i ≤ N → ∀ acc : List Int, acc.length = N → acc.take i = ints (List.range i) →
    impl_Wave_read_l1 N i N Z Y out acc = impl_Wave_read_l2 Y Y.length 0 N Z Y out (ints (List.range N)) := by
  intro d
  induction d with
  | zero =>
    intro i h1 h2 acc ha ht
    obtain rfl : i = N := by omega
    rw [impl_Wave_read_l1.eq, bif_ndec (by omega)]
    rw [List.take_of_length_le (by omega)] at ht
    rw [ht]
  | succ d ih =>
    intro i h1 h2 acc ha ht
    have hi : i < acc.length := by omega
    rw [impl_Wave_read_l1.eq, bif_dec (by omega), at?_lt acc i hi, Option.bind_some, Int.toNat_natCast, List.getElem?_eq_getElem hi, Option.bind_some, wrapS i (by omega)]
    refine ih (i + 1) (by omega) (by omega) _ (by simpa using ha) ?_
    rw [take_set acc i hi, ht, List.range_succ, ints_app]; rfl
/-- Where the rows stand in the next level. -/
theorem read_l4 (bs : List Bool) (hb : bs.length = N) (V : List (Int × List Int)) (a t : Int) (out pos : List Int) : ∀ (d i : Nat), N - i = d → i ≤ N → ∀ acc : List Int, acc.length = N → acc.take i = ints ((List.range i).map (nxt bs)) →
    impl_Wave_read_l4 (zer bs i : Nat) ((zer bs N + one bs i : Nat) : Int) V a t N i N Z Y out pos (bints bs) acc = impl_Wave_read_l5 V a t pos.length 0 N Z Y out pos (bints bs) (ints ((List.range N).map (nxt bs))) := by
  intro d
  induction d with
  | zero =>
    intro i h1 h2 acc ha ht
    obtain rfl : i = N := by omega
    rw [impl_Wave_read_l4.eq, bif_ndec (by omega)]
    rw [List.take_of_length_le (by omega)] at ht
    rw [ht]
  | succ d ih =>
    intro i h1 h2 acc ha ht
    have hi : i < acc.length := by omega
    have hib : i < bs.length := by omega
    have hz := zer_one bs i (by omega)
    have hz2 := zer_one bs N (by omega)
    rw [impl_Wave_read_l4.eq, bif_dec (by omega), at?_bints bs i hib, Option.bind_some, Int.toNat_natCast, get?_bints bs i hib, Option.bind_some, bint_zero]
    have ih' := ih (i + 1) (by omega) (by omega)
    rw [zer_succ bs i hib, one_succ bs i hib] at ih'
    have e : ∀ x : Nat, x = nxt bs i → (acc.set i (x : Int)).take (i + 1) = ints ((List.range (i + 1)).map (nxt bs)) := by
      intro x hx
      rw [take_set acc i hi, ht, List.range_succ, List.map_append, ints_app, hx]; rfl
    cases hbi : bs[i] with
    | true =>
      rw [hbi] at ih'
      simp only [if_true, Nat.add_zero] at ih'
      rw [Bool.not_true, bif_false, at?_lt acc i hi, Option.bind_some, List.getElem?_eq_getElem hi, Option.bind_some, wrapS i (by omega), wrapS _ (by omega), Nat.add_assoc]
      refine ih' _ (by simpa using ha) (e _ ?_)
      unfold nxt
      rw [List.getD_eq_getElem?_getD, List.getElem?_eq_getElem hib, Option.getD_some, hbi, if_pos rfl, hb]
    | false =>
      rw [hbi] at ih'
      simp only [Bool.false_eq_true, if_false, Nat.add_zero] at ih'
      rw [Bool.not_false, bif_true, at?_lt acc i hi, Option.bind_some, List.getElem?_eq_getElem hi, Option.bind_some, wrapS i (by omega), wrapS _ (by omega)]
      refine ih' _ (by simpa using ha) (e _ ?_)
      unfold nxt
      rw [List.getD_eq_getElem?_getD, List.getElem?_eq_getElem hib, Option.getD_some, hbi]; rfl
theorem read_l5 (bs : List Bool) (hb : bs.length = N) (V : List (Int × List Int)) (a t : Int) (S : List (Nat × Nat)) (hS : S.length = N) (hp : ∀ s ∈ S, s.1 < N) (hv : ∀ s ∈ S, s.2 ≤ 100000) : ∀ (d i : Nat), N - i = d → i ≤ N →
    impl_Wave_read_l5 V a t N i N Z Y (ints (snds ((S.take i).map (stp bs) ++ S.drop i))) (ints (fsts ((S.take i).map (stp bs) ++ S.drop i))) (bints bs) (ints ((List.range N).map (nxt bs))) =
      impl_Wave_read_l2 V a (IntKind.i64.wrap (t + 1)) N Z Y (ints (snds (S.map (stp bs)))) (ints (fsts (S.map (stp bs)))) := by
  intro d
  induction d with
  | zero =>
    intro i h1 h2
    obtain rfl : i = N := by omega
    rw [impl_Wave_read_l5.eq, bif_ndec (by omega), List.take_of_length_le (by omega), List.drop_eq_nil_of_le (by omega), List.append_nil]
  | succ d ih =>
    intro i h1 h2
    have hiS : i < S.length := by omega
    obtain ⟨T, hT⟩ : ∃ T, T = (S.take i).map (stp bs) ++ S.drop i := ⟨_, rfl⟩
    have hTl : T.length = N := by rw [hT, List.length_append, List.length_map, List.length_take, List.length_drop]; omega
    have hTi : T[i]? = some S[i] := by
      rw [hT, List.getElem?_append_right (by rw [List.length_map, List.length_take]; omega), List.length_map, List.length_take, Nat.min_eq_left (by omega), Nat.sub_self, List.getElem?_drop, Nat.add_zero, List.getElem?_eq_getElem hiS]
    have hTs : T.set i (stp bs S[i]) = (S.take (i + 1)).map (stp bs) ++ S.drop (i + 1) := by
      rw [hT, List.set_append_right _ _ (by rw [List.length_map, List.length_take]; omega), List.length_map, List.length_take, Nat.min_eq_left (by omega), Nat.sub_self, List.drop_eq_getElem_cons hiS, List.set_cons_zero, List.take_add_one, List.getElem?_eq_getElem hiS, List.map_append, List.append_assoc]; rfl
    rw [← hT]
    have hp' := hp _ (List.getElem_mem hiS)
    have hv' := hv _ (List.getElem_mem hiS)
    have g1 : ∀ j : Nat, (ints (fsts T))[j]? = (T[j]?).map fun s => ((s.1 : Nat) : Int) := fun j => by rw [List.getElem?_map, List.getElem?_map, Option.map_map]; rfl
    have g2 : ∀ j : Nat, (ints (snds T))[j]? = (T[j]?).map fun s => ((s.2 : Nat) : Int) := fun j => by rw [List.getElem?_map, List.getElem?_map, Option.map_map]; rfl
    have g3 : (ints ((List.range N).map (nxt bs)))[S[i].1]? = some ((nxt bs S[i].1 : Nat) : Int) := by
      rw [List.getElem?_map, List.getElem?_map, List.getElem?_range hp']; rfl
    have g4 : (bints bs)[S[i].1]? = some (bint (bs.getD S[i].1 false)) := by
      rw [get?_bints bs _ (by omega), List.getD_eq_getElem?_getD, List.getElem?_eq_getElem (by omega), Option.getD_some]
    rw [impl_Wave_read_l5.eq, bif_dec (by omega)]
    simp only [at?_nat, Int.toNat_natCast, g1, g2, g3, g4, hTi, Option.map_some, Option.bind_some]
    rw [or_bit _ _ hv', wrapS i (by omega), ints_set, ints_set]
    have e1 : (snds T).set i (2 * S[i].2 + (bs.getD S[i].1 false).toNat) = snds (T.set i (stp bs S[i])) := (List.map_set (f := fun s : Nat × Nat => s.2) (l := T) (i := i) (a := stp bs S[i])).symm
    have e2 : (fsts T).set i (nxt bs S[i].1) = fsts (T.set i (stp bs S[i])) := (List.map_set (f := fun s : Nat × Nat => s.1) (l := T) (i := i) (a := stp bs S[i])).symm
    rw [e1, e2, hTs]
    exact ih (i + 1) (by omega) (by omega)
end
/-- The bits of a level. -/
def lvb (p : Int × List Nat) : List Bool := bts p.1.toNat p.2
/-- Is a level valid, with this count of zeros? -/
def lOk (n : Int) (p : Int × List Nat) (z : Int) : Bool := vOk p.1 p.2 && decide (p.1 = n) && decide (((zer (lvb p) (lvb p).length : Nat) : Int) = z)
def wOk (n : Int) (Z : List Int) (L : List (Int × List Nat)) : Bool :=
  decide (0 ≤ n) && decide (n ≤ 1000) && decide (Z.length = 9) && decide (L.length = 9) && (L.zip Z).all fun q => lOk n q.1 q.2
/-- Each row's place and number behind levels. -/
def rows (bss : List (List Bool)) (S : List (Nat × Nat)) : List (Nat × Nat) := bss.foldl (fun S bs => S.map (stp bs)) S
def start (N : Nat) : List (Nat × Nat) := (List.range N).map fun i => (i, 0)
theorem read_l2 (N : Nat) (hN : N ≤ 1000) (Z : List Int) (L : List (Int × List Nat)) (hz : Z.length = L.length) (hll : L.length = 9) (hl : ∀ p ∈ L, p.2.length ≤ 1048576) (hx : ∀ p ∈ L, ∀ x ∈ p.2, x < 2 ^ 64) : ∀ (d i : Nat), L.length - i = d → i ≤ L.length → ∀ S : List (Nat × Nat), S.length = N → (∀ s ∈ S, s.1 < N) → (∀ s ∈ S, s.2 < 2 ^ i) →
    impl_Wave_read_l2 (LI L) L.length i N Z (LI L) (ints (snds S)) (ints (fsts S)) = some (bif ((L.zip Z).drop i).all (fun q => lOk N q.1 q.2) then (ints (snds (rows ((L.drop i).map lvb) S)), true) else ([], false)) := by
  intro d
  induction d with
  | zero =>
    intro i h1 h2 S hS hp hv
    rw [impl_Wave_read_l2.eq, bif_ndec (by omega), List.drop_eq_nil_of_le (show (L.zip Z).length ≤ i by rw [List.length_zip]; omega), List.drop_eq_nil_of_le (show L.length ≤ i by omega)]
    rfl
  | succ d ih =>
    intro i h1 h2 S hS hp hv
    have hi : i < L.length := by omega
    have hiz : i < Z.length := by omega
    have hzi : i < (L.zip Z).length := by rw [List.length_zip]; omega
    have hm := List.getElem_mem hi
    rw [impl_Wave_read_l2.eq, bif_dec (by omega), at?_LI L i hi, Option.bind_some]
    try simp only
    rw [implBitsList_eq _ _ (hl _ hm) (hx _ hm), Option.bind_some, implBitsOk_eq _ _ (hl _ hm) (hx _ hm), Option.bind_some, List.drop_eq_getElem_cons hzi, List.all_cons, List.getElem_zip]
    have hk : lOk (N : Int) (L[i], Z[i]).1 (L[i], Z[i]).2 = (vOk L[i].1 L[i].2 && decide (L[i].1 = (N : Int)) && decide (((zer (lvb L[i]) (lvb L[i]).length : Nat) : Int) = Z[i])) := rfl
    rw [hk]
    cases hvo : vOk L[i].1 L[i].2 with
    | false => rfl
    | true =>
      rw [Bool.not_true, bif_false, bif_true, Bool.true_and]
      by_cases hn : L[i].1 = (N : Int)
      · rw [bif_nne hn, decide_eq_true hn, Bool.true_and]
        have hbl : (lvb L[i]).length = N := by unfold lvb; rw [bts_length, hn, Int.toNat_natCast]
        have e : bts L[i].1.toNat L[i].2 = lvb L[i] := rfl
        rw [e, count_eq _ (by omega), Option.bind_some, at?_lt Z i hiz, Option.bind_some]
        by_cases hc : ((zer (lvb L[i]) (lvb L[i]).length : Nat) : Int) = Z[i]
        · rw [bif_nne hc, decide_eq_true hc, Bool.true_and]
          have e0 : (decide ((0 : Int) ≤ (N : Int)) && decide ((N : Int).toNat * 8 ≤ 140737488355328)) = true := by simp; omega
          rw [impl_Wave_read_l3.eq, e0, bif_true, at?_lt Z i hiz, Option.bind_some, ← hc, Int.toNat_natCast]
          have h4 := read_l4 N hN Z (LI L) (lvb L[i]) hbl (LI L) L.length i (ints (snds S)) (ints (fsts S)) _ 0 rfl (by omega) (List.replicate N 0) (by simp) (by simp)
          rw [zer_zero, one_zero, Nat.add_zero] at h4
          rw [show (bints (lvb L[i])).length = N by rw [List.length_map, hbl], hbl]
          refine h4.trans ?_
          have h5 := read_l5 N hN Z (LI L) (lvb L[i]) hbl (LI L) L.length i S hS hp (fun s hs => by
            have h1 := hv s hs
            have h2 : 2 ^ i ≤ 2 ^ 9 := Nat.pow_le_pow_right (by omega) (by omega)
            omega) _ 0 rfl (by omega)
          rw [List.take_zero, List.map_nil, List.nil_append, List.drop_zero] at h5
          rw [List.length_map, List.length_map, hS]
          refine h5.trans ?_
          rw [wrapS i (by omega), ih (i + 1) (by omega) (by omega) (S.map (stp (lvb L[i]))) (by simpa using hS) ?_ ?_, List.drop_eq_getElem_cons hi, List.map_cons]
          · rfl
          · intro s hs
            obtain ⟨s', hs', rfl⟩ := List.mem_map.1 hs
            have := nxt_lt (lvb L[i]) s'.1 (by rw [hbl]; exact hp _ hs')
            rw [hbl] at this; exact this
          · intro s hs
            obtain ⟨s', hs', rfl⟩ := List.mem_map.1 hs
            have h1 := hv _ hs'
            have h2 : ((lvb L[i]).getD s'.1 false).toNat ≤ 1 := by cases (lvb L[i]).getD s'.1 false <;> simp
            show 2 * s'.2 + ((lvb L[i]).getD s'.1 false).toNat < 2 ^ (i + 1)
            rw [Nat.pow_succ]; omega
        · rw [bif_ne hc, decide_eq_false hc]; rfl
      · rw [bif_ne hn, decide_eq_false hn]; rfl
theorem start_fst (N : Nat) : fsts (start N) = List.range N := by
  show List.map (fun s : Nat × Nat => s.1) (List.map (fun i => (i, 0)) (List.range N)) = _
  rw [List.map_map]; exact (List.map_congr_left fun _ _ => rfl).trans (List.map_id _)
theorem start_snd (N : Nat) : snds (start N) = List.replicate N 0 := by
  show List.map (fun s : Nat × Nat => s.2) (List.map (fun i => (i, 0)) (List.range N)) = _
  rw [List.map_map]
  apply List.ext_getElem (by simp)
  intro i h1 h2
  simp
theorem waveRead_eq (n : Int) (Z : List Int) (L : List (Int × List Nat)) (hl : ∀ p ∈ L, p.2.length ≤ 1048576) (hx : ∀ p ∈ L, ∀ x ∈ p.2, x < 2 ^ 64) :
    impl_Wave_read (n, Z, LI L) = some (bif wOk n Z L then (ints (snds (rows (L.map lvb) (start n.toNat))), true) else ([], false)) := by
  rw [impl_Wave_read.eq, withinN_eq, Option.bind_some]
  unfold wOk
  cases hn : decide (0 ≤ n) && decide (n ≤ 1000) with
  | false => rfl
  | true =>
    rw [Bool.not_true, bif_false, Bool.true_and]
    simp only [Bool.and_eq_true, decide_eq_true_eq] at hn
    obtain ⟨N, rfl⟩ : ∃ m : Nat, n = m := ⟨n.toNat, by omega⟩
    simp only [List.length_map]
    by_cases h1 : Z.length = 9
    · rw [bif_nne (by omega), decide_eq_true h1, Bool.true_and]
      by_cases h2 : L.length = 9
      · rw [bif_nne (by omega), decide_eq_true h2, Bool.true_and]
        have e0 : (decide ((0 : Int) ≤ (N : Int)) && decide ((N : Int).toNat * 8 ≤ 140737488355328)) = true := by simp; omega
        rw [impl_Wave_read_l0.eq, e0, bif_true, bif_true, Int.toNat_natCast, List.length_replicate]
        have h3 := read_l1 N (by omega) Z (LI L) (List.replicate N 0) _ 0 rfl (by omega) (List.replicate N 0) (by simp) (by simp)
        refine h3.trans ?_
        have h4 := read_l2 N (by omega) Z L (by omega) h2 hl hx _ 0 rfl (by omega) (start N) (by simp [start]) (by simp [start]) (by simp [start])
        rw [start_fst, start_snd] at h4
        have e1 : ints (List.replicate N 0) = List.replicate N 0 := by simp
        rw [e1] at h4
        rw [List.length_map]
        refine h4.trans ?_
        rw [List.drop_zero, List.drop_zero]
      · rw [bif_ne (by omega), decide_eq_false h2]; rfl
    · rw [bif_ne (by omega), decide_eq_false h1]; rfl
theorem implWaveOk_eq (n : Int) (Z : List Int) (L : List (Int × List Nat)) (hl : ∀ p ∈ L, p.2.length ≤ 1048576) (hx : ∀ p ∈ L, ∀ x ∈ p.2, x < 2 ^ 64) : impl_WaveOk (n, Z, LI L) = some (wOk n Z L) := by
  rw [impl_WaveOk.eq]
  try simp only
  rw [waveRead_eq n Z L hl hx, Option.bind_some]
  cases wOk n Z L <;> rfl
theorem specWaveOk_l1 (N : Nat) (hN : N ≤ 1000) (Z : List Int) (L : List (Int × List Nat)) (hz : Z.length = L.length) (hll : L.length = 9) (hl : ∀ p ∈ L, p.2.length ≤ 1048576) (hx : ∀ p ∈ L, ∀ x ∈ p.2, x < 2 ^ 64) : ∀ (d i : Nat), L.length - i = d → i ≤ L.length →
    spec_WaveOk_l1 i N Z (LI L) = some (((L.zip Z).drop i).all (fun q => lOk N q.1 q.2)) := by
  intro d
  induction d with
  | zero =>
    intro i h1 h2
    rw [spec_WaveOk_l1.eq, bif_ndec (by omega), List.drop_eq_nil_of_le (show (L.zip Z).length ≤ i by rw [List.length_zip]; omega)]
    rfl
  | succ d ih =>
    intro i h1 h2
    have hi : i < L.length := by omega
    have hiz : i < Z.length := by omega
    have hzi : i < (L.zip Z).length := by rw [List.length_zip]; omega
    have hm := List.getElem_mem hi
    rw [spec_WaveOk_l1.eq, bif_dec (by omega), at?_LI L i hi, Option.bind_some, List.drop_eq_getElem_cons hzi, List.all_cons, List.getElem_zip]
    have hk : lOk (N : Int) (L[i], Z[i]).1 (L[i], Z[i]).2 = (vOk L[i].1 L[i].2 && decide (L[i].1 = (N : Int)) && decide (((zer (lvb L[i]) (lvb L[i]).length : Nat) : Int) = Z[i])) := rfl
    rw [hk]
    by_cases hn : L[i].1 = (N : Int)
    · rw [bif_nne hn, Option.bind_some]
      try simp only
      rw [specBitsOk_eq _ _ (hl _ hm) (hx _ hm), Option.bind_some]
      cases hvo : vOk L[i].1 L[i].2 with
      | false => rfl
      | true =>
        rw [Bool.not_true, bif_false, Option.bind_some, decide_eq_true hn, Bool.true_and, Bool.true_and]
        have hbl : (lvb L[i]).length = N := by unfold lvb; rw [bts_length, hn, Int.toNat_natCast]
        have hr := rank_eq N L[i].2 (by omega) (hl _ hm) (hx _ hm) (by rw [← hn]; exact hvo)
        have e : bts N L[i].2 = lvb L[i] := by unfold lvb; rw [hn, Int.toNat_natCast]
        rw [hn, hr, Option.bind_some, at?_lt Z i hiz, Option.bind_some, e, hbl]
        by_cases hc : ((zer (lvb L[i]) N : Nat) : Int) = Z[i]
        · rw [bif_nne hc, decide_eq_true hc, Bool.true_and, wrapS i (by omega)]
          exact ih (i + 1) (by omega) (by omega)
        · rw [bif_ne hc, decide_eq_false hc]; rfl
    · rw [bif_ne hn, decide_eq_false hn, Bool.and_false]; rfl
theorem specWaveOk_eq (n : Int) (Z : List Int) (L : List (Int × List Nat)) (hl : ∀ p ∈ L, p.2.length ≤ 1048576) (hx : ∀ p ∈ L, ∀ x ∈ p.2, x < 2 ^ 64) : spec_WaveOk (n, Z, LI L) = some (wOk n Z L) := by
  rw [spec_WaveOk.eq]
  unfold wOk
  by_cases h1 : n < 0
  · rw [bif_dec h1, decide_eq_false (show ¬ 0 ≤ n by omega)]; rfl
  rw [bif_ndec h1, decide_eq_true (show 0 ≤ n by omega)]
  by_cases h2 : n > 1000
  · rw [bif_dec h2, decide_eq_false (show ¬ n ≤ 1000 by omega)]; rfl
  rw [bif_ndec h2, decide_eq_true (show n ≤ 1000 by omega)]
  obtain ⟨N, rfl⟩ : ∃ m : Nat, n = m := ⟨n.toNat, by omega⟩
  simp only [List.length_map, Bool.true_and]
  by_cases h3 : L.length = 9
  · rw [bif_nne (by omega), decide_eq_true h3]
    by_cases h4 : Z.length = 9
    · rw [bif_nne (by omega), decide_eq_true h4, Bool.true_and, Bool.true_and, spec_WaveOk_l0.eq]
      have := specWaveOk_l1 N (by omega) Z L (by omega) h3 hl hx _ 0 rfl (by omega)
      rw [List.drop_zero] at this
      exact this
    · rw [bif_ne (by omega), decide_eq_false h4]; rfl
  · rw [bif_ne (by omega), decide_eq_false h3, Bool.and_false]; rfl
end Go.Ev.W
