/- Indexes: the text of a valid one. -/
import Derived.Test.YtddhebliggkadaaGreatEvC
import Derived.Test.YtddhebliggkadaaGreatPc1
import Derived.Test.YtddhebliggkadaaGreatMFm2
set_option linter.unusedVariables false
set_option linter.unusedSimpArgs false
namespace Go.Ev.W
open Go.Ev

/-! #### equalities -/
theorem equalU_eq (X Y : List Int) (h : X.length < 4611686018427387904) : slices_Equal_uint64_uint64 X Y = some (decide (X = Y)) := by
  rw [slices_Equal_uint64_uint64.eq]
  exact eq_list X Y _ fun hl => eq_loop (fun x y => some (!(x != y))) X Y hl h (fun x _ y _ => by rw [bne, Bool.not_not]; exact congrArg some (by rw [Bool.eq_iff_iff]; simp)) (slices_Equal_uint64_uint64_l0 X Y X.length) (fun i => by rw [slices_Equal_uint64_uint64_l0.eq]; simp only [Option.bind_some, Bool.not_not])
theorem dec_and {p q : Prop} [Decidable p] [Decidable q] [Decidable (p ∧ q)] : decide (p ∧ q) = (decide p && decide q) := by
  by_cases hp : p <;> by_cases hq : q <;> simp [hp, hq]
theorem dec_pair {α β : Type} [DecidableEq α] [DecidableEq β] (a c : α) (b d : β) : decide ((a, b) = (c, d)) = (decide (a = c) && decide (b = d)) := by
  rw [Bool.eq_iff_iff]; simp
theorem sameBits_eq (a : Int) (x : List Int) (b : Int) (y : List Int) (h : x.length < 4611686018427387904) : impl_sameBits (a, x) (b, y) = some (decide ((a, x) = (b, y))) := by
  rw [impl_sameBits.eq, dec_pair, beq_dec]
  try simp only
  rw [equalU_eq _ _ h]
  cases decide (a = b) <;> rfl
theorem samePacked_eq (a b c : Int) (x : List Int) (d e f : Int) (y : List Int) (h : x.length < 4611686018427387904) : impl_samePacked (a, b, c, x) (d, e, f, y) = some (decide ((a, b, c, x) = (d, e, f, y))) := by
  rw [impl_samePacked.eq, dec_pair, dec_pair, beq_dec, beq_dec]
  try simp only
  rw [sameBits_eq _ _ _ _ h]
  cases decide (a = d) <;> cases decide (b = e) <;> rfl
theorem sameLv_eq (X Y : Lv) (h : X.length < 4611686018427387904) (hw : ∀ p ∈ X, p.2.length < 4611686018427387904) : impl_Bits_sameBits X Y () = some (decide (X = Y)) := by
  rw [impl_Bits_sameBits.eq]
  exact eq_list X Y _ fun hl => eq_loop (fun x y => impl_sameBits x y) X Y hl h (fun x hx y _ => sameBits_eq _ _ _ _ (hw x hx)) (impl_Bits_sameBits_l0 Y X X.length) (fun i => impl_Bits_sameBits_l0.eq Y X X.length i)
theorem sameWave_eq (a : Int) (Z : List Int) (L : Lv) (b : Int) (Y : List Int) (M : Lv) (hZ : Z.length < 4611686018427387904) (h : L.length < 4611686018427387904) (hw : ∀ p ∈ L, p.2.length < 4611686018427387904) : impl_sameWave (a, Z, L) (b, Y, M) = some (decide ((a, Z, L) = (b, Y, M))) := by
  rw [impl_sameWave.eq, dec_pair, dec_pair, beq_dec]
  try simp only
  rw [equalI_eq _ _ hZ, Option.bind_some, sameLv_eq _ _ h hw]
  cases decide (a = b) <;> cases decide (Z = Y) <;> rfl
theorem l03_l1 (a b : Int) (X Y : List Int) (hl : X.length = Y.length) (h : X.length < 4611686018427387904) : spec_l03Same_l1 0 a X b Y = some (decide (X = Y)) :=
  eq_loop (fun x y => some (!(x != y))) X Y hl h (fun x _ y _ => by rw [bne, Bool.not_not]; exact congrArg some (by rw [Bool.eq_iff_iff]; simp)) (fun i => spec_l03Same_l1 i a X b Y) (fun i => by rw [spec_l03Same_l1.eq]; simp only [Option.bind_some, Bool.not_not])
theorem l03Same_eq (a : Int) (x : List Int) (b : Int) (y : List Int) (h : x.length < 4611686018427387904) : spec_l03Same (a, x) (b, y) = some (decide ((a, x) = (b, y))) := by
  rw [spec_l03Same.eq, dec_pair]
  try simp only
  by_cases h1 : a = b
  · rw [bif_nne h1, decide_eq_true h1, Bool.true_and, eq_list x y _ fun hl => by rw [spec_l03Same_l0.eq]; exact l03_l1 a b x y hl h]
  · rw [bif_ne h1, decide_eq_false h1]; rfl
theorem l09Packs_eq (a b c : Int) (x : List Int) (d e f : Int) (y : List Int) (h : x.length < 4611686018427387904) : spec_l09Packs (a, b, c, x) (d, e, f, y) = some (decide ((a, b, c, x) = (d, e, f, y))) := by
  rw [spec_l09Packs.eq, dec_pair, dec_pair, beq_dec, beq_dec]
  try simp only
  rw [l03Same_eq _ _ _ _ h]
  cases decide (a = d) <;> cases decide (b = e) <;> rfl

/-- What of an index must be short. -/
structure ShortFm (f : FmT) : Prop where
  z : f.2.2.2.1.length < 4611686018427387904
  l : f.2.2.2.2.1.length < 4611686018427387904
  w : ∀ p ∈ f.2.2.2.2.1, p.2.length < 4611686018427387904
  c : f.2.2.2.2.2.1.length < 4611686018427387904
  m : f.2.2.2.2.2.2.2.1.length < 4611686018427387904
  s : f.2.2.2.2.2.2.2.2.2.2.2.1.length < 4611686018427387904
  i : f.2.2.2.2.2.2.2.2.2.2.2.2.2.2.2.length < 4611686018427387904
theorem fm_dec (f g : FmT) : decide (f = g) = (decide (f.1 = g.1) && (decide (f.2.1 = g.2.1) && (decide ((f.2.2.1, f.2.2.2.1, f.2.2.2.2.1) = (g.2.2.1, g.2.2.2.1, g.2.2.2.2.1)) && (decide (f.2.2.2.2.2.1 = g.2.2.2.2.2.1) && (decide ((f.2.2.2.2.2.2.1, f.2.2.2.2.2.2.2.1) = (g.2.2.2.2.2.2.1, g.2.2.2.2.2.2.2.1)) &&
    (decide ((f.2.2.2.2.2.2.2.2.1, f.2.2.2.2.2.2.2.2.2.1, f.2.2.2.2.2.2.2.2.2.2.1, f.2.2.2.2.2.2.2.2.2.2.2.1) = (g.2.2.2.2.2.2.2.2.1, g.2.2.2.2.2.2.2.2.2.1, g.2.2.2.2.2.2.2.2.2.2.1, g.2.2.2.2.2.2.2.2.2.2.2.1)) && decide (f.2.2.2.2.2.2.2.2.2.2.2.2 = g.2.2.2.2.2.2.2.2.2.2.2.2))))))) := by
  obtain ⟨a1, a2, a3, a4, a5, a6, a7, a8, a9, a10, a11, a12, a13⟩ := f
  obtain ⟨b1, b2, b3, b4, b5, b6, b7, b8, b9, b10, b11, b12, b13⟩ := g
  simp only [dec_pair, Bool.and_assoc]
theorem sameFm_eq (f g : FmT) (h : ShortFm f) : impl_sameFm f g = some (decide (f = g)) := by
  rw [impl_sameFm.eq, fm_dec, sameWave_eq _ _ _ _ _ _ h.z h.l h.w, equalI_eq _ _ h.c, sameBits_eq _ _ _ _ h.m, samePacked_eq _ _ _ _ _ _ _ _ h.s, samePacked_eq _ _ _ _ _ _ _ _ h.i, beq_dec, beq_dec]
  simp only [Option.bind_some]
  cases decide (f.1 = g.1)
  · rfl
  cases decide (f.2.1 = g.2.1)
  · rfl
  cases decide ((f.2.2.1, f.2.2.2.1, f.2.2.2.2.1) = (g.2.2.1, g.2.2.2.1, g.2.2.2.2.1))
  · rfl
  cases decide (f.2.2.2.2.2.1 = g.2.2.2.2.2.1)
  · rfl
  cases decide ((f.2.2.2.2.2.2.1, f.2.2.2.2.2.2.2.1) = (g.2.2.2.2.2.2.1, g.2.2.2.2.2.2.2.1))
  · rfl
  cases decide ((f.2.2.2.2.2.2.2.2.1, f.2.2.2.2.2.2.2.2.2.1, f.2.2.2.2.2.2.2.2.2.2.1, f.2.2.2.2.2.2.2.2.2.2.2.1) = (g.2.2.2.2.2.2.2.2.1, g.2.2.2.2.2.2.2.2.2.1, g.2.2.2.2.2.2.2.2.2.2.1, g.2.2.2.2.2.2.2.2.2.2.2.1))
  · rfl
  rfl
theorem wLv_len : ∀ (d l : Nat) (X : List Nat), (wLv d l X).1.length = d ∧ (wLv d l X).2.length = d
  | 0, l, X => ⟨rfl, rfl⟩
  | d + 1, l, X => by
    have := wLv_len d (l + 1) (wlo l X ++ whi l X)
    rw [wLv]
    exact ⟨by rw [List.length_cons, this.1], by rw [List.length_cons, this.2]⟩
theorem wLv_words : ∀ (d l : Nat) (X : List Nat), ∀ p ∈ (wLv d l X).2, p.2.length = nw X.length
  | 0, l, X, p, h => by cases h
  | d + 1, l, X, p, h => by
    rw [wLv] at h
    have hl := lohi_len l X
    rcases List.mem_cons.1 h with rfl | h
    · rw [wrds_length, wbs_len]
    · rw [wLv_words d (l + 1) _ p h, List.length_append, hl]
theorem pk_words (w : Nat) (X : List Nat) : (pk w X).2.2.2.length = nw (X.length * w) := by
  show (ints (wrds (dgs w X))).length = _
  rw [ints_len, wrds_length, dgs_len]
/-- Sizes of an index. -/
structure SmFm (f : FmT) (k : Nat) : Prop where
  z : f.2.2.2.1.length ≤ k
  l : f.2.2.2.2.1.length ≤ k
  w : ∀ p ∈ f.2.2.2.2.1, p.2.length ≤ k
  c : f.2.2.2.2.2.1.length ≤ k
  m : f.2.2.2.2.2.2.2.1.length ≤ k
  s : f.2.2.2.2.2.2.2.2.2.2.2.1.length ≤ k
  i : f.2.2.2.2.2.2.2.2.2.2.2.2.2.2.2.length ≤ k
theorem SmFm.short {f : FmT} {k : Nat} (h : SmFm f k) (hk : k < 4611686018427387904) : ShortFm f :=
  ⟨by have := h.z; omega, by have := h.l; omega, fun p hp => by have := h.w p hp; omega, by have := h.c; omega, by have := h.m; omega, by have := h.s; omega, by have := h.i; omega⟩
theorem fmV_small (D : List Nat) (hl : D.length ≤ 300) (r : Nat) : SmFm (fmV D r) 1000 := by
  have hb := bwt_len D
  have hs := srt_len' D
  have h1 := wLv_len 9 0 (bwt D)
  have hw := wd_le9 (n := D.length) (by omega)
  have hsa := saL_len r (srt D)
  have hd : D.length / r ≤ D.length := Nat.div_le_self _ _
  have p1 := pk_size (n := (saL r (srt D)).length) (by omega) hw
  have p2 := pk_size (n := (isaL r D.length (srt D)).length) (by rw [isaL_len]; omega) hw
  refine ⟨?_, ?_, fun p hp => ?_, ?_, ?_, ?_, ?_⟩
  · show (ints (wLv 9 0 (bwt D)).1).length ≤ 1000
    rw [ints_len]; omega
  · show (LI (wLv 9 0 (bwt D)).2).length ≤ 1000
    rw [List.length_map]; omega
  · have hp' : p ∈ LI (wLv 9 0 (bwt D)).2 := hp
    obtain ⟨q, hq, rfl⟩ := List.mem_map.1 hp'
    rw [ints_len, wLv_words _ _ _ q hq]
    unfold nw; omega
  · show (ints ((List.range 258).map (ltc (bwt D)))).length ≤ 1000
    rw [ints_len, List.length_map, List.length_range]; omega
  · show (ints (wrds (mkB r (srt D)))).length ≤ 1000
    rw [ints_len, wrds_length, mkB_len]; unfold nw; omega
  · show (pk (wd D.length) (saL r (srt D))).2.2.2.length ≤ 1000
    rw [pk_words]; unfold nw; omega
  · show (pk (wd D.length) (isaL r D.length (srt D))).2.2.2.length ≤ 1000
    rw [pk_words]; unfold nw; omega

/-! #### the text -/
theorem bT_true (X : List Nat) (hX : X.length ≤ 301) (hx : ∀ x ∈ X, x ≤ 256) (h : (bT X).2 = true) : ∃ D : List Nat, bT X = (ints D, true) ∧ bwt D = X ∧ D.length ≤ 300 ∧ ∀ x ∈ D, x < 256 := by
  unfold bT at h ⊢
  cases h0 : decide (X.length = 0) with
  | true => rw [h0] at h; cases h
  | false =>
    rw [h0] at h
    rw [bif_false] at h ⊢
    have hl := wk_len X (X.length - 1) 0 []
    unfold tFin at h ⊢
    cases h1 : decide (bwt (wk X (X.length - 1) 0 []).1 = X) with
    | false => rw [h1] at h; cases h
    | true =>
      rw [bif_true]
      exact ⟨_, rfl, of_decide_eq_true h1, by have := hl.1; simp at this; omega, wk_bytes X hx _ _ _ (by simp)⟩
/-- What both readings come to. -/
def FmOkV (f : FmT) (D : List Nat) : Prop := D.length ≤ 300 ∧ (∀ x ∈ D, x < 256) ∧ 1 ≤ f.2.1 ∧ f.2.1 ≤ 64 ∧ f = fmV D f.2.1.toNat
/-- The wave is valid, and its numbers tell the text. -/
def FmW (f : FmT) (D : List Nat) : Prop := (∃ L, f.2.2.2.2.1 = LI L ∧ (∀ p ∈ L, p.2.length ≤ 1048576) ∧ (∀ p ∈ L, ∀ x ∈ p.2, x < 2 ^ 64) ∧ wOk f.2.2.1 f.2.2.2.1 L = true) ∧ bT (bwt D) = (ints D, true)
theorem implText_short (xs : List Int) (h : xs.length < 4611686018427387904) (hs : sOk xs = false) : impl_BwtText xs = some ([], false) := by
  rw [impl_BwtText.eq, implSymsOk_eq _ h, hs]; rfl
theorem specText_short (xs : List Int) (h : xs.length < 4611686018427387904) (hs : sOk xs = false) : spec_BwtText xs = some ([], false) := by
  rw [spec_BwtText.eq, specSymsOk_eq _ h, hs]; rfl
theorem specWaveList_eq (n : Int) (Z : List Int) (L : List (Int × List Nat)) (hl : ∀ p ∈ L, p.2.length ≤ 1048576) (hx : ∀ p ∈ L, ∀ x ∈ p.2, x < 2 ^ 64) : spec_WaveList (n, Z, LI L) = some (bif wOk n Z L then ints (wList n.toNat L) else []) := by
  rw [spec_WaveList.eq]
  try simp only
  rw [specWaveOk_eq n Z L hl hx, Option.bind_some]
  cases h : wOk n Z L with
  | false => rfl
  | true => rw [Bool.not_true, bif_false, bif_true, l07List_eq n Z L hx h]; rfl
theorem fmRead_eq (f : FmT) (hf : SmFm f 1048576) (hx : ∀ p ∈ f.2.2.2.2.1, ∀ x ∈ p.2, 0 ≤ x ∧ x < ((2 ^ 64 : Nat) : Int)) :
    ∃ (v : Bool) (D : List Nat) (t : List Int), spec_l09Text f = some (bif v then (ints D, true) else ([], false)) ∧ impl_Fm_read f = some (bif v then ints D else t, v) ∧ (v = true → FmOkV f D ∧ FmW f D) := by
  obtain ⟨L, hLX, hL⟩ := lv_of f.2.2.2.2.1 hx
  have hLl : ∀ p ∈ L, p.2.length ≤ 1048576 := LI_len (by rw [← hLX]; exact hf.w)
  have hread := waveRead_eq f.2.2.1 f.2.2.2.1 L hLl hL
  have hlist := specWaveList_eq f.2.2.1 f.2.2.2.1 L hLl hL
  rw [← hLX] at hread hlist
  rw [spec_l09Text.eq, impl_Fm_read.eq, hread, Option.bind_some, specRate_eq, Option.bind_some]
  have bad : ∀ s i, s = some (([] : List Int), false) → (∃ t, i = some ((t : List Int), false)) → ∃ (v : Bool) (D : List Nat) (t : List Int), s = some (bif v then (ints D, true) else ([], false)) ∧ i = some (bif v then ints D else t, v) ∧ (v = true → FmOkV f D ∧ FmW f D) :=
    fun s i h1 ⟨t, h2⟩ => ⟨false, [], t, h1, h2, fun h => by cases h⟩
  cases hr : decide (1 ≤ f.2.1) && decide (f.2.1 ≤ 64) with
  | false =>
    refine bad _ _ rfl ⟨[], ?_⟩
    cases wOk f.2.2.1 f.2.2.2.1 L with
    | false => rfl
    | true => rw [bif_true, Bool.not_true, bif_false, implRate_eq, hr]; rfl
  | true =>
    rw [Bool.not_true, bif_false]
    simp only [Bool.and_eq_true, decide_eq_true_eq] at hr
    cases hw : wOk f.2.2.1 f.2.2.2.1 L with
    | false =>
      refine bad _ _ ?_ ⟨[], rfl⟩
      by_cases hn : f.2.2.1 > 301
      · rw [bif_dec hn]
      · rw [bif_ndec hn, spec_l09Text_l0.eq, hlist, hw, Option.bind_some, bif_false]
        have := specBwtText_eq [] (by simp) (by simp)
        rw [show ints [] = ([] : List Int) from rfl] at this
        rw [this]; rfl
    | true =>
      obtain ⟨w1, w2, w3, w4, w5⟩ := wOk_at hw
      have hwl := wList_len f.2.2.1.toNat L
      rw [bif_true, Bool.not_true, bif_false, implRate_eq, decide_eq_true hr.1, decide_eq_true hr.2, Option.bind_some, Bool.and_true, Bool.not_true, bif_false]
      have hints : (ints (snds (rows (L.map lvb) (start f.2.2.1.toNat)))) = ints (wList f.2.2.1.toNat L) := rfl
      simp only [hints]
      obtain ⟨X, hXe⟩ : ∃ X, X = wList f.2.2.1.toNat L := ⟨_, rfl⟩
      have hinv := wave_inv f.2.2.1 f.2.2.2.1 L hL hw
      rw [hw] at hlist
      rw [← hXe] at hwl hlist hinv ⊢
      by_cases hn : f.2.2.1 > 301
      · refine bad _ _ (by rw [bif_dec hn]) ⟨[], ?_⟩
        have hs : sOk (ints X) = false := by
          unfold sOk
          rw [decide_eq_false (by rw [ints_len]; omega)]; rfl
        rw [implText_short _ (by rw [ints_len]; omega) hs]; rfl
      · rw [bif_ndec hn, spec_l09Text_l0.eq, hlist, Option.bind_some, bif_true]
        cases hs : sOk (ints X) with
        | false =>
          refine bad _ _ ?_ ⟨[], ?_⟩
          · rw [specText_short _ (by rw [ints_len]; omega) hs]; rfl
          · rw [implText_short _ (by rw [ints_len]; omega) hs]; rfl
        | true =>
          have hX : X.length ≤ 301 := by omega
          have hXx : ∀ x ∈ X, x ≤ 256 := by
            simp only [sOk, Bool.and_eq_true, decide_eq_true_eq, List.all_eq_true] at hs
            intro x hx
            have := hs.2 (x : Int) (List.mem_map.2 ⟨x, hx, rfl⟩)
            omega
          rw [specBwtText_eq X hX hXx, implBwtText_eq X hX hXx, Option.bind_some, Option.bind_some]
          cases hb : (bT X).2 with
          | false => exact bad _ _ rfl ⟨_, rfl⟩
          | true =>
            obtain ⟨D, d1, d2, d3, d4⟩ := bT_true X hX hXx hb
            obtain ⟨r, hre⟩ : ∃ r : Nat, f.2.1 = r := ⟨f.2.1.toNat, by omega⟩
            have hfm := implFm_eq D d3 d4 r (by omega) (by omega)
            have hfs := specFm_eq D d3 d4 r (by omega) (by omega)
            rw [← hre] at hfm hfs
            rw [d1, Bool.not_true, bif_false, bif_true]
            simp only [hfm, hfs, Option.bind_some]
            have hsm := fmV_small D d3 r
            have hse := sameFm_eq (fmV D r) f (hsm.short (by omega))
            refine ⟨decide (fmV D r = f), D, ints D, ?_, ?_, fun h => ⟨⟨d3, d4, hr.1, hr.2, ?_⟩, ⟨L, hLX, hLl, hL, hw⟩, by rw [d2]; exact d1⟩⟩
            · have hwv : (f.2.2.1, f.2.2.2.1, f.2.2.2.2.1) = ((fmV D r).2.2.1, (fmV D r).2.2.2.1, (fmV D r).2.2.2.2.1) := by
                show _ = (((bwt D).length : Int), ints (wLv 9 0 (bwt D)).1, LI (wLv 9 0 (bwt D)).2)
                rw [d2, hinv.1, hinv.2, ← hLX, hwl, Int.toNat_of_nonneg w1]
              have hdec : decide (fmV D r = f) = decide (f = fmV D r) := by rw [Bool.eq_iff_iff, decide_eq_true_eq, decide_eq_true_eq]; exact eq_comm
              have hr2 : (fmV D r).2.1 = (r : Int) := rfl
              rw [hdec, fm_dec, hwv, decide_eq_true rfl, hre, hr2, decide_eq_true rfl, Bool.true_and, Bool.true_and,
                same_eq _ _ (by have := hf.c; omega), l03Same_eq _ _ _ _ (by have := hf.m; omega), l09Packs_eq _ _ _ _ _ _ _ _ (by have := hf.s; omega), l09Packs_eq _ _ _ _ _ _ _ _ (by have := hf.i; omega)]
              simp only [Option.bind_some, bne, beq_dec]
              cases decide (f.1 = (fmV D r).1)
              · rfl
              cases decide (f.2.2.2.2.2.1 = (fmV D r).2.2.2.2.2.1)
              · rfl
              cases decide ((f.2.2.2.2.2.2.1, f.2.2.2.2.2.2.2.1) = ((fmV D r).2.2.2.2.2.2.1, (fmV D r).2.2.2.2.2.2.2.1))
              · rfl
              cases decide ((f.2.2.2.2.2.2.2.2.1, f.2.2.2.2.2.2.2.2.2.1, f.2.2.2.2.2.2.2.2.2.2.1, f.2.2.2.2.2.2.2.2.2.2.2.1) = ((fmV D r).2.2.2.2.2.2.2.2.1, (fmV D r).2.2.2.2.2.2.2.2.2.1, (fmV D r).2.2.2.2.2.2.2.2.2.2.1, (fmV D r).2.2.2.2.2.2.2.2.2.2.2.1))
              · rfl
              cases decide (f.2.2.2.2.2.2.2.2.2.2.2.2 = (fmV D r).2.2.2.2.2.2.2.2.2.2.2.2) <;> rfl
            · show (impl_sameFm (fmV D r) f).bind _ = _
              rw [hse]
              cases decide (fmV D r = f) <;> rfl
            · rw [hre, Int.toNat_natCast]; exact (of_decide_eq_true h).symm
end Go.Ev.W
