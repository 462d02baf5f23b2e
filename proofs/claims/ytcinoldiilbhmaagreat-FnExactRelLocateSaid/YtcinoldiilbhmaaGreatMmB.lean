/- What the functions come to, in plain mathematics, part 2. -/
import Derived.Test.YtcinoldiilbhmaaGreatEvC
import Derived.Test.YtcinoldiilbhmaaGreatPd1
import Derived.Test.YtcinoldiilbhmaaGreatMmA
import Derived.Test.YtcinoldiilbhmaaGreatPd22
import Derived.Test.YtcinoldiilbhmaaGreatPd2
import Derived.Test.YtcinoldiilbhmaaGreatPd29
import Derived.Test.YtcinoldiilbhmaaGreatEvGrow
import Derived.Test.YtcinoldiilbhmaaGreatPd11
import Derived.Test.YtcinoldiilbhmaaGreatPd13
import Derived.Test.YtcinoldiilbhmaaGreatPd15
import Derived.Test.YtcinoldiilbhmaaGreatPd17
import Derived.Test.YtcinoldiilbhmaaGreatPd18
import Derived.Test.YtcinoldiilbhmaaGreatPd27
import Derived.Test.YtcinoldiilbhmaaGreatPd25
import Derived.Test.YtcinoldiilbhmaaGreatPd10
import Derived.Test.YtcinoldiilbhmaaGreatPd21
import Derived.Test.YtcinoldiilbhmaaGreatPd3
import Derived.Test.YtcinoldiilbhmaaGreatPd5
import Derived.Test.YtcinoldiilbhmaaGreatPd6
import Derived.Test.YtcinoldiilbhmaaGreatPd8
import Derived.Test.YtcinoldiilbhmaaGreatPd28
/- Indexes: the text of a valid one. -/
set_option linter.unusedVariables false
set_option linter.unusedSimpArgs false
namespace Go.Ev.W
open Go.Ev

/-! #### equalities -/
theorem equalU_eq (X Y : List Int) (h : X.length < 4611686018427387904) : slices_Equal_uint64_uint64 X Y = some (decide (X = Y)) := by
  rw [slices_Equal_uint64_uint64.eq]
  exact eq_list X Y _ fun hl => eq_loop (fun x y => some (!(x != y))) X Y hl h (fun x _ y _ => by rw [bne, Bool.not_not]; exact congrArg some (by rw [Bool.eq_iff_iff]; simp)) (slices_Equal_uint64_uint64_l0 X Y X.length) (fun i => by rw [slices_Equal_uint64_uint64_l0.eq]; simp only [Option.bind_some, Bool.not_not])
theorem dec_pair {α β : Type} [DecidableEq α] [DecidableEq β] (a c : α) (b d : β) : decide ((a, b) = (c, d)) = (decide (a = c) && decide (b = d)) := by
  rw [Bool.eq_iff_iff]; simp
theorem sameBits_eq (a : Int) (x : List Int) (b : Int) (y : List Int) (h : x.length < 4611686018427387904) : impl_sameBits (a, x) (b, y) = some (decide ((a, x) = (b, y))) := by
  rw [impl_sameBits.eq, dec_pair, beq_dec]
  try simp only
  rw [equalU_eq _ _ h]
  cases decide (a = b) <;> rfl
theorem samePacked_eq (a b c : Int) (x : List Int) (d e f : Int) (y : List Int) (h : x.length < 4611686018427387904) : impl_samePacked (a, b, c, x) (d, e, f, y) = some (decide ((a, b, c, x) = (d, e, f, y))) := by
  rw [impl_samePacked.eq, dec_pair, dec_pair, beq_dec, beq_dec]
  try simp only
  rw [sameBits_eq _ _ _ _ h]
  cases decide (a = d) <;> cases decide (b = e) <;> rfl
theorem sameLv_eq (X Y : Lv) (h : X.length < 4611686018427387904) (hw : ∀ p ∈ X, p.2.length < 4611686018427387904) : impl_Bits_sameBits X Y () = some (decide (X = Y)) := by
  rw [impl_Bits_sameBits.eq]
  exact eq_list X Y _ fun hl => eq_loop (fun x y => impl_sameBits x y) X Y hl h (fun x hx y _ => sameBits_eq _ _ _ _ (hw x hx)) (impl_Bits_sameBits_l0 Y X X.length) (fun i => impl_Bits_sameBits_l0.eq Y X X.length i)
theorem sameWave_eq (a : Int) (Z : List Int) (L : Lv) (b : Int) (Y : List Int) (M : Lv) (hZ : Z.length < 4611686018427387904) (h : L.length < 4611686018427387904) (hw : ∀ p ∈ L, p.2.length < 4611686018427387904) : impl_sameWave (a, Z, L) (b, Y, M) = some (decide ((a, Z, L) = (b, Y, M))) := by
  rw [impl_sameWave.eq, dec_pair, dec_pair, beq_dec]
  try simp only
  rw [equalI_eq _ _ hZ, Option.bind_some, sameLv_eq _ _ h hw]
  cases decide (a = b) <;> cases decide (Z = Y) <;> rfl
theorem l03_l1 (a b : Int) (X Y : List Int) (hl : X.length = Y.length) (h : X.length < 4611686018427387904) : spec_l03Same_l1 0 a X b Y = some (decide (X = Y)) :=
  eq_loop (fun x y => some (!(x != y))) X Y hl h (fun x _ y _ => by rw [bne, Bool.not_not]; exact congrArg some (by rw [Bool.eq_iff_iff]; simp)) (fun i => spec_l03Same_l1 i a X b Y) (fun i => by rw [spec_l03Same_l1.eq]; simp only [Option.bind_some, Bool.not_not])
theorem l03Same_eq (a : Int) (x : List Int) (b : Int) (y : List Int) (h : x.length < 4611686018427387904) : spec_l03Same (a, x) (b, y) = some (decide ((a, x) = (b, y))) := by
  rw [spec_l03Same.eq, dec_pair]
  try simp only
  by_cases h1 : a = b
  · rw [bif_nne h1, decide_eq_true h1, Bool.true_and, eq_list x y _ fun hl => by rw [spec_l03Same_l0.eq]; exact l03_l1 a b x y hl h]
  · rw [bif_ne h1, decide_eq_false h1]; rfl
theorem l09Packs_eq (a b c : Int) (x : List Int) (d e f : Int) (y : List Int) (h : x.length < 4611686018427387904) : spec_l09Packs (a, b, c, x) (d, e, f, y) = some (decide ((a, b, c, x) = (d, e, f, y))) := by
  rw [spec_l09Packs.eq, dec_pair, dec_pair, beq_dec, beq_dec]
  try simp only
  rw [l03Same_eq _ _ _ _ h]
  cases decide (a = d) <;> cases decide (b = e) <;> rfl

/-- What of an index must be short. -/
structure ShortFm (f : FmT) : Prop where
  z : f.2.2.2.1.length < 4611686018427387904
  l : f.2.2.2.2.1.length < 4611686018427387904
  w : ∀ p ∈ f.2.2.2.2.1, p.2.length < 4611686018427387904
  c : f.2.2.2.2.2.1.length < 4611686018427387904
  m : f.2.2.2.2.2.2.2.1.length < 4611686018427387904
  s : f.2.2.2.2.2.2.2.2.2.2.2.1.length < 4611686018427387904
  i : f.2.2.2.2.2.2.2.2.2.2.2.2.2.2.2.length < 4611686018427387904
theorem fm_dec (f g : FmT) : decide (f = g) = (decide (f.1 = g.1) && (decide (f.2.1 = g.2.1) && (decide ((f.2.2.1, f.2.2.2.1, f.2.2.2.2.1) = (g.2.2.1, g.2.2.2.1, g.2.2.2.2.1)) && (decide (f.2.2.2.2.2.1 = g.2.2.2.2.2.1) && (decide ((f.2.2.2.2.2.2.1, f.2.2.2.2.2.2.2.1) = (g.2.2.2.2.2.2.1, g.2.2.2.2.2.2.2.1)) &&
    (decide ((f.2.2.2.2.2.2.2.2.1, f.2.2.2.2.2.2.2.2.2.1, f.2.2.2.2.2.2.2.2.2.2.1, f.2.2.2.2.2.2.2.2.2.2.2.1) = (g.2.2.2.2.2.2.2.2.1, g.2.2.2.2.2.2.2.2.2.1, g.2.2.2.2.2.2.2.2.2.2.1, g.2.2.2.2.2.2.2.2.2.2.2.1)) && decide (f.2.2.2.2.2.2.2.2.2.2.2.2 = g.2.2.2.2.2.2.2.2.2.2.2.2))))))) := by
  obtain ⟨a1, a2, a3, a4, a5, a6, a7, a8, a9, a10, a11, a12, a13⟩ := f
  obtain ⟨b1, b2, b3, b4, b5, b6, b7, b8, b9, b10, b11, b12, b13⟩ := g
  simp only [dec_pair, Bool.and_assoc]
theorem sameFm_eq (f g : FmT) (h : ShortFm f) : impl_sameFm f g = some (decide (f = g)) := by
  rw [impl_sameFm.eq, fm_dec, sameWave_eq _ _ _ _ _ _ h.z h.l h.w, equalI_eq _ _ h.c, sameBits_eq _ _ _ _ h.m, samePacked_eq _ _ _ _ _ _ _ _ h.s, samePacked_eq _ _ _ _ _ _ _ _ h.i, beq_dec, beq_dec]
  simp only [Option.bind_some]
  cases decide (f.1 = g.1)
  · rfl
  cases decide (f.2.1 = g.2.1)
  · rfl
  cases decide ((f.2.2.1, f.2.2.2.1, f.2.2.2.2.1) = (g.2.2.1, g.2.2.2.1, g.2.2.2.2.1))
  · rfl
  cases decide (f.2.2.2.2.2.1 = g.2.2.2.2.2.1)
  · rfl
  cases decide ((f.2.2.2.2.2.2.1, f.2.2.2.2.2.2.2.1) = (g.2.2.2.2.2.2.1, g.2.2.2.2.2.2.2.1))
  · rfl
  cases decide ((f.2.2.2.2.2.2.2.2.1, f.2.2.2.2.2.2.2.2.2.1, f.2.2.2.2.2.2.2.2.2.2.1, f.2.2.2.2.2.2.2.2.2.2.2.1) = (g.2.2.2.2.2.2.2.2.1, g.2.2.2.2.2.2.2.2.2.1, g.2.2.2.2.2.2.2.2.2.2.1, g.2.2.2.2.2.2.2.2.2.2.2.1))
  · rfl
  rfl
theorem wLv_len : ∀ (d l : Nat) (X : List Nat), (wLv d l X).1.length = d ∧ (wLv d l X).2.length = d
  | 0, l, X => ⟨rfl, rfl⟩
  | d + 1, l, X => by
    have := wLv_len d (l + 1) (wlo l X ++ whi l X)
    rw [wLv]
    exact ⟨by rw [List.length_cons, this.1], by rw [List.length_cons, this.2]⟩
theorem wLv_words : ∀ (d l : Nat) (X : List Nat), ∀ p ∈ (wLv d l X).2, p.2.length = nw X.length
  | 0, l, X, p, h => by cases h
  | d + 1, l, X, p, h => by
    rw [wLv] at h
    have hl := lohi_len l X
    rcases List.mem_cons.1 h with rfl | h
    · rw [wrds_length, wbs_len]
    · rw [wLv_words d (l + 1) _ p h, List.length_append, hl]
theorem pk_words (w : Nat) (X : List Nat) : (pk w X).2.2.2.length = nw (X.length * w) := by
  show (ints (wrds (dgs w X))).length = _
  rw [ints_len, wrds_length, dgs_len]
/-- Sizes of an index. -/
structure SmFm (f : FmT) (k : Nat) : Prop where
  z : f.2.2.2.1.length ≤ k
  l : f.2.2.2.2.1.length ≤ k
  w : ∀ p ∈ f.2.2.2.2.1, p.2.length ≤ k
  c : f.2.2.2.2.2.1.length ≤ k
  m : f.2.2.2.2.2.2.2.1.length ≤ k
  s : f.2.2.2.2.2.2.2.2.2.2.2.1.length ≤ k
  i : f.2.2.2.2.2.2.2.2.2.2.2.2.2.2.2.length ≤ k
theorem SmFm.short {f : FmT} {k : Nat} (h : SmFm f k) (hk : k < 4611686018427387904) : ShortFm f :=
  ⟨by have := h.z; omega, by have := h.l; omega, fun p hp => by have := h.w p hp; omega, by have := h.c; omega, by have := h.m; omega, by have := h.s; omega, by have := h.i; omega⟩
theorem fmV_small (D : List Nat) (hl : D.length ≤ 300) (r : Nat) : SmFm (fmV D r) 1000 := by
  have hb := bwt_len D
  have hs := srt_len' D
  have h1 := wLv_len 9 0 (bwt D)
  have hw := wd_le9 (n := D.length) (by omega)
  have hsa := saL_len r (srt D)
  have hd : D.length / r ≤ D.length := Nat.div_le_self _ _
  have p1 := pk_size (n := (saL r (srt D)).length) (by omega) hw
  have p2 := pk_size (n := (isaL r D.length (srt D)).length) (by rw [isaL_len]; omega) hw
  refine ⟨?_, ?_, fun p hp => ?_, ?_, ?_, ?_, ?_⟩
  · show (ints (wLv 9 0 (bwt D)).1).length ≤ 1000
    rw [ints_len]; omega
  · show (LI (wLv 9 0 (bwt D)).2).length ≤ 1000
    rw [List.length_map]; omega
  · have hp' : p ∈ LI (wLv 9 0 (bwt D)).2 := hp
    obtain ⟨q, hq, rfl⟩ := List.mem_map.1 hp'
    rw [ints_len, wLv_words _ _ _ q hq]
    unfold nw; omega
  · show (ints ((List.range 258).map (ltc (bwt D)))).length ≤ 1000
    rw [ints_len, List.length_map, List.length_range]; omega
  · show (ints (wrds (mkB r (srt D)))).length ≤ 1000
    rw [ints_len, wrds_length, mkB_len]; unfold nw; omega
  · show (pk (wd D.length) (saL r (srt D))).2.2.2.length ≤ 1000
    rw [pk_words]; unfold nw; omega
  · show (pk (wd D.length) (isaL r D.length (srt D))).2.2.2.length ≤ 1000
    rw [pk_words]; unfold nw; omega

/-! #### the text -/
theorem bT_true (X : List Nat) (hX : X.length ≤ 301) (hx : ∀ x ∈ X, x ≤ 256) (h : (bT X).2 = true) : ∃ D : List Nat, bT X = (ints D, true) ∧ bwt D = X ∧ D.length ≤ 300 ∧ ∀ x ∈ D, x < 256 := by
  unfold bT at h ⊢
  cases h0 : decide (X.length = 0) with
  | true => rw [h0] at h; cases h
  | false =>
    rw [h0] at h
    rw [bif_false] at h ⊢
    have hl := wk_len X (X.length - 1) 0 []
    unfold tFin at h ⊢
    cases h1 : decide (bwt (wk X (X.length - 1) 0 []).1 = X) with
    | false => rw [h1] at h; cases h
    | true =>
      rw [bif_true]
      exact ⟨_, rfl, of_decide_eq_true h1, by have := hl.1; simp at this; omega, wk_bytes X hx _ _ _ (by simp)⟩
/-- What both readings come to. -/
def FmOkV (f : FmT) (D : List Nat) : Prop := D.length ≤ 300 ∧ (∀ x ∈ D, x < 256) ∧ 1 ≤ f.2.1 ∧ f.2.1 ≤ 64 ∧ f = fmV D f.2.1.toNat
/-- The wave is valid, and its numbers tell the text. -/
def FmW (f : FmT) (D : List Nat) : Prop := (∃ L, f.2.2.2.2.1 = LI L ∧ (∀ p ∈ L, p.2.length ≤ 1048576) ∧ (∀ p ∈ L, ∀ x ∈ p.2, x < 2 ^ 64) ∧ wOk f.2.2.1 f.2.2.2.1 L = true) ∧ bT (bwt D) = (ints D, true)
theorem implText_short (xs : List Int) (h : xs.length < 4611686018427387904) (hs : sOk xs = false) : impl_BwtText xs = some ([], false) := by
  rw [impl_BwtText.eq, implSymsOk_eq _ h, hs]; rfl
theorem specText_short (xs : List Int) (h : xs.length < 4611686018427387904) (hs : sOk xs = false) : spec_BwtText xs = some ([], false) := by
  rw [spec_BwtText.eq, specSymsOk_eq _ h, hs]; rfl
theorem specWaveList_eq (n : Int) (Z : List Int) (L : List (Int × List Nat)) (hl : ∀ p ∈ L, p.2.length ≤ 1048576) (hx : ∀ p ∈ L, ∀ x ∈ p.2, x < 2 ^ 64) : spec_WaveList (n, Z, LI L) = some (bif wOk n Z L then ints (wList n.toNat L) else []) := by
  rw [spec_WaveList.eq]
  try simp only
  rw [specWaveOk_eq n Z L hl hx, Option.bind_some]
  cases h : wOk n Z L with
  | false => rfl
  | true => rw [Bool.not_true, bif_false, bif_true, l07List_eq n Z L hx h]; rfl
theorem fmRead_eq (f : FmT) (hf : SmFm f 1048576) (hx : ∀ p ∈ f.2.2.2.2.1, ∀ x ∈ p.2, 0 ≤ x ∧ x < ((2 ^ 64 : Nat) : Int)) :
    ∃ (v : Bool) (D : List Nat) (t : List Int), spec_l09Text f = some (bif v then (ints D, true) else ([], false)) ∧ impl_Fm_read f = some (bif v then ints D else t, v) ∧ (v = true → FmOkV f D ∧ FmW f D) := by
  obtain ⟨L, hLX, hL⟩ := lv_of f.2.2.2.2.1 hx
  have hLl : ∀ p ∈ L, p.2.length ≤ 1048576 := LI_len (by rw [← hLX]; exact hf.w)
  have hread := waveRead_eq f.2.2.1 f.2.2.2.1 L hLl hL
  have hlist := specWaveList_eq f.2.2.1 f.2.2.2.1 L hLl hL
  rw [← hLX] at hread hlist
  rw [spec_l09Text.eq, impl_Fm_read.eq, hread, Option.bind_some, specRate_eq, Option.bind_some]
  have bad : ∀ s i, s = some (([] : List Int), false) → (∃ t, i = some ((t : List Int), false)) → ∃ (v : Bool) (D : List Nat) (t : List Int), s = some (bif v then (ints D, true) else ([], false)) ∧ i = some (bif v then ints D else t, v) ∧ (v = true → FmOkV f D ∧ FmW f D) :=
    fun s i h1 ⟨t, h2⟩ => ⟨false, [], t, h1, h2, fun h => by cases h⟩
  cases hr : decide (1 ≤ f.2.1) && decide (f.2.1 ≤ 64) with
  | false =>
    refine bad _ _ rfl ⟨[], ?_⟩
    cases wOk f.2.2.1 f.2.2.2.1 L with
    | false => rfl
    | true => rw [bif_true, Bool.not_true, bif_false, implRate_eq, hr]; rfl
  | true =>
    rw [Bool.not_true, bif_false]
    simp only [Bool.and_eq_true, decide_eq_true_eq] at hr
    cases hw : wOk f.2.2.1 f.2.2.2.1 L with
    | false =>
      refine bad _ _ ?_ ⟨[], rfl⟩
      by_cases hn : f.2.2.1 > 301
      · rw [bif_dec hn]
      · rw [bif_ndec hn, spec_l09Text_l0.eq, hlist, hw, Option.bind_some, bif_false]
        have := specBwtText_eq [] (by simp) (by simp)
        rw [show ints [] = ([] : List Int) from rfl] at this
        rw [this]; rfl
    | true =>
      obtain ⟨w1, w2, w3, w4, w5⟩ := wOk_at hw
      have hwl := wList_len f.2.2.1.toNat L
      rw [bif_true, Bool.not_true, bif_false, implRate_eq, decide_eq_true hr.1, decide_eq_true hr.2, Option.bind_some, Bool.and_true, Bool.not_true, bif_false]
      have hints : (ints (snds (rows (L.map lvb) (start f.2.2.1.toNat)))) = ints (wList f.2.2.1.toNat L) := rfl
      simp only [hints]
      obtain ⟨X, hXe⟩ : ∃ X, X = wList f.2.2.1.toNat L := ⟨_, rfl⟩
      have hinv := wave_inv f.2.2.1 f.2.2.2.1 L hL hw
      rw [hw] at hlist
      rw [← hXe] at hwl hlist hinv ⊢
      by_cases hn : f.2.2.1 > 301
      · refine bad _ _ (by rw [bif_dec hn]) ⟨[], ?_⟩
        have hs : sOk (ints X) = false := by
          unfold sOk
          rw [decide_eq_false (by rw [ints_len]; omega)]; rfl
        rw [implText_short _ (by rw [ints_len]; omega) hs]; rfl
      · rw [bif_ndec hn, spec_l09Text_l0.eq, hlist, Option.bind_some, bif_true]
        cases hs : sOk (ints X) with
        | false =>
          refine bad _ _ ?_ ⟨[], ?_⟩
          · rw [specText_short _ (by rw [ints_len]; omega) hs]; rfl
          · rw [implText_short _ (by rw [ints_len]; omega) hs]; rfl
        | true =>
          have hX : X.length ≤ 301 := by omega
          have hXx : ∀ x ∈ X, x ≤ 256 := by
            simp only [sOk, Bool.and_eq_true, decide_eq_true_eq, List.all_eq_true] at hs
            intro x hx
            have := hs.2 (x : Int) (List.mem_map.2 ⟨x, hx, rfl⟩)
            omega
          rw [specBwtText_eq X hX hXx, implBwtText_eq X hX hXx, Option.bind_some, Option.bind_some]
          cases hb : (bT X).2 with
          | false => exact bad _ _ rfl ⟨_, rfl⟩
          | true =>
            obtain ⟨D, d1, d2, d3, d4⟩ := bT_true X hX hXx hb
            obtain ⟨r, hre⟩ : ∃ r : Nat, f.2.1 = r := ⟨f.2.1.toNat, by omega⟩
            have hfm := implFm_eq D d3 d4 r (by omega) (by omega)
            have hfs := specFm_eq D d3 d4 r (by omega) (by omega)
            rw [← hre] at hfm hfs
            rw [d1, Bool.not_true, bif_false, bif_true]
            simp only [hfm, hfs, Option.bind_some]
            have hsm := fmV_small D d3 r
            have hse := sameFm_eq (fmV D r) f (hsm.short (by omega))
            refine ⟨decide (fmV D r = f), D, ints D, ?_, ?_, fun h => ⟨⟨d3, d4, hr.1, hr.2, ?_⟩, ⟨L, hLX, hLl, hL, hw⟩, by rw [d2]; exact d1⟩⟩
            · have hwv : (f.2.2.1, f.2.2.2.1, f.2.2.2.2.1) = ((fmV D r).2.2.1, (fmV D r).2.2.2.1, (fmV D r).2.2.2.2.1) := by
                show _ = (((bwt D).length : Int), ints (wLv 9 0 (bwt D)).1, LI (wLv 9 0 (bwt D)).2)
                rw [d2, hinv.1, hinv.2, ← hLX, hwl, Int.toNat_of_nonneg w1]
              have hdec : decide (fmV D r = f) = decide (f = fmV D r) := by rw [Bool.eq_iff_iff, decide_eq_true_eq, decide_eq_true_eq]; exact eq_comm
              have hr2 : (fmV D r).2.1 = (r : Int) := rfl
              rw [hdec, fm_dec, hwv, decide_eq_true rfl, hre, hr2, decide_eq_true rfl, Bool.true_and, Bool.true_and,
                same_eq _ _ (by have := hf.c; omega), l03Same_eq _ _ _ _ (by have := hf.m; omega), l09Packs_eq _ _ _ _ _ _ _ _ (by have := hf.s; omega), l09Packs_eq _ _ _ _ _ _ _ _ (by have := hf.i; omega)]
              simp only [Option.bind_some, bne, beq_dec]
              cases decide (f.1 = (fmV D r).1)
              · rfl
              cases decide (f.2.2.2.2.2.1 = (fmV D r).2.2.2.2.2.1)
              · rfl
              cases decide ((f.2.2.2.2.2.2.1, f.2.2.2.2.2.2.2.1) = ((fmV D r).2.2.2.2.2.2.1, (fmV D r).2.2.2.2.2.2.2.1))
              · rfl
              cases decide ((f.2.2.2.2.2.2.2.2.1, f.2.2.2.2.2.2.2.2.2.1, f.2.2.2.2.2.2.2.2.2.2.1, f.2.2.2.2.2.2.2.2.2.2.2.1) = ((fmV D r).2.2.2.2.2.2.2.2.1, (fmV D r).2.2.2.2.2.2.2.2.2.1, (fmV D r).2.2.2.2.2.2.2.2.2.2.1, (fmV D r).2.2.2.2.2.2.2.2.2.2.2.1))
              · rfl
              cases decide (f.2.2.2.2.2.2.2.2.2.2.2.2 = (fmV D r).2.2.2.2.2.2.2.2.2.2.2.2) <;> rfl
            · show (impl_sameFm (fmV D r) f).bind _ = _
              rw [hse]
              cases decide (fmV D r = f) <;> rfl
            · rw [hre, Int.toNat_natCast]; exact (of_decide_eq_true h).symm
end Go.Ev.W

/- What the laws' own helpers come to: marks in waves. -/
set_option linter.unusedVariables false
set_option linter.unusedSimpArgs false
namespace Go.Ev.W
open Go.Ev

def mBS : Int → List Nat → Lv
  | _, [] => []
  | k, m :: ms => (k, markF IntKind.u64.wrap (k + 1) m) :: mBS (k + 1 + m) ms
def mBE : Int → List Nat → Int
  | k, [] => k
  | k, m :: ms => mBE (k + 1 + m) ms
theorem mBE_eq : ∀ (k : Int) (ms : List Nat), mBE k ms = k + (ms.length + ms.sum : Nat)
  | k, [] => by simp [mBE]
  | k, m :: ms => by rw [mBE, mBE_eq, List.length_cons, List.sum_cons]; omega
theorem markBitsS_l : ∀ (ms : List Nat) (P : Lv) (Q : Lv) (k : Int), Q.map (fun p => p.2.length) = ms → 0 ≤ k → P.length + Q.length ≤ 1048576 → (∀ m ∈ ms, m ≤ 1048576) → k + ((ms.length + ms.sum : Nat) : Int) ≤ 4000000000 →
    laws_markBitsS_l0 k P.length (P ++ Q) = some (mBE k ms, P ++ mBS k ms)
  | [], P, Q, k, hq, hk, hl, hm, hs => by
    have : Q = [] := by simpa using hq
    subst this
    rw [laws_markBitsS_l0.eq, bif_ndec (by rw [List.length_append]; simp)]
    rfl
  | m :: ms, P, Q, k, hq, hk, hl, hm, hs => by
    cases Q with
    | nil => simp at hq
    | cons q Q =>
      rw [List.map_cons] at hq
      injection hq with h1 h2
      have hmm : m ≤ 1048576 := hm m List.mem_cons_self
      rw [List.length_cons, List.sum_cons] at hs
      have hi : P.length < (P ++ q :: Q).length := by rw [List.length_append, List.length_cons]; omega
      have hg : (P ++ q :: Q)[P.length]? = some q := by rw [List.getElem?_append_right (Nat.le_refl _), Nat.sub_self]; rfl
      have hset : ∀ (y z : Int × List Int), (P ++ y :: Q).set P.length z = P ++ z :: Q := fun y z => by rw [List.set_append_right _ _ (Nat.le_refl _), Nat.sub_self]; rfl
      have hg2 : ∀ y : Int × List Int, (P ++ y :: Q)[P.length]? = some y := fun y => by rw [List.getElem?_append_right (Nat.le_refl _), Nat.sub_self]; rfl
      rw [List.length_cons] at hl
      rw [laws_markBitsS_l0.eq, bif_dec (by omega)]
      simp only [at?_nat, Int.toNat_natCast, hg, hset, hg2, Option.bind_some]
      rw [wrapI (by omega) (by omega), markUint64S_eq _ _ (by omega) (by omega), Option.bind_some, wrapS _ (by omega)]
      have ih := markBitsS_l ms (P ++ [(k, markF IntKind.u64.wrap (k + 1) m)]) Q (k + 1 + m) h2 (by omega) (by rw [List.length_append, List.length_cons, List.length_nil]; omega) (fun x hx => hm x (List.mem_cons_of_mem _ hx)) (by omega)
      rw [List.length_append, List.length_cons, List.length_nil, List.append_assoc, List.append_assoc] at ih
      simp only [h1]
      exact ih
abbrev lens (L : Lv) : List Nat := L.map fun p => p.2.length
theorem Small.sum {Z : List Int} {L : Lv} (h : Small Z L) : Z.length + (lens L).length + (lens L).sum ≤ 1048576 := by
  have := h.s
  rw [List.length_map]; exact this
theorem Small.lw {Z : List Int} {L : Lv} (h : Small Z L) : ∀ m ∈ lens L, m ≤ 1048576 := by
  intro m hm
  obtain ⟨p, hp, rfl⟩ := List.mem_map.1 hm
  exact h.w p hp
theorem markWave_eq (n : Int) (Z : List Int) (L : Lv) (k : Int) (hk : 0 ≤ k) (hk2 : k ≤ 1000000000) (h : Small Z L) :
    laws_markWave (n, Z, L) k = some (mBE (k + Z.length) (lens L), (n, markF id k Z.length, mBS (k + Z.length) (lens L))) := by
  rw [laws_markWave.eq]
  have := h.z
  have := h.l
  have hs := h.sum
  try simp only
  rw [markIntS_eq _ _ hk (by omega), Option.bind_some, laws_markBitsS.eq]
  have := markBitsS_l (lens L) [] L (k + Z.length) rfl (by omega) (by simp; omega) h.lw (by omega)
  simp only [List.length_nil, List.nil_append] at this ⊢
  have e : ((0 : Nat) : Int) = 0 := rfl
  rw [e] at this
  rw [this, Option.bind_some]
end Go.Ev.W

/- Indexes: the laws' helpers. -/
set_option linter.unusedVariables false
set_option linter.unusedSimpArgs false
namespace Go.Ev.W
open Go.Ev

theorem szPacked_eq (v : Int × Int × Int × List Int) (k : Int) (hk : 0 ≤ k) (hk2 : k ≤ 1048576) (h : v.2.2.2.length ≤ maxLen) : laws_szPacked v k = some (if k - v.2.2.2.length < 0 then -1 else k - v.2.2.2.length) := by
  rw [laws_szPacked.eq, szBits_eq _ _ hk hk2 h, Option.bind_some, szcase]
  by_cases hc : k - (v.2.2.2.length : Int) < 0
  · rw [bif_dec hc, if_pos hc]
  · rw [bif_ndec hc]
theorem toPacked_eq (a b c : Int) (x : List Int) (h : x.length ≤ 1048576) : laws_toPacked (a, b, c, x) = some (a, b, c, x) := by
  rw [laws_toPacked.eq, toBits_eq _ _ h, Option.bind_some]
theorem szWave_ok2 (n : Int) (Z : List Int) (L : Lv) (hz : Z.length ≤ maxLen) (h : L.length ≤ maxLen) (hw : ∀ p ∈ L, p.2.length ≤ maxLen) : ∃ r, laws_szWave (n, Z, L) 1048576 = some r ∧ r ≤ 1048576 ∧ (r < 0 ∨ (¬ r < 0 ∧ Small Z L)) := by
  obtain ⟨r, h1, h2⟩ := szWave_ok n Z L hz h hw
  refine ⟨r, h1, ?_, h2⟩
  rw [laws_szWave.eq] at h1
  simp only at h1
  rw [szIntS_eq _ _ (by omega) (by omega) hz, Option.bind_some, szcase] at h1
  by_cases hc : (1048576 : Int) - (Z.length : Int) < 0
  · rw [bif_dec hc] at h1; injection h1 with h1; omega
  · rw [bif_ndec hc, if_neg hc] at h1
    obtain ⟨q, k1, k2⟩ := szBitsS_ok L (1048576 - Z.length) (by omega) (by omega) h hw
    rw [k1, Option.bind_some] at h1
    by_cases hr : q < 0
    · rw [bif_dec hr] at h1; injection h1 with h1; omega
    · rw [bif_ndec hr] at h1; injection h1 with h1
      rcases k2 with k2 | ⟨_, k2⟩ <;> omega
/-- What the guard gives. -/
structure GdFm (f : FmT) : Prop where
  sm : SmFm f 1048576
  wv : Small f.2.2.2.1 f.2.2.2.2.1
theorem szFm_ok3 (f : FmT) (hz : f.2.2.2.1.length ≤ maxLen) (hl : f.2.2.2.2.1.length ≤ maxLen) (hw : ∀ p ∈ f.2.2.2.2.1, p.2.length ≤ maxLen) (hc : f.2.2.2.2.2.1.length ≤ maxLen) (hm : f.2.2.2.2.2.2.2.1.length ≤ maxLen) (hs : f.2.2.2.2.2.2.2.2.2.2.2.1.length ≤ maxLen) (hi : f.2.2.2.2.2.2.2.2.2.2.2.2.2.2.2.length ≤ maxLen) :
    ∃ r, laws_szFm f 1048576 = some r ∧ (r < 0 ∨ (¬ r < 0 ∧ GdFm f ∧ r ≤ 1048576)) := by
  rw [laws_szFm.eq]
  obtain ⟨r1, h1, hr1, h2⟩ := szWave_ok2 f.2.2.1 f.2.2.2.1 f.2.2.2.2.1 hz hl hw
  rw [h1, Option.bind_some]
  by_cases c1 : r1 < 0
  · rw [bif_dec c1]; exact ⟨-1, rfl, .inl (by omega)⟩
  have hsm : Small f.2.2.2.1 f.2.2.2.2.1 := h2.elim (fun h => absurd h c1) fun h => h.2
  rw [bif_ndec c1, szIntS_eq _ _ (by omega) hr1 hc, Option.bind_some, szcase]
  by_cases c2 : r1 - (f.2.2.2.2.2.1.length : Int) < 0
  · rw [bif_dec c2]; exact ⟨-1, rfl, .inl (by omega)⟩
  rw [bif_ndec c2, if_neg c2, szBits_eq _ _ (by omega) (by omega) hm, Option.bind_some, szcase]
  try simp only
  by_cases c3 : r1 - (f.2.2.2.2.2.1.length : Int) - (f.2.2.2.2.2.2.2.1.length : Int) < 0
  · rw [bif_dec c3]; exact ⟨-1, rfl, .inl (by omega)⟩
  rw [bif_ndec c3, if_neg c3, szPacked_eq _ _ (by omega) (by omega) hs, Option.bind_some, szcase]
  try simp only
  by_cases c4 : r1 - (f.2.2.2.2.2.1.length : Int) - (f.2.2.2.2.2.2.2.1.length : Int) - (f.2.2.2.2.2.2.2.2.2.2.2.1.length : Int) < 0
  · rw [bif_dec c4]; exact ⟨-1, rfl, .inl (by omega)⟩
  rw [bif_ndec c4, if_neg c4, szPacked_eq _ _ (by omega) (by omega) hi, Option.bind_some, szcase]
  by_cases c5 : r1 - (f.2.2.2.2.2.1.length : Int) - (f.2.2.2.2.2.2.2.1.length : Int) - (f.2.2.2.2.2.2.2.2.2.2.2.1.length : Int) - (f.2.2.2.2.2.2.2.2.2.2.2.2.2.2.2.length : Int) < 0
  · rw [bif_dec c5]; exact ⟨-1, rfl, .inl (by omega)⟩
  rw [bif_ndec c5, if_neg c5]
  exact ⟨_, rfl, .inr ⟨c5, ⟨⟨hsm.z, hsm.l, hsm.w, by omega, by omega, by omega, by omega⟩, hsm⟩, by omega⟩⟩
theorem toFm_eq (f : FmT) (h : GdFm f) : laws_toFm f = some f := by
  rw [laws_toFm.eq, toWave_eq _ _ _ h.wv, Option.bind_some, toIntS_eq _ h.sm.c, Option.bind_some, toBits_eq _ _ h.sm.m, Option.bind_some, toPacked_eq _ _ _ _ h.sm.s, Option.bind_some, toPacked_eq _ _ _ _ h.sm.i, Option.bind_some]
theorem eqPacked_v (v w : Int × Int × Int × List Int) (h : v.2.2.2.length < 4611686018427387904) : laws_eqPacked v w = some (decide (v = w)) := eqPacked_eq v.1 v.2.1 v.2.2.1 v.2.2.2 w.1 w.2.1 w.2.2.1 w.2.2.2 h
theorem eqFm_eq (f g : FmT) (h : GdFm f) : laws_eqFm f g = some (decide (f = g)) := by
  rw [laws_eqFm.eq, fm_dec, eqWave_eq _ _ _ _ _ _ h.wv, eqIntS_eq _ _ (by have := h.sm.c; omega), eqBits_eq _ _ _ _ (by have := h.sm.m; omega), eqPacked_eq _ _ _ _ _ _ _ _ (by have := h.sm.s; omega), eqPacked_v _ _ (by have := h.sm.i; omega)]
  simp only [Option.bind_some, bne, beq_dec]
  cases decide (f.1 = g.1)
  · rfl
  cases decide (f.2.1 = g.2.1)
  · rfl
  cases decide ((f.2.2.1, f.2.2.2.1, f.2.2.2.2.1) = (g.2.2.1, g.2.2.2.1, g.2.2.2.2.1))
  · rfl
  cases decide (f.2.2.2.2.2.1 = g.2.2.2.2.2.1)
  · rfl
  cases decide ((f.2.2.2.2.2.2.1, f.2.2.2.2.2.2.2.1) = (g.2.2.2.2.2.2.1, g.2.2.2.2.2.2.2.1))
  · rfl
  cases decide ((f.2.2.2.2.2.2.2.2.1, f.2.2.2.2.2.2.2.2.2.1, f.2.2.2.2.2.2.2.2.2.2.1, f.2.2.2.2.2.2.2.2.2.2.2.1) = (g.2.2.2.2.2.2.2.2.1, g.2.2.2.2.2.2.2.2.2.1, g.2.2.2.2.2.2.2.2.2.2.1, g.2.2.2.2.2.2.2.2.2.2.2.1))
  · rfl
  cases decide (f.2.2.2.2.2.2.2.2.2.2.2.2 = g.2.2.2.2.2.2.2.2.2.2.2.2) <;> rfl
theorem markPacked_v (v : Int × Int × Int × List Int) (k : Int) (hk : 0 ≤ k) (h : k + (v.2.2.2.length : Int) < 4611686018427387904) : laws_markPacked v k = some (k + v.2.2.2.length, (v.1, v.2.1, v.2.2.1, markF IntKind.u64.wrap k v.2.2.2.length)) :=
  markPacked_eq v.1 v.2.1 v.2.2.1 v.2.2.2 k hk h
theorem markFm_ok (f : FmT) (h : GdFm f) : ∃ r g, laws_markFm f 1 = some (r, g) ∧ 0 ≤ r ∧ r ≤ 100000000 := by
  have hs := h.wv.sum
  have hE := mBE_eq (1 + f.2.2.2.1.length) (lens f.2.2.2.2.1)
  have := h.sm.c
  have := h.sm.m
  have := h.sm.s
  have := h.sm.i
  rw [laws_markFm.eq, markWave_eq _ _ _ 1 (by omega) (by omega) h.wv, Option.bind_some]
  try simp only
  rw [markIntS_eq _ _ (by omega) (by omega), Option.bind_some]
  try simp only
  rw [markBits_eq _ _ _ (by omega) (by omega), Option.bind_some]
  try simp only
  rw [markPacked_eq _ _ _ _ _ (by omega) (by omega), Option.bind_some]
  try simp only
  rw [markPacked_v _ _ (by omega) (by omega), Option.bind_some]
  exact ⟨_, _, rfl, by omega, by omega⟩
theorem guard2 {α : Type} (k n : Int) (a b : Option α) : (bif decide (k < 0) then a else bif decide (k > n) then a else b) = bif decide (0 ≤ k) && decide (k ≤ n) then b else a := by
  by_cases h1 : k < 0
  · rw [bif_dec h1, decide_eq_false (show ¬ 0 ≤ k by omega)]; rfl
  · rw [bif_ndec h1, decide_eq_true (show 0 ≤ k by omega), Bool.true_and]
    by_cases h2 : k > n
    · rw [bif_dec h2, decide_eq_false (show ¬ k ≤ n by omega)]; rfl
    · rw [bif_ndec h2, decide_eq_true (show k ≤ n by omega)]; rfl
theorem bif_not {α : Type} (c : Bool) (a b : α) : (bif !c then a else b) = bif c then b else a := by cases c <;> rfl
end Go.Ev.W

/- Relative indexes: equality and the laws' helpers. -/
set_option linter.unusedVariables false
set_option linter.unusedSimpArgs false
namespace Go.Ev.W
open Go.Ev

abbrev RelT := Int × Int × Int × (List Int) × Int × (List Int) × Int × (List Int) × (List (Int × (List Int))) × Int × (List Int) × (List (Int × (List Int))) × FmT11
instance decRelA : DecidableEq (Int × (List Int) × (List (Int × (List Int))) × FmT11) := @instDecidableEqProd Int _ inferInstance decFm13
instance decRelB : DecidableEq (Int × (List Int) × (List (Int × (List Int))) × Int × (List Int) × (List (Int × (List Int))) × FmT11) := @instDecidableEqProd Int _ inferInstance (@instDecidableEqProd (List Int) _ inferInstance (@instDecidableEqProd (List (Int × (List Int))) _ inferInstance decRelA))
instance decRelC : DecidableEq (Int × (List Int) × Int × (List Int) × Int × (List Int) × (List (Int × (List Int))) × Int × (List Int) × (List (Int × (List Int))) × FmT11) := @instDecidableEqProd Int _ inferInstance (@instDecidableEqProd (List Int) _ inferInstance (@instDecidableEqProd Int _ inferInstance (@instDecidableEqProd (List Int) _ inferInstance decRelB)))
instance decRel : DecidableEq RelT := @instDecidableEqProd Int _ inferInstance (@instDecidableEqProd Int _ inferInstance decRelC)
theorem rel_dec (x y : RelT) : decide (x = y) = (decide (x.1 = y.1) && (decide (x.2.1 = y.2.1) && (decide ((x.2.2.1, x.2.2.2.1) = (y.2.2.1, y.2.2.2.1)) && (decide ((x.2.2.2.2.1, x.2.2.2.2.2.1) = (y.2.2.2.2.1, y.2.2.2.2.2.1)) && (decide ((x.2.2.2.2.2.2.1, x.2.2.2.2.2.2.2.1, x.2.2.2.2.2.2.2.2.1) = (y.2.2.2.2.2.2.1, y.2.2.2.2.2.2.2.1, y.2.2.2.2.2.2.2.2.1)) && (decide ((x.2.2.2.2.2.2.2.2.2.1, x.2.2.2.2.2.2.2.2.2.2.1, x.2.2.2.2.2.2.2.2.2.2.2.1) = (y.2.2.2.2.2.2.2.2.2.1, y.2.2.2.2.2.2.2.2.2.2.1, y.2.2.2.2.2.2.2.2.2.2.2.1)) && (decide (x.2.2.2.2.2.2.2.2.2.2.2.2.1 = y.2.2.2.2.2.2.2.2.2.2.2.2.1) && (decide ((x.2.2.2.2.2.2.2.2.2.2.2.2.2.1, x.2.2.2.2.2.2.2.2.2.2.2.2.2.2.1) = (y.2.2.2.2.2.2.2.2.2.2.2.2.2.1, y.2.2.2.2.2.2.2.2.2.2.2.2.2.2.1)) && (decide ((x.2.2.2.2.2.2.2.2.2.2.2.2.2.2.2.1, x.2.2.2.2.2.2.2.2.2.2.2.2.2.2.2.2.1, x.2.2.2.2.2.2.2.2.2.2.2.2.2.2.2.2.2.1, x.2.2.2.2.2.2.2.2.2.2.2.2.2.2.2.2.2.2.1) = (y.2.2.2.2.2.2.2.2.2.2.2.2.2.2.2.1, y.2.2.2.2.2.2.2.2.2.2.2.2.2.2.2.2.1, y.2.2.2.2.2.2.2.2.2.2.2.2.2.2.2.2.2.1, y.2.2.2.2.2.2.2.2.2.2.2.2.2.2.2.2.2.2.1)) && decide (x.2.2.2.2.2.2.2.2.2.2.2.2.2.2.2.2.2.2.2 = y.2.2.2.2.2.2.2.2.2.2.2.2.2.2.2.2.2.2.2)))))))))) := by
  obtain ⟨a1, a2, a3, a4, a5, a6, a7, a8, a9, a10, a11, a12, a13, a14, a15, a16, a17, a18, a19, a20⟩ := x
  obtain ⟨b1, b2, b3, b4, b5, b6, b7, b8, b9, b10, b11, b12, b13, b14, b15, b16, b17, b18, b19, b20⟩ := y
  simp only [dec_pair, Bool.and_assoc]
/-- Sizes. -/
structure SmRel (x : RelT) (k : Nat) : Prop where
  ref : x.2.2.2.1.length ≤ k
  inn : x.2.2.2.2.2.1.length ≤ k
  z1 : x.2.2.2.2.2.2.2.1.length ≤ k
  l1 : x.2.2.2.2.2.2.2.2.1.length ≤ k
  z2 : x.2.2.2.2.2.2.2.2.2.2.1.length ≤ k
  l2 : x.2.2.2.2.2.2.2.2.2.2.2.1.length ≤ k
  c : x.2.2.2.2.2.2.2.2.2.2.2.2.1.length ≤ k
  m : x.2.2.2.2.2.2.2.2.2.2.2.2.2.2.1.length ≤ k
  s : x.2.2.2.2.2.2.2.2.2.2.2.2.2.2.2.2.2.2.1.length ≤ k
  i : x.2.2.2.2.2.2.2.2.2.2.2.2.2.2.2.2.2.2.2.2.2.2.length ≤ k
  v1 : ∀ p ∈ x.2.2.2.2.2.2.2.2.1, p.2.length ≤ k
  v2 : ∀ p ∈ x.2.2.2.2.2.2.2.2.2.2.2.1, p.2.length ≤ k
structure GdRel (x : RelT) : Prop where
  sm : SmRel x 1048576
  wv1 : Small x.2.2.2.2.2.2.2.1 x.2.2.2.2.2.2.2.2.1
  wv2 : Small x.2.2.2.2.2.2.2.2.2.2.1 x.2.2.2.2.2.2.2.2.2.2.2.1
theorem samePacked_v (v w : Int × Int × Int × List Int) (h : v.2.2.2.length < 4611686018427387904) : impl_samePacked v w = some (decide (v = w)) := samePacked_eq v.1 v.2.1 v.2.2.1 v.2.2.2 w.1 w.2.1 w.2.2.1 w.2.2.2 h
theorem sameRel_eq (x y : RelT) (k : Nat) (hk : k < 4611686018427387904) (h : SmRel x k) : impl_sameRel x y = some (decide (x = y)) := by
  rw [impl_sameRel.eq, rel_dec, sameBits_eq _ _ _ _ (by have := h.ref; omega), sameBits_eq _ _ _ _ (by have := h.inn; omega), sameWave_eq _ _ _ _ _ _ (by have := h.z1; omega) (by have := h.l1; omega) (fun p hp => by have := h.v1 p hp; omega), sameWave_eq _ _ _ _ _ _ (by have := h.z2; omega) (by have := h.l2; omega) (fun p hp => by have := h.v2 p hp; omega), equalI_eq _ _ (by have := h.c; omega), sameBits_eq _ _ _ _ (by have := h.m; omega), samePacked_eq _ _ _ _ _ _ _ _ (by have := h.s; omega), samePacked_v _ _ (by have := h.i; omega), beq_dec, beq_dec]
  simp only [Option.bind_some]
  cases decide (x.1 = y.1)
  · rfl
  cases decide (x.2.1 = y.2.1)
  · rfl
  cases decide ((x.2.2.1, x.2.2.2.1) = (y.2.2.1, y.2.2.2.1))
  · rfl
  cases decide ((x.2.2.2.2.1, x.2.2.2.2.2.1) = (y.2.2.2.2.1, y.2.2.2.2.2.1))
  · rfl
  cases decide ((x.2.2.2.2.2.2.1, x.2.2.2.2.2.2.2.1, x.2.2.2.2.2.2.2.2.1) = (y.2.2.2.2.2.2.1, y.2.2.2.2.2.2.2.1, y.2.2.2.2.2.2.2.2.1))
  · rfl
  cases decide ((x.2.2.2.2.2.2.2.2.2.1, x.2.2.2.2.2.2.2.2.2.2.1, x.2.2.2.2.2.2.2.2.2.2.2.1) = (y.2.2.2.2.2.2.2.2.2.1, y.2.2.2.2.2.2.2.2.2.2.1, y.2.2.2.2.2.2.2.2.2.2.2.1))
  · rfl
  cases decide (x.2.2.2.2.2.2.2.2.2.2.2.2.1 = y.2.2.2.2.2.2.2.2.2.2.2.2.1)
  · rfl
  cases decide ((x.2.2.2.2.2.2.2.2.2.2.2.2.2.1, x.2.2.2.2.2.2.2.2.2.2.2.2.2.2.1) = (y.2.2.2.2.2.2.2.2.2.2.2.2.2.1, y.2.2.2.2.2.2.2.2.2.2.2.2.2.2.1))
  · rfl
  cases decide ((x.2.2.2.2.2.2.2.2.2.2.2.2.2.2.2.1, x.2.2.2.2.2.2.2.2.2.2.2.2.2.2.2.2.1, x.2.2.2.2.2.2.2.2.2.2.2.2.2.2.2.2.2.1, x.2.2.2.2.2.2.2.2.2.2.2.2.2.2.2.2.2.2.1) = (y.2.2.2.2.2.2.2.2.2.2.2.2.2.2.2.1, y.2.2.2.2.2.2.2.2.2.2.2.2.2.2.2.2.1, y.2.2.2.2.2.2.2.2.2.2.2.2.2.2.2.2.2.1, y.2.2.2.2.2.2.2.2.2.2.2.2.2.2.2.2.2.2.1))
  · rfl
  rfl
theorem szWave_gen (n : Int) (Z : List Int) (L : Lv) (k : Int) (hk : 0 ≤ k) (hk2 : k ≤ 1048576) (hz : Z.length ≤ maxLen) (h : L.length ≤ maxLen) (hw : ∀ p ∈ L, p.2.length ≤ maxLen) : ∃ r, laws_szWave (n, Z, L) k = some r ∧ r ≤ k ∧ (r < 0 ∨ (¬ r < 0 ∧ Small Z L)) := by
  rw [laws_szWave.eq]
  simp only
  rw [szIntS_eq _ _ hk hk2 hz, Option.bind_some, szcase]
  by_cases hc : k - (Z.length : Int) < 0
  · rw [bif_dec hc]; exact ⟨-1, rfl, by omega, .inl (by omega)⟩
  · rw [bif_ndec hc, if_neg hc]
    obtain ⟨r, h1, h2⟩ := szBitsS_ok L (k - Z.length) (by omega) (by omega) h hw
    rw [h1, Option.bind_some]
    by_cases hr : r < 0
    · rw [bif_dec hr]; exact ⟨-1, rfl, by omega, .inl (by omega)⟩
    · rw [bif_ndec hr]
      rcases h2 with h2 | ⟨_, h2⟩
      · omega
      · exact ⟨r, rfl, by omega, .inr ⟨hr, ⟨by omega, by omega, fun p hp => by have := sum_ge (List.mem_map.2 ⟨p, hp, rfl⟩ : p.2.length ∈ L.map fun p => p.2.length); omega, by omega⟩⟩⟩
theorem szRel_ok (x : RelT) (k : Int) (hk : 0 ≤ k) (hk2 : k ≤ 1048576) (href : x.2.2.2.1.length ≤ maxLen) (hinn : x.2.2.2.2.2.1.length ≤ maxLen) (hz1 : x.2.2.2.2.2.2.2.1.length ≤ maxLen) (hl1 : x.2.2.2.2.2.2.2.2.1.length ≤ maxLen) (hz2 : x.2.2.2.2.2.2.2.2.2.2.1.length ≤ maxLen) (hl2 : x.2.2.2.2.2.2.2.2.2.2.2.1.length ≤ maxLen) (hc : x.2.2.2.2.2.2.2.2.2.2.2.2.1.length ≤ maxLen) (hm : x.2.2.2.2.2.2.2.2.2.2.2.2.2.2.1.length ≤ maxLen) (hs : x.2.2.2.2.2.2.2.2.2.2.2.2.2.2.2.2.2.2.1.length ≤ maxLen) (hi : x.2.2.2.2.2.2.2.2.2.2.2.2.2.2.2.2.2.2.2.2.2.2.length ≤ maxLen) (hv1 : ∀ p ∈ x.2.2.2.2.2.2.2.2.1, p.2.length ≤ maxLen) (hv2 : ∀ p ∈ x.2.2.2.2.2.2.2.2.2.2.2.1, p.2.length ≤ maxLen) : ∃ r, laws_szRel x k = some r ∧ (r < 0 ∨ (¬ r < 0 ∧ GdRel x)) := by
  rw [laws_szRel.eq]
  rw [szBits_eq _ _ (by omega) (by omega) href, Option.bind_some, szcase]
  try simp only
  by_cases c1 : k - (x.2.2.2.1.length : Int) < 0
  · rw [bif_dec c1]; exact ⟨-1, rfl, .inl (by omega)⟩
  rw [bif_ndec c1, if_neg c1]
  rw [szBits_eq _ _ (by omega) (by omega) hinn, Option.bind_some, szcase]
  try simp only
  by_cases c2 : k - (x.2.2.2.1.length : Int) - (x.2.2.2.2.2.1.length : Int) < 0
  · rw [bif_dec c2]; exact ⟨-1, rfl, .inl (by omega)⟩
  rw [bif_ndec c2, if_neg c2]
  obtain ⟨r3, k3, e3, f3⟩ := szWave_gen x.2.2.2.2.2.2.1 x.2.2.2.2.2.2.2.1 x.2.2.2.2.2.2.2.2.1 (k - (x.2.2.2.1.length : Int) - (x.2.2.2.2.2.1.length : Int)) (by omega) (by omega) hz1 hl1 hv1
  rw [k3, Option.bind_some]
  by_cases c3 : r3 < 0
  · rw [bif_dec c3]; exact ⟨-1, rfl, .inl (by omega)⟩
  have s3 := f3.elim (fun h => absurd h c3) fun h => h.2
  rw [bif_ndec c3]
  obtain ⟨r4, k4, e4, f4⟩ := szWave_gen x.2.2.2.2.2.2.2.2.2.1 x.2.2.2.2.2.2.2.2.2.2.1 x.2.2.2.2.2.2.2.2.2.2.2.1 (r3) (by omega) (by omega) hz2 hl2 hv2
  rw [k4, Option.bind_some]
  by_cases c4 : r4 < 0
  · rw [bif_dec c4]; exact ⟨-1, rfl, .inl (by omega)⟩
  have s4 := f4.elim (fun h => absurd h c4) fun h => h.2
  rw [bif_ndec c4]
  rw [szIntS_eq _ _ (by omega) (by omega) hc, Option.bind_some, szcase]
  try simp only
  by_cases c5 : r4 - (x.2.2.2.2.2.2.2.2.2.2.2.2.1.length : Int) < 0
  · rw [bif_dec c5]; exact ⟨-1, rfl, .inl (by omega)⟩
  rw [bif_ndec c5, if_neg c5]
  rw [szBits_eq _ _ (by omega) (by omega) hm, Option.bind_some, szcase]
  try simp only
  by_cases c6 : r4 - (x.2.2.2.2.2.2.2.2.2.2.2.2.1.length : Int) - (x.2.2.2.2.2.2.2.2.2.2.2.2.2.2.1.length : Int) < 0
  · rw [bif_dec c6]; exact ⟨-1, rfl, .inl (by omega)⟩
  rw [bif_ndec c6, if_neg c6]
  rw [szPacked_eq _ _ (by omega) (by omega) hs, Option.bind_some, szcase]
  try simp only
  by_cases c7 : r4 - (x.2.2.2.2.2.2.2.2.2.2.2.2.1.length : Int) - (x.2.2.2.2.2.2.2.2.2.2.2.2.2.2.1.length : Int) - (x.2.2.2.2.2.2.2.2.2.2.2.2.2.2.2.2.2.2.1.length : Int) < 0
  · rw [bif_dec c7]; exact ⟨-1, rfl, .inl (by omega)⟩
  rw [bif_ndec c7, if_neg c7]
  rw [szPacked_eq _ _ (by omega) (by omega) hi, Option.bind_some, szcase]
  try simp only
  by_cases c8 : r4 - (x.2.2.2.2.2.2.2.2.2.2.2.2.1.length : Int) - (x.2.2.2.2.2.2.2.2.2.2.2.2.2.2.1.length : Int) - (x.2.2.2.2.2.2.2.2.2.2.2.2.2.2.2.2.2.2.1.length : Int) - (x.2.2.2.2.2.2.2.2.2.2.2.2.2.2.2.2.2.2.2.2.2.2.length : Int) < 0
  · rw [bif_dec c8]; exact ⟨-1, rfl, .inl (by omega)⟩
  rw [bif_ndec c8, if_neg c8]
  exact ⟨_, rfl, .inr ⟨c8, ⟨⟨by omega, by omega, s3.z, s3.l, s4.z, s4.l, by omega, by omega, by omega, by omega, s3.w, s4.w⟩, s3, s4⟩⟩⟩
theorem toRel_eq (x : RelT) (h : GdRel x) : laws_toRel x = some x := by
  rw [laws_toRel.eq, toBits_eq _ _ h.sm.ref, Option.bind_some, toBits_eq _ _ h.sm.inn, Option.bind_some, toWave_eq _ _ _ h.wv1, Option.bind_some, toWave_eq _ _ _ h.wv2, Option.bind_some, toIntS_eq _ h.sm.c, Option.bind_some, toBits_eq _ _ h.sm.m, Option.bind_some, toPacked_eq _ _ _ _ h.sm.s, Option.bind_some, toPacked_eq _ _ _ _ h.sm.i, Option.bind_some]
theorem eqRel_eq (x y : RelT) (h : GdRel x) : laws_eqRel x y = some (decide (x = y)) := by
  rw [laws_eqRel.eq, rel_dec, eqBits_eq _ _ _ _ (by have := h.sm.ref; omega), eqBits_eq _ _ _ _ (by have := h.sm.inn; omega), eqWave_eq _ _ _ _ _ _ h.wv1, eqWave_eq _ _ _ _ _ _ h.wv2, eqIntS_eq _ _ (by have := h.sm.c; omega), eqBits_eq _ _ _ _ (by have := h.sm.m; omega), eqPacked_eq _ _ _ _ _ _ _ _ (by have := h.sm.s; omega), eqPacked_v _ _ (by have := h.sm.i; omega)]
  simp only [Option.bind_some, bne, beq_dec]
  cases decide (x.1 = y.1)
  · rfl
  cases decide (x.2.1 = y.2.1)
  · rfl
  cases decide ((x.2.2.1, x.2.2.2.1) = (y.2.2.1, y.2.2.2.1))
  · rfl
  cases decide ((x.2.2.2.2.1, x.2.2.2.2.2.1) = (y.2.2.2.2.1, y.2.2.2.2.2.1))
  · rfl
  cases decide ((x.2.2.2.2.2.2.1, x.2.2.2.2.2.2.2.1, x.2.2.2.2.2.2.2.2.1) = (y.2.2.2.2.2.2.1, y.2.2.2.2.2.2.2.1, y.2.2.2.2.2.2.2.2.1))
  · rfl
  cases decide ((x.2.2.2.2.2.2.2.2.2.1, x.2.2.2.2.2.2.2.2.2.2.1, x.2.2.2.2.2.2.2.2.2.2.2.1) = (y.2.2.2.2.2.2.2.2.2.1, y.2.2.2.2.2.2.2.2.2.2.1, y.2.2.2.2.2.2.2.2.2.2.2.1))
  · rfl
  cases decide (x.2.2.2.2.2.2.2.2.2.2.2.2.1 = y.2.2.2.2.2.2.2.2.2.2.2.2.1)
  · rfl
  cases decide ((x.2.2.2.2.2.2.2.2.2.2.2.2.2.1, x.2.2.2.2.2.2.2.2.2.2.2.2.2.2.1) = (y.2.2.2.2.2.2.2.2.2.2.2.2.2.1, y.2.2.2.2.2.2.2.2.2.2.2.2.2.2.1))
  · rfl
  cases decide ((x.2.2.2.2.2.2.2.2.2.2.2.2.2.2.2.1, x.2.2.2.2.2.2.2.2.2.2.2.2.2.2.2.2.1, x.2.2.2.2.2.2.2.2.2.2.2.2.2.2.2.2.2.1, x.2.2.2.2.2.2.2.2.2.2.2.2.2.2.2.2.2.2.1) = (y.2.2.2.2.2.2.2.2.2.2.2.2.2.2.2.1, y.2.2.2.2.2.2.2.2.2.2.2.2.2.2.2.2.1, y.2.2.2.2.2.2.2.2.2.2.2.2.2.2.2.2.2.1, y.2.2.2.2.2.2.2.2.2.2.2.2.2.2.2.2.2.2.1))
  · rfl
  cases decide (x.2.2.2.2.2.2.2.2.2.2.2.2.2.2.2.2.2.2.2 = y.2.2.2.2.2.2.2.2.2.2.2.2.2.2.2.2.2.2.2) <;> rfl
theorem markRel_ok (x : RelT) (h : GdRel x) (k : Int) (hk : 0 ≤ k) (hk2 : k ≤ 100000000) : ∃ r g, laws_markRel x k = some (r, g) ∧ 0 ≤ r ∧ r ≤ 1000000000 := by
  have := h.sm.ref
  have := h.sm.inn
  have := h.sm.c
  have := h.sm.m
  have := h.sm.s
  have := h.sm.i
  have s1 := h.wv1.sum
  have s2 := h.wv2.sum
  have hE1 := mBE_eq (k + x.2.2.2.1.length + x.2.2.2.2.2.1.length + x.2.2.2.2.2.2.2.1.length) (lens x.2.2.2.2.2.2.2.2.1)
  rw [laws_markRel.eq, markBits_eq _ _ _ hk (by omega), Option.bind_some]
  try simp only
  rw [markBits_eq _ _ _ (by omega) (by omega), Option.bind_some]
  try simp only
  rw [markWave_eq _ _ _ _ (by omega) (by omega) h.wv1, Option.bind_some]
  try simp only
  have hE2 := mBE_eq (mBE (k + x.2.2.2.1.length + x.2.2.2.2.2.1.length + x.2.2.2.2.2.2.2.1.length) (lens x.2.2.2.2.2.2.2.2.1) + x.2.2.2.2.2.2.2.2.2.2.1.length) (lens x.2.2.2.2.2.2.2.2.2.2.2.1)
  rw [markWave_eq _ _ _ _ (by omega) (by omega) h.wv2, Option.bind_some]
  try simp only
  rw [markIntS_eq _ _ (by omega) (by omega), Option.bind_some]
  try simp only
  rw [markBits_eq _ _ _ (by omega) (by omega), Option.bind_some]
  try simp only
  rw [markPacked_eq _ _ _ _ _ (by omega) (by omega), Option.bind_some]
  try simp only
  rw [markPacked_v _ _ (by omega) (by omega), Option.bind_some]
  exact ⟨_, _, rfl, by omega, by omega⟩
end Go.Ev.W

/- Checksums and frames: both functions. -/
set_option linter.unusedVariables false
set_option linter.unusedSimpArgs false
namespace Go.Ev.W
open Go.Ev

def crcS (c : Nat) : Nat := if c % 2 = 1 then c / 2 ^^^ 3988292384 else c / 2
def crcN : Nat → Nat → Nat
  | 0, c => c
  | k + 1, c => crcN k (crcS c)
def crcV (D : List Nat) (c : Nat) : Nat := D.foldl (fun c x => crcN 8 (c ^^^ x)) c
def crc (D : List Nat) : Nat := crcV D 4294967295 ^^^ 4294967295
/-! #### frames -/
def four (n : Nat) : List Nat := [n % 256, n / 256 % 256, n / 65536 % 256, n / 16777216 % 256]
def frH (k : Nat) (B : List Nat) : List Nat := [90, k] ++ Var B.length ++ B
def frame (k : Nat) (B : List Nat) : List Nat := if B.length ≤ 8000 then frH k B ++ four (crc (frH k B)) else []
end Go.Ev.W

/- Joining byte slices. -/
set_option linter.unusedVariables false
set_option linter.unusedSimpArgs false
namespace Go.Ev.W
open Go.Ev

end Go.Ev.W

/- Packed numbers as bytes: both functions. -/
set_option linter.unusedVariables false
set_option linter.unusedSimpArgs false
namespace Go.Ev.W
open Go.Ev

end Go.Ev.W

/- An index as bytes: both functions. -/
set_option linter.unusedVariables false
set_option linter.unusedSimpArgs false
namespace Go.Ev.W
open Go.Ev

end Go.Ev.W

/- The index of a text is valid. -/
set_option linter.unusedVariables false
set_option linter.unusedSimpArgs false
namespace Go.Ev.W
open Go.Ev

theorem wLv_words64 (X : List Nat) : ∀ (d l : Nat) (Y : List Nat), ∀ p ∈ (wLv d l Y).2, ∀ x ∈ p.2, x < 2 ^ 64
  | 0, l, Y, p, h, _, _ => by cases h
  | d + 1, l, Y, p, h, x, hx => by
    rw [wLv] at h
    rcases List.mem_cons.1 h with rfl | h
    · exact (wrds_tight (wbs l Y)).2.1 x hx
    · exact wLv_words64 X d (l + 1) _ p h x hx
theorem fmV_words (D : List Nat) (r : Nat) : ∀ p ∈ (fmV D r).2.2.2.2.1, ∀ x ∈ p.2, 0 ≤ x ∧ x < ((2 ^ 64 : Nat) : Int) := by
  intro p hp x hx
  have hp' : p ∈ LI (wLv 9 0 (bwt D)).2 := hp
  obtain ⟨q, hq, rfl⟩ := List.mem_map.1 hp'
  obtain ⟨y, hy, rfl⟩ := List.mem_map.1 hx
  have := wLv_words64 [] 9 0 (bwt D) q hq y hy
  omega
end Go.Ev.W

/- Relative indexes: the text of a valid one. -/
set_option linter.unusedVariables false
set_option linter.unusedSimpArgs false
namespace Go.Ev.W
open Go.Ev

/-- The words of an argument. -/
structure XWords (x : RelT) : Prop where
  ref : ∀ y ∈ x.2.2.2.1, 0 ≤ y ∧ y < ((2 ^ 64 : Nat) : Int)
  inn : ∀ y ∈ x.2.2.2.2.2.1, 0 ≤ y ∧ y < ((2 ^ 64 : Nat) : Int)
  w1 : ∀ p ∈ x.2.2.2.2.2.2.2.2.1, ∀ y ∈ p.2, 0 ≤ y ∧ y < ((2 ^ 64 : Nat) : Int)
  w2 : ∀ p ∈ x.2.2.2.2.2.2.2.2.2.2.2.1, ∀ y ∈ p.2, 0 ≤ y ∧ y < ((2 ^ 64 : Nat) : Int)
/-- What a valid relative index is. -/
def relV (R D : List Nat) (x : RelT) (W1 W2 : List Nat) : RelT :=
  ((D.length : Int), x.2.1, x.2.2.1, x.2.2.2.1, x.2.2.2.2.1, x.2.2.2.2.2.1, (wvV (at0 (bwt R) (bts x.2.2.1.toNat W1))).1, (wvV (at0 (bwt R) (bts x.2.2.1.toNat W1))).2.1, (wvV (at0 (bwt R) (bts x.2.2.1.toNat W1))).2.2,
    (wvV (at0 (bwt D) (bts x.2.2.2.2.1.toNat W2))).1, (wvV (at0 (bwt D) (bts x.2.2.2.2.1.toNat W2))).2.1, (wvV (at0 (bwt D) (bts x.2.2.2.2.1.toNat W2))).2.2, (fmV D x.2.1.toNat).2.2.2.2.2)
/-- What both readings come to. -/
structure RelOkV (f : FmT) (x : RelT) (R D : List Nat) : Prop where
  dl : D.length ≤ 300
  db : ∀ y ∈ D, y < 256
  r1 : 1 ≤ x.2.1
  r2 : x.2.1 ≤ 64
  fv : FmOkV f R ∧ FmW f R
  ft : spec_l09Text f = some (ints R, true)
  fi : impl_Fm_read f = some (ints R, true)
  ref : ∃ W1, x.2.2.2.1 = ints W1 ∧ W1.length ≤ 1048576 ∧ (∀ y ∈ W1, y < 2 ^ 64) ∧ vOk x.2.2.1 W1 = true
  inn : ∃ W2, x.2.2.2.2.2.1 = ints W2 ∧ W2.length ≤ 1048576 ∧ (∀ y ∈ W2, y < 2 ^ 64) ∧ vOk x.2.2.2.2.1 W2 = true
  wv1 : ∃ L, x.2.2.2.2.2.2.2.2.1 = LI L ∧ (∀ p ∈ L, p.2.length ≤ 1048576) ∧ (∀ p ∈ L, ∀ y ∈ p.2, y < 2 ^ 64) ∧ wOk x.2.2.2.2.2.2.1 x.2.2.2.2.2.2.2.1 L = true
  wv2 : ∃ L, x.2.2.2.2.2.2.2.2.2.2.2.1 = LI L ∧ (∀ p ∈ L, p.2.length ≤ 1048576) ∧ (∀ p ∈ L, ∀ y ∈ p.2, y < 2 ^ 64) ∧ wOk x.2.2.2.2.2.2.2.2.2.1 x.2.2.2.2.2.2.2.2.2.2.1 L = true
  tail : x.2.2.2.2.2.2.2.2.2.2.2.2 = (fmV D x.2.1.toNat).2.2.2.2.2
theorem waves_eq (n : Int) (Z : List Int) (L : List (Int × List Nat)) (hl : ∀ p ∈ L, p.2.length ≤ 1048576) (hx : ∀ p ∈ L, ∀ x ∈ p.2, x < 2 ^ 64) (Y : List Nat) (hY : Y.length ≤ 1000) (hy : ∀ y ∈ Y, y ≤ 511) :
    spec_l14Waves (n, Z, LI L) (wvV Y) = some (decide ((n, Z, LI L) = wvV Y)) := by
  have hb := wave_back Y hY hy
  have hiff := waves_iff n Z L hx Y hY hy
  have hYl : ∀ p ∈ (wLv 9 0 Y).2, p.2.length ≤ 1048576 := fun p hp => by rw [wLv_words 9 0 Y p hp]; unfold nw; omega
  have hY64 := wLv_words64 [] 9 0 Y
  rw [spec_l14Waves.eq]
  show ((spec_WaveOk (n, Z, LI L)).bind fun y1 => bif y1 then (spec_WaveOk ((Y.length : Int), ints (wLv 9 0 Y).1, LI (wLv 9 0 Y).2)).bind fun y2 => bif y2 then (spec_l07List (n, Z, LI L)).bind fun y3 => (spec_l07List ((Y.length : Int), ints (wLv 9 0 Y).1, LI (wLv 9 0 Y).2)).bind fun y4 => (spec_l01Same y3 y4).bind fun y5 => some y5 else some false else some false) = _
  rw [specWaveOk_eq n Z L hl hx, Option.bind_some]
  cases hw : wOk n Z L with
  | false =>
    rw [bif_false]
    congr 1
    symm
    rw [decide_eq_false_iff_not]
    intro h
    rw [(hiff.2 h).1] at hw; cases hw
  | true =>
    rw [bif_true, specWaveOk_eq _ _ _ hYl hY64, hb.1, Option.bind_some, bif_true, l07List_eq n Z L hx hw, l07List_eq _ _ _ hY64 hb.1, Option.bind_some, Option.bind_some, Int.toNat_natCast, hb.2, same_eq _ _ (by rw [ints_len, wList_len]; have := (wOk_at hw).2.1; omega), Option.bind_some, dec_ints]
    congr 1
    rw [Bool.eq_iff_iff, decide_eq_true_eq, decide_eq_true_eq]
    exact ⟨fun h => hiff.1 ⟨hw, h⟩, fun h => (hiff.2 h).2⟩
theorem wave_small {Y : List Nat} {k : Nat} (h : Y.length ≤ k) (hk : k ≤ 400) : (wvV Y).2.1.length ≤ 1000 ∧ (wvV Y).2.2.length ≤ 1000 ∧ ∀ p ∈ (wvV Y).2.2, p.2.length ≤ 1000 := by
  have h1 := wLv_len' 9 0 Y
  refine ⟨?_, ?_, fun p hp => ?_⟩
  · show (ints (wLv 9 0 Y).1).length ≤ 1000
    rw [ints_len]; omega
  · show (LI (wLv 9 0 Y).2).length ≤ 1000
    rw [List.length_map]; omega
  · have hp' : p ∈ LI (wLv 9 0 Y).2 := hp
    obtain ⟨q, hq, rfl⟩ := List.mem_map.1 hp'
    rw [ints_len, wLv_words _ _ _ q hq]
    unfold nw; omega
theorem relRead_eq (f : FmT) (hf : SmFm f 1048576) (hw : ∀ p ∈ f.2.2.2.2.1, ∀ x ∈ p.2, 0 ≤ x ∧ x < ((2 ^ 64 : Nat) : Int)) (x : RelT) (hx : SmRel x 1048576) (xw : XWords x) :
    ∃ (v : Bool) (D : List Nat) (t : List Int), spec_l14Text f x = some (bif v then (ints D, true) else ([], false)) ∧ impl_Rel_read x f = some (bif v then ints D else t, v) ∧ (v = true → ∃ R, RelOkV f x R D) := by
  have bad : ∀ s i, s = some (([] : List Int), false) → (∃ t, i = some ((t : List Int), false)) → ∃ (v : Bool) (D : List Nat) (t : List Int), s = some (bif v then (ints D, true) else ([], false)) ∧ i = some (bif v then ints D else t, v) ∧ (v = true → ∃ R, RelOkV f x R D) :=
    fun s i h1 ⟨t, h2⟩ => ⟨false, [], t, h1, h2, fun h => by cases h⟩
  obtain ⟨v1, R, t1, f1, f2, f3⟩ := fmRead_eq f hf hw
  obtain ⟨L2, l2e, l2x⟩ := lv_of x.2.2.2.2.2.2.2.2.2.2.2.1 xw.w2
  have l2l : ∀ p ∈ L2, p.2.length ≤ 1048576 := LI_len (by rw [← l2e]; exact hx.v2)
  obtain ⟨L1, l1e, l1x⟩ := lv_of x.2.2.2.2.2.2.2.2.1 xw.w1
  have l1l : ∀ p ∈ L1, p.2.length ≤ 1048576 := LI_len (by rw [← l1e]; exact hx.v1)
  obtain ⟨W1, w1e, w1x⟩ := ints_of x.2.2.2.1 (2 ^ 64) xw.ref
  obtain ⟨W2, w2e, w2x⟩ := ints_of x.2.2.2.2.2.1 (2 ^ 64) xw.inn
  have w1l : W1.length ≤ 1048576 := by have := hx.ref; rw [w1e, ints_len] at this; exact this
  have w2l : W2.length ≤ 1048576 := by have := hx.inn; rw [w2e, ints_len] at this; exact this
  have hrd := waveRead_eq x.2.2.2.2.2.2.2.2.2.1 x.2.2.2.2.2.2.2.2.2.2.1 L2 l2l l2x
  have hok := specWaveOk_eq x.2.2.2.2.2.2.2.2.2.1 x.2.2.2.2.2.2.2.2.2.2.1 L2 l2l l2x
  have hls := specWaveList_eq x.2.2.2.2.2.2.2.2.2.1 x.2.2.2.2.2.2.2.2.2.2.1 L2 l2l l2x
  rw [← l2e] at hrd hok hls
  have hbk := specBitsOk_eq x.2.2.1 W1 w1l w1x
  rw [← w1e] at hbk
  rw [spec_l14Text.eq, impl_Rel_read.eq]
  show ∃ v D t, (spec_l09Text f).bind _ = _ ∧ (impl_Fm_read f).bind _ = _ ∧ _
  cases v1 with
  | false =>
    rw [show spec_l09Text f = some (([] : List Int), false) from f1, show impl_Fm_read f = some (t1, false) from f2, hrd]
    exact bad _ _ rfl ⟨[], rfl⟩
  | true =>
    have f1' : spec_l09Text f = some (ints R, true) := f1
    have f2' : impl_Fm_read f = some (ints R, true) := f2
    obtain ⟨k1, k2⟩ := f3 rfl
    obtain ⟨d1, d2, d3, d4, d5⟩ := k1
    have hbl := bwt_len R
    have hble := bwt_le R d2
    rw [f1', f2', hrd, Option.bind_some, Option.bind_some, Option.bind_some, Bool.not_true, bif_false, bif_false, specRate_eq, Option.bind_some, implRate_eq]
    cases hr : decide (1 ≤ x.2.1) && decide (x.2.1 ≤ 64) with
    | false =>
      refine bad _ _ rfl ?_
      cases wOk x.2.2.2.2.2.2.2.2.2.1 x.2.2.2.2.2.2.2.2.2.2.1 L2 <;> exact ⟨[], rfl⟩
    | true =>
      simp only [Bool.and_eq_true, decide_eq_true_eq] at hr
      rw [Bool.not_true, bif_false, hok, Option.bind_some]
      cases hwo : wOk x.2.2.2.2.2.2.2.2.2.1 x.2.2.2.2.2.2.2.2.2.2.1 L2 with
      | false => exact bad _ _ rfl ⟨[], rfl⟩
      | true =>
        rw [hwo, bif_true] at hls
        rw [Bool.not_true, bif_false, bif_true, hbk, Option.bind_some]
        simp only [Bool.not_true, bif_false, Option.bind_some]
        rw [impl_patched.eq]
        try simp only
        rw [implBwt_eq R d1 d2, Option.bind_some]
        obtain ⟨Q, hQ⟩ : ∃ Q, Q = wList x.2.2.2.2.2.2.2.2.2.1.toNat L2 := ⟨_, rfl⟩
        have hQl := wList_len x.2.2.2.2.2.2.2.2.2.1.toNat L2
        obtain ⟨wa, wb, wc, wd', we⟩ := wOk_at hwo
        have hQ511 := wList_le x.2.2.2.2.2.2.2.2.2.1.toNat L2 wd'
        have hinv := wave_inv _ _ L2 l2x hwo
        have hints : ints (snds (rows (L2.map lvb) (start x.2.2.2.2.2.2.2.2.2.1.toNat))) = ints Q := by rw [hQ]; rfl
        rw [← hQ] at hQl hQ511 hinv hls
        rw [hints]
        have hp1 := implPatchDo_eq (bwt R) (by omega) x.2.2.1 W1 x.2.2.2.2.1 W2 Q w1l w1x w2l w2x
        have hp2 := specPatch_eq (bwt R) (by omega) x.2.2.1 W1 x.2.2.2.2.1 W2 Q w1l w1x w2l w2x
        rw [← w1e, ← w2e] at hp1 hp2
        rw [hp1, Option.bind_some]
        have bt0 := specBwtText_eq [] (by simp) (by simp)
        rw [show ints [] = ([] : List Int) from rfl] at bt0
        cases hpo : pOkB (bwt R) x.2.2.1 W1 x.2.2.2.2.1 W2 Q with
        | false =>
          refine bad _ _ ?_ ⟨[], rfl⟩
          cases hvo : vOk x.2.2.1 W1 with
          | false => rfl
          | true =>
            rw [Bool.not_true, bif_false]
            by_cases hn : x.2.2.1 = IntKind.i64.wrap (((ints R).length : Int) + 1)
            · rw [bif_nne hn, spec_l14Text_l0.eq, specBwt_eq R d1 d2, Option.bind_some, hls, Option.bind_some, hp2, hpo, bif_false, Option.bind_some, bt0]; rfl
            · rw [bif_ne hn]
        | true =>
          have hpo' := hpo
          unfold pOkB at hpo'
          simp only [Bool.and_eq_true, decide_eq_true_eq] at hpo'
          obtain ⟨o1, o2, o3, o4, o5, o6⟩ := hpo'
          have o2' := o2
          simp only [vOk, Bool.and_eq_true, decide_eq_true_eq] at o2'
          have b2l := bts_length x.2.2.2.2.1.toNat W2
          have b1l := bts_length x.2.2.1.toNat W1
          have hal := at1_len (bwt R) (bts x.2.2.1.toNat W1) (by omega)
          rw [b1l] at hal
          rw [hpo] at hp2
          have hXl : (pVal (bwt R) x.2.2.1 W1 x.2.2.2.2.1 W2 Q).length ≤ 301 := by unfold pVal; rw [pat_len]; omega
          have hXlen : (pVal (bwt R) x.2.2.1 W1 x.2.2.2.2.1 W2 Q).length = x.2.2.2.2.1.toNat := by unfold pVal; rw [pat_len, b2l]
          have hat0 : at0 (pVal (bwt R) x.2.2.1 W1 x.2.2.2.2.1 W2 Q) (bts x.2.2.2.2.1.toNat W2) = Q := pat_at0 _ _ _ (by rw [b2l]; exact o6)
          obtain ⟨X, hXe⟩ : ∃ X, X = pVal (bwt R) x.2.2.1 W1 x.2.2.2.2.1 W2 Q := ⟨_, rfl⟩
          rw [← hXe] at hXl hXlen hat0 hp2 ⊢
          rw [o1, Bool.not_true, bif_false, bif_nne (show x.2.2.1 = IntKind.i64.wrap (((ints R).length : Int) + 1) by rw [ints_len, wrapS _ (by omega)]; omega), spec_l14Text_l0.eq, specBwt_eq R d1 d2, Option.bind_some, hls, Option.bind_some, hp2, bif_true, Option.bind_some]
          simp only [Bool.not_true, bif_false]
          cases hs : sOk (ints X) with
          | false =>
            rw [specText_short _ (by rw [ints_len]; omega) hs, implText_short _ (by rw [ints_len]; omega) hs]
            exact bad _ _ rfl ⟨[], rfl⟩
          | true =>
            have hXx : ∀ y ∈ X, y ≤ 256 := by
              simp only [sOk, Bool.and_eq_true, decide_eq_true_eq, List.all_eq_true] at hs
              intro y hy
              have := hs.2 (y : Int) (List.mem_map.2 ⟨y, hy, rfl⟩)
              omega
            rw [specBwtText_eq X hXl hXx, implBwtText_eq X hXl hXx, Option.bind_some, Option.bind_some]
            cases hb : (bT X).2 with
            | false => exact bad _ _ rfl ⟨(bT X).1, by simp only [Option.bind_some, hb]; rfl⟩
            | true =>
              obtain ⟨D, e1, e2, e3, e4⟩ := bT_true X hXl hXx hb
              have hbD := bwt_len D
              obtain ⟨r, hre⟩ : ∃ r : Nat, x.2.1 = r := ⟨x.2.1.toNat, by omega⟩
              have hfm := implFm_eq D e3 e4 r (by omega) (by omega)
              have hfs := specFm_eq D e3 e4 r (by omega) (by omega)
              rw [← hre] at hfm hfs
              have t1' := (okW_iff x.2.2.1.toNat W1 w1x).1 (by have := o1; simp only [vOk, Bool.and_eq_true] at this; exact this.2)
              have t2' := (okW_iff x.2.2.2.2.1.toNat W2 w2x).1 o2'.2
              have hn1 : ((x.2.2.1.toNat : Nat) : Int) = x.2.2.1 := by omega
              have hn2 : ((x.2.2.2.2.1.toNat : Nat) : Int) = x.2.2.2.2.1 := by omega
              have hY1 := at0_len (bwt R) (bts x.2.2.1.toNat W1)
              have hY1x : ∀ y ∈ at0 (bwt R) (bts x.2.2.1.toNat W1), y ≤ 511 := fun y hy => by have := hble y (at0_mem _ _ y hy); omega
              have hY2 : at0 (bwt D) (bts x.2.2.2.2.1.toNat W2) = Q := by rw [e2]; exact hat0
              have hY2l := at0_len X (bts x.2.2.2.2.1.toNat W2)
              rw [hat0] at hY2l
              have u1 := unmarked_eq (bwt R) x.2.2.1.toNat W1 (by omega) t1' (by omega)
              have u2 := unmarked_eq (bwt D) x.2.2.2.2.1.toNat W2 (by omega) t2' (by rw [e2]; omega)
              rw [hn1, ← w1e] at u1
              rw [hn2, ← w2e, hY2] at u2
              have hl1 := l01List_eq x.2.2.1.toNat W1 (by omega) (by have := t1'.1; unfold nw at this; omega) w1x
              rw [hn1, ← w1e] at hl1
              have z1 := zeros_eq (bwt R) (bts x.2.2.1.toNat W1) (by omega) (by omega)
              have v1i := implWaveOf_eq (at0 (bwt R) (bts x.2.2.1.toNat W1)) (by omega) hY1x
              have v1s := specWaveOf_eq (at0 (bwt R) (bts x.2.2.1.toNat W1)) (by omega) hY1x
              have v2i := implWaveOf_eq Q (by omega) hQ511
              have hwq : wvV Q = (x.2.2.2.2.2.2.2.2.2.1, x.2.2.2.2.2.2.2.2.2.2.1, x.2.2.2.2.2.2.2.2.2.2.2.1) := by
                unfold wvV
                rw [hinv.1, hinv.2, ← l2e, hQl, Int.toNat_of_nonneg wa]
              have hwv := waves_eq x.2.2.2.2.2.2.1 x.2.2.2.2.2.2.2.1 L1 l1l l1x (at0 (bwt R) (bts x.2.2.1.toNat W1)) (by omega) hY1x
              rw [← l1e] at hwv
              have hV : impl_relOf (ints R) (ints D) (x.2.2.1, x.2.2.2.1) (x.2.2.2.2.1, x.2.2.2.2.2.1) x.2.1 = some (relV R D x W1 W2, ints R, ints D) := by
                rw [impl_relOf.eq, hfm, Option.bind_some, implBwt_eq R d1 d2, Option.bind_some]
                try simp only
                rw [u1, Option.bind_some, v1i, Option.bind_some, implBwt_eq D e3 e4, Option.bind_some, u2, Option.bind_some, v2i, Option.bind_some]
                unfold relV
                rw [hY2, hre]; rfl
              have hsm := fmV_small D e3 r
              have q1 := wave_small hY1 (by omega)
              have q2 := wave_small (Y := Q) (k := 301) (by omega) (by omega)
              have hsr : SmRel (relV R D x W1 W2) 2000000 := by
                unfold relV
                rw [hY2, hre, Int.toNat_natCast]
                have a1 := hx.ref
                have a2 := hx.inn
                exact ⟨by show x.2.2.2.1.length ≤ _; omega, by show x.2.2.2.2.2.1.length ≤ _; omega, by have := q1.1; show (wvV _).2.1.length ≤ _; omega, by have := q1.2.1; show (wvV _).2.2.length ≤ _; omega, by have := q2.1; show (wvV _).2.1.length ≤ _; omega, by have := q2.2.1; show (wvV _).2.2.length ≤ _; omega, by have := hsm.c; show (fmV D r).2.2.2.2.2.1.length ≤ _; omega, by have := hsm.m; show (fmV D r).2.2.2.2.2.2.2.1.length ≤ _; omega, by have := hsm.s; show (fmV D r).2.2.2.2.2.2.2.2.2.2.2.1.length ≤ _; omega, by have := hsm.i; show (fmV D r).2.2.2.2.2.2.2.2.2.2.2.2.2.2.2.length ≤ _; omega, fun p hp => by have := q1.2.2 p hp; omega, fun p hp => by have := q2.2.2 p hp; omega⟩
              have hse := sameRel_eq (relV R D x W1 W2) x 2000000 (by omega) hsr
              rw [e1]
              simp only [Option.bind_some, bif_true, hV, Bool.not_true, bif_false]
              refine ⟨decide (relV R D x W1 W2 = x), D, ints D, ?_, ?_, fun h => ⟨R, ?_⟩⟩
              · have hdec : decide (relV R D x W1 W2 = x) = decide (x = relV R D x W1 W2) := by rw [Bool.eq_iff_iff, decide_eq_true_eq, decide_eq_true_eq]; exact eq_comm
                rw [hdec, rel_dec, spec_l14Text_l1.eq, hfs, Option.bind_some, specBwt_eq R d1 d2, Option.bind_some, hl1, Option.bind_some, z1, Option.bind_some, v1s, Option.bind_some]
                have g2 : decide (x.2.1 = (relV R D x W1 W2).2.1) = true := decide_eq_true rfl
                have g3 : decide ((x.2.2.1, x.2.2.2.1) = ((relV R D x W1 W2).2.2.1, (relV R D x W1 W2).2.2.2.1)) = true := decide_eq_true rfl
                have g4 : decide ((x.2.2.2.2.1, x.2.2.2.2.2.1) = ((relV R D x W1 W2).2.2.2.2.1, (relV R D x W1 W2).2.2.2.2.2.1)) = true := decide_eq_true rfl
                have g6 : decide ((x.2.2.2.2.2.2.2.2.2.1, x.2.2.2.2.2.2.2.2.2.2.1, x.2.2.2.2.2.2.2.2.2.2.2.1) = ((relV R D x W1 W2).2.2.2.2.2.2.2.2.2.1, (relV R D x W1 W2).2.2.2.2.2.2.2.2.2.2.1, (relV R D x W1 W2).2.2.2.2.2.2.2.2.2.2.2.1)) = true := by
                  refine decide_eq_true ?_
                  rw [← hwq, ← hY2]; rfl
                rw [g2, g3, g4, g6, Bool.true_and, Bool.true_and, Bool.true_and, Bool.true_and]
                have hrt : x.2.1.toNat = r := by omega
                have c1 : (relV R D x W1 W2).1 = (fmV D r).1 := rfl
                have c2 : (relV R D x W1 W2).2.2.2.2.2.2.2.2.2.2.2.2 = (fmV D r).2.2.2.2.2 := by unfold relV; rw [hrt]
                have c3 : ((relV R D x W1 W2).2.2.2.2.2.2.1, (relV R D x W1 W2).2.2.2.2.2.2.2.1, (relV R D x W1 W2).2.2.2.2.2.2.2.2.1) = wvV (at0 (bwt R) (bts x.2.2.1.toNat W1)) := rfl
                rw [c3, c1]
                simp only [c2]
                rw [same_eq _ _ (by have := hx.c; omega), l03Same_eq _ _ _ _ (by have := hx.m; omega), l09Packs_eq _ _ _ _ _ _ _ _ (by have := hx.s; omega), l09Packs_eq _ _ _ _ _ _ _ _ (by have := hx.i; omega)]
                have hwv' : spec_l14Waves (x.2.2.2.2.2.2.1, x.2.2.2.2.2.2.2.1, x.2.2.2.2.2.2.2.2.1) (((at0 (bwt R) (bts x.2.2.1.toNat W1)).length : Int), ints (wLv 9 0 (at0 (bwt R) (bts x.2.2.1.toNat W1))).1, LI (wLv 9 0 (at0 (bwt R) (bts x.2.2.1.toNat W1))).2) = _ := hwv
                simp only [Option.bind_some, bne, beq_dec, hwv']
                cases decide (x.1 = (fmV D r).1)
                · rfl
                cases decide (x.2.2.2.2.2.2.2.2.2.2.2.2.1 = (fmV D r).2.2.2.2.2.1)
                · simp only [Bool.true_and, Bool.false_and, Bool.and_false, Bool.not_false, Bool.not_true, bif_true, bif_false]
                cases decide ((x.2.2.2.2.2.2.2.2.2.2.2.2.2.1, x.2.2.2.2.2.2.2.2.2.2.2.2.2.2.1) = ((fmV D r).2.2.2.2.2.2.1, (fmV D r).2.2.2.2.2.2.2.1))
                · simp only [Bool.true_and, Bool.false_and, Bool.and_false, Bool.not_false, Bool.not_true, bif_true, bif_false]
                cases decide ((x.2.2.2.2.2.2.2.2.2.2.2.2.2.2.2.1, x.2.2.2.2.2.2.2.2.2.2.2.2.2.2.2.2.1, x.2.2.2.2.2.2.2.2.2.2.2.2.2.2.2.2.2.1, x.2.2.2.2.2.2.2.2.2.2.2.2.2.2.2.2.2.2.1) = ((fmV D r).2.2.2.2.2.2.2.2.1, (fmV D r).2.2.2.2.2.2.2.2.2.1, (fmV D r).2.2.2.2.2.2.2.2.2.2.1, (fmV D r).2.2.2.2.2.2.2.2.2.2.2.1))
                · simp only [Bool.true_and, Bool.false_and, Bool.and_false, Bool.not_false, Bool.not_true, bif_true, bif_false]
                cases decide (x.2.2.2.2.2.2.2.2.2.2.2.2.2.2.2.2.2.2.2 = (fmV D r).2.2.2.2.2.2.2.2.2.2.2.2)
                · simp only [Bool.true_and, Bool.false_and, Bool.and_false, Bool.not_false, Bool.not_true, bif_true, bif_false]
                cases decide ((x.2.2.2.2.2.2.1, x.2.2.2.2.2.2.2.1, x.2.2.2.2.2.2.2.2.1) = wvV (at0 (bwt R) (bts x.2.2.1.toNat W1))) <;> rfl
              · show (impl_sameRel (relV R D x W1 W2) x).bind _ = _
                rw [hse]
                cases decide (relV R D x W1 W2 = x) <;> rfl
              · have h := of_decide_eq_true h
                have hw1 : (x.2.2.2.2.2.2.1, x.2.2.2.2.2.2.2.1, x.2.2.2.2.2.2.2.2.1) = wvV (at0 (bwt R) (bts x.2.2.1.toNat W1)) := by
                  have h' := congrArg (fun y : RelT => (y.2.2.2.2.2.2.1, y.2.2.2.2.2.2.2.1, y.2.2.2.2.2.2.2.2.1)) h
                  exact h'.symm
                have ht : x.2.2.2.2.2.2.2.2.2.2.2.2 = (fmV D x.2.1.toNat).2.2.2.2.2 := (congrArg (fun y : RelT => y.2.2.2.2.2.2.2.2.2.2.2.2) h).symm
                rw [l1e] at hw1
                exact ⟨e3, e4, hr.1, hr.2, ⟨⟨d1, d2, d3, d4, d5⟩, k2⟩, f1', f2', ⟨W1, w1e, w1l, w1x, o1⟩, ⟨W2, w2e, w2l, w2x, o2⟩, ⟨L1, l1e, l1l, l1x, ((waves_iff _ _ L1 l1x _ (by omega) hY1x).2 hw1).1⟩, ⟨L2, l2e, l2l, l2x, hwo⟩, ht⟩
end Go.Ev.W

/- The law of FmLf. -/
set_option linter.unusedVariables false
set_option linter.unusedSimpArgs false
namespace Go.Ev.W
open Go.Ev
theorem fmLf_both (f : FmT) (hf : SmFm f 1048576) (hx : ∀ p ∈ f.2.2.2.2.1, ∀ x ∈ p.2, 0 ≤ x ∧ x < ((2 ^ 64 : Nat) : Int)) (k : Int) : ∃ v, spec_FmLf f k = some v ∧ impl_FmLf f k = some v := by
  obtain ⟨v, D, t, h1, h2, h3⟩ := fmRead_eq f hf hx
  rw [spec_FmLf.eq, impl_FmLf.eq]
  show ∃ v, (spec_l09Text f).bind _ = _ ∧ (impl_Fm_read f).bind _ = _
  cases v with
  | false =>
    rw [show spec_l09Text f = some (([] : List Int), false) from h1, show impl_Fm_read f = some (t, false) from h2]
    exact ⟨-1, rfl, rfl⟩
  | true =>
    obtain ⟨⟨d1, d2, _⟩, _⟩ := h3 rfl
    rw [show spec_l09Text f = some (ints D, true) from h1, show impl_Fm_read f = some (ints D, true) from h2, Option.bind_some, Option.bind_some]
    simp only [bif_true, Bool.not_true, bif_false]
    rw [withinN_eq, ints_len, guard2, Option.bind_some, bif_not]
    by_cases hk : 0 ≤ k ∧ k ≤ D.length
    · obtain ⟨m, rfl⟩ : ∃ m : Nat, k = m := ⟨k.toNat, by omega⟩
      have hb := bwt_len D
      have hble := bwt_le D d2
      rw [show (decide ((0 : Int) ≤ (m : Int)) && decide ((m : Int) ≤ (D.length : Int))) = true by rw [Bool.and_eq_true, decide_eq_true_eq, decide_eq_true_eq]; exact hk, bif_true, bif_true, specBwt_eq D d1 d2, implBwt_eq D d1 d2, Option.bind_some, Option.bind_some, specLf_eq _ (by omega) hble, implLf_eq _ (by omega) hble, Option.bind_some]
      simp only [Option.bind_some, at?_nat, Int.toNat_natCast, lfs_at (bwt D) m (show m < (bwt D).length by omega)]
      exact ⟨_, rfl, rfl⟩
    · rw [show (decide ((0 : Int) ≤ k) && decide (k ≤ (D.length : Int))) = false by rw [Bool.and_eq_false_iff, decide_eq_false_iff_not, decide_eq_false_iff_not]; omega]
      exact ⟨_, rfl, rfl⟩
end Go.Ev.W

/- The law of FmSa. -/
set_option linter.unusedVariables false
set_option linter.unusedSimpArgs false
namespace Go.Ev.W
open Go.Ev
theorem fmSa_both (f : FmT) (hf : SmFm f 1048576) (hx : ∀ p ∈ f.2.2.2.2.1, ∀ x ∈ p.2, 0 ≤ x ∧ x < ((2 ^ 64 : Nat) : Int)) (k : Int) : ∃ v, spec_FmSa f k = some v ∧ impl_FmSa f k = some v := by
  obtain ⟨v, D, t, h1, h2, h3⟩ := fmRead_eq f hf hx
  rw [spec_FmSa.eq, impl_FmSa.eq]
  show ∃ v, (spec_l09Text f).bind _ = _ ∧ (impl_Fm_read f).bind _ = _
  cases v with
  | false =>
    rw [show spec_l09Text f = some (([] : List Int), false) from h1, show impl_Fm_read f = some (t, false) from h2]
    exact ⟨-1, rfl, rfl⟩
  | true =>
    obtain ⟨⟨d1, d2, _⟩, _⟩ := h3 rfl
    rw [show spec_l09Text f = some (ints D, true) from h1, show impl_Fm_read f = some (ints D, true) from h2, Option.bind_some, Option.bind_some]
    simp only [bif_true, Bool.not_true, bif_false]
    rw [withinN_eq, ints_len, guard2, Option.bind_some, bif_not]
    by_cases hk : 0 ≤ k ∧ k ≤ D.length
    · obtain ⟨m, rfl⟩ : ∃ m : Nat, k = m := ⟨k.toNat, by omega⟩
      have hs := srt_len' D
      rw [show (decide ((0 : Int) ≤ (m : Int)) && decide ((m : Int) ≤ (D.length : Int))) = true by rw [Bool.and_eq_true, decide_eq_true_eq, decide_eq_true_eq]; exact hk, bif_true, bif_true, specSuf_eq D d1, implSuf_eq D d1 d2, Option.bind_some]
      simp only [Option.bind_some, at?_nat, Int.toNat_natCast, getElem?_ints _ m (show m < (srt D).length by omega)]
      exact ⟨_, rfl, rfl⟩
    · rw [show (decide ((0 : Int) ≤ k) && decide (k ≤ (D.length : Int))) = false by rw [Bool.and_eq_false_iff, decide_eq_false_iff_not, decide_eq_false_iff_not]; omega]
      exact ⟨_, rfl, rfl⟩
end Go.Ev.W

/- The law of FmIsa. -/
set_option linter.unusedVariables false
set_option linter.unusedSimpArgs false
namespace Go.Ev.W
open Go.Ev
theorem fmIsa_both (f : FmT) (hf : SmFm f 1048576) (hx : ∀ p ∈ f.2.2.2.2.1, ∀ x ∈ p.2, 0 ≤ x ∧ x < ((2 ^ 64 : Nat) : Int)) (k : Int) : ∃ v, spec_FmIsa f k = some v ∧ impl_FmIsa f k = some v := by
  obtain ⟨v, D, t, h1, h2, h3⟩ := fmRead_eq f hf hx
  rw [spec_FmIsa.eq, impl_FmIsa.eq]
  show ∃ v, (spec_l09Text f).bind _ = _ ∧ (impl_Fm_read f).bind _ = _
  cases v with
  | false =>
    rw [show spec_l09Text f = some (([] : List Int), false) from h1, show impl_Fm_read f = some (t, false) from h2]
    exact ⟨-1, rfl, rfl⟩
  | true =>
    obtain ⟨⟨d1, d2, _⟩, _⟩ := h3 rfl
    rw [show spec_l09Text f = some (ints D, true) from h1, show impl_Fm_read f = some (ints D, true) from h2, Option.bind_some, Option.bind_some]
    simp only [bif_true, Bool.not_true, bif_false]
    rw [withinN_eq, ints_len, guard2, Option.bind_some, bif_not]
    by_cases hk : 0 ≤ k ∧ k ≤ D.length
    · obtain ⟨m, rfl⟩ : ∃ m : Nat, k = m := ⟨k.toNat, by omega⟩
      have hs := srt_len' D
      rw [show (decide ((0 : Int) ≤ (m : Int)) && decide ((m : Int) ≤ (D.length : Int))) = true by rw [Bool.and_eq_true, decide_eq_true_eq, decide_eq_true_eq]; exact hk, bif_true, bif_true, specSuf_eq D d1, implSuf_eq D d1 d2, Option.bind_some, Option.bind_some, specInv_eq _ (by omega) (srt_nodup D) (fun x hx => (srt_mem D x).2 (by omega)), implInv_eq _ (by omega) (srt_nodup D) (fun x hx => by have := (srt_mem D x).1 hx; omega) (fun x hx => (srt_mem D x).2 (by omega)), Option.bind_some, Option.bind_some, at?_nat, Int.toNat_natCast, getElem?_ints _ m (by rw [inv_len]; omega)]
      exact ⟨_, rfl, rfl⟩
    · rw [show (decide ((0 : Int) ≤ k) && decide (k ≤ (D.length : Int))) = false by rw [Bool.and_eq_false_iff, decide_eq_false_iff_not, decide_eq_false_iff_not]; omega]
      exact ⟨_, rfl, rfl⟩
end Go.Ev.W

/- Where a word occurs: both functions. -/
set_option linter.unusedVariables false
set_option linter.unusedSimpArgs false
namespace Go.Ev.W
open Go.Ev

def bgn (X P : List Nat) : Bool := decide (X.take P.length = P)
theorem bgn_len {X P : List Nat} (h : bgn X P = true) : P.length ≤ X.length := by
  have h := of_decide_eq_true h
  rw [← h, List.length_take]; omega
theorem bgn_cmp : ∀ (X P : List Nat), bgn X P = true → ¬ cmpN X P < 0
  | [], [], _ => by show ¬ (0 : Int) < 0; omega
  | [], _ :: _, h => by have := bgn_len h; simp at this
  | _ :: _, [], _ => by show ¬ (1 : Int) < 0; omega
  | a :: X, b :: P, h => by
    have h1 := of_decide_eq_true h
    rw [List.length_cons, List.take_succ_cons] at h1
    injection h1 with h2 h3
    rw [cmpN, h2, if_neg (by omega), if_neg (by omega)]
    exact bgn_cmp X P (decide_eq_true h3)
theorem ints_takeN (X : List Nat) (n : Nat) : (ints X).take n = ints (X.take n) := (List.map_take).symm
theorem ints_dropN (X : List Nat) (n : Nat) : (ints X).drop n = ints (X.drop n) := (List.map_drop).symm
theorem drop_ints (D : List Nat) (a : Nat) : ((ints D).take D.length).drop a = ints (D.drop a) := by
  rw [ints_takeN, ints_dropN, List.take_of_length_le (Nat.le_refl _)]
theorem specBegins_eq (X P : List Nat) (hX : ByteL X) (hP : ByteL P) : spec_l05Begins (ints X) (ints P) = some (bgn X P) := by
  rw [spec_l05Begins.eq, ints_len, ints_len]
  by_cases h : P.length ≤ X.length
  · rw [bif_dec (by omega), bif_dec (by omega), Int.toNat_natCast, List.drop_zero, ints_takeN, strOf_eq _ _ (fun x hx => hX x (List.mem_of_mem_take hx)) hP]; rfl
  · rw [bif_ndec (by omega)]
    congr 1
    symm
    cases hb : bgn X P with
    | false => rfl
    | true => exact absurd (bgn_len hb) h
theorem prefix_eq (X P : List Nat) (hX : ByteL X) (hP : ByteL P) : bytes_HasPrefix (ints X) (ints P) = some (bgn X P) := by
  rw [bytes_HasPrefix.eq, ints_len, ints_len]
  by_cases h : P.length ≤ X.length
  · rw [bif_dec (by omega), bif_dec (by omega), Int.toNat_natCast, List.drop_zero, ints_takeN, bytes_Equal.eq, strOf_eq _ _ (fun x hx => hX x (List.mem_of_mem_take hx)) hP]; rfl
  · rw [bif_ndec (by omega)]
    congr 1
    symm
    cases hb : bgn X P with
    | false => rfl
    | true => exact absurd (bgn_len hb) h
theorem compare_eq (X P : List Nat) (hX : ByteL X) (hP : ByteL P) : bytes_Compare (ints X) (ints P) = some (cmpN X P) := by
  have e3 : bytealg_Compare (ints X) (ints P) = some (cmpN X P) := by
    unfold bytealg_Compare
    rw [show ((ints X).map fun x => x) = ints X from List.map_id _, show ((ints P).map fun x => x) = ints P from List.map_id _, cmpB_eq _ _ hX hP]
  rw [bytes_Compare.eq, e3]; rfl
def occ (D P : List Nat) (i : Nat) : List Nat := (List.range i).filter fun j => bgn (D.drop j) P
def low (D P : List Nat) (i : Nat) : Nat := ((List.range i).filter fun j => decide (cmpN (D.drop j) P < 0)).length
theorem rf_snoc (p : Nat → Bool) (i : Nat) : (List.range (i + 1)).filter p = (List.range i).filter p ++ (if p i then [i] else []) := by
  rw [List.range_succ, List.filter_append]
  cases h : p i <;> simp [h]
theorem occ_snoc (D P : List Nat) (i : Nat) : occ D P (i + 1) = occ D P i ++ (if bgn (D.drop i) P then [i] else []) := rf_snoc _ i
theorem low_snoc (D P : List Nat) (i : Nat) : low D P (i + 1) = low D P i + (if cmpN (D.drop i) P < 0 then 1 else 0) := by
  unfold low
  rw [rf_snoc, List.length_append]
  by_cases h : cmpN (D.drop i) P < 0
  · rw [decide_eq_true h, if_pos rfl, if_pos h]; rfl
  · rw [decide_eq_false h, if_neg h]; rfl
theorem occ_len (D P : List Nat) (i : Nat) : (occ D P i).length ≤ i := by
  unfold occ
  have := List.length_filter_le (fun j => bgn (D.drop j) P) (List.range i)
  rw [List.length_range] at this; exact this
theorem low_le (D P : List Nat) (i : Nat) : low D P i ≤ i := by
  unfold low
  have := List.length_filter_le (fun j => decide (cmpN (D.drop j) P < 0)) (List.range i)
  rw [List.length_range] at this; exact this
section
variable (D P : List Nat) (hl : D.length ≤ 300) (hD : ByteL D) (hP : ByteL P)
include hl hD hP
theorem specOcc_l0 : ∀ (d i : Nat), D.length + 1 - i = d → i ≤ D.length + 1 → spec_Occurs_l0 (ints D) (ints P) i (ints (occ D P i)) = some (ints (occ D P (D.length + 1)))
  | 0, i, h1, h2 => by
    obtain rfl : i = D.length + 1 := by omega
    rw [spec_Occurs_l0.eq, specTextOk_eq, decide_eq_true hl, Option.bind_some, bif_true, ints_len, bif_ndec (by omega)]
  | d + 1, i, h1, h2 => by
    have ho := occ_len D P i
    have ih := specOcc_l0 d (i + 1) (by omega) (by omega)
    rw [occ_snoc] at ih
    rw [spec_Occurs_l0.eq, specTextOk_eq, decide_eq_true hl, Option.bind_some, bif_true, ints_len, bif_dec (by omega), spec_Occurs_l1.eq, ints_len, bif_dec (by omega), Int.toNat_natCast, drop_ints, specBegins_eq _ _ (fun x hx => hD x (List.mem_of_mem_drop hx)) hP, Option.bind_some, wrapS i (by omega)]
    cases hb : bgn (D.drop i) P with
    | true =>
      rw [hb, if_pos rfl, ← ints_snoc] at ih
      rw [bif_true, bif_dec (by simp only [List.length_cons, List.length_nil, ints_len]; omega)]
      exact ih
    | false =>
      rw [hb, if_neg (by simp), List.append_nil] at ih
      rw [bif_false]
      exact ih
theorem specOcc_eq : spec_Occurs (ints D) (ints P) = some (ints (occ D P (D.length + 1))) := by
  rw [spec_Occurs.eq]
  exact specOcc_l0 D P hl hD hP _ 0 rfl (by omega)
theorem implOcc_l0 : ∀ (d i : Nat), D.length + 1 - i = d → i ≤ D.length + 1 → impl_Occurs_l0 (ints D) (ints P) (D.length + 1 : Nat) i (ints (occ D P i)) = some (ints (occ D P (D.length + 1)))
  | 0, i, h1, h2 => by
    obtain rfl : i = D.length + 1 := by omega
    rw [impl_Occurs_l0.eq, bif_ndec (by omega)]
  | d + 1, i, h1, h2 => by
    have ho := occ_len D P i
    have ih := implOcc_l0 d (i + 1) (by omega) (by omega)
    rw [occ_snoc] at ih
    rw [impl_Occurs_l0.eq, bif_dec (by omega), ints_len, bif_dec (by omega), Int.toNat_natCast, drop_ints, prefix_eq _ _ (fun x hx => hD x (List.mem_of_mem_drop hx)) hP, Option.bind_some, wrapS i (by omega)]
    cases hb : bgn (D.drop i) P with
    | true =>
      rw [hb, if_pos rfl, ← ints_snoc] at ih
      rw [bif_true, bif_dec (by simp only [List.length_cons, List.length_nil, ints_len]; omega)]
      exact ih
    | false =>
      rw [hb, if_neg (by simp), List.append_nil] at ih
      rw [bif_false]
      exact ih
theorem implOcc_eq : impl_Occurs (ints D) (ints P) = some (ints (occ D P (D.length + 1))) := by
  have e : impl_TextOk (ints D) = some true := by
    rw [impl_TextOk.eq, ints_len, decide_eq_true (by omega)]
  rw [impl_Occurs.eq, e, Option.bind_some, Bool.not_true, bif_false, ints_len, wrapS _ (by omega)]
  exact implOcc_l0 D P hl hD hP _ 0 rfl (by omega)
theorem specRows_l0 (hPl : P.length ≤ 1048576) : ∀ (d i : Nat), D.length + 1 - i = d → i ≤ D.length + 1 → spec_RowsOf_l0 (ints D) (ints P) (low D P i : Nat) i = some (((low D P (D.length + 1) : Nat) : Int), ((low D P (D.length + 1) + (occ D P (D.length + 1)).length : Nat) : Int))
  | 0, i, h1, h2 => by
    obtain rfl : i = D.length + 1 := by omega
    have ho := occ_len D P (D.length + 1)
    have hw := low_le D P (D.length + 1)
    rw [spec_RowsOf_l0.eq, ints_len, bif_ndec (by omega), specOcc_eq D P hl hD hP, Option.bind_some, ints_len, wrapI (by omega) (by omega)]
    congr 2
  | d + 1, i, h1, h2 => by
    have hw := low_le D P i
    have ih := specRows_l0 hPl d (i + 1) (by omega) (by omega)
    rw [low_snoc] at ih
    rw [spec_RowsOf_l0.eq, ints_len, bif_dec (by omega), bif_dec (by omega), Int.toNat_natCast, drop_ints, l05Cmp_eq _ _ (by rw [List.length_drop]; omega) (by omega), Option.bind_some, wrapS i (by omega), wrapS (low D P i) (by omega)]
    by_cases hc : cmpN (D.drop i) P < 0
    · rw [if_pos hc] at ih
      rw [bif_dec hc]; exact ih
    · rw [if_neg hc, Nat.add_zero] at ih
      rw [bif_ndec hc]; exact ih
theorem specRows_eq (hPl : P.length ≤ 1048576) : spec_RowsOf (ints D) (ints P) = some (((low D P (D.length + 1) : Nat) : Int), ((low D P (D.length + 1) + (occ D P (D.length + 1)).length : Nat) : Int)) := by
  rw [spec_RowsOf.eq, specTextOk_eq, decide_eq_true hl, Option.bind_some, Bool.not_true, bif_false]
  exact specRows_l0 D P hl hD hP hPl _ 0 rfl (by omega)
theorem implRows_l0 : ∀ (d i : Nat), D.length + 1 - i = d → i ≤ D.length + 1 → impl_rowsOf_l0 (ints D) (ints P) (low D P i : Nat) ((occ D P i).length : Nat) (D.length + 1 : Nat) i = some (((low D P (D.length + 1) : Nat) : Int), ((low D P (D.length + 1) + (occ D P (D.length + 1)).length : Nat) : Int))
  | 0, i, h1, h2 => by
    obtain rfl : i = D.length + 1 := by omega
    have ho := occ_len D P (D.length + 1)
    have hw := low_le D P (D.length + 1)
    rw [impl_rowsOf_l0.eq, bif_ndec (by omega), wrapI (by omega) (by omega)]
    congr 2
  | d + 1, i, h1, h2 => by
    have hw := low_le D P i
    have ho := occ_len D P i
    have hDd : ByteL (D.drop i) := fun x hx => hD x (List.mem_of_mem_drop hx)
    have ih := implRows_l0 d (i + 1) (by omega) (by omega)
    rw [low_snoc, occ_snoc] at ih
    rw [impl_rowsOf_l0.eq, bif_dec (by omega), ints_len, bif_dec (by omega), Int.toNat_natCast, drop_ints, prefix_eq _ _ hDd hP, Option.bind_some, wrapS i (by omega), wrapS (low D P i) (by omega), wrapS (occ D P i).length (by omega)]
    cases hb : bgn (D.drop i) P with
    | true =>
      have hc := bgn_cmp _ _ hb
      rw [hb, if_pos rfl, if_neg hc, Nat.add_zero, List.length_append] at ih
      rw [bif_true]; exact ih
    | false =>
      rw [hb, if_neg (show ¬ (false = true) by simp), List.append_nil] at ih
      rw [bif_false, bif_dec (by omega), compare_eq _ _ hDd hP, Option.bind_some]
      by_cases hc : cmpN (D.drop i) P < 0
      · rw [if_pos hc] at ih
        rw [bif_dec hc]; exact ih
      · rw [if_neg hc, Nat.add_zero] at ih
        rw [bif_ndec hc]; exact ih
theorem implRows_eq : impl_rowsOf (ints D) (ints P) = some (((low D P (D.length + 1) : Nat) : Int), ((low D P (D.length + 1) + (occ D P (D.length + 1)).length : Nat) : Int)) := by
  rw [impl_rowsOf.eq, ints_len, wrapS _ (by omega)]
  exact implRows_l0 D P hl hD hP _ 0 rfl (by omega)
end
end Go.Ev.W

/- The law of FmRows. -/
set_option linter.unusedVariables false
set_option linter.unusedSimpArgs false
namespace Go.Ev.W
open Go.Ev
theorem fmRows_both (f : FmT) (hf : SmFm f 1048576) (hx : ∀ p ∈ f.2.2.2.2.1, ∀ x ∈ p.2, 0 ≤ x ∧ x < ((2 ^ 64 : Nat) : Int)) (P : List Nat) (hP : ByteL P) (hPl : P.length ≤ 1048576) : ∃ v, spec_FmRows f (ints P) = some v ∧ impl_FmRows f (ints P) = some v := by
  obtain ⟨v, D, t, h1, h2, h3⟩ := fmRead_eq f hf hx
  rw [spec_FmRows.eq, impl_FmRows.eq]
  show ∃ v, (spec_l09Text f).bind _ = _ ∧ (impl_Fm_read f).bind _ = _
  cases v with
  | false =>
    rw [show spec_l09Text f = some (([] : List Int), false) from h1, show impl_Fm_read f = some (t, false) from h2]
    exact ⟨_, rfl, rfl⟩
  | true =>
    obtain ⟨⟨d1, d2, _⟩, _⟩ := h3 rfl
    rw [show spec_l09Text f = some (ints D, true) from h1, show impl_Fm_read f = some (ints D, true) from h2, Option.bind_some, Option.bind_some]
    simp only [bif_true, Bool.not_true, bif_false, specRows_eq D P d1 d2 hP hPl, implRows_eq D P d1 d2 hP, Option.bind_some]
    exact ⟨_, rfl, rfl⟩
end Go.Ev.W

/- The law of FmExtract. -/
set_option linter.unusedVariables false
set_option linter.unusedSimpArgs false
namespace Go.Ev.W
open Go.Ev
theorem isRange_eq (x y n : Int) : impl_isRange x y n = some (decide (0 ≤ x) && (decide (x ≤ y) && decide (y ≤ n))) := by
  rw [impl_isRange.eq]
  cases decide (0 ≤ x) <;> cases decide (x ≤ y) <;> rfl
theorem clone_eq (x : List Int) (h : x.length ≤ 1048576) : bytes_Clone x = some x := by
  have e : (bif decide ((([] : List Int).length + x.length) * 1 ≤ 140737488355328) then some (([] : List Int) ++ x) else none) = some x := by
    rw [bif_dec (by simp only [List.length_nil]; omega)]; rfl
  rw [bytes_Clone.eq, e]
  cases x with
  | nil => exact both_self _
  | cons y ys => rfl
theorem fmExtract_both (f : FmT) (hf : SmFm f 1048576) (hx : ∀ p ∈ f.2.2.2.2.1, ∀ x ∈ p.2, 0 ≤ x ∧ x < ((2 ^ 64 : Nat) : Int)) (i j : Int) : ∃ R b, spec_FmExtract f i j = some (R, b) ∧ impl_FmExtract f i j = some (R, b) ∧ R.length ≤ 300 := by
  obtain ⟨v, D, t, h1, h2, h3⟩ := fmRead_eq f hf hx
  rw [spec_FmExtract.eq, impl_FmExtract.eq]
  show ∃ R b, (spec_l09Text f).bind _ = _ ∧ (impl_Fm_read f).bind _ = _ ∧ _
  cases v with
  | false =>
    rw [show spec_l09Text f = some (([] : List Int), false) from h1, show impl_Fm_read f = some (t, false) from h2]
    exact ⟨[], false, rfl, rfl, by simp⟩
  | true =>
    obtain ⟨⟨d1, d2, _⟩, _⟩ := h3 rfl
    rw [show spec_l09Text f = some (ints D, true) from h1, show impl_Fm_read f = some (ints D, true) from h2, Option.bind_some, Option.bind_some]
    simp only [bif_true, Bool.not_true, bif_false, isRange_eq, ints_len, Option.bind_some]
    by_cases c1 : i < 0
    · rw [bif_dec c1, decide_eq_false (show ¬ 0 ≤ i by omega)]; exact ⟨[], false, rfl, rfl, by simp⟩
    rw [bif_ndec c1, decide_eq_true (show 0 ≤ i by omega), Bool.true_and]
    by_cases c2 : i > j
    · rw [bif_dec c2, decide_eq_false (show ¬ i ≤ j by omega)]; exact ⟨[], false, rfl, rfl, by simp⟩
    rw [bif_ndec c2, decide_eq_true (show i ≤ j by omega), Bool.true_and]
    by_cases c3 : j > (D.length : Int)
    · rw [bif_dec c3, decide_eq_false (show ¬ j ≤ (D.length : Int) by omega)]; exact ⟨[], false, rfl, rfl, by simp⟩
    have hRl : (((ints D).drop i.toNat).take (j.toNat - i.toNat)).length ≤ 300 := by
      rw [List.length_take, List.length_drop, ints_len]; omega
    rw [bif_ndec c3, decide_eq_true (show j ≤ (D.length : Int) by omega), Bool.not_true, bif_false, bif_dec (by omega), bif_dec (by omega), bif_dec (by simp only [List.length_nil]; omega), bif_dec (by omega), bif_dec (by omega), clone_eq _ (by omega)]
    exact ⟨_, true, rfl, rfl, hRl⟩
end Go.Ev.W

/- The law of FmLocate. -/
set_option linter.unusedVariables false
set_option linter.unusedSimpArgs false
namespace Go.Ev.W
open Go.Ev
theorem fmLocate_both (f : FmT) (hf : SmFm f 1048576) (hx : ∀ p ∈ f.2.2.2.2.1, ∀ x ∈ p.2, 0 ≤ x ∧ x < ((2 ^ 64 : Nat) : Int)) (P : List Nat) (hP : ByteL P) : ∃ R, spec_FmLocate f (ints P) = some R ∧ impl_FmLocate f (ints P) = some R ∧ R.length ≤ 301 := by
  obtain ⟨v, D, t, h1, h2, h3⟩ := fmRead_eq f hf hx
  rw [spec_FmLocate.eq, impl_FmLocate.eq]
  show ∃ R, (spec_l09Text f).bind _ = _ ∧ (impl_Fm_read f).bind _ = _ ∧ _
  cases v with
  | false =>
    rw [show spec_l09Text f = some (([] : List Int), false) from h1, show impl_Fm_read f = some (t, false) from h2]
    exact ⟨[], rfl, rfl, by simp⟩
  | true =>
    obtain ⟨⟨d1, d2, _⟩, _⟩ := h3 rfl
    rw [show spec_l09Text f = some (ints D, true) from h1, show impl_Fm_read f = some (ints D, true) from h2, Option.bind_some, Option.bind_some]
    simp only [bif_true, Bool.not_true, bif_false, specOcc_eq D P d1 d2 hP, implOcc_eq D P d1 d2 hP, Option.bind_some]
    exact ⟨_, rfl, rfl, by rw [ints_len]; have := occ_len D P (D.length + 1); omega⟩
end Go.Ev.W

/- Relative indexes: what the functions answer. -/
set_option linter.unusedVariables false
set_option linter.unusedSimpArgs false
namespace Go.Ev.W
open Go.Ev

/-- The whole index of the text: the same for both. -/
theorem relFull (f : FmT) (hf : SmFm f 1048576) (hw : ∀ p ∈ f.2.2.2.2.1, ∀ x ∈ p.2, 0 ≤ x ∧ x < ((2 ^ 64 : Nat) : Int)) (x : RelT) (hx : SmRel x 1048576) (xw : XWords x) :
    ∃ G : FmT, spec_l14Own f x = some G ∧ impl_Rel_full x f = some G ∧ SmFm G 1048576 ∧ ∀ p ∈ G.2.2.2.2.1, ∀ x ∈ p.2, 0 ≤ x ∧ x < ((2 ^ 64 : Nat) : Int) := by
  obtain ⟨v, D, t, h1, h2, h3⟩ := relRead_eq f hf hw x hx xw
  rw [spec_l14Own.eq, impl_Rel_full.eq]
  show ∃ G, (spec_l14Text f x).bind _ = _ ∧ (impl_Rel_read x f).bind _ = _ ∧ _
  cases v with
  | false =>
    rw [show spec_l14Text f x = some (([] : List Int), false) from h1, show impl_Rel_read x f = some (t, false) from h2]
    refine ⟨(0, 0, 0, [], [], [], 0, [], 0, 0, 0, [], 0, 0, 0, []), rfl, rfl, ⟨by simp, by simp, by simp, by simp, by simp, by simp, by simp⟩, by simp⟩
  | true =>
    obtain ⟨R0, hk⟩ := h3 rfl
    have d1 := hk.dl
    have d2 := hk.db
    have d3 := hk.r1
    have d4 := hk.r2
    obtain ⟨r, hr⟩ : ∃ r : Nat, x.2.1 = r := ⟨x.2.1.toNat, by omega⟩
    have hfm := implFm_eq D d1 d2 r (by omega) (by omega)
    have hfs := specFm_eq D d1 d2 r (by omega) (by omega)
    rw [← hr] at hfm hfs
    rw [show spec_l14Text f x = some (ints D, true) from h1, show impl_Rel_read x f = some (ints D, true) from h2, Option.bind_some, Option.bind_some, Bool.not_true, bif_false, bif_false]
    simp only [hfm, hfs, Option.bind_some]
    have hs := fmV_small D d1 r
    exact ⟨fmV D r, rfl, rfl, ⟨by have := hs.z; omega, by have := hs.l; omega, fun p hp => by have := hs.w p hp; omega, by have := hs.c; omega, by have := hs.m; omega, by have := hs.s; omega, by have := hs.i; omega⟩, fmV_words D r⟩
section
variable (f : FmT) (hf : SmFm f 1048576) (hw : ∀ p ∈ f.2.2.2.2.1, ∀ x ∈ p.2, 0 ≤ x ∧ x < ((2 ^ 64 : Nat) : Int)) (x : RelT) (hx : SmRel x 1048576) (xw : XWords x)
include hf hw hx xw
theorem relLf_both (k : Int) : ∃ v, spec_RelLf f x k = some v ∧ impl_RelLf f x k = some v := by
  obtain ⟨G, g1, g2, g3, g4⟩ := relFull f hf hw x hx xw
  obtain ⟨v, v1, v2⟩ := fmLf_both G g3 g4 k
  rw [spec_RelLf.eq, impl_RelLf.eq]
  show ∃ v, (spec_l14Own f x).bind _ = _ ∧ (impl_Rel_full x f).bind _ = _
  rw [g1, g2, Option.bind_some, Option.bind_some]
  show ∃ v, (spec_FmLf G k).bind _ = _ ∧ (impl_FmLf G k).bind _ = _
  rw [v1, v2]
  exact ⟨v, rfl, rfl⟩
theorem relSa_both (k : Int) : ∃ v, spec_RelSa f x k = some v ∧ impl_RelSa f x k = some v := by
  obtain ⟨G, g1, g2, g3, g4⟩ := relFull f hf hw x hx xw
  obtain ⟨v, v1, v2⟩ := fmSa_both G g3 g4 k
  rw [spec_RelSa.eq, impl_RelSa.eq]
  show ∃ v, (spec_l14Own f x).bind _ = _ ∧ (impl_Rel_full x f).bind _ = _
  rw [g1, g2, Option.bind_some, Option.bind_some]
  show ∃ v, (spec_FmSa G k).bind _ = _ ∧ (impl_FmSa G k).bind _ = _
  rw [v1, v2]
  exact ⟨v, rfl, rfl⟩
theorem relIsa_both (k : Int) : ∃ v, spec_RelIsa f x k = some v ∧ impl_RelIsa f x k = some v := by
  obtain ⟨G, g1, g2, g3, g4⟩ := relFull f hf hw x hx xw
  obtain ⟨v, v1, v2⟩ := fmIsa_both G g3 g4 k
  rw [spec_RelIsa.eq, impl_RelIsa.eq]
  show ∃ v, (spec_l14Own f x).bind _ = _ ∧ (impl_Rel_full x f).bind _ = _
  rw [g1, g2, Option.bind_some, Option.bind_some]
  show ∃ v, (spec_FmIsa G k).bind _ = _ ∧ (impl_FmIsa G k).bind _ = _
  rw [v1, v2]
  exact ⟨v, rfl, rfl⟩
theorem relRows_both (P : List Nat) (hP : ByteL P) (hPl : P.length ≤ 1048576) : ∃ v, spec_RelRows f x (ints P) = some v ∧ impl_RelRows f x (ints P) = some v := by
  obtain ⟨G, g1, g2, g3, g4⟩ := relFull f hf hw x hx xw
  obtain ⟨v, v1, v2⟩ := fmRows_both G g3 g4 P hP hPl
  rw [spec_RelRows.eq, impl_RelRows.eq]
  show ∃ v, (spec_l14Own f x).bind _ = _ ∧ (impl_Rel_full x f).bind _ = _
  rw [g1, g2, Option.bind_some, Option.bind_some]
  show ∃ v, (spec_FmRows G (ints P)).bind _ = _ ∧ (impl_FmRows G (ints P)).bind _ = _
  rw [v1, v2]
  exact ⟨v, rfl, rfl⟩
theorem relLocate_both (P : List Nat) (hP : ByteL P) : ∃ R, spec_RelLocate f x (ints P) = some R ∧ impl_RelLocate f x (ints P) = some R ∧ R.length ≤ 301 := by
  obtain ⟨G, g1, g2, g3, g4⟩ := relFull f hf hw x hx xw
  obtain ⟨v, v1, v2, v3⟩ := fmLocate_both G g3 g4 P hP
  rw [spec_RelLocate.eq, impl_RelLocate.eq]
  show ∃ v, (spec_l14Own f x).bind _ = _ ∧ (impl_Rel_full x f).bind _ = _ ∧ _
  rw [g1, g2, Option.bind_some, Option.bind_some]
  show ∃ v, (spec_FmLocate G (ints P)).bind _ = _ ∧ (impl_FmLocate G (ints P)).bind _ = _ ∧ _
  rw [v1, v2]
  exact ⟨v, rfl, rfl, v3⟩
theorem relExtract_both (i j : Int) : ∃ R b, spec_RelExtract f x i j = some (R, b) ∧ impl_RelExtract f x i j = some (R, b) ∧ R.length ≤ 300 := by
  obtain ⟨G, g1, g2, g3, g4⟩ := relFull f hf hw x hx xw
  obtain ⟨R, b, v1, v2, v3⟩ := fmExtract_both G g3 g4 i j
  rw [spec_RelExtract.eq, impl_RelExtract.eq]
  show ∃ R b, (spec_l14Own f x).bind _ = _ ∧ (impl_Rel_full x f).bind _ = _ ∧ _
  rw [g1, g2, Option.bind_some, Option.bind_some]
  show ∃ R b, (spec_FmExtract G i j).bind _ = _ ∧ (impl_FmExtract G i j).bind _ = _ ∧ _
  rw [v1, v2]
  exact ⟨R, b, rfl, rfl, v3⟩
end
end Go.Ev.W

/- The law of RelLocate. -/
set_option linter.unusedVariables false
set_option linter.unusedSimpArgs false
namespace Go.Ev.W
open Go.Ev
theorem law_RelLocate (a : FmT × RelT × List Int) (hx : goodA tab laws_FnExactRelLocate.as a) : laws_FnExactRelLocate.fn a = some true := by
  obtain ⟨f, x, ps⟩ := a
  show laws_FnExactRelLocate f x ps = some true
  have hz : f.2.2.2.1.length ≤ maxLen := hx.1.2.2.2.1.1
  have hl : f.2.2.2.2.1.length ≤ maxLen := hx.1.2.2.2.2.1.1
  have hw : ∀ p ∈ f.2.2.2.2.1, p.2.length ≤ maxLen := fun p hp => (hx.1.2.2.2.2.1.2 p hp).2.1
  have hw2 : ∀ p ∈ f.2.2.2.2.1, ∀ x ∈ p.2, 0 ≤ x ∧ x < ((2 ^ 64 : Nat) : Int) := fun p hp => words_in (d := 2) (hx.1.2.2.2.2.1.2 p hp).2
  have hc : f.2.2.2.2.2.1.length ≤ maxLen := hx.1.2.2.2.2.2.1.1
  have hm : f.2.2.2.2.2.2.2.1.length ≤ maxLen := hx.1.2.2.2.2.2.2.2.1.1
  have hs : f.2.2.2.2.2.2.2.2.2.2.2.1.length ≤ maxLen := hx.1.2.2.2.2.2.2.2.2.2.2.2.1.1
  have hi : f.2.2.2.2.2.2.2.2.2.2.2.2.2.2.2.length ≤ maxLen := hx.1.2.2.2.2.2.2.2.2.2.2.2.2.2.2.2.1
  have xref : x.2.2.2.1.length ≤ maxLen := hx.2.1.2.2.2.1.1
  have xinn : x.2.2.2.2.2.1.length ≤ maxLen := hx.2.1.2.2.2.2.2.1.1
  have xz1 : x.2.2.2.2.2.2.2.1.length ≤ maxLen := hx.2.1.2.2.2.2.2.2.2.1.1
  have xl1 : x.2.2.2.2.2.2.2.2.1.length ≤ maxLen := hx.2.1.2.2.2.2.2.2.2.2.1.1
  have xz2 : x.2.2.2.2.2.2.2.2.2.2.1.length ≤ maxLen := hx.2.1.2.2.2.2.2.2.2.2.2.2.1.1
  have xl2 : x.2.2.2.2.2.2.2.2.2.2.2.1.length ≤ maxLen := hx.2.1.2.2.2.2.2.2.2.2.2.2.2.1.1
  have xc : x.2.2.2.2.2.2.2.2.2.2.2.2.1.length ≤ maxLen := hx.2.1.2.2.2.2.2.2.2.2.2.2.2.2.1.1
  have xm : x.2.2.2.2.2.2.2.2.2.2.2.2.2.2.1.length ≤ maxLen := hx.2.1.2.2.2.2.2.2.2.2.2.2.2.2.2.2.1.1
  have xs : x.2.2.2.2.2.2.2.2.2.2.2.2.2.2.2.2.2.2.1.length ≤ maxLen := hx.2.1.2.2.2.2.2.2.2.2.2.2.2.2.2.2.2.2.2.2.1.1
  have xi : x.2.2.2.2.2.2.2.2.2.2.2.2.2.2.2.2.2.2.2.2.2.2.length ≤ maxLen := hx.2.1.2.2.2.2.2.2.2.2.2.2.2.2.2.2.2.2.2.2.2.2.2.2.1
  have xv1 : ∀ p ∈ x.2.2.2.2.2.2.2.2.1, p.2.length ≤ maxLen := fun p hp => (hx.2.1.2.2.2.2.2.2.2.2.1.2 p hp).2.1
  have xv2 : ∀ p ∈ x.2.2.2.2.2.2.2.2.2.2.2.1, p.2.length ≤ maxLen := fun p hp => (hx.2.1.2.2.2.2.2.2.2.2.2.2.2.1.2 p hp).2.1
  have xw : XWords x := ⟨words_of hx.2.1.2.2.2.1, words_of hx.2.1.2.2.2.2.2.1, fun p hp => words_in (d := 2) (hx.2.1.2.2.2.2.2.2.2.2.1.2 p hp).2, fun p hp => words_in (d := 2) (hx.2.1.2.2.2.2.2.2.2.2.2.2.2.1.2 p hp).2⟩
  have hg2 : AllP (α := Tup [CT.int .u8]) (allL (goodC 4) [CT.int .u8]) ps := hx.2.2
  obtain ⟨r, h1, h2⟩ := szFm_ok3 f hz hl hw hc hm hs hi
  rw [laws_FnExactRelLocate.eq]
  by_cases hlen : (ps.length : Int) > 1048576
  · rw [bif_dec hlen]
  rw [bif_ndec hlen]
  show (laws_szFm f 1048576).bind _ = _
  rw [h1, Option.bind_some]
  rcases h2 with h2 | ⟨h2, hg, hr⟩
  · rw [bif_dec h2]
  rw [bif_ndec h2]
  obtain ⟨q, k1, k2⟩ := szRel_ok x r (by omega) hr xref xinn xz1 xl1 xz2 xl2 xc xm xs xi xv1 xv2
  show (laws_szRel x r).bind _ = _
  rw [k1, Option.bind_some]
  rcases k2 with k2 | ⟨k2, hgx⟩
  · rw [bif_dec k2]
  rw [bif_ndec k2]
  obtain ⟨P, rfl, hP⟩ := ints_of ps 256 (bytes_of hg2)
  have hPl : P.length ≤ 1048576 := by rw [List.length_map] at hlen; omega
  have hil : (ints P).length = P.length := List.length_map ..
  obtain ⟨R, hsp, him, hR⟩ := relLocate_both f hg.sm hw2 x hgx.sm xw P hP
  have ht := toFm_eq f hg
  have he := eqFm_eq f f hg
  rw [decide_eq_true rfl] at he
  have htx := toRel_eq x hgx
  have hex := eqRel_eq x x hgx
  rw [decide_eq_true rfl] at hex
  obtain ⟨m, g, hm1, hm2, hm3⟩ := markFm_ok f hg
  obtain ⟨m', g', hm4, hm5, hm6⟩ := markRel_ok x hgx m hm2 (by omega)
  have hm7 : decide (m' + (P.length : Int) < 0) = false := decide_eq_false (by omega)
  obtain ⟨a1, a2, a3, a4, a5, a6, a7, a8, a9, a10, a11, a12, a13, a14, a15, a16⟩ := f
  obtain ⟨b1, b2, b3, b4, b5, b6, b7, b8, b9, b10, b11, b12, b13, b14, b15, b16, b17, b18, b19, b20, b21, b22, b23⟩ := x
  simp (disch := omega) only [ht, htx, hsp, him, he, hex, toByteS_eq, hil, hm1, hm4, hm7, eqByteS_eq, markByteS_eq, eqIntS_eq, markIntS_eq, heldIntS_eq, laws_FnExactRelLocate_l0.eq, Option.bind_some, bne_self_eq_false, beq_self_eq_true, bif_false, decide_true, Bool.not_true, one_lt]
end Go.Ev.W
