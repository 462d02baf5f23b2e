/- Indexes: the text of a valid one. -/
import Derived.Test.YtmobcecmjpfpiaaEvC
import Derived.Test.YtmobcecmjpfpiaaPp1
import Derived.Test.YtmobcecmjpfpiaaPp4
import Derived.Test.YtmobcecmjpfpiaaMFm2
set_option linter.unusedVariables false
set_option linter.unusedSimpArgs false
namespace Go.Ev.W
open Go.Ev

/-! #### equalities -/
theorem equalU_eq (X Y : List Int) (h : X.length < 4611686018427387904) : slices_Equal_uint64_uint64 X Y = some (decide (X = Y)) := by
  rw [slices_Equal_uint64_uint64.eq]
  exact eq_list X Y _ fun hl => eq_loop (fun x y => some (!(x != y))) X Y hl h (fun x _ y _ => by rw [bne, Bool.not_not]; exact congrArg some (by rw [Bool.eq_iff_iff]; simp)) (slices_Equal_uint64_uint64_l0 X Y X.length) (fun i => by rw [slices_Equal_uint64_uint64_l0.eq]; simp only [Option.bind_some, Bool.not_not])
theorem dec_and {p q : Prop} [Decidable p] [Decidable q] [Decidable (p ∧ q)] : decide (p ∧ q) = (decide p && decide q) := by
  by_cases hp : p <;> by_cases hq : q <;> simp [hp, hq]
theorem dec_pair {α β : Type} [DecidableEq α] [DecidableEq β] (a c : α) (b d : β) : decide ((a, b) = (c, d)) = (decide (a = c) && decide (b = d)) := by
  rw [Bool.eq_iff_iff]; simp
theorem sameBits_eq (a : Int) (x : List Int) (b : Int) (y : List Int) (h : x.length < 4611686018427387904) : impl_sameBits (a, x) (b, y) = some (decide ((a, x) = (b, y))) := by
  rw [impl_sameBits.eq, dec_pair, beq_dec]
  try simp only
  rw [equalU_eq _ _ h]
  cases decide (a = b) <;> rfl
theorem samePacked_eq (a b c : Int) (x : List Int) (d e f : Int) (y : List Int) (h : x.length < 4611686018427387904) : impl_samePacked (a, b, c, x) (d, e, f, y) = some (decide ((a, b, c, x) = (d, e, f, y))) := by
  rw [impl_samePacked.eq, dec_pair, dec_pair, beq_dec, beq_dec]
  try simp only
  rw [sameBits_eq _ _ _ _ h]
  cases decide (a = d) <;> cases decide (b = e) <;> rfl
theorem l03_l1 (a b : Int) (X Y : List Int) (hl : X.length = Y.length) (h : X.length < 4611686018427387904) : spec_l03Same_l1 0 a X b Y = some (decide (X = Y)) :=
  eq_loop (fun x y => some (!(x != y))) X Y hl h (fun x _ y _ => by rw [bne, Bool.not_not]; exact congrArg some (by rw [Bool.eq_iff_iff]; simp)) (fun i => spec_l03Same_l1 i a X b Y) (fun i => by rw [spec_l03Same_l1.eq]; simp only [Option.bind_some, Bool.not_not])
theorem l03Same_eq (a : Int) (x : List Int) (b : Int) (y : List Int) (h : x.length < 4611686018427387904) : spec_l03Same (a, x) (b, y) = some (decide ((a, x) = (b, y))) := by
  rw [spec_l03Same.eq, dec_pair]
  try simp only
  by_cases h1 : a = b
  · rw [bif_nne h1, decide_eq_true h1, Bool.true_and, eq_list x y _ fun hl => by rw [spec_l03Same_l0.eq]; exact l03_l1 a b x y hl h]
  · rw [bif_ne h1, decide_eq_false h1]; rfl
/-- What of an index must be short. -/
structure ShortFm (f : FmT) : Prop where
  z : f.2.2.2.1.length < 4611686018427387904
  l : f.2.2.2.2.1.length < 4611686018427387904
  w : ∀ p ∈ f.2.2.2.2.1, p.2.length < 4611686018427387904
  c : f.2.2.2.2.2.1.length < 4611686018427387904
  m : f.2.2.2.2.2.2.2.1.length < 4611686018427387904
  s : f.2.2.2.2.2.2.2.2.2.2.2.1.length < 4611686018427387904
  i : f.2.2.2.2.2.2.2.2.2.2.2.2.2.2.2.length < 4611686018427387904
theorem fm_dec (f g : FmT) : decide (f = g) = (decide (f.1 = g.1) && (decide (f.2.1 = g.2.1) && (decide ((f.2.2.1, f.2.2.2.1, f.2.2.2.2.1) = (g.2.2.1, g.2.2.2.1, g.2.2.2.2.1)) && (decide (f.2.2.2.2.2.1 = g.2.2.2.2.2.1) && (decide ((f.2.2.2.2.2.2.1, f.2.2.2.2.2.2.2.1) = (g.2.2.2.2.2.2.1, g.2.2.2.2.2.2.2.1)) &&
    (decide ((f.2.2.2.2.2.2.2.2.1, f.2.2.2.2.2.2.2.2.2.1, f.2.2.2.2.2.2.2.2.2.2.1, f.2.2.2.2.2.2.2.2.2.2.2.1) = (g.2.2.2.2.2.2.2.2.1, g.2.2.2.2.2.2.2.2.2.1, g.2.2.2.2.2.2.2.2.2.2.1, g.2.2.2.2.2.2.2.2.2.2.2.1)) && decide (f.2.2.2.2.2.2.2.2.2.2.2.2 = g.2.2.2.2.2.2.2.2.2.2.2.2))))))) := by
  obtain ⟨a1, a2, a3, a4, a5, a6, a7, a8, a9, a10, a11, a12, a13⟩ := f
  obtain ⟨b1, b2, b3, b4, b5, b6, b7, b8, b9, b10, b11, b12, b13⟩ := g
  simp only [dec_pair, Bool.and_assoc]
theorem wLv_len : ∀ (d l : Nat) (X : List Nat), (wLv d l X).1.length = d ∧ (wLv d l X).2.length = d
  | 0, l, X => ⟨rfl, rfl⟩
  | d + 1, l, X => by
    have := wLv_len d (l + 1) (wlo l X ++ whi l X)
    rw [wLv]
    exact ⟨by rw [List.length_cons, this.1], by rw [List.length_cons, this.2]⟩
theorem wLv_words : ∀ (d l : Nat) (X : List Nat), ∀ p ∈ (wLv d l X).2, p.2.length = nw X.length
  | 0, l, X, p, h => by cases h
  | d + 1, l, X, p, h => by
    rw [wLv] at h
    have hl := lohi_len l X
    rcases List.mem_cons.1 h with rfl | h
    · rw [wrds_length, wbs_len]
    · rw [wLv_words d (l + 1) _ p h, List.length_append, hl]
theorem pk_words (w : Nat) (X : List Nat) : (pk w X).2.2.2.length = nw (X.length * w) := by
  show (ints (wrds (dgs w X))).length = _
  rw [ints_len, wrds_length, dgs_len]
/-- Sizes of an index. -/
structure SmFm (f : FmT) (k : Nat) : Prop where
  z : f.2.2.2.1.length ≤ k
  l : f.2.2.2.2.1.length ≤ k
  w : ∀ p ∈ f.2.2.2.2.1, p.2.length ≤ k
  c : f.2.2.2.2.2.1.length ≤ k
  m : f.2.2.2.2.2.2.2.1.length ≤ k
  s : f.2.2.2.2.2.2.2.2.2.2.2.1.length ≤ k
  i : f.2.2.2.2.2.2.2.2.2.2.2.2.2.2.2.length ≤ k
theorem SmFm.short {f : FmT} {k : Nat} (h : SmFm f k) (hk : k < 4611686018427387904) : ShortFm f :=
  ⟨by have := h.z; omega, by have := h.l; omega, fun p hp => by have := h.w p hp; omega, by have := h.c; omega, by have := h.m; omega, by have := h.s; omega, by have := h.i; omega⟩
theorem fmV_small (D : List Nat) (hl : D.length ≤ 300) (r : Nat) : SmFm (fmV D r) 1000 := by
  have hb := bwt_len D
  have hs := srt_len' D
  have h1 := wLv_len 9 0 (bwt D)
  have hw := wd_le9 (n := D.length) (by omega)
  have hsa := saL_len r (srt D)
  have hd : D.length / r ≤ D.length := Nat.div_le_self _ _
  have p1 := pk_size (n := (saL r (srt D)).length) (by omega) hw
  have p2 := pk_size (n := (isaL r D.length (srt D)).length) (by rw [isaL_len]; omega) hw
  refine ⟨?_, ?_, fun p hp => ?_, ?_, ?_, ?_, ?_⟩
  · show (ints (wLv 9 0 (bwt D)).1).length ≤ 1000
    rw [ints_len]; omega
  · show (LI (wLv 9 0 (bwt D)).2).length ≤ 1000
    rw [List.length_map]; omega
  · have hp' : p ∈ LI (wLv 9 0 (bwt D)).2 := hp
    obtain ⟨q, hq, rfl⟩ := List.mem_map.1 hp'
    rw [ints_len, wLv_words _ _ _ q hq]
    unfold nw; omega
  · show (ints ((List.range 258).map (ltc (bwt D)))).length ≤ 1000
    rw [ints_len, List.length_map, List.length_range]; omega
  · show (ints (wrds (mkB r (srt D)))).length ≤ 1000
    rw [ints_len, wrds_length, mkB_len]; unfold nw; omega
  · show (pk (wd D.length) (saL r (srt D))).2.2.2.length ≤ 1000
    rw [pk_words]; unfold nw; omega
  · show (pk (wd D.length) (isaL r D.length (srt D))).2.2.2.length ≤ 1000
    rw [pk_words]; unfold nw; omega

/-! #### the text -/
theorem bT_true (X : List Nat) (hX : X.length ≤ 301) (hx : ∀ x ∈ X, x ≤ 256) (h : (bT X).2 = true) : ∃ D : List Nat, bT X = (ints D, true) ∧ bwt D = X ∧ D.length ≤ 300 ∧ ∀ x ∈ D, x < 256 := by
  unfold bT at h ⊢
  cases h0 : decide (X.length = 0) with
  | true => rw [h0] at h; cases h
  | false =>
    rw [h0] at h
    rw [bif_false] at h ⊢
    have hl := wk_len X (X.length - 1) 0 []
    unfold tFin at h ⊢
    cases h1 : decide (bwt (wk X (X.length - 1) 0 []).1 = X) with
    | false => rw [h1] at h; cases h
    | true =>
      rw [bif_true]
      exact ⟨_, rfl, of_decide_eq_true h1, by have := hl.1; simp at this; omega, wk_bytes X hx _ _ _ (by simp)⟩
/-- What both readings come to. -/
def FmOkV (f : FmT) (D : List Nat) : Prop := D.length ≤ 300 ∧ (∀ x ∈ D, x < 256) ∧ 1 ≤ f.2.1 ∧ f.2.1 ≤ 64 ∧ f = fmV D f.2.1.toNat
/-- The wave is valid, and its numbers tell the text. -/
def FmW (f : FmT) (D : List Nat) : Prop := (∃ L, f.2.2.2.2.1 = LI L ∧ (∀ p ∈ L, p.2.length ≤ 1048576) ∧ (∀ p ∈ L, ∀ x ∈ p.2, x < 2 ^ 64) ∧ wOk f.2.2.1 f.2.2.2.1 L = true) ∧ bT (bwt D) = (ints D, true)
theorem specWaveList_eq (n : Int) (Z : List Int) (L : List (Int × List Nat)) (hl : ∀ p ∈ L, p.2.length ≤ 1048576) (hx : ∀ p ∈ L, ∀ x ∈ p.2, x < 2 ^ 64) : spec_WaveList (n, Z, LI L) = some (bif wOk n Z L then ints (wList n.toNat L) else []) := by
  rw [spec_WaveList.eq]
  try simp only
  rw [specWaveOk_eq n Z L hl hx, Option.bind_some]
  cases h : wOk n Z L with
  | false => rfl
  | true => rw [Bool.not_true, bif_false, bif_true, l07List_eq n Z L hx h]; rfl
end Go.Ev.W
