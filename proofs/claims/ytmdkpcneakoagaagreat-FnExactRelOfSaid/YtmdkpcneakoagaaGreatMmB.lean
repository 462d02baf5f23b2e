/- What the functions come to, in plain mathematics, part 2. -/
import Derived.Test.YtmdkpcneakoagaaGreatEvC
import Derived.Test.YtmdkpcneakoagaaGreatPh2
import Derived.Test.YtmdkpcneakoagaaGreatMmA
import Derived.Test.YtmdkpcneakoagaaGreatPh8
import Derived.Test.YtmdkpcneakoagaaGreatPh6
import Derived.Test.YtmdkpcneakoagaaGreatPh3
import Derived.Test.YtmdkpcneakoagaaGreatEvIterS
import Derived.Test.YtmdkpcneakoagaaGreatEvCompact
import Derived.Test.YtmdkpcneakoagaaGreatPh1
import Derived.Test.YtmdkpcneakoagaaGreatPh9
/- The index of a text is valid. -/
set_option linter.unusedVariables false
set_option linter.unusedSimpArgs false
namespace Go.Ev.W
open Go.Ev
end Go.Ev.W
/- Bits out of bytes: the program's; the law. -/
set_option linter.unusedVariables false
set_option linter.unusedSimpArgs false
namespace Go.Ev.W
open Go.Ev
def filled (B : List Nat) (n m : Nat) (V : List Nat) : Prop := V.length = nw n ∧ (∀ x ∈ V, x < 2 ^ 64) ∧ ∀ i, bit V i = (decide (i < 8 * m) && bbit B i)
theorem Q49 (a : Int) (n : Nat) (k : Int) (hk : 0 ≤ k) (h : k + (n : Int) < 4611686018427387904) : Q0S (a, Q0F IntKind.u64.wrap k n) k = some (k + n) := by
  rw [Q0S.eq, Q4K n k hk h, Option.bind_some, Q3 (by omega)]
end Go.Ev.W
/- What the laws' own helpers come to: marks in waves. -/
set_option linter.unusedVariables false
set_option linter.unusedSimpArgs false
namespace Go.Ev.W
open Go.Ev
def mBS : Int → List Nat → Lv
  | _, [] => []
  | k, m :: ms => (k, Q0F IntKind.u64.wrap (k + 1) m) :: mBS (k + 1 + m) ms
def mBE : Int → List Nat → Int
  | k, [] => k
  | k, m :: ms => mBE (k + 1 + m) ms
theorem mBE_eq : ∀ (k : Int) (ms : List Nat), mBE k ms = k + (ms.length + ms.sum : Nat)
  | k, [] => by simp [mBE]
  | k, m :: ms => by rw [mBE, mBE_eq, List.length_cons, List.sum_cons]; omega
theorem mBS_length : ∀ (k : Int) (ms : List Nat), (mBS k ms).length = ms.length
  | k, [] => rfl
  | k, m :: ms => by rw [mBS, List.length_cons, List.length_cons, mBS_length]
theorem markBitsS_l : ∀ (ms : List Nat) (P : Lv) (Q : Lv) (k : Int), Q.map (fun p => p.2.length) = ms → 0 ≤ k → P.length + Q.length ≤ 1048576 → (∀ m ∈ ms, m ≤ 1048576) → k + ((ms.length + ms.sum : Nat) : Int) ≤ 4000000000 →
    Q0z_l0 k P.length (P ++ Q) = some (mBE k ms, P ++ mBS k ms)
  | [], P, Q, k, hq, hk, hl, hm, hs => by
    have : Q = [] := by simpa using hq
    subst this
    rw [Q0z_l0.eq, Q3 (by rw [List.length_append]; simp)]
    rfl
  | m :: ms, P, Q, k, hq, hk, hl, hm, hs => by
    cases Q with
    | nil => simp at hq
    | cons q Q =>
      rw [List.map_cons] at hq
      injection hq with h1 h2
      have hmm : m ≤ 1048576 := hm m List.mem_cons_self
      rw [List.length_cons, List.sum_cons] at hs
      have hi : P.length < (P ++ q :: Q).length := by rw [List.length_append, List.length_cons]; omega
      have hg : (P ++ q :: Q)[P.length]? = some q := by rw [List.getElem?_append_right (Nat.le_refl _), Nat.sub_self]; rfl
      have hset : ∀ (y z : Int × List Int), (P ++ y :: Q).set P.length z = P ++ z :: Q := fun y z => by rw [List.set_append_right _ _ (Nat.le_refl _), Nat.sub_self]; rfl
      have hg2 : ∀ y : Int × List Int, (P ++ y :: Q)[P.length]? = some y := fun y => by rw [List.getElem?_append_right (Nat.le_refl _), Nat.sub_self]; rfl
      rw [List.length_cons] at hl
      rw [Q0z_l0.eq, Q2 (by omega)]
      simp only [QQ, Int.toNat_natCast, hg, hset, hg2, Option.bind_some]
      rw [Qc (by omega) (by omega), Q4J _ _ (by omega) (by omega), Option.bind_some, Q7 _ (by omega)]
      have ih := markBitsS_l ms (P ++ [(k, Q0F IntKind.u64.wrap (k + 1) m)]) Q (k + 1 + m) h2 (by omega) (by rw [List.length_append, List.length_cons, List.length_nil]; omega) (fun x hx => hm x (List.mem_cons_of_mem _ hx)) (by omega)
      rw [List.length_append, List.length_cons, List.length_nil, List.append_assoc, List.append_assoc] at ih
      simp only [h1]
      exact ih
theorem heldBitsS_l : ∀ (ms : List Nat) (P : Lv) (k : Int), 0 ≤ k → P.length + ms.length ≤ 1048576 → (∀ m ∈ ms, m ≤ 1048576) → k + ((ms.length + ms.sum : Nat) : Int) ≤ 4000000000 →
    Q0B_l0 (P ++ mBS k ms) k P.length = some (mBE k ms)
  | [], P, k, hk, hl, hm, hs => by
    rw [Q0B_l0.eq, Q3 (by rw [List.length_append]; simp [mBS])]
    rfl
  | m :: ms, P, k, hk, hl, hm, hs => by
    have hmm : m ≤ 1048576 := hm m List.mem_cons_self
    rw [List.length_cons, List.sum_cons] at hs
    rw [List.length_cons] at hl
    have hi : P.length < (P ++ mBS k (m :: ms)).length := by rw [List.length_append, mBS_length, List.length_cons]; omega
    have hg : (P ++ mBS k (m :: ms))[P.length]? = some (k, Q0F IntKind.u64.wrap (k + 1) m) := by rw [List.getElem?_append_right (Nat.le_refl _), Nat.sub_self]; rfl
    rw [Q0B_l0.eq, Q2 (by omega)]
    simp only [QQ, hg, Option.bind_some]
    rw [Q29 rfl, Qc (by omega) (by omega), Q4K _ _ (by omega) (by omega), Option.bind_some, Q3 (by omega), Q7 _ (by omega)]
    have ih := heldBitsS_l ms (P ++ [(k, Q0F IntKind.u64.wrap (k + 1) m)]) (k + 1 + m) (by omega) (by rw [List.length_append, List.length_cons, List.length_nil]; omega) (fun x hx => hm x (List.mem_cons_of_mem _ hx)) (by omega)
    rw [List.length_append, List.length_cons, List.length_nil, List.append_assoc] at ih
    exact ih
abbrev lens (L : Lv) : List Nat := L.map fun p => p.2.length
theorem Small.sum {Z : List Int} {L : Lv} (h : Small Z L) : Z.length + (lens L).length + (lens L).sum ≤ 1048576 := by
  have := h.s
  rw [List.length_map]; exact this
theorem Small.lw {Z : List Int} {L : Lv} (h : Small Z L) : ∀ m ∈ lens L, m ≤ 1048576 := by
  intro m hm
  obtain ⟨p, hp, rfl⟩ := List.mem_map.1 hm
  exact h.w p hp
theorem Q4y (n : Int) (Z : List Int) (L : Lv) (k : Int) (hk : 0 ≤ k) (hk2 : k ≤ 1000000000) (h : Small Z L) :
    Q0W (n, Z, L) k = some (mBE (k + Z.length) (lens L), (n, Q0F id k Z.length, mBS (k + Z.length) (lens L))) := by
  rw [Q0W.eq]
  have := h.z
  have := h.l
  have hs := h.sum
  try simp only
  rw [Q4r _ _ hk (by omega), Option.bind_some, Q0z.eq]
  have := markBitsS_l (lens L) [] L (k + Z.length) rfl (by omega) (by simp; omega) h.lw (by omega)
  simp only [List.length_nil, List.nil_append] at this ⊢
  have e : ((0 : Nat) : Int) = 0 := rfl
  rw [e] at this
  rw [this, Option.bind_some]
theorem heldWave_eq (n : Int) (Z : List Int) (L : Lv) (k : Int) (hk : 0 ≤ k) (hk2 : k ≤ 1000000000) (h : Small Z L) :
    Q1k (n, Q0F id k Z.length, mBS (k + Z.length) (lens L)) k = some (mBE (k + Z.length) (lens L)) := by
  rw [Q1k.eq]
  have := h.z
  have := h.l
  have hs := h.sum
  have hE := mBE_eq (k + Z.length) (lens L)
  try simp only
  rw [heldIntS_eq _ _ hk (by omega), Option.bind_some, Q3 (by omega), Q0B.eq]
  have := heldBitsS_l (lens L) [] (k + Z.length) (by omega) (by simp; omega) h.lw (by omega)
  simp only [List.length_nil, List.nil_append] at this
  have e : ((0 : Nat) : Int) = 0 := rfl
  rw [e] at this
  rw [this, Option.bind_some, Q3 (by omega)]
end Go.Ev.W
/- Indexes: the laws' helpers. -/
set_option linter.unusedVariables false
set_option linter.unusedSimpArgs false
namespace Go.Ev.W
open Go.Ev
theorem szPacked_eq (v : Int × Int × Int × List Int) (k : Int) (hk : 0 ≤ k) (hk2 : k ≤ 1048576) (h : v.2.2.2.length ≤ maxLen) : Q1h v k = some (if k - v.2.2.2.length < 0 then -1 else k - v.2.2.2.length) := by
  rw [Q1h.eq, szBits_eq _ _ hk hk2 h, Option.bind_some, szcase]
  by_cases hc : k - (v.2.2.2.length : Int) < 0
  · rw [Q2 hc, if_pos hc]
  · rw [Q3 hc]
theorem toPacked_eq (a b c : Int) (x : List Int) (h : x.length ≤ 1048576) : Q1j (a, b, c, x) = some (a, b, c, x) := by
  rw [Q1j.eq, toBits_eq _ _ h, Option.bind_some]
theorem szWave_ok2 (n : Int) (Z : List Int) (L : Lv) (hz : Z.length ≤ maxLen) (h : L.length ≤ maxLen) (hw : ∀ p ∈ L, p.2.length ≤ maxLen) : ∃ r, Q13 (n, Z, L) 1048576 = some r ∧ r ≤ 1048576 ∧ (r < 0 ∨ (¬ r < 0 ∧ Small Z L)) := by
  obtain ⟨r, h1, h2⟩ := szWave_ok n Z L hz h hw
  refine ⟨r, h1, ?_, h2⟩
  rw [Q13.eq] at h1
  simp only at h1
  rw [szIntS_eq _ _ (by omega) (by omega) hz, Option.bind_some, szcase] at h1
  by_cases hc : (1048576 : Int) - (Z.length : Int) < 0
  · rw [Q2 hc] at h1; injection h1 with h1; omega
  · rw [Q3 hc, if_neg hc] at h1
    obtain ⟨q, k1, k2⟩ := szBitsS_ok L (1048576 - Z.length) (by omega) (by omega) h hw
    rw [k1, Option.bind_some] at h1
    by_cases hr : q < 0
    · rw [Q2 hr] at h1; injection h1 with h1; omega
    · rw [Q3 hr] at h1; injection h1 with h1
      rcases k2 with k2 | ⟨_, k2⟩ <;> omega
structure GdFm (f : FmT) : Prop where
  sm : SmFm f 1048576
  wv : Small f.2.2.2.1 f.2.2.2.2.1
theorem szFm_ok3 (f : FmT) (hz : f.2.2.2.1.length ≤ maxLen) (hl : f.2.2.2.2.1.length ≤ maxLen) (hw : ∀ p ∈ f.2.2.2.2.1, p.2.length ≤ maxLen) (hc : f.2.2.2.2.2.1.length ≤ maxLen) (hm : f.2.2.2.2.2.2.2.1.length ≤ maxLen) (hs : f.2.2.2.2.2.2.2.2.2.2.2.1.length ≤ maxLen) (hi : f.2.2.2.2.2.2.2.2.2.2.2.2.2.2.2.length ≤ maxLen) :
    ∃ r, Q1i f 1048576 = some r ∧ (r < 0 ∨ (¬ r < 0 ∧ GdFm f ∧ r ≤ 1048576)) := by
  rw [Q1i.eq]
  obtain ⟨r1, h1, hr1, h2⟩ := szWave_ok2 f.2.2.1 f.2.2.2.1 f.2.2.2.2.1 hz hl hw
  rw [h1, Option.bind_some]
  by_cases c1 : r1 < 0
  · rw [Q2 c1]; exact ⟨-1, rfl, .inl (by omega)⟩
  have hsm : Small f.2.2.2.1 f.2.2.2.2.1 := h2.elim (fun h => absurd h c1) fun h => h.2
  rw [Q3 c1, szIntS_eq _ _ (by omega) hr1 hc, Option.bind_some, szcase]
  by_cases c2 : r1 - (f.2.2.2.2.2.1.length : Int) < 0
  · rw [Q2 c2]; exact ⟨-1, rfl, .inl (by omega)⟩
  rw [Q3 c2, if_neg c2, szBits_eq _ _ (by omega) (by omega) hm, Option.bind_some, szcase]
  try simp only
  by_cases c3 : r1 - (f.2.2.2.2.2.1.length : Int) - (f.2.2.2.2.2.2.2.1.length : Int) < 0
  · rw [Q2 c3]; exact ⟨-1, rfl, .inl (by omega)⟩
  rw [Q3 c3, if_neg c3, szPacked_eq _ _ (by omega) (by omega) hs, Option.bind_some, szcase]
  try simp only
  by_cases c4 : r1 - (f.2.2.2.2.2.1.length : Int) - (f.2.2.2.2.2.2.2.1.length : Int) - (f.2.2.2.2.2.2.2.2.2.2.2.1.length : Int) < 0
  · rw [Q2 c4]; exact ⟨-1, rfl, .inl (by omega)⟩
  rw [Q3 c4, if_neg c4, szPacked_eq _ _ (by omega) (by omega) hi, Option.bind_some, szcase]
  by_cases c5 : r1 - (f.2.2.2.2.2.1.length : Int) - (f.2.2.2.2.2.2.2.1.length : Int) - (f.2.2.2.2.2.2.2.2.2.2.2.1.length : Int) - (f.2.2.2.2.2.2.2.2.2.2.2.2.2.2.2.length : Int) < 0
  · rw [Q2 c5]; exact ⟨-1, rfl, .inl (by omega)⟩
  rw [Q3 c5, if_neg c5]
  exact ⟨_, rfl, .inr ⟨c5, ⟨⟨hsm.z, hsm.l, hsm.w, by omega, by omega, by omega, by omega⟩, hsm⟩, by omega⟩⟩
theorem toFm_eq (f : FmT) (h : GdFm f) : Q12 f = some f := by
  rw [Q12.eq, toWave_eq _ _ _ h.wv, Option.bind_some, toIntS_eq _ h.sm.c, Option.bind_some, toBits_eq _ _ h.sm.m, Option.bind_some, toPacked_eq _ _ _ _ h.sm.s, Option.bind_some, toPacked_eq _ _ _ _ h.sm.i, Option.bind_some]
theorem eqPacked_v (v w : Int × Int × Int × List Int) (h : v.2.2.2.length < 4611686018427387904) : Q0M v w = some (decide (v = w)) := Q4v v.1 v.2.1 v.2.2.1 v.2.2.2 w.1 w.2.1 w.2.2.1 w.2.2.2 h
theorem eqFm_eq (f g : FmT) (h : GdFm f) : Q1D f g = some (decide (f = g)) := by
  rw [Q1D.eq, fm_dec, eqWave_eq _ _ _ _ _ _ h.wv, eqIntS_eq _ _ (by have := h.sm.c; omega), Q3q _ _ _ _ (by have := h.sm.m; omega), Q4v _ _ _ _ _ _ _ _ (by have := h.sm.s; omega), eqPacked_v _ _ (by have := h.sm.i; omega)]
  simp only [Option.bind_some, bne, Q2B]
  cases decide (f.1 = g.1)
  · rfl
  cases decide (f.2.1 = g.2.1)
  · rfl
  cases decide ((f.2.2.1, f.2.2.2.1, f.2.2.2.2.1) = (g.2.2.1, g.2.2.2.1, g.2.2.2.2.1))
  · rfl
  cases decide (f.2.2.2.2.2.1 = g.2.2.2.2.2.1)
  · rfl
  cases decide ((f.2.2.2.2.2.2.1, f.2.2.2.2.2.2.2.1) = (g.2.2.2.2.2.2.1, g.2.2.2.2.2.2.2.1))
  · rfl
  cases decide ((f.2.2.2.2.2.2.2.2.1, f.2.2.2.2.2.2.2.2.2.1, f.2.2.2.2.2.2.2.2.2.2.1, f.2.2.2.2.2.2.2.2.2.2.2.1) = (g.2.2.2.2.2.2.2.2.1, g.2.2.2.2.2.2.2.2.2.1, g.2.2.2.2.2.2.2.2.2.2.1, g.2.2.2.2.2.2.2.2.2.2.2.1))
  · rfl
  cases decide (f.2.2.2.2.2.2.2.2.2.2.2.2 = g.2.2.2.2.2.2.2.2.2.2.2.2) <;> rfl
theorem markPacked_v (v : Int × Int × Int × List Int) (k : Int) (hk : 0 ≤ k) (h : k + (v.2.2.2.length : Int) < 4611686018427387904) : Q0N v k = some (k + v.2.2.2.length, (v.1, v.2.1, v.2.2.1, Q0F IntKind.u64.wrap k v.2.2.2.length)) :=
  Q46 v.1 v.2.1 v.2.2.1 v.2.2.2 k hk h
theorem markFm_ok (f : FmT) (h : GdFm f) : ∃ r g, Q1E f 1 = some (r, g) ∧ 0 ≤ r ∧ r ≤ 100000000 := by
  have hs := h.wv.sum
  have hE := mBE_eq (1 + f.2.2.2.1.length) (lens f.2.2.2.2.1)
  have := h.sm.c
  have := h.sm.m
  have := h.sm.s
  have := h.sm.i
  rw [Q1E.eq, Q4y _ _ _ 1 (by omega) (by omega) h.wv, Option.bind_some]
  try simp only
  rw [Q4r _ _ (by omega) (by omega), Option.bind_some]
  try simp only
  rw [Q3H _ _ _ (by omega) (by omega), Option.bind_some]
  try simp only
  rw [Q46 _ _ _ _ _ (by omega) (by omega), Option.bind_some]
  try simp only
  rw [markPacked_v _ _ (by omega) (by omega), Option.bind_some]
  exact ⟨_, _, rfl, by omega, by omega⟩
end Go.Ev.W
/- Where a word occurs: both functions. -/
set_option linter.unusedVariables false
set_option linter.unusedSimpArgs false
namespace Go.Ev.W
open Go.Ev
theorem ints_takeN (X : List Nat) (n : Nat) : (ints X).take n = ints (X.take n) := (List.map_take).symm
theorem ints_dropN (X : List Nat) (n : Nat) : (ints X).drop n = ints (X.drop n) := (List.map_drop).symm
section
variable (D P : List Nat) (hl : D.length ≤ 300) (hD : QX D) (hP : QX P)
include hl hD hP
end
end Go.Ev.W
/- The law of WaveRead. -/
set_option linter.unusedVariables false
set_option linter.unusedSimpArgs false
namespace Go.Ev.W
open Go.Ev
theorem sum_le' (k : Nat) : ∀ (L : List Nat), (∀ x ∈ L, x ≤ k) → L.sum ≤ L.length * k
  | [], _ => by simp
  | x :: L, h => by
    have h1 := sum_le' k L fun y hy => h y (List.mem_cons_of_mem _ hy)
    have h2 := h x List.mem_cons_self
    rw [List.sum_cons, List.length_cons, Nat.add_mul]; omega
end Go.Ev.W
/- Frames out of bytes; an index out of bytes: both functions. -/
set_option linter.unusedVariables false
set_option linter.unusedSimpArgs false
namespace Go.Ev.W
open Go.Ev
theorem td_ints (D : List Nat) (a b : Nat) : ((ints D).take a).drop b = ints ((D.take a).drop b) := by rw [ints_takeN, ints_dropN]
end Go.Ev.W
/- Parts: what both functions give. -/
set_option linter.unusedVariables false
set_option linter.unusedSimpArgs false
namespace Go.Ev.W
open Go.Ev
theorem implHeads_l0 (D : List Nat) (hD : D.length ≤ 300) (hb : QX D) (d : Nat) (hd8 : d ≤ 8) : ∀ (s i : Nat), (srt D).length - i = s → i ≤ (srt D).length →
    Q0e_l0 (ints D) d (srt D).length i (((hd D d).take i).map wst) (ints (srt D)) = some ((hd D d).map wst) := by
  have hl : (hd D d).length = (srt D).length := by unfold hd; rw [List.length_map]
  have hsl : (srt D).length = D.length + 1 := by rw [(Q2F D).length (by omega)]; omega
  intro s
  induction s with
  | zero =>
    intro i h1 h2
    obtain rfl : i = (srt D).length := by omega
    rw [Q0e_l0.eq, Q3 (by omega), List.take_of_length_le (by omega)]
  | succ s ih =>
    intro i h1 h2
    have hi : i < (srt D).length := by omega
    have hx := ((Q2F D).mem (srt D)[i]).1 (List.getElem_mem hi)
    have e : (if ((ints D).length : Int) < IntKind.i64.wrap (((srt D)[i] : Int) + d) then ((ints D).length : Int) else IntKind.i64.wrap (((srt D)[i] : Int) + d)) = ((min D.length ((srt D)[i] + d) : Nat) : Int) := by
      rw [Qc (by omega) (by omega), Qh]; split <;> omega
    have eg : (ints (srt D))[i]? = some (((srt D)[i] : Nat) : Int) := by rw [List.getElem?_map, List.getElem?_eq_getElem hi]; rfl
    have et : (D.take (min D.length ((srt D)[i] + d))).drop (srt D)[i] = (D.drop (srt D)[i]).take d := by
      rw [List.drop_take]
      by_cases h : (srt D)[i] + d ≤ D.length
      · rw [Nat.min_eq_right h, Nat.add_sub_cancel_left]
      · rw [Nat.min_eq_left (by omega), List.take_of_length_le (by rw [List.length_drop]; omega), List.take_of_length_le (by rw [List.length_drop]; omega)]
    rw [Q0e_l0.eq, Q2 (by omega), QQ, eg, Option.bind_some, Int.toNat_natCast, eg, Option.bind_some, e, Q2 (by rw [Qh]; omega), Q2 (by omega), Int.toNat_natCast, Int.toNat_natCast, td_ints, et]
    have ef : ((hd D d).take i).map wst ++ [Q2e ((ints ((D.drop (srt D)[i]).take d)).map fun x => x)] = ((hd D d).take (i + 1)).map wst := by
      rw [Q2C _ _ (by omega), List.map_append]
      congr 1
      simp only [List.map_cons, List.map_nil, wst, hd, List.getElem_map]
    rw [ef, Q2 (by simp only [List.length_map, List.length_take, List.length_cons, List.length_nil]; omega), Q7 i (by omega)]
    exact ih (i + 1) (by omega) (by omega)
theorem implHeads_eq (D : List Nat) (hD : D.length ≤ 300) (hb : QX D) (d : Nat) (hd8 : d ≤ 8) : Q0e (ints D) d = some ((hd D d).map wst) := by
  rw [Q0e.eq, implSuf_eq D hD hb, Option.bind_some, Qh]
  have := implHeads_l0 D hD hb d hd8 _ 0 rfl (Nat.zero_le _)
  rw [List.take_zero] at this
  exact this
abbrev wds (L : Ls) : List (List Int) := L.map ints
theorem specHead_eq (D : List Nat) (hD : D.length ≤ 300) (d i : Nat) (hi : i ≤ D.length) (hd8 : d ≤ 8) : Q1p (ints D) i d = some (ints ((D.drop i).take d)) := by
  have e : (if IntKind.i64.wrap ((i : Int) + d) < ((ints D).length : Int) then IntKind.i64.wrap ((i : Int) + d) else ((ints D).length : Int)) = ((min D.length (i + d) : Nat) : Int) := by
    rw [Qc (by omega) (by omega), Qh]; split <;> omega
  have et : (D.take (min D.length (i + d))).drop i = (D.drop i).take d := by
    rw [List.drop_take]
    by_cases h : i + d ≤ D.length
    · rw [Nat.min_eq_right h, Nat.add_sub_cancel_left]
    · rw [Nat.min_eq_left (by omega), List.take_of_length_le (by rw [List.length_drop]; omega), List.take_of_length_le (by rw [List.length_drop]; omega)]
  rw [Q1p.eq, e, Q2 (by rw [Qh]; omega), Q2 (by omega), Int.toNat_natCast, Int.toNat_natCast, td_ints, et]
theorem specHeads_l0 (D : List Nat) (hD : D.length ≤ 300) (d : Nat) (hd8 : d ≤ 8) : ∀ (s i : Nat), (srt D).length - i = s → i ≤ (srt D).length →
    Q0c_l0 (ints D) d i (ints (srt D)) (wds ((hd D d).take i)) = some (wds (hd D d)) := by
  have hl : (hd D d).length = (srt D).length := by unfold hd; rw [List.length_map]
  have hsl : (srt D).length = D.length + 1 := by rw [(Q2F D).length (by omega)]; omega
  intro s
  induction s with
  | zero =>
    intro i h1 h2
    obtain rfl : i = (srt D).length := by omega
    rw [Q0c_l0.eq, Qh, Q3 (by omega), List.take_of_length_le (by omega)]
  | succ s ih =>
    intro i h1 h2
    have hi : i < (srt D).length := by omega
    have hx := ((Q2F D).mem (srt D)[i]).1 (List.getElem_mem hi)
    have eg : (ints (srt D))[i]? = some (((srt D)[i] : Nat) : Int) := by rw [List.getElem?_map, List.getElem?_eq_getElem hi]; rfl
    rw [Q0c_l0.eq, Qh, Q2 (by omega), QQ, eg, Option.bind_some, Int.toNat_natCast, eg, Option.bind_some, specHead_eq D hD d _ hx.2 hd8, Option.bind_some]
    have ef : wds ((hd D d).take i) ++ [ints ((D.drop (srt D)[i]).take d)] = wds ((hd D d).take (i + 1)) := by
      rw [Q2C _ _ (by omega), wds, wds, List.map_append]
      congr 1
      simp only [List.map_cons, List.map_nil, hd, List.getElem_map]
    rw [ef, Q2 (by simp only [List.length_map, List.length_take, List.length_cons, List.length_nil]; omega), Q7 i (by omega)]
    exact ih (i + 1) (by omega) (by omega)
theorem specHeads_eq (D : List Nat) (hD : D.length ≤ 300) (d : Nat) (hd8 : d ≤ 8) : Q0c (ints D) d = some (wds (hd D d)) := by
  rw [Q0c.eq, specSuf_eq D hD, Option.bind_some]
  have := specHeads_l0 D hD d hd8 _ 0 rfl (Nat.zero_le _)
  rw [List.take_zero] at this
  exact this
theorem specSpan_l0 (H : Ls) (hH : H.length ≤ 100000) (w : List Nat) (hw : w.length ≤ 4000000) (hs : ∀ x ∈ H, x.length ≤ 4000000) : ∀ (s i : Nat), H.length - i = s → i ≤ H.length →
    Q00_l0 (wds H) (ints w) (spLo (H.take i) w) (spHi (H.take i) w) i = some ((spLo H w : Int), (spHi H w : Int)) := by
  intro s
  induction s with
  | zero =>
    intro i h1 h2
    obtain rfl : i = H.length := by omega
    rw [Q00_l0.eq, List.length_map, Q3 (by omega), List.take_length]
  | succ s ih =>
    intro i h1 h2
    have hi : i < H.length := by omega
    have b1 := sp_len (H.take i) w
    have b2 := sp_le (H.take i) w
    rw [List.length_take] at b1
    have e1 : spLo (H.take (i + 1)) w = spLo (H.take i) w + if cmpN H[i] w < 0 then 1 else 0 := by
      unfold spLo
      rw [Q2C _ _ hi, List.filter_append, List.length_append, List.filter_cons]
      by_cases h : cmpN H[i] w < 0 <;> simp [h]
    have e2 : spHi (H.take (i + 1)) w = spHi (H.take i) w + if cmpN H[i] w ≤ 0 then 1 else 0 := by
      unfold spHi
      rw [Q2C _ _ hi, List.filter_append, List.length_append, List.filter_cons]
      by_cases h : cmpN H[i] w ≤ 0 <;> simp [h]
    have ih := ih (i + 1) (by omega) (by omega)
    rw [e1, e2] at ih
    rw [Q00_l0.eq, List.length_map, Q2 (by omega), QQ, List.getElem?_map, List.getElem?_eq_getElem hi, Option.map_some, Option.bind_some, l05Cmp_eq _ _ (hs _ (List.getElem_mem hi)) hw, Option.bind_some]
    by_cases h1 : cmpN H[i] w < 0
    · rw [if_pos h1, if_pos (by omega)] at ih
      rw [Q2 h1, Q2 (by omega), Q7 _ (by omega), Q7 _ (by omega), Q7 _ (by omega)]
      exact ih
    · rw [if_neg h1] at ih
      rw [Q3 h1]
      by_cases h2 : cmpN H[i] w ≤ 0
      · rw [if_pos h2] at ih
        rw [Q2 h2, Q7 _ (by omega), Q7 _ (by omega)]
        exact ih
      · rw [if_neg h2] at ih
        rw [Q3 h2, Q7 _ (by omega)]
        exact ih
theorem specSpan_eq (H : Ls) (hH : H.length ≤ 100000) (w : List Nat) (hw : w.length ≤ 4000000) (hs : ∀ x ∈ H, x.length ≤ 4000000) : Q00 (wds H) (ints w) = some ((spLo H w : Int), (spHi H w : Int)) := by
  rw [Q00.eq]
  exact specSpan_l0 H hH w hw hs _ 0 rfl (Nat.zero_le _)
theorem isNaN_eq (x : ByteArray) : Q1f x = some false := by rw [Q1f.eq, beq_self_eq_true]; rfl
theorem cisNaN_eq (x : ByteArray) : Q1e x = some false := by rw [Q1e.eq, beq_self_eq_true]; rfl
theorem cLess_eq (X Y : List Nat) (hX : QX X) (hY : QX Y) : Q1z (wst X) (wst Y) = some (decide (cmpN X Y < 0)) := by
  rw [Q1z.eq, cisNaN_eq, Option.bind_some, Qo, wst_less X Y hX hY]
section
variable (H : Ls) (hH : H.length ≤ 100000) (hs : H.Pairwise leN) (hB : ∀ x ∈ H, QX x) (w : List Nat) (hw : QX w)
include hH hs hB hw
theorem bsearch_l0 : ∀ (s lo hi : Nat), hi - lo = s → lo ≤ hi → hi ≤ H.length → (∀ j, (h : j < H.length) → j < lo → cmpN H[j] w < 0) → (∀ j, (h : j < H.length) → hi ≤ j → ¬ cmpN H[j] w < 0) →
    ∃ b, Q0m_l0 (H.map wst) (wst w) H.length lo hi = some (((spLo H w : Nat) : Int), b) := by
  intro s
  induction s using Nat.strongRecOn with
  | _ s ih =>
    intro lo hi h1 h2 h3 h4 h5
    rw [Q0m_l0.eq]
    by_cases hlt : lo < hi
    · have em : IntKind.i64.wrap ((IntKind.u64.wrap (IntKind.i64.wrap ((lo : Int) + hi))).fdiv (2 ^ 1)) = (((lo + hi) / 2 : Nat) : Int) := by
        rw [Qc (x := (lo : Int) + hi) (by omega) (by omega), show (lo : Int) + hi = ((lo + hi : Nat) : Int) by omega, wrapUn (show lo + hi < 2 ^ 64 by omega)]
        rw [Int.fdiv_eq_ediv_of_nonneg _ (by omega), show ((lo + hi : Nat) : Int) / 2 ^ 1 = (((lo + hi) / 2 : Nat) : Int) by omega, Qc (by omega) (by omega)]
      have hm : (lo + hi) / 2 < H.length := by omega
      rw [Q2 (by omega), em, QQ, List.getElem?_map, List.getElem?_eq_getElem hm, Option.map_some, Option.bind_some, cLess_eq _ _ (hB _ (List.getElem_mem hm)) hw, Option.bind_some]
      have hmono : ∀ i j, (hij : i ≤ j) → (hj : j < H.length) → leN (H[i]'(by omega)) H[j] := fun i j hij hj => by
        by_cases e : i = j
        · subst e; unfold leN; rw [Q34]; omega
        · exact List.pairwise_iff_getElem.1 hs i j (by omega) hj (by omega)
      by_cases hc : cmpN H[(lo + hi) / 2] w < 0
      · rw [Q2 hc, Q7 _ (by omega)]
        refine ih _ (by omega) _ _ rfl (by omega) h3 (fun j hj hjl => ?_) h5
        exact le_lt (hmono j ((lo + hi) / 2) (by omega) hm) hc
      · rw [Q3 hc]
        refine ih _ (by omega) _ _ rfl (by omega) (by omega) h4 (fun j hj hjl hlt' => ?_)
        exact hc (le_lt (hmono ((lo + hi) / 2) j hjl hj) hlt')
    · obtain rfl : lo = hi := by omega
      have el : spLo H w = lo := Q42 H lo h3 (fun j hj hjl => decide_eq_true (h4 j hj hjl)) (fun j hj hjl => decide_eq_false (h5 j hj hjl))
      rw [Q3 (by omega), el]
      by_cases hl : lo < H.length
      · rw [Q2 (by omega), QQ, List.getElem?_map, List.getElem?_eq_getElem hl, Option.map_some, Option.bind_some, Option.bind_some, isNaN_eq, Option.bind_some, Qo]
        cases (wst H[lo]).toList == (wst w).toList
        · exact ⟨false, rfl⟩
        · exact ⟨true, rfl⟩
      · rw [Q3 (by omega)]
        exact ⟨false, rfl⟩
theorem headRows_l0 (p : Nat) (hp : p = spHi H w) : ∀ (s i : Nat), p - i = s → spLo H w ≤ i → i ≤ p → Q0f_l0 (H.map wst) (wst w) (spLo H w) i = some ((spLo H w : Int), (p : Int)) := by
  have hmono : ∀ i j, (hij : i ≤ j) → (hj : j < H.length) → leN (H[i]'(by omega)) H[j] := fun i j hij hj => by
    by_cases e : i = j
    · subst e; unfold leN; rw [Q34]; omega
    · exact List.pairwise_iff_getElem.1 hs i j (by omega) hj (by omega)
  have hpl : p ≤ H.length := by rw [hp]; exact sp_len H w
  -- what stands where
  have least : ∀ (P : List Nat → Bool), (∀ x y, leN x y → P y = true → P x = true) → ∀ j, (hj : j < H.length) → (P H[j] = true ↔ j < (H.filter P).length) := by
    intro P hP j hj
    -- the first place where P fails
    have key : ∃ q, q ≤ H.length ∧ (∀ k, (h : k < H.length) → k < q → P H[k] = true) ∧ (∀ k, (h : k < H.length) → q ≤ k → P H[k] = false) := by
      clear hj
      have : ∀ n, n ≤ H.length → (∀ k, (h : k < H.length) → k < n → P H[k] = true) ∨ ∃ q, q ≤ H.length ∧ (∀ k, (h : k < H.length) → k < q → P H[k] = true) ∧ (∀ k, (h : k < H.length) → q ≤ k → P H[k] = false) := by
        intro n
        induction n with
        | zero => intro _; exact .inl fun k h hk => absurd hk (Nat.not_lt_zero _)
        | succ n ih =>
          intro hn
          rcases ih (by omega) with h | h
          · cases hb : P (H[n]'(by omega)) with
            | true =>
              refine .inl fun k hk hk' => ?_
              by_cases e : k = n
              · subst e; exact hb
              · exact h k hk (by omega)
            | false =>
              refine .inr ⟨n, by omega, h, fun k hk hnk => ?_⟩
              cases hc : P H[k] with
              | false => rfl
              | true => rw [hP _ _ (hmono n k hnk hk) hc] at hb; cases hb
          · exact .inr h
      rcases this H.length (Nat.le_refl _) with h | h
      · exact ⟨H.length, Nat.le_refl _, h, fun k h hk => by omega⟩
      · exact h
    obtain ⟨q, q1, q2, q3⟩ := key
    rw [Q42 H q q1 q2 q3]
    constructor
    · intro h
      by_cases hq : j < q
      · exact hq
      · rw [q3 j hj (by omega)] at h; cases h
    · exact q2 j hj
  have hLo := fun j hj => least (fun x => decide (cmpN x w < 0)) (fun x y h1 h2 => by simp only [decide_eq_true_eq] at h2 ⊢; exact le_lt h1 h2) j hj
  have hHi := fun j hj => least (fun x => decide (cmpN x w ≤ 0)) (fun x y h1 h2 => by simp only [decide_eq_true_eq] at h2 ⊢; exact cmpN_le _ _ _ h1 h2) j hj
  simp only [decide_eq_true_eq] at hLo hHi
  intro s
  induction s with
  | zero =>
    intro i h1 h2 h3
    obtain rfl : i = p := by omega
    rw [Q0f_l0.eq, List.length_map]
    by_cases hl : i < H.length
    · rw [Q2 (by omega), QQ, List.getElem?_map, List.getElem?_eq_getElem hl, Option.map_some, Option.bind_some, wst_eq _ _ (hB _ (List.getElem_mem hl)) hw, Q3]
      intro e
      have := (hHi i hl).1 (by rw [e, Q34]; omega)
      unfold spHi at hp
      omega
    · rw [Q3 (by omega)]
  | succ s ih =>
    intro i h1 h2 h3
    have hl : i < H.length := by omega
    have e1 := (hHi i hl).2 (by unfold spHi at hp; omega)
    have e2 : ¬ cmpN H[i] w < 0 := fun h => by have := (hLo i hl).1 h; unfold spLo at h2; omega
    rw [Q0f_l0.eq, List.length_map, Q2 (by omega), QQ, List.getElem?_map, List.getElem?_eq_getElem hl, Option.map_some, Option.bind_some, wst_eq _ _ (hB _ (List.getElem_mem hl)) hw, Q2 (Q3i _ _ (by omega)), Q7 i (by omega)]
    exact ih (i + 1) (by omega) (by omega) (by omega)
theorem headRows_eq : Q0f (H.map wst) (wst w) = some ((spLo H w : Int), (spHi H w : Int)) := by
  obtain ⟨b, hb⟩ := bsearch_l0 H hH hs hB w hw _ 0 H.length rfl (Nat.zero_le _) (Nat.le_refl _) (fun j h hj => absurd hj (Nat.not_lt_zero _)) (fun j h hj => by omega)
  rw [Q0f.eq, Q0m.eq, List.length_map]
  have hb' : Q0m_l0 (H.map wst) (wst w) (H.length : Int) 0 (H.length : Int) = some (((spLo H w : Nat) : Int), b) := hb
  rw [hb', Option.bind_some]
  exact headRows_l0 H hH hs hB w hw _ rfl _ _ rfl (Nat.le_refl _) (sp_le H w)
end
end Go.Ev.W
/- Parts: the words, and what both functions give. -/
set_option linter.unusedVariables false
set_option linter.unusedSimpArgs false
namespace Go.Ev.W
open Go.Ev
theorem growS_eq (n : Int) (h0 : 0 ≤ n) (h : n ≤ 10000000) : Q26 [] n = some [] := by
  unfold Q26 growF
  simp only [List.isEmpty_nil, Bool.true_and]
  rw [decide_eq_true h0, decide_eq_true (show n.toNat * 16 ≤ 140737488355328 by omega), decide_eq_true (show n.toNat ≤ 4611686018427387904 by omega)]
  rfl
theorem concatS_eq (A B : List ByteArray) (hA : A.length ≤ 1000) (hB : B.length ≤ 1000) : QJ [A, B] = some (A ++ B) := by
  have s0 : IntKind.i64.wrap (0 + 1 : Int) = ((1 : Nat) : Int) := Q7 0 (by omega)
  have s1 : IntKind.i64.wrap (((1 : Nat) : Int) + 1) = ((2 : Nat) : Int) := Q7 1 (by omega)
  have g0 : at? [A, B] (0 : Int) = some A := rfl
  have g1 : at? [A, B] ((1 : Nat) : Int) = some B := rfl
  rw [QJ.eq, QJ_l0.eq, Q2 (by simp), g0, Option.bind_some, Qc (x := 0 + (A.length : Int)) (by omega) (by omega), Q3 (by omega), s0,
    QJ_l0.eq, Q2 (by simp), g1, Option.bind_some, Qc (x := 0 + (A.length : Int) + B.length) (by omega) (by omega), Q3 (by omega), s1,
    QJ_l0.eq, Q3 (by simp), growS_eq _ (by omega) (by omega), Option.bind_some,
    QJ_l1.eq, Q2 (by simp), g0, Option.bind_some, Q2 (by simp; omega), s0,
    QJ_l1.eq, Q2 (by simp), g1, Option.bind_some, Q2 (by simp; omega), s1,
    QJ_l1.eq, Q3 (by simp), List.nil_append]
theorem sortedW_eq (L : Ls) (hl : L.length ≤ 100000) (hB : ∀ x ∈ L, QX x) : Q27 (L.map wst) = some ((sortN L).map wst) := by
  unfold Q27 sortedS
  rw [Q2 (by rw [List.length_map]; omega)]
  congr 1
  refine (List.map_mergeSort (fun x hx y hy => ?_)).symm
  exact (wst_le x y (hB x hx) (hB y hy)).symm
theorem compL_wst (M : Ls) (hB : ∀ x ∈ M, QX x) : compL (M.map wst) = (dd M).map wst := by
  unfold compL Lib.compactUpTo dd
  rw [List.length_map, List.map_map]
  have hg : ∀ j, j < M.length → ((M.map wst).toArray)[j]! = wst M[j]! := fun j hj => by
    rw [getElem!_pos M j hj]
    simp [hj]
  have hk : ∀ j, j ∈ List.range M.length → Lib.keeps (M.map wst).toArray j = keepN M j := fun j hj => by
    have hj := List.mem_range.1 hj
    unfold Lib.keeps keepN
    refine decide_eq_decide.2 ?_
    rw [hg j hj, hg (j - 1) (by omega)]
    have m1 : M[j]! ∈ M := by rw [getElem!_pos M j hj]; exact List.getElem_mem _
    have m2 : M[j - 1]! ∈ M := by rw [getElem!_pos M (j - 1) (by omega)]; exact List.getElem_mem _
    refine or_congr Iff.rfl (not_congr ⟨fun h => wst_inj (hB _ m1) (hB _ m2) h, fun h => by rw [h]⟩)
  rw [List.filter_congr hk]
  refine List.map_congr_left fun j hj => ?_
  exact hg j (List.mem_range.1 (List.mem_filter.1 hj).1)
theorem compactW_eq (M : Ls) (h0 : M ≠ []) (hl : M.length ≤ 100000) (hB : ∀ x ∈ M, QX x) : Q28 (M.map wst) = some ((dd M).map wst) := by
  unfold Q28 compactC
  have e1 : ∀ Z : List ByteArray, List.map (fun x => x) Z = Z := fun Z => List.map_id' Z
  rw [e1, decide_eq_true (by rw [List.length_map]; omega), compL_wst M hB]
  have : (M.map wst).isEmpty = false := by cases M with | nil => exact absurd rfl h0 | cons _ _ => rfl
  rw [this]
  show some (List.map (fun x => x) ((dd M).map wst)) = _
  rw [e1]
def part (A B : Ls) (w : List Nat) : List Int × Int × Int × Int × Int := (ints w, (spLo A w : Int), (spHi A w : Int), (spLo B w : Int), (spHi B w : Int))
def parts (A B : Ls) : List (List Int × Int × Int × Int × Int) := (words (A ++ B)).map (part A B)
theorem implParts_l0 (A B : Ls) (hA : A.length ≤ 301) (hB : B.length ≤ 301) (sA : A.Pairwise leN) (sB : B.Pairwise leN) (W : Ls) (hW : W.length ≤ 602) (bA : ∀ x ∈ A, QX x) (bB : ∀ x ∈ B, QX x) (bW : ∀ x ∈ W, QX x) : ∀ (s i : Nat), W.length - i = s → i ≤ W.length →
    Q0n_l0 (A.map wst) (B.map wst) W.length i ((W.take i).map (part A B)) (W.map wst) = some (W.map (part A B)) := by
  intro s
  induction s with
  | zero =>
    intro i h1 h2
    obtain rfl : i = W.length := by omega
    rw [Q0n_l0.eq, Q3 (by omega), List.take_length]
  | succ s ih =>
    intro i h1 h2
    have hi : i < W.length := by omega
    have eg : (W.map wst)[i]? = some (wst W[i]) := by rw [List.getElem?_map, List.getElem?_eq_getElem hi]; rfl
    have hb := bW _ (List.getElem_mem hi)
    rw [Q0n_l0.eq, Q2 (by omega), QQ, eg, Option.bind_some, Int.toNat_natCast, eg, Option.bind_some, headRows_eq A (by omega) sA bA _ hb, Option.bind_some, headRows_eq B (by omega) sB bB _ hb, Option.bind_some, wst_ints _ hb]
    have ef : (W.take i).map (part A B) ++ [(ints W[i], (spLo A W[i] : Int), (spHi A W[i] : Int), (spLo B W[i] : Int), (spHi B W[i] : Int))] = (W.take (i + 1)).map (part A B) := by
      rw [Q2C _ _ hi, List.map_append]; rfl
    simp only
    rw [ef, Q2 (by simp only [List.length_map, List.length_take, List.length_cons, List.length_nil]; omega), Q7 i (by omega)]
    exact ih (i + 1) (by omega) (by omega)
theorem implParts_eq (R T : List Nat) (hR : R.length ≤ 300) (hT : T.length ≤ 300) (bR : QX R) (bT : QX T) (d : Nat) (hd8 : d ≤ 8) : Q0n (ints R) (ints T) d = some (parts (hd R d) (hd T d)) := by
  have lR := hd_len R d
  have lT := hd_len T d
  have hb : ∀ x ∈ hd R d ++ hd T d, QX x := fun x hx => (List.mem_append.1 hx).elim (fun h => (hd_byte R bR d x h).1) (fun h => (hd_byte T bT d x h).1)
  have hne : sortN (hd R d ++ hd T d) ≠ [] := fun e => by
    have := congrArg List.length e
    unfold sortN at this
    rw [List.length_mergeSort, List.length_append, List.length_nil] at this
    omega
  have hl : (sortN (hd R d ++ hd T d)).length = (hd R d ++ hd T d).length := List.length_mergeSort _
  have wl := words_len (hd R d ++ hd T d)
  rw [List.length_append] at hl wl
  rw [Q0n.eq, implHeads_eq R hR bR d hd8, Option.bind_some, implHeads_eq T hT bT d hd8, Option.bind_some, concatS_eq _ _ (by rw [List.length_map]; omega) (by rw [List.length_map]; omega), Option.bind_some, ← List.map_append, sortedW_eq _ (by rw [List.length_append]; omega) hb, Option.bind_some, compactW_eq _ hne (by omega) fun x hx => hb x ((sortN_mem _ x).1 hx), Option.bind_some, dd_words, List.length_map]
  have := implParts_l0 (hd R d) (hd T d) (by omega) (by omega) (hd_sorted R d) (hd_sorted T d) (words (hd R d ++ hd T d)) (by omega) (fun x hx => (hd_byte R bR d x hx).1) (fun x hx => (hd_byte T bT d x hx).1) (fun x hx => hb x ((words_mem _ x).1 hx)) _ 0 rfl (Nat.zero_le _)
  rw [List.take_zero] at this
  exact this
theorem take_cat (V : Ls) (k : Nat) (x : List Nat) : ([] ++ ((wds V).drop 0).take (k - 0)) ++ ([ints x] ++ ((wds V).drop k).take ((wds V).length - k)) = wds (V.take k ++ x :: V.drop k) := by
  rw [List.nil_append, List.drop_zero, Nat.sub_zero, List.take_of_length_le (l := (wds V).drop k) (by rw [List.length_drop]; omega)]
  simp [wds, List.map_take, List.map_drop]
section
variable (L : Ls) (hL : L.length ≤ 1000) (hs : ∀ x ∈ L, x.length ≤ 4000000) (a b : List (List Int))
include hL hs
theorem specIns_hit (i : Nat) (hi : i < L.length) (V : Ls) (hV : V.length ≤ 1000) (vs : ∀ x ∈ V, x.length ≤ 4000000) : ∀ (s k : Nat), V.length - k = s → k ≤ V.length → Qf_l1 i k true a b (wds L) (wds V) = Qf_l0 ((i + 1 : Nat) : Int) a b (wds L) (wds V) := by
  intro s
  induction s with
  | zero =>
    intro k h1 h2
    obtain rfl : k = V.length := by omega
    rw [Qf_l1.eq, List.length_map, Q3 (by omega), Bool.not_true, Qo, Q7 i (by omega)]
  | succ s ih =>
    intro k h1 h2
    have hk : k < V.length := by omega
    have eg : (wds V)[k]? = some (ints V[k]) := by rw [List.getElem?_map, List.getElem?_eq_getElem hk]; rfl
    have el : (wds L)[i]? = some (ints L[i]) := by rw [List.getElem?_map, List.getElem?_eq_getElem hi]; rfl
    rw [Qf_l1.eq, List.length_map, Q2 (by omega), QQ, eg, Option.bind_some, Int.toNat_natCast, eg, Option.bind_some, QQ, el, Option.bind_some, Int.toNat_natCast, el, Option.bind_some, l05Cmp_eq _ _ (vs _ (List.getElem_mem hk)) (hs _ (List.getElem_mem hi)), Option.bind_some]
    by_cases h : cmpN V[k] L[i] ≤ 0
    · rw [Q2 h, Q0O, Q7 k (by omega)]
      exact ih (k + 1) (by omega) (by omega)
    · rw [Q3 h, Bool.not_true, Qo, Q7 i (by omega)]
theorem specIns_l1 (i : Nat) (hi : i < L.length) (V : Ls) (hV : V.length ≤ 1000) (vs : ∀ x ∈ V, x.length ≤ 4000000) : ∀ (s k : Nat), V.length - k = s → k ≤ V.length → Qf_l1 i k false a b (wds L) (wds V) = Qf_l0 ((i + 1 : Nat) : Int) a b (wds L) (wds (V.take k ++ ins L[i] (V.drop k))) := by
  have el : (wds L)[i]? = some (ints L[i]) := by rw [List.getElem?_map, List.getElem?_eq_getElem hi]; rfl
  intro s
  induction s with
  | zero =>
    intro k h1 h2
    obtain rfl : k = V.length := by omega
    rw [Qf_l1.eq, List.length_map, Q3 (by omega), Bool.not_false, Q0O, QQ, el, Option.bind_some, Int.toNat_natCast, el, Option.bind_some]
    simp only [Int.toNat_natCast]
    have e := take_cat V V.length L[i]
    rw [List.length_map] at e
    rw [Q2 (by omega), Q2 (by simp only [List.length_cons, List.length_nil, List.length_take, List.length_drop, List.length_map]; omega), Q2 (by omega), Q2 (by simp only [List.length_nil, List.length_take, List.length_drop, List.length_map]; omega), Q2 (by simp only [List.length_append, List.length_cons, List.length_nil, List.length_take, List.length_drop, List.length_map]; omega), e, Q7 i (by omega), List.drop_length]
    rfl
  | succ s ih =>
    intro k h1 h2
    have hk : k < V.length := by omega
    have eg : (wds V)[k]? = some (ints V[k]) := by rw [List.getElem?_map, List.getElem?_eq_getElem hk]; rfl
    have hc := l05Cmp_eq V[k] L[i] (vs _ (List.getElem_mem hk)) (hs _ (List.getElem_mem hi))
    have hd : V.drop k = V[k] :: V.drop (k + 1) := List.drop_eq_getElem_cons hk
    rw [Qf_l1.eq, List.length_map, Q2 (by omega), QQ, eg, Option.bind_some, Int.toNat_natCast, eg, Option.bind_some, QQ, el, Option.bind_some, Int.toNat_natCast, el, Option.bind_some, hc, Option.bind_some]
    by_cases h : cmpN V[k] L[i] ≤ 0
    · rw [Q2 h, Qo, Option.bind_some, Option.bind_some, Option.bind_some, Option.bind_some, hc, Option.bind_some, Q7 k (by omega)]
      by_cases h0 : cmpN V[k] L[i] = 0
      · rw [h0, beq_self_eq_true, specIns_hit L hL hs a b i hi V hV vs _ (k + 1) rfl (by omega), hd, ins, if_neg (by omega), if_pos h0, ← hd, List.take_append_drop]
      · rw [beq_eq_false_iff_ne.2 h0, ih (k + 1) (by omega) (by omega), hd, ins, if_pos (by omega), Q2C V k hk, List.append_assoc]
        rfl
    · rw [Q3 h, Bool.not_false, Q0O, Option.bind_some, Option.bind_some]
      have e := take_cat V k L[i]
      rw [List.length_map] at e
      rw [Q2 (by omega), Q2 (by simp only [List.length_cons, List.length_nil, List.length_take, List.length_drop, List.length_map]; omega), Q2 (by omega), Q2 (by simp only [List.length_nil, List.length_take, List.length_drop, List.length_map]; omega), Q2 (by simp only [List.length_append, List.length_cons, List.length_nil, List.length_take, List.length_drop, List.length_map]; omega), e, Q7 i (by omega)]
      rw [hd, ins, if_neg (by omega), if_neg (by omega)]
theorem specIns_l0 : ∀ (s i : Nat) (V : Ls), L.length - i = s → i ≤ L.length → V.length ≤ i → (∀ x ∈ V, x ∈ L) → Qf_l0 i a b (wds L) (wds V) = Qf_l2 0 a b (wds ((L.drop i).foldl (fun V x => ins x V) V)) [] := by
  intro s
  induction s with
  | zero =>
    intro i V h1 h2 h3 h4
    obtain rfl : i = L.length := by omega
    rw [Qf_l0.eq, List.length_map, Q3 (by omega), List.drop_length]; rfl
  | succ s ih =>
    intro i V h1 h2 h3 h4
    have hi : i < L.length := by omega
    have := specIns_l1 L hL hs a b i hi V (by omega) (fun x hx => hs x (h4 x hx)) _ 0 rfl (Nat.zero_le _)
    rw [List.take_zero, List.drop_zero, List.nil_append] at this
    rw [Qf_l0.eq, List.length_map, Q2 (by omega), List.drop_eq_getElem_cons hi, List.foldl_cons]
    have hl := ins_len L[i] V
    refine this.trans (ih (i + 1) _ (by omega) (by omega) (by omega) fun x hx => ?_)
    rcases (ins_mem _ x V).1 hx with h | h
    · rw [h]; exact List.getElem_mem _
    · exact h4 x h
end
theorem specParts_l2 (A B : Ls) (hA : A.length ≤ 301) (hB : B.length ≤ 301) (W : Ls) (hW : W.length ≤ 602) (bA : ∀ x ∈ A, x.length ≤ 8) (bB : ∀ x ∈ B, x.length ≤ 8) (bW : ∀ x ∈ W, x.length ≤ 8) : ∀ (s i : Nat), W.length - i = s → i ≤ W.length →
    Qf_l2 i (wds A) (wds B) (wds W) ((W.take i).map (part A B)) = some (W.map (part A B)) := by
  intro s
  induction s with
  | zero =>
    intro i h1 h2
    obtain rfl : i = W.length := by omega
    rw [Qf_l2.eq, List.length_map, Q3 (by omega), List.take_length]
  | succ s ih =>
    intro i h1 h2
    have hi : i < W.length := by omega
    have eg : (wds W)[i]? = some (ints W[i]) := by rw [List.getElem?_map, List.getElem?_eq_getElem hi]; rfl
    have hb := bW _ (List.getElem_mem hi)
    have sA := specSpan_eq A (by omega) W[i] (by omega) fun x hx => by have := bA x hx; omega
    have sB := specSpan_eq B (by omega) W[i] (by omega) fun x hx => by have := bB x hx; omega
    rw [Qf_l2.eq, List.length_map, Q2 (by omega)]
    simp only [QQ, Int.toNat_natCast, eg, Option.bind_some, sA, sB]
    have ef : (W.take i).map (part A B) ++ [([] ++ ints W[i], (spLo A W[i] : Int), (spHi A W[i] : Int), (spLo B W[i] : Int), (spHi B W[i] : Int))] = (W.take (i + 1)).map (part A B) := by
      rw [Q2C _ _ hi, List.map_append]; rfl
    rw [ef, Q2 (by simp only [List.length_nil, Qh]; omega), Q2 (by simp only [List.length_map, List.length_take, List.length_cons, List.length_nil]; omega), Q7 i (by omega)]
    exact ih (i + 1) (by omega) (by omega)
theorem l13Fit_eq (R T : List Nat) (d : Int) : Q0X (ints R) (ints T) d = some (decide (R.length ≤ 300 ∧ T.length ≤ 300 ∧ 0 ≤ d ∧ d ≤ 8)) := by
  rw [Q0X.eq, Q4w, Option.bind_some]
  by_cases h1 : R.length ≤ 300
  · rw [Q2 h1, Q4w, Option.bind_some]
    by_cases h2 : T.length ≤ 300
    · rw [Q2 h2]
      by_cases h3 : 0 ≤ d
      · rw [Q2 h3]; congr 1; exact decide_eq_decide.2 (by omega)
      · rw [Q3 (by omega), decide_eq_false (by omega)]
    · rw [Q3 h2, decide_eq_false (by omega)]
  · rw [Q3 h1, decide_eq_false (by omega)]
theorem specParts_eq (R T : List Nat) (hR : R.length ≤ 300) (hT : T.length ≤ 300) (bR : QX R) (bT : QX T) (d : Nat) (hd8 : d ≤ 8) : Qf (ints R) (ints T) d = some (parts (hd R d) (hd T d)) := by
  have lR := hd_len R d
  have lT := hd_len T d
  have wl := words_len (hd R d ++ hd T d)
  have h8 : ∀ x ∈ hd R d ++ hd T d, x.length ≤ 8 := fun x hx => Nat.le_trans ((List.mem_append.1 hx).elim (fun h => (hd_byte R bR d x h).2) (fun h => (hd_byte T bT d x h).2)) hd8
  rw [List.length_append] at wl
  have e1 : Qf_l0 0 (wds (hd R d)) (wds (hd T d)) (wds (hd R d ++ hd T d)) (wds []) = _ := specIns_l0 (hd R d ++ hd T d) (by rw [List.length_append]; omega) (fun x hx => by have := h8 x hx; omega) (wds (hd R d)) (wds (hd T d)) _ 0 [] rfl (Nat.zero_le _) (Nat.le_refl _) (fun x hx => by cases hx)
  rw [Qf.eq, l13Fit_eq, Option.bind_some, decide_eq_true (by omega), Bool.not_true, Qo, specHeads_eq R hR d hd8, Option.bind_some, specHeads_eq T hT d hd8, Option.bind_some, Q2 (by simp only [List.length_nil, List.length_map]; omega), Q2 (by simp only [List.length_append, List.length_nil, List.length_map]; omega), List.nil_append, ← List.map_append]
  refine e1.trans ?_
  rw [List.drop_zero]
  have := specParts_l2 (hd R d) (hd T d) (by omega) (by omega) (words (hd R d ++ hd T d)) (by omega) (fun x hx => h8 x (List.mem_append_left _ hx)) (fun x hx => h8 x (List.mem_append_right _ hx)) (fun x hx => h8 x ((words_mem _ x).1 hx)) _ 0 rfl (Nat.zero_le _)
  rw [List.take_zero] at this
  exact this
end Go.Ev.W
/- The longest common subsequence: the reference's functions; both within a budget. -/
set_option linter.unusedVariables false
set_option linter.unusedSimpArgs false
namespace Go.Ev.W
open Go.Ev
def hitC (X Y : List Int) (v x k : Nat) : Bool := (X.getD x 0 == Y.getD k 0) && (1 + lc (X.drop (x + 1)) (Y.drop (k + 1)) == v)
def lowC (X Y : List Int) (v x j : Nat) : Nat → Int → Int
  | 0, y => y
  | k + 1, y => if j ≤ k then lowC X Y v x j k (if hitC X Y v x k then (k : Int) else y) else y
theorem specCommon_l3 (X Y : List Int) (hX : X.length ≤ 100000) (hY : Y.length ≤ 100000) (i j x : Nat) (hi : i ≤ X.length) (hj : j ≤ Y.length) (hx : x < X.length) (out : List (Int × Int)) :
    ∀ (k : Nat) (y : Int), k ≤ Y.length → Qe_l3 X Y (Q0q fS X Y) i j x y ((k : Int) - 1) out = Qe_l2 X Y (Q0q fS X Y) i j ((x + 1 : Nat) : Int) (lowC X Y (lc (X.drop i) (Y.drop j)) x j k y) out := by
  intro k
  induction k with
  | zero =>
    intro y hk
    rw [Qe_l3.eq, Q3 (by omega), Q7 x (by omega)]; rfl
  | succ k ih =>
    intro y hk
    have hk' : k < Y.length := by omega
    rw [show ((k + 1 : Nat) : Int) - 1 = (k : Int) by omega, Qe_l3.eq]
    by_cases hjk : j ≤ k
    · obtain ⟨row, e1, e2⟩ := tab_at fS_ok X Y (by omega) i j hi hj
      obtain ⟨row2, f1, f2⟩ := tab_at fS_ok X Y (by omega) (x + 1) (k + 1) (by omega) (by omega)
      have hb := lc_le (X.drop (x + 1)) (Y.drop (k + 1))
      rw [List.length_drop] at hb
      have gx : X.getD x 0 = X[x] := by rw [List.getD_eq_getElem?_getD, List.getElem?_eq_getElem hx]; rfl
      have gy : Y.getD k 0 = Y[k] := by rw [List.getD_eq_getElem?_getD, List.getElem?_eq_getElem hk']; rfl
      rw [Q2 (by omega), QQ, List.getElem?_eq_getElem hx, Option.bind_some, QQ, List.getElem?_eq_getElem hk', Option.bind_some, Qc (x := (k : Int) - 1) (by omega) (by omega)]
      simp only [lowC, if_pos hjk]
      by_cases e : X[x] = Y[k]
      · rw [Q2m e, Q7 x (by omega), f1, Option.bind_some, Q7 k (by omega), f2, Option.bind_some, e1, Option.bind_some, e2, Option.bind_some, Qc (by omega) (by omega)]
        by_cases e3 : 1 + lc (X.drop (x + 1)) (Y.drop (k + 1)) = lc (X.drop i) (Y.drop j)
        · have hh : hitC X Y (lc (X.drop i) (Y.drop j)) x k = true := by unfold hitC; rw [gx, gy, e, e3]; simp
          rw [Q2m (by omega), hh, if_pos rfl]
          exact ih k (by omega)
        · have hh : hitC X Y (lc (X.drop i) (Y.drop j)) x k = false := by unfold hitC; rw [beq_eq_false_iff_ne.2 e3, Bool.and_false]
          rw [Q2q (by omega), hh, if_neg (by simp)]
          exact ih y (by omega)
      · have hh : hitC X Y (lc (X.drop i) (Y.drop j)) x k = false := by unfold hitC; rw [gx, gy, beq_eq_false_iff_ne.2 e, Bool.false_and]
        rw [Q2q e, hh, if_neg (by simp)]
        exact ih y (by omega)
    · rw [Q3 (by omega), Q7 x (by omega)]
      simp only [lowC, if_neg hjk]
theorem lowC_none (X Y : List Int) (v x j : Nat) : ∀ (k : Nat) (y : Int), (∀ q, j ≤ q → q < k → hitC X Y v x q = false) → lowC X Y v x j k y = y
  | 0, y, _ => rfl
  | k + 1, y, h => by
    unfold lowC
    by_cases hjk : j ≤ k
    · rw [if_pos hjk, h k hjk (Nat.lt_succ_self k), if_neg (by simp)]
      exact lowC_none X Y v x j k y fun q h1 h2 => h q h1 (by omega)
    · rw [if_neg hjk]
theorem lowC_some (X Y : List Int) (v x j p : Nat) (hp : j ≤ p) (hh : hitC X Y v x p = true) (hlo : ∀ q, j ≤ q → q < p → hitC X Y v x q = false) : ∀ (k : Nat) (y : Int), p < k → lowC X Y v x j k y = p
  | 0, y, h => absurd h (Nat.not_lt_zero _)
  | k + 1, y, h => by
    unfold lowC
    rw [if_pos (by omega)]
    by_cases e : p = k
    · subst e
      rw [hh, if_pos rfl]
      exact lowC_none X Y v x j p _ fun q h1 h2 => hlo q h1 h2
    · exact lowC_some X Y v x j p hp hh hlo k _ (by omega)
theorem row_step (X Y : List Int) (x j v : Nat) (hx : x < X.length) (hj : j ≤ Y.length) (hv : lc (X.drop x) (Y.drop j) = v) :
    (lowC X Y v x j Y.length (-1) = -1 ∧ lc (X.drop (x + 1)) (Y.drop j) = v ∧ ∀ i, grd (X.drop x) (Y.drop j) i j = grd (X.drop (x + 1)) (Y.drop j) (i + 1) j) ∨
    ∃ p, j ≤ p ∧ p < Y.length ∧ lowC X Y v x j Y.length (-1) = (p : Int) ∧ ∀ i, grd (X.drop x) (Y.drop j) i j = (i, p) :: grd (X.drop (x + 1)) (Y.drop (p + 1)) (i + 1) (p + 1) := by
  have hd : X.drop x = X[x] :: X.drop (x + 1) := List.drop_eq_getElem_cons hx
  have gx : X.getD x 0 = X[x] := by rw [List.getD_eq_getElem?_getD, List.getElem?_eq_getElem hx]; rfl
  rw [hd] at hv ⊢
  have hf := lc_fst X[x] (X.drop (x + 1)) (Y.drop j)
  have gy : ∀ q, q < Y.length → Y.getD q 0 = Y[q]! := fun q hq => by rw [List.getD_eq_getElem?_getD, List.getElem?_eq_getElem hq, getElem!_pos Y q hq]; rfl
  cases hc : fst1 X[x] (Y.drop j) with
  | none =>
    rw [hc] at hf; simp only at hf
    have hn := fst1_none _ _ hc
    refine .inl ⟨lowC_none X Y v x j _ _ fun q h1 h2 => ?_, by omega, fun i => by rw [grd, hc]⟩
    unfold hitC
    have := hn (q - j) (by rw [List.length_drop]; omega)
    rw [List.getElem_drop] at this
    simp only [show j + (q - j) = q by omega] at this
    rw [gx, List.getD_eq_getElem?_getD, List.getElem?_eq_getElem h2, beq_eq_false_iff_ne.2 (by simpa using fun e => this e.symm), Bool.false_and]
  | some p =>
    rw [hc] at hf; simp only at hf
    obtain ⟨h1, h2, h3⟩ := fst1_some _ _ _ hc
    rw [List.length_drop] at h1
    rw [List.getElem_drop] at h2
    rw [List.drop_drop] at hf
    have hm := mx hf
    have hne : ∀ q, j ≤ q → q < j + p → hitC X Y v x q = false := fun q q1 q2 => by
      have := h3 (q - j) (by rw [List.length_drop]; omega) (by omega)
      rw [List.getElem_drop] at this
      simp only [show j + (q - j) = q by omega] at this
      unfold hitC
      rw [gx, List.getD_eq_getElem?_getD, List.getElem?_eq_getElem (by omega), beq_eq_false_iff_ne.2 (by simpa using fun e => this e.symm), Bool.false_and]
    by_cases e : lc (X.drop (x + 1)) (Y.drop (j + (p + 1))) + 1 = lc (X[x] :: X.drop (x + 1)) (Y.drop j)
    · refine .inr ⟨j + p, by omega, by omega, lowC_some X Y v x j (j + p) (by omega) ?_ hne _ _ (by omega), fun i => ?_⟩
      · unfold hitC
        rw [gx, List.getD_eq_getElem?_getD, List.getElem?_eq_getElem (by omega)]
        simp only [Option.getD_some, h2, beq_self_eq_true, Bool.true_and, beq_iff_eq]
        rw [Nat.add_assoc]; omega
      · rw [grd, hc]
        simp only
        rw [List.drop_drop, if_pos e, Nat.add_assoc]
    · refine .inl ⟨lowC_none X Y v x j _ _ fun q q1 q2 => ?_, by omega, fun i => by
        rw [grd, hc]
        simp only
        rw [List.drop_drop, if_neg e]⟩
      by_cases hq : q < j + p
      · exact hne q q1 hq
      · have hl := lc_drop2 (X.drop (x + 1)) Y (j + (p + 1)) (q + 1) (by omega)
        unfold hitC
        rw [beq_eq_false_iff_ne.2 (show 1 + lc (X.drop (x + 1)) (Y.drop (q + 1)) ≠ v by omega), Bool.and_false]
theorem specCommon_l12 (X Y : List Int) (hX : X.length ≤ 100000) (hY : Y.length ≤ 100000) : ∀ (d : Nat),
    (∀ (i j : Nat) (out : List (Int × Int)), X.length - i = d → i ≤ X.length → j ≤ Y.length → out.length ≤ i → Qe_l1 X Y (Q0q fS X Y) i j out = some (out ++ (grd (X.drop i) (Y.drop j) i j).map ipr)) ∧
    (∀ (i j x : Nat) (out : List (Int × Int)), X.length - x = d → i ≤ x → x ≤ X.length → j ≤ Y.length → out.length ≤ i → lc (X.drop i) (Y.drop j) = lc (X.drop x) (Y.drop j) → 0 < lc (X.drop i) (Y.drop j) →
      Qe_l2 X Y (Q0q fS X Y) i j x (-1) out = some (out ++ (grd (X.drop x) (Y.drop j) x j).map ipr)) := by
  intro d
  induction d with
  | zero =>
    constructor
    · intro i j out h1 h2 h3 h4
      obtain rfl : i = X.length := by omega
      obtain ⟨row, e1, e2⟩ := tab_at fS_ok X Y (by omega) X.length j h2 h3
      rw [Qe_l1.eq, e1, Option.bind_some, e2, Option.bind_some, List.drop_length]
      simp [lc, grd]
    · intro i j x out h1 h2 h3 h4 h5 h6 h7
      obtain rfl : x = X.length := by omega
      rw [h6, List.drop_length] at h7
      simp [lc] at h7
  | succ d ih =>
    have two : ∀ (i j x : Nat) (out : List (Int × Int)), X.length - x = d + 1 → i ≤ x → x ≤ X.length → j ≤ Y.length → out.length ≤ i → lc (X.drop i) (Y.drop j) = lc (X.drop x) (Y.drop j) → 0 < lc (X.drop i) (Y.drop j) →
        Qe_l2 X Y (Q0q fS X Y) i j x (-1) out = some (out ++ (grd (X.drop x) (Y.drop j) x j).map ipr) := by
      intro i j x out h1 h2 h3 h4 h5 h6 h7
      have hx : x < X.length := by omega
      rw [Qe_l2.eq, Q2 (by omega), Qc (by omega) (by omega), specCommon_l3 X Y hX hY i j x (by omega) h4 hx out Y.length (-1) (Nat.le_refl _)]
      rcases row_step X Y x j _ hx h4 h6.symm with ⟨r1, r2, r3⟩ | ⟨p, r1, r2, r3, r4⟩
      · rw [r1, r3 x]
        exact ih.2 i j (x + 1) out (by omega) (by omega) (by omega) h4 h5 r2.symm h7
      · rw [r3, r4 x, Qe_l2.eq, Q3 (by omega), Qc (x := ((x + 1 : Nat) : Int) - 1) (by omega) (by omega), Q2 (by simp only [List.length_cons, List.length_nil]; omega), Q7 p (by omega), show ((x + 1 : Nat) : Int) - 1 = (x : Int) by omega]
        rw [ih.1 (x + 1) (p + 1) _ (by omega) (by omega) (by omega) (by rw [List.length_append]; simp; omega), List.append_assoc]
        rfl
    refine ⟨?_, two⟩
    intro i j out h1 h2 h3 h4
    obtain ⟨row, e1, e2⟩ := tab_at fS_ok X Y (by omega) i j h2 h3
    rw [Qe_l1.eq, e1, Option.bind_some, e2, Option.bind_some]
    by_cases hz : lc (X.drop i) (Y.drop j) = 0
    · rw [Q3 (by omega), grd_nil hz]; simp
    · rw [Q2 (by omega)]
      exact two i j i out h1 (Nat.le_refl _) h2 h3 h4 rfl (by omega)
theorem specTable_eq (X Y : List Int) (hX : X.length ≤ 100000) (hY : Y.length ≤ 100000) : Q1Y X Y = some (Q0q fS X Y) := tableC_eq fS X Y (by omega) (by omega)
def cw (X Y : List Int) (b : Int) : List (Nat × Nat) := if ((X.length + Y.length : Nat) : Int) - 2 * (lc X Y : Nat) > b then [] else grd X Y 0 0
theorem implWithin_eq (X Y : List Int) (hX : X.length ≤ 301) (hY : Y.length ≤ 301) (b : Int) : Q1g X Y b = some ((cw X Y b).map ipr) := by
  have hl := grd_len X Y 0 0
  have hb := lc_le X Y
  rw [Q1g.eq, Q1P.eq]
  rw [Q2 (by omega), Option.bind_some, decide_eq_true (by omega), Bool.not_true, Qo, implCommonOf_eq X Y (by omega) (by omega), Option.bind_some, List.length_map, hl, Qc (x := (X.length : Int) + Y.length) (by omega) (by omega), Qc (x := 2 * (lc X Y : Int)) (by omega) (by omega), Qc (by omega) (by omega)]
  unfold cw
  by_cases h : (X.length : Int) + Y.length - 2 * (lc X Y : Int) > b
  · rw [Q2 h, if_pos (by omega)]; rfl
  · rw [Q3 h, if_neg (by omega)]
theorem specWithin_eq (X Y : List Int) (hX : X.length ≤ 301) (hY : Y.length ≤ 301) (b : Int) : Q16 X Y b = some ((cw X Y b).map ipr) := by
  have hb := lc_le X Y
  have hr : ∀ Z : List Int, Z.length ≤ 301 → Q0P Z = some true := fun Z hZ => by rw [Q0P.eq, decide_eq_true (by omega)]
  obtain ⟨row, e1, e2⟩ := tab_at fS_ok X Y (by omega) 0 0 (Nat.zero_le _) (Nat.zero_le _)
  have e1' : at? (Q0q fS X Y) 0 = some row := e1
  have e2' : at? row 0 = some ((lc X Y : Nat) : Int) := e2
  have hL : Q1q X Y = some ((lc X Y : Nat) : Int) := by
    rw [Q1q.eq, hr X hX, hr Y hY, Option.bind_some, Option.bind_some, specTable_eq X Y (by omega) (by omega), Option.bind_some, e1', Option.bind_some, e2']; rfl
  have hC : Qe X Y = some ((grd X Y 0 0).map ipr) := by
    rw [Qe.eq, hr X hX, hr Y hY, Option.bind_some, Option.bind_some, Qe_l0.eq, specTable_eq X Y (by omega) (by omega)]
    have := (specCommon_l12 X Y (by omega) (by omega) _).1 0 0 [] rfl (Nat.zero_le _) (Nat.zero_le _) (Nat.le_refl _)
    simp only [List.drop_zero, List.nil_append] at this
    exact this
  rw [Q16.eq, hL, Option.bind_some, Q3 (by omega), Qc (x := (X.length : Int) + Y.length) (by omega) (by omega), Qc (x := 2 * (lc X Y : Int)) (by omega) (by omega), Qc (by omega) (by omega)]
  unfold cw
  by_cases h : (X.length : Int) + Y.length - 2 * (lc X Y : Int) > b
  · rw [Q2 h, if_pos (by omega)]; rfl
  · rw [Q3 h, if_neg (by omega), hC]; rfl
end Go.Ev.W
/- What two texts share: both functions; the pairs go up and tell equal symbols. -/
set_option linter.unusedVariables false
set_option linter.unusedSimpArgs false
namespace Go.Ev.W
open Go.Ev
theorem grd_at : ∀ (X Y : List Int) (i k : Nat), ∀ q ∈ grd X Y i k, i ≤ q.1 ∧ k ≤ q.2 ∧ ∃ v, X[q.1 - i]? = some v ∧ Y[q.2 - k]? = some v
  | [], Y, i, k, q, h => by simp [grd] at h
  | x :: xs, Y, i, k, q, h => by
    have none : ∀ q ∈ grd xs Y (i + 1) k, i ≤ q.1 ∧ k ≤ q.2 ∧ ∃ v, (x :: xs)[q.1 - i]? = some v ∧ Y[q.2 - k]? = some v := fun q h => by
      obtain ⟨h1, h2, v, h3, h4⟩ := grd_at xs Y (i + 1) k q h
      refine ⟨by omega, h2, v, ?_, h4⟩
      rw [show q.1 - i = (q.1 - (i + 1)) + 1 by omega, List.getElem?_cons_succ]; exact h3
    unfold grd at h
    cases hf : fst1 x Y with
    | none => rw [hf] at h; exact none q h
    | some p =>
      rw [hf] at h
      simp only at h
      by_cases e : lc xs (Y.drop (p + 1)) + 1 = lc (x :: xs) Y
      · rw [if_pos e] at h
        rcases List.mem_cons.1 h with h | h
        · subst h
          obtain ⟨hp, h2, _⟩ := fst1_some _ _ _ hf
          refine ⟨Nat.le_refl _, Nat.le_add_right _ _, x, by simp, ?_⟩
          show Y[k + p - k]? = _
          rw [Nat.add_sub_cancel_left, List.getElem?_eq_getElem hp, h2]
        · obtain ⟨h1, h2, v, h3, h4⟩ := grd_at xs (Y.drop (p + 1)) (i + 1) (k + p + 1) q h
          refine ⟨by omega, by omega, v, ?_, ?_⟩
          · rw [show q.1 - i = (q.1 - (i + 1)) + 1 by omega, List.getElem?_cons_succ]; exact h3
          · rw [List.getElem?_drop, show p + 1 + (q.2 - (k + p + 1)) = q.2 - k by omega] at h4; exact h4
      · rw [if_neg e] at h; exact none q h
def Up (p q : Nat × Nat) : Prop := p.1 < q.1 ∧ p.2 < q.2
theorem grd_up : ∀ (X Y : List Int) (i k : Nat), (grd X Y i k).Pairwise Up
  | [], Y, i, k => by simp [grd]
  | x :: xs, Y, i, k => by
    unfold grd
    cases hf : fst1 x Y with
    | none => exact grd_up xs Y (i + 1) k
    | some p =>
      simp only
      by_cases e : lc xs (Y.drop (p + 1)) + 1 = lc (x :: xs) Y
      · rw [if_pos e]
        refine List.pairwise_cons.2 ⟨fun q hq => ?_, grd_up xs _ _ _⟩
        obtain ⟨h1, h2, _⟩ := grd_at xs (Y.drop (p + 1)) (i + 1) (k + p + 1) q hq
        exact ⟨by omega, by omega⟩
      · rw [if_neg e]; exact grd_up xs Y (i + 1) k
theorem cw_at (X Y : List Int) (b : Int) : ∀ q ∈ cw X Y b, ∃ v, X[q.1]? = some v ∧ Y[q.2]? = some v := fun q hq => by
  unfold cw at hq
  split at hq
  · cases hq
  · obtain ⟨_, _, h⟩ := grd_at X Y 0 0 q hq
    exact h
theorem cw_up (X Y : List Int) (b : Int) : (cw X Y b).Pairwise Up := by
  unfold cw
  split
  · exact .nil
  · exact grd_up X Y 0 0
theorem cw_len (X Y : List Int) (b : Int) : (cw X Y b).length ≤ X.length := by
  unfold cw
  split
  · exact Nat.zero_le _
  · rw [grd_len]; exact lc_le X Y
def seg (X : List Int) (lo hi : Nat) : List Int := (X.drop lo).take (hi - lo)
theorem seg_at {X : List Int} {lo hi i : Nat} {v : Int} (h : (seg X lo hi)[i]? = some v) : X[i + lo]? = some v ∧ i + lo < hi := by
  unfold seg at h
  rw [List.getElem?_take] at h
  split at h
  · rename_i hlt
    rw [List.getElem?_drop, Nat.add_comm] at h
    exact ⟨h, by omega⟩
  · cases h
theorem seg_len (X : List Int) (lo hi : Nat) : (seg X lo hi).length ≤ X.length := by unfold seg; rw [List.length_take, List.length_drop]; omega
def shq (a b : List Int) (bud : Int) (A B : Ls) (w : List Nat) : List (Nat × Nat) := cw (seg a (spLo A w) (spHi A w)) (seg b (spLo B w) (spHi B w)) bud
def shf (A B : Ls) (w : List Nat) (p : Nat × Nat) : Nat × Nat := (p.1 + spLo A w, p.2 + spLo B w)
def shw (a b : List Int) (bud : Int) (A B : Ls) (w : List Nat) : List (Nat × Nat) := (shq a b bud A B w).map (shf A B w)
def shv (a b : List Int) (bud : Int) (A B : Ls) : List (Nat × Nat) := (words (A ++ B)).flatMap (shw a b bud A B)
theorem shw_at (a b : List Int) (bud : Int) (A B : Ls) (w : List Nat) : ∀ q ∈ shw a b bud A B w, spLo A w ≤ q.1 ∧ q.1 < spHi A w ∧ spLo B w ≤ q.2 ∧ q.2 < spHi B w ∧ ∃ v, a[q.1]? = some v ∧ b[q.2]? = some v := fun q hq => by
  obtain ⟨p, hp, rfl⟩ := List.mem_map.1 hq
  obtain ⟨v, h1, h2⟩ := cw_at _ _ _ p hp
  obtain ⟨k1, l1⟩ := seg_at h1
  obtain ⟨k2, l2⟩ := seg_at h2
  exact ⟨Nat.le_add_left _ _, l1, Nat.le_add_left _ _, l2, v, k1, k2⟩
theorem shv_up (a b : List Int) (bud : Int) (A B : Ls) : (shv a b bud A B).Pairwise Up := by
  unfold shv
  refine List.pairwise_flatMap.2 ⟨fun w _ => ?_, (words_sorted _).imp fun {v w} hvw x hx y hy => ?_⟩
  · unfold shw
    rw [List.pairwise_map]
    exact (cw_up _ _ _).imp fun {p q} h => ⟨Nat.add_lt_add_right h.1 _, Nat.add_lt_add_right h.2 _⟩
  · obtain ⟨_, x1, _, x2, _⟩ := shw_at a b bud A B v x hx
    obtain ⟨y1, _, y2, _, _⟩ := shw_at a b bud A B w y hy
    have := sp_next A hvw
    have := sp_next B hvw
    exact ⟨by omega, by omega⟩
theorem shv_at (a b : List Int) (bud : Int) (A B : Ls) : ∀ q ∈ shv a b bud A B, ∃ v, a[q.1]? = some v ∧ b[q.2]? = some v := fun q hq => by
  obtain ⟨w, _, hw⟩ := List.mem_flatMap.1 hq
  exact (shw_at a b bud A B w q hw).2.2.2.2
theorem Q3f {f : List Nat → List (Nat × Nat)} (h : ∀ w, (f w).length ≤ 301) : ∀ W : Ls, (W.flatMap f).length ≤ W.length * 301
  | [] => by simp
  | w :: W => by
    have := Q3f h W
    have := h w
    rw [List.flatMap_cons, List.length_append, List.length_cons]; omega
section
variable (a b : List Int) (ha : a.length ≤ 301) (hb : b.length ≤ 301) (bud : Int) (A B : Ls) (hA : A.length = a.length) (hB : B.length = b.length)
include ha hb hA hB
omit hb hB in
theorem shq_len (w : List Nat) : (shq a b bud A B w).length ≤ 301 := by
  have := cw_len (seg a (spLo A w) (spHi A w)) (seg b (spLo B w) (spHi B w)) bud
  have := seg_len a (spLo A w) (spHi A w)
  unfold shq; omega
omit hb hB in
theorem shw_len (w : List Nat) : (shw a b bud A B w).length ≤ 301 := by unfold shw; rw [List.length_map]; exact shq_len a b ha bud A B hA w
theorem shift_eq (w : List Nat) (p : Nat × Nat) (hp : p ∈ shq a b bud A B w) : (IntKind.i64.wrap ((ipr p).1 + (spLo A w : Int)), IntKind.i64.wrap ((ipr p).2 + (spLo B w : Int))) = ipr (shf A B w p) := by
  obtain ⟨v, h1, h2⟩ := cw_at _ _ _ p hp
  obtain ⟨k1, l1⟩ := seg_at h1
  obtain ⟨k2, l2⟩ := seg_at h2
  have s1 := sp_len A w
  have s2 := sp_len B w
  show (IntKind.i64.wrap ((p.1 : Int) + (spLo A w : Int)), IntKind.i64.wrap ((p.2 : Int) + (spLo B w : Int))) = (((p.1 + spLo A w : Nat) : Int), ((p.2 + spLo B w : Nat) : Int))
  rw [Qc (by omega) (by omega), Qc (by omega) (by omega)]
  congr 1
theorem implShare_l1 (w : List Nat) (n j : Int) (P : List (List Int × Int × Int × Int × Int)) (out : List (Nat × Nat)) (ho : out.length ≤ 1000000) (x : List Int) (r1 r2 : Int) : ∀ (s i : Nat), (shq a b bud A B w).length - i = s → i ≤ (shq a b bud A B w).length →
    QF_l1 bud n j (shq a b bud A B w).length i a b ((out ++ ((shq a b bud A B w).take i).map (shf A B w)).map ipr) x (spLo A w) r1 (spLo B w) r2 P ((shq a b bud A B w).map ipr) =
      QF_l0 bud n (IntKind.i64.wrap (j + 1)) a b ((out ++ shw a b bud A B w).map ipr) P := by
  have hl := shq_len a b ha bud A B hA w
  intro s
  induction s with
  | zero =>
    intro i h1 h2
    obtain rfl : i = (shq a b bud A B w).length := by omega
    rw [QF_l1.eq, Q3 (by omega), List.take_length]; rfl
  | succ s ih =>
    intro i h1 h2
    have hi : i < (shq a b bud A B w).length := by omega
    have eg : ((shq a b bud A B w).map ipr)[i]? = some (ipr (shq a b bud A B w)[i]) := by rw [List.getElem?_map, List.getElem?_eq_getElem hi]; rfl
    have ef : (out ++ ((shq a b bud A B w).take i).map (shf A B w)).map ipr ++ [ipr (shf A B w (shq a b bud A B w)[i])] = (out ++ ((shq a b bud A B w).take (i + 1)).map (shf A B w)).map ipr := by
      rw [Q2C _ _ hi, List.map_append, List.map_append, List.map_append, List.map_append, List.append_assoc]; rfl
    rw [QF_l1.eq, Q2 (by omega), QQ, eg, Option.bind_some, Int.toNat_natCast, eg, Option.bind_some, shift_eq a b ha hb bud A B hA hB w _ (List.getElem_mem hi), ef, Q2 (by simp only [List.length_map, List.length_append, List.length_take, List.length_cons, List.length_nil]; omega), Q7 i (by omega)]
    exact ih (i + 1) (by omega) (by omega)
theorem specShare_l1 (w : List Nat) (j : Int) (P : List (List Int × Int × Int × Int × Int)) (out : List (Nat × Nat)) (ho : out.length ≤ 1000000) (x : List Int) (r1 r2 : Int) : ∀ (s i : Nat), (shq a b bud A B w).length - i = s → i ≤ (shq a b bud A B w).length →
    QB_l1 bud P j i ((out ++ ((shq a b bud A B w).take i).map (shf A B w)).map ipr) a b x (spLo A w) r1 (spLo B w) r2 ((shq a b bud A B w).map ipr) =
      QB_l0 bud P (IntKind.i64.wrap (j + 1)) ((out ++ shw a b bud A B w).map ipr) a b := by
  have hl := shq_len a b ha bud A B hA w
  intro s
  induction s with
  | zero =>
    intro i h1 h2
    obtain rfl : i = (shq a b bud A B w).length := by omega
    rw [QB_l1.eq, List.length_map, Q3 (by omega), List.take_length]; rfl
  | succ s ih =>
    intro i h1 h2
    have hi : i < (shq a b bud A B w).length := by omega
    have eg : ((shq a b bud A B w).map ipr)[i]? = some (ipr (shq a b bud A B w)[i]) := by rw [List.getElem?_map, List.getElem?_eq_getElem hi]; rfl
    have ef : (out ++ ((shq a b bud A B w).take i).map (shf A B w)).map ipr ++ [ipr (shf A B w (shq a b bud A B w)[i])] = (out ++ ((shq a b bud A B w).take (i + 1)).map (shf A B w)).map ipr := by
      rw [Q2C _ _ hi, List.map_append, List.map_append, List.map_append, List.map_append, List.append_assoc]; rfl
    rw [QB_l1.eq, List.length_map, Q2 (by omega)]
    simp only [QQ, Int.toNat_natCast, eg, Option.bind_some]
    rw [shift_eq a b ha hb bud A B hA hB w _ (List.getElem_mem hi), ef, Q2 (by simp only [List.length_map, List.length_append, List.length_take, List.length_cons, List.length_nil]; omega), Q7 i (by omega)]
    exact ih (i + 1) (by omega) (by omega)
theorem implShare_l0 (W : Ls) (hW : W.length ≤ 602) : ∀ (s i : Nat), W.length - i = s → i ≤ W.length →
    QF_l0 bud W.length i a b (((W.take i).flatMap (shw a b bud A B)).map ipr) (W.map (part A B)) = some ((W.flatMap (shw a b bud A B)).map ipr) := by
  intro s
  induction s with
  | zero =>
    intro i h1 h2
    obtain rfl : i = W.length := by omega
    rw [QF_l0.eq, Q3 (by omega), List.take_length]
  | succ s ih =>
    intro i h1 h2
    have hi : i < W.length := by omega
    have eg : (W.map (part A B))[i]? = some (part A B W[i]) := by rw [List.getElem?_map, List.getElem?_eq_getElem hi]; rfl
    have s1 := sp_le A W[i]
    have s2 := sp_len A W[i]
    have s3 := sp_le B W[i]
    have s4 := sp_len B W[i]
    have hq := implWithin_eq (seg a (spLo A W[i]) (spHi A W[i])) (seg b (spLo B W[i]) (spHi B W[i])) (Nat.le_trans (seg_len _ _ _) ha) (Nat.le_trans (seg_len _ _ _) hb) bud
    have ho := Q3f (shw_len a b ha bud A B hA) (W.take i)
    rw [List.length_take] at ho
    have h1' := implShare_l1 a b ha hb bud A B hA hB W[i] W.length i (W.map (part A B)) ((W.take i).flatMap (shw a b bud A B)) (by omega) (ints W[i]) (spHi A W[i]) (spHi B W[i]) _ 0 rfl (Nat.zero_le _)
    have ih := ih (i + 1) (by omega) (by omega)
    rw [Q2C _ _ hi, List.flatMap_append, List.flatMap_cons, List.flatMap_nil, List.append_nil] at ih
    rw [List.take_zero, List.map_nil, List.append_nil, Q7 i (by omega), ih] at h1'
    rw [QF_l0.eq, Q2 (by omega), QQ, eg, Option.bind_some, Int.toNat_natCast, eg, Option.bind_some]
    show (bif decide (0 ≤ (spHi A W[i] : Int) ∧ (spHi A W[i] : Int) ≤ (a.length : Int)) then
        bif decide (0 ≤ (spLo A W[i] : Int) ∧ (spLo A W[i] : Int) ≤ ((((spHi A W[i] : Nat) : Int).toNat : Nat) : Int)) then
        bif decide (0 ≤ (spHi B W[i] : Int) ∧ (spHi B W[i] : Int) ≤ (b.length : Int)) then
        bif decide (0 ≤ (spLo B W[i] : Int) ∧ (spLo B W[i] : Int) ≤ ((((spHi B W[i] : Nat) : Int).toNat : Nat) : Int)) then _ else none else none else none else none) = _
    rw [Q2 (by omega), Q2 (by omega), Q2 (by omega), Q2 (by omega)]
    show (Q1g (seg a (spLo A W[i]) (spHi A W[i])) (seg b (spLo B W[i]) (spHi B W[i])) bud).bind _ = _
    rw [hq, Option.bind_some, List.length_map]
    exact h1'
theorem specShare_l0 (W : Ls) (hW : W.length ≤ 602) : ∀ (s i : Nat), W.length - i = s → i ≤ W.length →
    QB_l0 bud (W.map (part A B)) i (((W.take i).flatMap (shw a b bud A B)).map ipr) a b = some ((W.flatMap (shw a b bud A B)).map ipr) := by
  intro s
  induction s with
  | zero =>
    intro i h1 h2
    obtain rfl : i = W.length := by omega
    rw [QB_l0.eq, List.length_map, Q3 (by omega), List.take_length]
  | succ s ih =>
    intro i h1 h2
    have hi : i < W.length := by omega
    have eg : (W.map (part A B))[i]? = some (part A B W[i]) := by rw [List.getElem?_map, List.getElem?_eq_getElem hi]; rfl
    have s1 := sp_le A W[i]
    have s2 := sp_len A W[i]
    have s3 := sp_le B W[i]
    have s4 := sp_len B W[i]
    have hq := specWithin_eq (seg a (spLo A W[i]) (spHi A W[i])) (seg b (spLo B W[i]) (spHi B W[i])) (Nat.le_trans (seg_len _ _ _) ha) (Nat.le_trans (seg_len _ _ _) hb) bud
    have ho := Q3f (shw_len a b ha bud A B hA) (W.take i)
    rw [List.length_take] at ho
    have h1' := specShare_l1 a b ha hb bud A B hA hB W[i] i (W.map (part A B)) ((W.take i).flatMap (shw a b bud A B)) (by omega) (ints W[i]) (spHi A W[i]) (spHi B W[i]) _ 0 rfl (Nat.zero_le _)
    have ih := ih (i + 1) (by omega) (by omega)
    rw [Q2C _ _ hi, List.flatMap_append, List.flatMap_cons, List.flatMap_nil, List.append_nil] at ih
    rw [List.take_zero, List.map_nil, List.append_nil, Q7 i (by omega), ih] at h1'
    rw [QB_l0.eq, List.length_map, Q2 (by omega), QQ, eg, Option.bind_some]
    show (bif decide (0 ≤ (spHi A W[i] : Int) ∧ (spHi A W[i] : Int) ≤ (a.length : Int)) then
        bif decide (0 ≤ (spLo A W[i] : Int) ∧ (spLo A W[i] : Int) ≤ ((((spHi A W[i] : Nat) : Int).toNat : Nat) : Int)) then
        bif decide (0 ≤ (spHi B W[i] : Int) ∧ (spHi B W[i] : Int) ≤ (b.length : Int)) then
        bif decide (0 ≤ (spLo B W[i] : Int) ∧ (spLo B W[i] : Int) ≤ ((((spHi B W[i] : Nat) : Int).toNat : Nat) : Int)) then _ else none else none else none else none) = _
    rw [Q2 (by omega), Q2 (by omega), Q2 (by omega), Q2 (by omega)]
    show (Q16 (seg a (spLo A W[i]) (spHi A W[i])) (seg b (spLo B W[i]) (spHi B W[i])) bud).bind _ = _
    rw [hq, Option.bind_some]
    exact h1'
end
def share (R T : List Nat) (d : Nat) (bud : Int) : List (Nat × Nat) := shv (ints (bwt R)) (ints (bwt T)) bud (hd R d) (hd T d)
section
variable (R T : List Nat) (hR : R.length ≤ 300) (hT : T.length ≤ 300) (bR : QX R) (bT : QX T) (d : Nat) (hd8 : d ≤ 8) (bud : Int)
include hR hT bR bT hd8
theorem implShare_eq : QF (ints R) (ints T) d bud = some ((share R T d bud).map ipr) := by
  have l1 := Q20 R
  have l2 := Q20 T
  have k1 := hd_len R d
  have k2 := hd_len T d
  have wl := words_len (hd R d ++ hd T d)
  rw [List.length_append] at wl
  have h := implShare_l0 (ints (bwt R)) (ints (bwt T)) (by rw [Qh]; omega) (by rw [Qh]; omega) bud (hd R d) (hd T d) (by rw [Qh]; omega) (by rw [Qh]; omega) (words (hd R d ++ hd T d)) (by omega) _ 0 rfl (Nat.zero_le _)
  rw [QF.eq, Q3s R hR bR, Option.bind_some, Q3s T hT bT, Option.bind_some, implParts_eq R T hR hT bR bT d hd8, Option.bind_some]
  unfold parts
  rw [List.length_map]
  rw [List.take_zero] at h
  exact h
theorem specShare_eq : QB (ints R) (ints T) d bud = some ((share R T d bud).map ipr) := by
  have l1 := Q20 R
  have l2 := Q20 T
  have k1 := hd_len R d
  have k2 := hd_len T d
  have wl := words_len (hd R d ++ hd T d)
  rw [List.length_append] at wl
  have h := specShare_l0 (ints (bwt R)) (ints (bwt T)) (by rw [Qh]; omega) (by rw [Qh]; omega) bud (hd R d) (hd T d) (by rw [Qh]; omega) (by rw [Qh]; omega) (words (hd R d ++ hd T d)) (by omega) _ 0 rfl (Nat.zero_le _)
  rw [QB.eq, specParts_eq R T hR hT bR bT d hd8, Option.bind_some, Q3r R hR bR, Option.bind_some, Q3r T hT bT, Option.bind_some]
  unfold parts
  rw [List.take_zero] at h
  exact h
end
theorem share_up (R T : List Nat) (d : Nat) (bud : Int) : (share R T d bud).Pairwise Up := shv_up _ _ _ _ _
theorem share_at (R T : List Nat) (d : Nat) (bud : Int) : ∀ q ∈ share R T d bud, ∃ v, (bwt R)[q.1]? = some v ∧ (bwt T)[q.2]? = some v := fun q hq => by
  obtain ⟨v, h1, h2⟩ := shv_at _ _ _ _ _ q hq
  rw [List.getElem?_map] at h1 h2
  obtain ⟨x, hx, ex⟩ := Option.map_eq_some_iff.1 h1
  obtain ⟨y, hy, ey⟩ := Option.map_eq_some_iff.1 h2
  refine ⟨x, hx, ?_⟩
  rw [hy]; congr 1; omega
end Go.Ev.W
/- Patches and waves of two texts: plain facts. -/
set_option linter.unusedVariables false
set_option linter.unusedSimpArgs false
namespace Go.Ev.W
open Go.Ev
def at0 : List Nat → List Bool → List Nat
  | x :: X, b :: bs => (if b then [] else [x]) ++ at0 X bs
  | _, _ => []
def at1 : List Nat → List Bool → List Nat
  | x :: X, b :: bs => (if b then [x] else []) ++ at1 X bs
  | _, _ => []
theorem at0_snoc : ∀ (X : List Nat) (bs : List Bool) (i : Nat) (hi : i < X.length) (hb : i < bs.length), at0 (X.take (i + 1)) bs = at0 (X.take i) bs ++ (if bs[i] then [] else [X[i]])
  | [], _, _, hi, _ => by simp at hi
  | _ :: _, [], _, _, hb => by simp at hb
  | x :: X, b :: bs, 0, _, _ => by cases b <;> simp [at0]
  | x :: X, b :: bs, i + 1, hi, hb => by
    rw [List.take_succ_cons, List.take_succ_cons, at0, at0, at0_snoc X bs i (by simpa using hi) (by simpa using hb), List.append_assoc]; rfl
theorem at0_mem : ∀ (X : List Nat) (bs : List Bool), ∀ x ∈ at0 X bs, x ∈ X
  | [], [], x, h => by cases h
  | [], _ :: _, x, h => by cases h
  | _ :: _, [], x, h => by cases h
  | y :: X, b :: bs, x, h => by
    rw [at0] at h
    rcases List.mem_append.1 h with h | h
    · cases b
      · rw [if_neg (by simp)] at h; rw [List.mem_singleton.1 h]; exact List.mem_cons_self
      · cases h
    · exact List.mem_cons_of_mem _ (at0_mem X bs x h)
theorem Q2O : ∀ (X : List Nat) (bs : List Bool), (at0 X bs).length ≤ X.length
  | [], [] => by simp [at0]
  | [], _ :: _ => by simp [at0]
  | _ :: _, [] => by simp [at0]
  | y :: X, b :: bs => by
    have := Q2O X bs
    rw [at0, List.length_append, List.length_cons]
    cases b <;> simp <;> omega
def wvV (Y : List Nat) : Int × List Int × List (Int × List Int) := ((Y.length : Int), ints (wLv 9 0 Y).1, LI (wLv 9 0 Y).2)
end Go.Ev.W
/- How many bits are as told: both functions. -/
set_option linter.unusedVariables false
set_option linter.unusedSimpArgs false
namespace Go.Ev.W
open Go.Ev
end Go.Ev.W
/- Patches: both functions. -/
set_option linter.unusedVariables false
set_option linter.unusedSimpArgs false
namespace Go.Ev.W
open Go.Ev
theorem unmarked_l0 (X : List Nat) (m : Nat) (W : List Nat) (hm : m ≤ 5000) (ht : tight m W) (hX : X.length ≤ m) : ∀ (d i : Nat), X.length - i = d → i ≤ X.length → Q01_l0 (ints X) X.length i m (ints W) (ints (at0 (X.take i) (bts m W))) = some (ints (at0 X (bts m W)))
  | 0, i, h1, h2 => by
    obtain rfl : i = X.length := by omega
    rw [Q01_l0.eq, Q3 (by omega), List.take_length]
  | d + 1, i, h1, h2 => by
    have hi : i < X.length := by omega
    have hb := Q2t m W
    have hbi : (bts m W)[i]'(by omega) = bit W i := by simp [bts]
    have hle := Q2O (X.take i) (bts m W)
    rw [List.length_take] at hle
    have ih := unmarked_l0 X m W hm ht hX d (i + 1) (by omega) (by omega)
    rw [at0_snoc X (bts m W) i hi (by omega), hbi] at ih
    rw [Q01_l0.eq, Q2 (by omega), Q0T _ _ hi, Option.bind_some, bitsAt_eq _ W ht.2.1 i (by omega) (by have := ht.1; unfold nw at this; omega), Option.bind_some, Q2M, Q7 i (by omega)]
    cases hb : bit W i with
    | true =>
      rw [hb, if_pos rfl, List.append_nil] at ih
      rw [Bool.not_true, Qo]; exact ih
    | false =>
      rw [hb, if_neg (by simp), ← Q2X] at ih
      rw [Bool.not_false, Q0O, Q2 (by simp only [List.length_cons, List.length_nil, Qh]; omega)]
      exact ih
theorem unmarked_eq (X : List Nat) (m : Nat) (W : List Nat) (hm : m ≤ 5000) (ht : tight m W) (hX : X.length ≤ m) : Q01 (ints X) ((m : Int), ints W) = some (ints (at0 X (bts m W))) := by
  rw [Q01.eq, Qh]
  have := unmarked_l0 X m W hm ht hX _ 0 rfl (by omega)
  rw [List.take_zero] at this
  have e : at0 [] (bts m W) = [] := by cases bts m W <;> rfl
  rw [e] at this
  exact this
theorem zeros_l0 (X : List Nat) (bs : List Bool) (hX : X.length ≤ bs.length) (hb : bs.length ≤ 5000) : ∀ (d i : Nat), X.length - i = d → i ≤ X.length → Q0d_l0 (ints X) (Qg bs) i (ints (at0 (X.take i) bs)) = some (ints (at0 X bs))
  | 0, i, h1, h2 => by
    obtain rfl : i = X.length := by omega
    rw [Q0d_l0.eq, Qh, Q3 (by omega), List.take_length]
  | d + 1, i, h1, h2 => by
    have hi : i < X.length := by omega
    have hle := Q2O (X.take i) bs
    rw [List.length_take] at hle
    have ih := zeros_l0 X bs hX hb d (i + 1) (by omega) (by omega)
    rw [at0_snoc X bs i hi (by omega)] at ih
    rw [Q0d_l0.eq, Qh, Q2 (by omega), Q37 bs i (by omega), Option.bind_some, Q2M, Q7 i (by omega)]
    cases hb : bs[i] with
    | true =>
      rw [hb, if_pos rfl, List.append_nil] at ih
      rw [Bool.not_true, Qo]; exact ih
    | false =>
      rw [hb, if_neg (by simp), ← Q2X] at ih
      rw [Bool.not_false, Q0O, Q0T _ _ hi, Option.bind_some, Q2 (by simp only [List.length_cons, List.length_nil, Qh]; omega)]
      exact ih
theorem zeros_eq (X : List Nat) (bs : List Bool) (hX : X.length ≤ bs.length) (hb : bs.length ≤ 5000) : Q0d (ints X) (Qg bs) = some (ints (at0 X bs)) := by
  rw [Q0d.eq]
  have := zeros_l0 X bs hX hb _ 0 rfl (by omega)
  rw [List.take_zero] at this
  have e : at0 [] bs = [] := by cases bs <;> rfl
  rw [e] at this
  exact this
section
variable (bs : List Bool) (T R : List Nat) (hz : zer bs bs.length = R.length) (ho : one bs bs.length = T.length)
include hz ho
variable (hn : bs.length ≤ 5000)
include hn
end
section
variable (A : List Nat) (hA : A.length ≤ 301) (n1 : Int) (W1 : List Nat) (n2 : Int) (W2 : List Nat) (R : List Nat) (l1 : W1.length ≤ 1048576) (x1 : ∀ x ∈ W1, x < 2 ^ 64) (l2 : W2.length ≤ 1048576) (x2 : ∀ x ∈ W2, x < 2 ^ 64)
include hA l1 x1 l2 x2
end
end Go.Ev.W
/- Flags of pairs: marks, patches. -/
set_option linter.unusedVariables false
set_option linter.unusedSimpArgs false
namespace Go.Ev.W
open Go.Ev
def fl (n : Nat) (I : List Nat) : List Bool := (List.range n).map fun i => decide (i ∈ I)
theorem Q23 (n : Nat) (I : List Nat) : (fl n I).length = n := by simp [fl]
theorem fl_get (n : Nat) (I : List Nat) (i : Nat) (h : i < n) : (fl n I)[i]'(by rw [Q23]; exact h) = decide (i ∈ I) := by simp [fl]
theorem fl_nil (n : Nat) : fl n [] = List.replicate n false := by
  unfold fl
  refine List.ext_getElem (by simp) fun i h1 h2 => by simp
theorem fl_set (n : Nat) (I : List Nat) (a : Nat) (ha : a < n) : (fl n I).set a true = fl n (I ++ [a]) := by
  refine List.ext_getElem (by rw [List.length_set, Q23, Q23]) fun i h1 h2 => ?_
  rw [List.length_set, Q23] at h1
  rw [List.getElem_set, fl_get n _ i h1, fl_get n _ i h1]
  by_cases h : a = i
  · subst h; simp
  · rw [if_neg h]
    refine decide_eq_decide.2 ?_
    rw [List.mem_append, List.mem_singleton]
    exact ⟨.inl, fun h' => h'.elim id fun h' => absurd h'.symm h⟩
theorem bints_set (bs : List Bool) (a : Nat) : (Qg bs).set a (1 : Int) = Qg (bs.set a true) := (List.map_set (f := bint) (a := true)).symm
theorem bints_rep (n : Nat) : List.replicate n (0 : Int) = Qg (fl n []) := by rw [fl_nil, Qg, List.map_replicate]; rfl
theorem marks_l0 (P : List (Nat × Nat)) (m n : Nat) (hm : m ≤ 5000) (hn : n ≤ 5000) (hl : P.length ≤ 100000) (hP : ∀ q ∈ P, q.1 < m ∧ q.2 < n) (k e : Int) (x y : List Int) : ∀ (s i : Nat), P.length - i = s → i ≤ P.length →
    Q0g_l0 (P.map ipr) P.length i k x e y (Qg (fl m ((P.take i).map Prod.fst))) (Qg (fl n ((P.take i).map Prod.snd))) = some (((m : Int), ints (wrds (fl m (P.map Prod.fst)))), ((n : Int), ints (wrds (fl n (P.map Prod.snd))))) := by
  intro s
  induction s with
  | zero =>
    intro i h1 h2
    obtain rfl : i = P.length := by omega
    rw [Q0g_l0.eq, Q3 (by omega), List.take_length, Q3w _ (by rw [Q23]; exact hm), Option.bind_some, Q3w _ (by rw [Q23]; exact hn), Option.bind_some, Q23, Q23]
  | succ s ih =>
    intro i h1 h2
    have hi : i < P.length := by omega
    have ⟨b1, b2⟩ := hP _ (List.getElem_mem hi)
    have eg : (P.map ipr)[i]? = some (ipr P[i]) := by rw [List.getElem?_map, List.getElem?_eq_getElem hi]; rfl
    have g1 : (Qg (fl m ((P.take i).map Prod.fst)))[P[i].1]? = some (bint (decide (P[i].1 ∈ (P.take i).map Prod.fst))) := by
      rw [List.getElem?_map, List.getElem?_eq_getElem (by rw [Q23]; exact b1), Option.map_some, fl_get _ _ _ b1]
    have g2 : (Qg (fl n ((P.take i).map Prod.snd)))[P[i].2]? = some (bint (decide (P[i].2 ∈ (P.take i).map Prod.snd))) := by
      rw [List.getElem?_map, List.getElem?_eq_getElem (by rw [Q23]; exact b2), Option.map_some, fl_get _ _ _ b2]
    have ih := ih (i + 1) (by omega) (by omega)
    rw [Q2C _ _ hi, List.map_append, List.map_append, List.map_cons, List.map_nil, List.map_cons, List.map_nil, ← fl_set m _ _ b1, ← fl_set n _ _ b2, ← bints_set, ← bints_set] at ih
    rw [Q0g_l0.eq, Q2 (by omega), QQ, eg, Option.bind_some]
    show (at? _ ((P[i].1 : Nat) : Int)).bind _ = _
    rw [QQ, g1, Option.bind_some]
    show ((Qg (fl m ((P.take i).map Prod.fst)))[P[i].1]?).bind _ = _
    rw [g1, Option.bind_some]
    show (at? _ ((P[i].2 : Nat) : Int)).bind _ = _
    rw [QQ, g2, Option.bind_some]
    show ((Qg (fl n ((P.take i).map Prod.snd)))[P[i].2]?).bind _ = _
    rw [g2, Option.bind_some, Q7 i (by omega)]
    exact ih
theorem marks_eq (P : List (Nat × Nat)) (m n : Nat) (hm : m ≤ 5000) (hn : n ≤ 5000) (hl : P.length ≤ 100000) (hP : ∀ q ∈ P, q.1 < m ∧ q.2 < n) :
    Q0g m n (P.map ipr) = some (((m : Int), ints (wrds (fl m (P.map Prod.fst)))), ((n : Int), ints (wrds (fl n (P.map Prod.snd))))) := by
  have h := marks_l0 P m n hm hn hl hP 0 0 [] [] _ 0 rfl (Nat.zero_le _)
  rw [List.take_zero, List.map_nil, List.map_nil] at h
  rw [Q0g.eq, decide_eq_true (by omega), decide_eq_true (by omega), Bool.true_and, Q0O, decide_eq_true (by omega), decide_eq_true (by omega), Bool.true_and, Q0O, List.length_map, Int.toNat_natCast, Int.toNat_natCast, bints_rep, bints_rep]
  exact h
theorem patchS_l1 (X : List Nat) (bs : List Bool) (hX : X.length = bs.length) (hb : bs.length ≤ 5000) (k e a b : Int) (x y z u v : List Int) : ∀ (s i : Nat), X.length - i = s → i ≤ X.length →
    QC_l1 (ints X) i k e x y z (Qg bs) a b u v (ints (at0 (X.take i) bs)) = some (a, u, b, v, ints (at0 X bs)) := by
  intro s
  induction s with
  | zero =>
    intro i h1 h2
    obtain rfl : i = X.length := by omega
    rw [QC_l1.eq, Qh, Q3 (by omega), List.take_length]
  | succ s ih =>
    intro i h1 h2
    have hi : i < X.length := by omega
    have hle := Q2O (X.take i) bs
    rw [List.length_take] at hle
    have ih := ih (i + 1) (by omega) (by omega)
    rw [at0_snoc X bs i hi (by omega)] at ih
    rw [QC_l1.eq, Qh, Q2 (by omega), Q37 bs i (by omega), Option.bind_some, Int.toNat_natCast, Q3v bs i (by omega), Option.bind_some, Q2M, Q7 i (by omega)]
    cases hb : bs[i] with
    | true =>
      rw [hb, if_pos rfl, List.append_nil] at ih
      rw [Bool.not_true, Qo]; exact ih
    | false =>
      rw [hb, if_neg (by simp), ← Q2X] at ih
      rw [Bool.not_false, Q0O, Q0T _ _ hi, Option.bind_some, Q2 (by simp only [List.length_cons, List.length_nil, Qh]; omega)]
      exact ih
theorem patchS_l0 (X : List Nat) (P : List (Nat × Nat)) (m : Nat) (hm : m ≤ 5000) (hn : X.length ≤ 5000) (hl : P.length ≤ 100000) (hP : ∀ q ∈ P, q.1 < m ∧ q.2 < X.length) (k e : Int) (x y z : List Int) : ∀ (s i : Nat), P.length - i = s → i ≤ P.length →
    QC_l0 (ints X) (P.map ipr) i k e x y z (Qg (fl m ((P.take i).map Prod.fst))) (Qg (fl X.length ((P.take i).map Prod.snd))) = some ((m : Int), ints (wrds (fl m (P.map Prod.fst))), (X.length : Int), ints (wrds (fl X.length (P.map Prod.snd))), ints (at0 X (fl X.length (P.map Prod.snd)))) := by
  intro s
  induction s with
  | zero =>
    intro i h1 h2
    obtain rfl : i = P.length := by omega
    have h := patchS_l1 X (fl X.length (P.map Prod.snd)) (by rw [Q23]) (by rw [Q23]; exact hn) k e m X.length x y z (ints (wrds (fl m (P.map Prod.fst)))) (ints (wrds (fl X.length (P.map Prod.snd)))) _ 0 rfl (Nat.zero_le _)
    rw [List.take_zero] at h
    have e0 : at0 [] (fl X.length (P.map Prod.snd)) = [] := by cases fl X.length (P.map Prod.snd) <;> rfl
    rw [e0] at h
    rw [QC_l0.eq, List.length_map, Q3 (by omega), List.take_length, Q3p _ (by rw [Q23]; exact hm), Option.bind_some, Q3p _ (by rw [Q23]; exact hn), Option.bind_some, Q23, Q23]
    exact h
  | succ s ih =>
    intro i h1 h2
    have hi : i < P.length := by omega
    have ⟨b1, b2⟩ := hP _ (List.getElem_mem hi)
    have eg : (P.map ipr)[i]? = some (ipr P[i]) := by rw [List.getElem?_map, List.getElem?_eq_getElem hi]; rfl
    have g1 : (Qg (fl m ((P.take i).map Prod.fst)))[P[i].1]? = some (bint (decide (P[i].1 ∈ (P.take i).map Prod.fst))) := by
      rw [List.getElem?_map, List.getElem?_eq_getElem (by rw [Q23]; exact b1), Option.map_some, fl_get _ _ _ b1]
    have g2 : (Qg (fl X.length ((P.take i).map Prod.snd)))[P[i].2]? = some (bint (decide (P[i].2 ∈ (P.take i).map Prod.snd))) := by
      rw [List.getElem?_map, List.getElem?_eq_getElem (by rw [Q23]; exact b2), Option.map_some, fl_get _ _ _ b2]
    have ih := ih (i + 1) (by omega) (by omega)
    rw [Q2C _ _ hi, List.map_append, List.map_append, List.map_cons, List.map_nil, List.map_cons, List.map_nil, ← fl_set m _ _ b1, ← fl_set X.length _ _ b2, ← bints_set, ← bints_set] at ih
    rw [QC_l0.eq, List.length_map, Q2 (by omega), QQ, eg, Option.bind_some]
    show (at? _ ((P[i].1 : Nat) : Int)).bind _ = _
    rw [QQ, g1, Option.bind_some]
    show ((Qg (fl m ((P.take i).map Prod.fst)))[P[i].1]?).bind _ = _
    rw [g1, Option.bind_some, Option.bind_some]
    show (at? _ ((P[i].2 : Nat) : Int)).bind _ = _
    rw [QQ, g2, Option.bind_some]
    show ((Qg (fl X.length ((P.take i).map Prod.snd)))[P[i].2]?).bind _ = _
    rw [g2, Option.bind_some, Q7 i (by omega)]
    exact ih
theorem patchS_eq (X : List Nat) (P : List (Nat × Nat)) (m : Nat) (hm : m ≤ 5000) (hn : X.length ≤ 5000) (hl : P.length ≤ 100000) (hP : ∀ q ∈ P, q.1 < m ∧ q.2 < X.length) :
    QC m (ints X) (P.map ipr) = some ((m : Int), ints (wrds (fl m (P.map Prod.fst))), (X.length : Int), ints (wrds (fl X.length (P.map Prod.snd))), ints (at0 X (fl X.length (P.map Prod.snd)))) := by
  have h := patchS_l0 X P m hm hn hl hP 0 0 [] [] [] _ 0 rfl (Nat.zero_le _)
  rw [List.take_zero, List.map_nil, List.map_nil] at h
  rw [QC.eq, decide_eq_true (by omega), decide_eq_true (by omega), Bool.true_and, Q0O, decide_eq_true (by omega), decide_eq_true (by rw [Qh]; omega), Bool.true_and, Q0O, Qh, Int.toNat_natCast, Int.toNat_natCast, bints_rep, bints_rep]
  exact h
end Go.Ev.W
/- Relative indexes: equality and the laws' helpers. -/
set_option linter.unusedVariables false
set_option linter.unusedSimpArgs false
namespace Go.Ev.W
open Go.Ev
abbrev RelT := Int × Int × Int × (List Int) × Int × (List Int) × Int × (List Int) × (List (Int × (List Int))) × Int × (List Int) × (List (Int × (List Int))) × FmT11
instance decRelA : DecidableEq (Int × (List Int) × (List (Int × (List Int))) × FmT11) := @instDecidableEqProd Int _ inferInstance decFm13
instance decRelB : DecidableEq (Int × (List Int) × (List (Int × (List Int))) × Int × (List Int) × (List (Int × (List Int))) × FmT11) := @instDecidableEqProd Int _ inferInstance (@instDecidableEqProd (List Int) _ inferInstance (@instDecidableEqProd (List (Int × (List Int))) _ inferInstance decRelA))
instance decRelC : DecidableEq (Int × (List Int) × Int × (List Int) × Int × (List Int) × (List (Int × (List Int))) × Int × (List Int) × (List (Int × (List Int))) × FmT11) := @instDecidableEqProd Int _ inferInstance (@instDecidableEqProd (List Int) _ inferInstance (@instDecidableEqProd Int _ inferInstance (@instDecidableEqProd (List Int) _ inferInstance decRelB)))
instance decRel : DecidableEq RelT := @instDecidableEqProd Int _ inferInstance (@instDecidableEqProd Int _ inferInstance decRelC)
theorem rel_dec (x y : RelT) : decide (x = y) = (decide (x.1 = y.1) && (decide (x.2.1 = y.2.1) && (decide ((x.2.2.1, x.2.2.2.1) = (y.2.2.1, y.2.2.2.1)) && (decide ((x.2.2.2.2.1, x.2.2.2.2.2.1) = (y.2.2.2.2.1, y.2.2.2.2.2.1)) && (decide ((x.2.2.2.2.2.2.1, x.2.2.2.2.2.2.2.1, x.2.2.2.2.2.2.2.2.1) = (y.2.2.2.2.2.2.1, y.2.2.2.2.2.2.2.1, y.2.2.2.2.2.2.2.2.1)) && (decide ((x.2.2.2.2.2.2.2.2.2.1, x.2.2.2.2.2.2.2.2.2.2.1, x.2.2.2.2.2.2.2.2.2.2.2.1) = (y.2.2.2.2.2.2.2.2.2.1, y.2.2.2.2.2.2.2.2.2.2.1, y.2.2.2.2.2.2.2.2.2.2.2.1)) && (decide (x.2.2.2.2.2.2.2.2.2.2.2.2.1 = y.2.2.2.2.2.2.2.2.2.2.2.2.1) && (decide ((x.2.2.2.2.2.2.2.2.2.2.2.2.2.1, x.2.2.2.2.2.2.2.2.2.2.2.2.2.2.1) = (y.2.2.2.2.2.2.2.2.2.2.2.2.2.1, y.2.2.2.2.2.2.2.2.2.2.2.2.2.2.1)) && (decide ((x.2.2.2.2.2.2.2.2.2.2.2.2.2.2.2.1, x.2.2.2.2.2.2.2.2.2.2.2.2.2.2.2.2.1, x.2.2.2.2.2.2.2.2.2.2.2.2.2.2.2.2.2.1, x.2.2.2.2.2.2.2.2.2.2.2.2.2.2.2.2.2.2.1) = (y.2.2.2.2.2.2.2.2.2.2.2.2.2.2.2.1, y.2.2.2.2.2.2.2.2.2.2.2.2.2.2.2.2.1, y.2.2.2.2.2.2.2.2.2.2.2.2.2.2.2.2.2.1, y.2.2.2.2.2.2.2.2.2.2.2.2.2.2.2.2.2.2.1)) && decide (x.2.2.2.2.2.2.2.2.2.2.2.2.2.2.2.2.2.2.2 = y.2.2.2.2.2.2.2.2.2.2.2.2.2.2.2.2.2.2.2)))))))))) := by
  obtain ⟨a1, a2, a3, a4, a5, a6, a7, a8, a9, a10, a11, a12, a13, a14, a15, a16, a17, a18, a19, a20⟩ := x
  obtain ⟨b1, b2, b3, b4, b5, b6, b7, b8, b9, b10, b11, b12, b13, b14, b15, b16, b17, b18, b19, b20⟩ := y
  simp only [Q2N, Bool.and_assoc]
structure SmRel (x : RelT) (k : Nat) : Prop where
  ref : x.2.2.2.1.length ≤ k
  inn : x.2.2.2.2.2.1.length ≤ k
  z1 : x.2.2.2.2.2.2.2.1.length ≤ k
  l1 : x.2.2.2.2.2.2.2.2.1.length ≤ k
  z2 : x.2.2.2.2.2.2.2.2.2.2.1.length ≤ k
  l2 : x.2.2.2.2.2.2.2.2.2.2.2.1.length ≤ k
  c : x.2.2.2.2.2.2.2.2.2.2.2.2.1.length ≤ k
  m : x.2.2.2.2.2.2.2.2.2.2.2.2.2.2.1.length ≤ k
  s : x.2.2.2.2.2.2.2.2.2.2.2.2.2.2.2.2.2.2.1.length ≤ k
  i : x.2.2.2.2.2.2.2.2.2.2.2.2.2.2.2.2.2.2.2.2.2.2.length ≤ k
  v1 : ∀ p ∈ x.2.2.2.2.2.2.2.2.1, p.2.length ≤ k
  v2 : ∀ p ∈ x.2.2.2.2.2.2.2.2.2.2.2.1, p.2.length ≤ k
structure GdRel (x : RelT) : Prop where
  sm : SmRel x 1048576
  wv1 : Small x.2.2.2.2.2.2.2.1 x.2.2.2.2.2.2.2.2.1
  wv2 : Small x.2.2.2.2.2.2.2.2.2.2.1 x.2.2.2.2.2.2.2.2.2.2.2.1
theorem eqRel_eq (x y : RelT) (h : GdRel x) : Q14 x y = some (decide (x = y)) := by
  rw [Q14.eq, rel_dec, Q3q _ _ _ _ (by have := h.sm.ref; omega), Q3q _ _ _ _ (by have := h.sm.inn; omega), eqWave_eq _ _ _ _ _ _ h.wv1, eqWave_eq _ _ _ _ _ _ h.wv2, eqIntS_eq _ _ (by have := h.sm.c; omega), Q3q _ _ _ _ (by have := h.sm.m; omega), Q4v _ _ _ _ _ _ _ _ (by have := h.sm.s; omega), eqPacked_v _ _ (by have := h.sm.i; omega)]
  simp only [Option.bind_some, bne, Q2B]
  cases decide (x.1 = y.1)
  · rfl
  cases decide (x.2.1 = y.2.1)
  · rfl
  cases decide ((x.2.2.1, x.2.2.2.1) = (y.2.2.1, y.2.2.2.1))
  · rfl
  cases decide ((x.2.2.2.2.1, x.2.2.2.2.2.1) = (y.2.2.2.2.1, y.2.2.2.2.2.1))
  · rfl
  cases decide ((x.2.2.2.2.2.2.1, x.2.2.2.2.2.2.2.1, x.2.2.2.2.2.2.2.2.1) = (y.2.2.2.2.2.2.1, y.2.2.2.2.2.2.2.1, y.2.2.2.2.2.2.2.2.1))
  · rfl
  cases decide ((x.2.2.2.2.2.2.2.2.2.1, x.2.2.2.2.2.2.2.2.2.2.1, x.2.2.2.2.2.2.2.2.2.2.2.1) = (y.2.2.2.2.2.2.2.2.2.1, y.2.2.2.2.2.2.2.2.2.2.1, y.2.2.2.2.2.2.2.2.2.2.2.1))
  · rfl
  cases decide (x.2.2.2.2.2.2.2.2.2.2.2.2.1 = y.2.2.2.2.2.2.2.2.2.2.2.2.1)
  · rfl
  cases decide ((x.2.2.2.2.2.2.2.2.2.2.2.2.2.1, x.2.2.2.2.2.2.2.2.2.2.2.2.2.2.1) = (y.2.2.2.2.2.2.2.2.2.2.2.2.2.1, y.2.2.2.2.2.2.2.2.2.2.2.2.2.2.1))
  · rfl
  cases decide ((x.2.2.2.2.2.2.2.2.2.2.2.2.2.2.2.1, x.2.2.2.2.2.2.2.2.2.2.2.2.2.2.2.2.1, x.2.2.2.2.2.2.2.2.2.2.2.2.2.2.2.2.2.1, x.2.2.2.2.2.2.2.2.2.2.2.2.2.2.2.2.2.2.1) = (y.2.2.2.2.2.2.2.2.2.2.2.2.2.2.2.1, y.2.2.2.2.2.2.2.2.2.2.2.2.2.2.2.2.1, y.2.2.2.2.2.2.2.2.2.2.2.2.2.2.2.2.2.1, y.2.2.2.2.2.2.2.2.2.2.2.2.2.2.2.2.2.2.1))
  · rfl
  cases decide (x.2.2.2.2.2.2.2.2.2.2.2.2.2.2.2.2.2.2.2 = y.2.2.2.2.2.2.2.2.2.2.2.2.2.2.2.2.2.2.2) <;> rfl
end Go.Ev.W
/- Relative indexes: the text of a valid one. -/
set_option linter.unusedVariables false
set_option linter.unusedSimpArgs false
namespace Go.Ev.W
open Go.Ev
structure XWords (x : RelT) : Prop where
  ref : ∀ y ∈ x.2.2.2.1, 0 ≤ y ∧ y < ((2 ^ 64 : Nat) : Int)
  inn : ∀ y ∈ x.2.2.2.2.2.1, 0 ≤ y ∧ y < ((2 ^ 64 : Nat) : Int)
  w1 : ∀ p ∈ x.2.2.2.2.2.2.2.2.1, ∀ y ∈ p.2, 0 ≤ y ∧ y < ((2 ^ 64 : Nat) : Int)
  w2 : ∀ p ∈ x.2.2.2.2.2.2.2.2.2.2.2.1, ∀ y ∈ p.2, 0 ≤ y ∧ y < ((2 ^ 64 : Nat) : Int)
def relV (R D : List Nat) (x : RelT) (W1 W2 : List Nat) : RelT :=
  ((D.length : Int), x.2.1, x.2.2.1, x.2.2.2.1, x.2.2.2.2.1, x.2.2.2.2.2.1, (wvV (at0 (bwt R) (bts x.2.2.1.toNat W1))).1, (wvV (at0 (bwt R) (bts x.2.2.1.toNat W1))).2.1, (wvV (at0 (bwt R) (bts x.2.2.1.toNat W1))).2.2,
    (wvV (at0 (bwt D) (bts x.2.2.2.2.1.toNat W2))).1, (wvV (at0 (bwt D) (bts x.2.2.2.2.1.toNat W2))).2.1, (wvV (at0 (bwt D) (bts x.2.2.2.2.1.toNat W2))).2.2, (fmV D x.2.1.toNat).2.2.2.2.2)
structure RelOkV (f : FmT) (x : RelT) (R D : List Nat) : Prop where
  dl : D.length ≤ 300
  db : ∀ y ∈ D, y < 256
  r1 : 1 ≤ x.2.1
  r2 : x.2.1 ≤ 64
  fv : FmOkV f R ∧ FmW f R
  ft : Q03 f = some (ints R, true)
  fi : Q0U f = some (ints R, true)
  ref : ∃ W1, x.2.2.2.1 = ints W1 ∧ W1.length ≤ 1048576 ∧ (∀ y ∈ W1, y < 2 ^ 64) ∧ vOk x.2.2.1 W1 = true
  inn : ∃ W2, x.2.2.2.2.2.1 = ints W2 ∧ W2.length ≤ 1048576 ∧ (∀ y ∈ W2, y < 2 ^ 64) ∧ vOk x.2.2.2.2.1 W2 = true
  wv1 : ∃ L, x.2.2.2.2.2.2.2.2.1 = LI L ∧ (∀ p ∈ L, p.2.length ≤ 1048576) ∧ (∀ p ∈ L, ∀ y ∈ p.2, y < 2 ^ 64) ∧ wOk x.2.2.2.2.2.2.1 x.2.2.2.2.2.2.2.1 L = true
  wv2 : ∃ L, x.2.2.2.2.2.2.2.2.2.2.2.1 = LI L ∧ (∀ p ∈ L, p.2.length ≤ 1048576) ∧ (∀ p ∈ L, ∀ y ∈ p.2, y < 2 ^ 64) ∧ wOk x.2.2.2.2.2.2.2.2.2.1 x.2.2.2.2.2.2.2.2.2.2.1 L = true
  tail : x.2.2.2.2.2.2.2.2.2.2.2.2 = (fmV D x.2.1.toNat).2.2.2.2.2
  full : ∃ W1 W2, relV R D x W1 W2 = x ∧ x.2.2.2.1 = ints W1 ∧ x.2.2.2.2.2.1 = ints W2 ∧ (∀ y ∈ W1, y < 2 ^ 64) ∧ (∀ y ∈ W2, y < 2 ^ 64) ∧ W1.length ≤ 1048576 ∧ W2.length ≤ 1048576 ∧ vOk x.2.2.1 W1 = true ∧ vOk x.2.2.2.2.1 W2 = true ∧ x.2.2.1 = ((bwt R).length : Int) ∧ x.2.2.2.2.1 = ((bwt D).length : Int) ∧ at1 (bwt R) (bts x.2.2.1.toNat W1) = at1 (bwt D) (bts x.2.2.2.2.1.toNat W2)
theorem wave_small {Y : List Nat} {k : Nat} (h : Y.length ≤ k) (hk : k ≤ 400) : (wvV Y).2.1.length ≤ 1000 ∧ (wvV Y).2.2.length ≤ 1000 ∧ ∀ p ∈ (wvV Y).2.2, p.2.length ≤ 1000 := by
  have h1 := wLv_len' 9 0 Y
  refine ⟨?_, ?_, fun p hp => ?_⟩
  · show (ints (wLv 9 0 Y).1).length ≤ 1000
    rw [Qh]; omega
  · show (LI (wLv 9 0 Y).2).length ≤ 1000
    rw [List.length_map]; omega
  · have hp' : p ∈ LI (wLv 9 0 Y).2 := hp
    obtain ⟨q, hq, rfl⟩ := List.mem_map.1 hp'
    rw [Qh, wLv_words _ _ _ q hq]
    unfold nw; omega
end Go.Ev.W
/- Relative indexes made: both functions. -/
-- names as printed
set_option linter.unusedVariables false
set_option linter.unusedSimpArgs false
namespace Go.Ev.W
open Go.Ev
structure Q2P (R D : List Nat) (P : List (Nat × Nat)) : Prop where
  up : P.Pairwise Up
  eq : ∀ q ∈ P, ∃ v, (bwt R)[q.1]? = some v ∧ (bwt D)[q.2]? = some v
theorem Q2P.lt {R D : List Nat} {P : List (Nat × Nat)} (h : Q2P R D P) : ∀ q ∈ P, q.1 < R.length + 1 ∧ q.2 < D.length + 1 := fun q hq => by
  obtain ⟨v, h1, h2⟩ := h.eq q hq
  have k1 := (List.getElem?_eq_some_iff.1 h1).1
  have k2 := (List.getElem?_eq_some_iff.1 h2).1
  rw [Q20] at k1 k2
  exact ⟨k1, k2⟩
theorem up_len : ∀ (I : List Nat) (a n : Nat), I.Pairwise (· < ·) → (∀ i ∈ I, a ≤ i ∧ i < n) → I.length ≤ n - a
  | [], _, _, _, _ => by simp
  | i :: I, a, n, h, hn => by
    obtain ⟨p, q⟩ := List.pairwise_cons.1 h
    have h1 := hn i List.mem_cons_self
    have := up_len I (i + 1) n q fun j hj => ⟨p j hj, (hn j (List.mem_cons_of_mem _ hj)).2⟩
    rw [List.length_cons]; omega
theorem Q2P.up2 {R D : List Nat} {P : List (Nat × Nat)} (h : Q2P R D P) : (P.map Prod.snd).Pairwise (· < ·) := by
  rw [List.pairwise_map]; exact h.up.imp fun h => h.2
theorem Q2P.m2 {R D : List Nat} {P : List (Nat × Nat)} (h : Q2P R D P) : ∀ i ∈ P.map Prod.snd, i < D.length + 1 := fun i hi => by
  obtain ⟨q, hq, rfl⟩ := List.mem_map.1 hi
  exact (h.lt q hq).2
theorem Q2P.len {R D : List Nat} {P : List (Nat × Nat)} (h : Q2P R D P) : P.length ≤ D.length + 1 := by
  have := up_len (P.map Prod.snd) 0 (D.length + 1) h.up2 fun i hi => ⟨Nat.zero_le _, h.m2 i hi⟩
  rw [List.length_map] at this; omega
def fl1 (R : List Nat) (P : List (Nat × Nat)) : List Bool := fl (R.length + 1) (P.map Prod.fst)
def fl2 (D : List Nat) (P : List (Nat × Nat)) : List Bool := fl (D.length + 1) (P.map Prod.snd)
theorem fl1_len (R : List Nat) (P : List (Nat × Nat)) : (fl1 R P).length = R.length + 1 := Q23 _ _
theorem fl2_len (D : List Nat) (P : List (Nat × Nat)) : (fl2 D P).length = D.length + 1 := Q23 _ _
theorem share_ok (R D : List Nat) (d : Nat) (bud : Int) : Q2P R D (share R D d bud) := ⟨share_up R D d bud, share_at R D d bud⟩
def relX (R D : List Nat) (P : List (Nat × Nat)) (r : Nat) : RelT :=
  ((D.length : Int), (r : Int), ((R.length + 1 : Nat) : Int), ints (wrds (fl1 R P)), ((D.length + 1 : Nat) : Int), ints (wrds (fl2 D P)), (wvV (at0 (bwt R) (fl1 R P))).1, (wvV (at0 (bwt R) (fl1 R P))).2.1, (wvV (at0 (bwt R) (fl1 R P))).2.2,
    (wvV (at0 (bwt D) (fl2 D P))).1, (wvV (at0 (bwt D) (fl2 D P))).2.1, (wvV (at0 (bwt D) (fl2 D P))).2.2, (fmV D r).2.2.2.2.2)
def rel0 : RelT := (0, 0, 0, [], 0, [], 0, [], [], 0, [], [], [], 0, [], 0, 0, 0, [], 0, 0, 0, [])
section
variable (R D : List Nat) (hR : R.length ≤ 300) (hD : D.length ≤ 300) (bR : QX R) (bD : QX D) (P : List (Nat × Nat)) (hP : Q2P R D P) (r : Nat) (h1 : 1 ≤ r) (h64 : r ≤ 64)
include hR hD bR bD hP h1 h64
theorem implMade_eq : ∃ y, Q0g (IntKind.i64.wrap (((ints R).length : Int) + 1)) (IntKind.i64.wrap (((ints D).length : Int) + 1)) (P.map ipr) = some y ∧ Q1A (ints R) (ints D) y.1 y.2 r = some (relX R D P r, ints R, ints D) := by
  have l1 := Q20 R
  have l2 := Q20 D
  have f1 := fl1_len R P
  have f2 := fl2_len D P
  have pl := hP.len
  have hm := marks_eq P (R.length + 1) (D.length + 1) (by omega) (by omega) (by omega) hP.lt
  refine ⟨_, by rw [Qh, Qh, Q7 _ (by omega), Q7 _ (by omega)]; exact hm, ?_⟩
  have u1 := unmarked_eq (bwt R) (fl1 R P).length (wrds (fl1 R P)) (by omega) (Q3F _) (by omega)
  have u2 := unmarked_eq (bwt D) (fl2 D P).length (wrds (fl2 D P)) (by omega) (Q3F _) (by omega)
  rw [bts_wrds, f1] at u1
  rw [bts_wrds, f2] at u2
  have a1 := Q2O (bwt R) (fl1 R P)
  have a2 := Q2O (bwt D) (fl2 D P)
  have v1 := Q4u (at0 (bwt R) (fl1 R P)) (by omega) fun y hy => by have := bwt_le R bR y (at0_mem _ _ y hy); omega
  have v2 := Q4u (at0 (bwt D) (fl2 D P)) (by omega) fun y hy => by have := bwt_le D bD y (at0_mem _ _ y hy); omega
  rw [Q1A.eq, implFm_eq D hD bD r (by omega) h64, Option.bind_some, Q3s R hR bR, Option.bind_some]
  show (Q01 _ (((R.length + 1 : Nat) : Int), ints (wrds (fl1 R P)))).bind _ = _
  rw [u1, Option.bind_some, v1, Option.bind_some, Q3s D hD bD, Option.bind_some]
  show (Q01 _ (((D.length + 1 : Nat) : Int), ints (wrds (fl2 D P)))).bind _ = _
  rw [u2, Option.bind_some, v2, Option.bind_some]
  rfl
theorem specMade_eq : Q1r (ints R) (ints D) (P.map ipr) r = some (relX R D P r) := by
  have l1 := Q20 R
  have l2 := Q20 D
  have f1 := fl1_len R P
  have f2 := fl2_len D P
  have pl := hP.len
  have a1 := Q2O (bwt R) (fl1 R P)
  have a2 := Q2O (bwt D) (fl2 D P)
  have v1 := Q4t (at0 (bwt R) (fl1 R P)) (by omega) fun y hy => by have := bwt_le R bR y (at0_mem _ _ y hy); omega
  have v2 := Q4t (at0 (bwt D) (fl2 D P)) (by omega) fun y hy => by have := bwt_le D bD y (at0_mem _ _ y hy); omega
  have hp := patchS_eq (bwt D) P (R.length + 1) (by omega) (by omega) (by omega) fun q hq => by have := hP.lt q hq; omega
  have t1 := Q3F (fl1 R P)
  have hl := Q41 (fl1 R P).length (wrds (fl1 R P)) (by omega) (by have := t1.1; unfold nw at this; omega) t1.2.1
  rw [bts_wrds, f1] at hl
  have hz := zeros_eq (bwt R) (fl1 R P) (by omega) (by omega)
  rw [l2] at hp
  rw [Q1r.eq, specFm_eq D hD bD r (by omega) h64, Option.bind_some, Q3r D hD bD, Option.bind_some, Qh, Q7 _ (by omega), hp, Option.bind_some, Q3r R hR bR, Option.bind_some]
  show (Qn (((R.length + 1 : Nat) : Int), ints (wrds (fl1 R P)))).bind _ = _
  rw [hl, Option.bind_some, hz, Option.bind_some, v1, Option.bind_some]
  show (Qi (ints (at0 (bwt D) (fl2 D P)))).bind _ = _
  rw [v2, Option.bind_some]
  rfl
end
theorem relX_small (R D : List Nat) (hR : R.length ≤ 300) (hD : D.length ≤ 300) (P : List (Nat × Nat)) (r : Nat) : SmRel (relX R D P r) 1000 := by
  have l1 := Q20 R
  have l2 := Q20 D
  have q1 := wave_small (k := 301) (show (at0 (bwt R) (fl1 R P)).length ≤ 301 by have := Q2O (bwt R) (fl1 R P); omega) (by omega)
  have q2 := wave_small (k := 301) (show (at0 (bwt D) (fl2 D P)).length ≤ 301 by have := Q2O (bwt D) (fl2 D P); omega) (by omega)
  have hsm := fmV_small D hD r
  refine ⟨?_, ?_, q1.1, q1.2.1, q2.1, q2.2.1, hsm.c, hsm.m, hsm.s, hsm.i, q1.2.2, q2.2.2⟩
  · show (ints (wrds (fl1 R P))).length ≤ 1000
    rw [Qh, Q2b, fl1_len]; unfold nw; omega
  · show (ints (wrds (fl2 D P))).length ≤ 1000
    rw [Qh, Q2b, fl2_len]; unfold nw; omega
structure OfV (f : FmT) (D : List Nat) (d r : Int) (R : List Nat) : Prop where
  fv : FmOkV f R ∧ FmW f R
  ft : Q03 f = some (ints R, true)
  fi : Q0U f = some (ints R, true)
  dl : D.length ≤ 300
  d0 : 0 ≤ d
  d8 : d ≤ 8
  r1 : 1 ≤ r
  r64 : r ≤ 64
theorem relOf_eq (f : FmT) (hf : SmFm f 1048576) (hw : ∀ p ∈ f.2.2.2.2.1, ∀ x ∈ p.2, 0 ≤ x ∧ x < ((2 ^ 64 : Nat) : Int)) (D : List Nat) (bD : QX D) (d bud r : Int) :
    (Q0Q f (ints D) d bud r = some (rel0, false) ∧ Q0t f (ints D) d bud r = some (rel0, false) ∧ (∀ bud, Q0t f (ints D) d bud r = some (rel0, false))) ∨
    ∃ R, OfV f D d r R ∧ ∀ bud, Q0Q f (ints D) d bud r = some (relX R D (share R D d.toNat bud) r.toNat, true) ∧ Q0t f (ints D) d bud r = some (relX R D (share R D d.toNat bud) r.toNat, true) := by
  obtain ⟨v1, R, t1, f1, f2, f3⟩ := fmRead_eq f hf hw
  cases v1 with
  | false =>
    have f1' : Q03 f = some (([] : List Int), false) := f1
    have f2' : Q0U f = some (t1, false) := f2
    have key : ∀ bud, Q0t f (ints D) d bud r = some (rel0, false) := fun bud => by rw [Q0t.eq, f2']; rfl
    exact .inl ⟨by rw [Q0Q.eq, f1']; rfl, key bud, key⟩
  | true =>
    have f1' : Q03 f = some (ints R, true) := f1
    have f2' : Q0U f = some (ints R, true) := f2
    obtain ⟨k1, k2⟩ := f3 rfl
    obtain ⟨d1, d2, d3, d4, d5⟩ := k1
    have hsh : Q1y (ints R) (ints D) d = some (decide (R.length ≤ 300 ∧ D.length ≤ 300 ∧ 0 ≤ d ∧ d ≤ 8)) := by
      rw [Q1y.eq, Q1d.eq, Q1d.eq, Qh, Qh, Option.bind_some, Q2 (by omega), Option.bind_some]
      by_cases h2 : D.length ≤ 300
      · rw [Q2 (by omega), Q3o, Option.bind_some]
        congr 1
        rw [Bool.eq_iff_iff, Bool.and_eq_true, decide_eq_true_eq, decide_eq_true_eq, decide_eq_true_eq]; omega
      · rw [Q3 (by omega), decide_eq_false (by omega)]
    by_cases hc : R.length ≤ 300 ∧ D.length ≤ 300 ∧ 0 ≤ d ∧ d ≤ 8
    · cases hr : decide (1 ≤ r) && decide (r ≤ 64) with
      | false =>
        have key : ∀ bud, Q0t f (ints D) d bud r = some (rel0, false) := fun bud => by
          rw [Q0t.eq, f2', Option.bind_some, Bool.not_true, Qo, hsh, Option.bind_some, decide_eq_true hc, Bool.not_true, Qo, Q48, hr]; rfl
        exact .inl ⟨by rw [Q0Q.eq, f1', Option.bind_some, Bool.not_true, Qo, l13Fit_eq, Option.bind_some, decide_eq_true hc, Bool.not_true, Qo, Q47, hr]; rfl, key bud, key⟩
      | true =>
        have hr' := hr
        simp only [Bool.and_eq_true, decide_eq_true_eq] at hr'
        obtain ⟨c1, c2, c3, c4⟩ := hc
        obtain ⟨dn, rfl⟩ : ∃ n : Nat, d = n := ⟨d.toNat, by omega⟩
        obtain ⟨rn, rfl⟩ : ∃ n : Nat, r = n := ⟨r.toNat, by omega⟩
        refine .inr ⟨R, ⟨⟨⟨d1, d2, d3, d4, d5⟩, k2⟩, f1', f2', c2, c3, c4, hr'.1, hr'.2⟩, fun bud => ⟨?_, ?_⟩⟩
        · rw [Q0Q.eq, f1', Option.bind_some, Bool.not_true, Qo, l13Fit_eq, Option.bind_some, decide_eq_true ⟨c1, c2, c3, c4⟩, Bool.not_true, Qo, Q47, hr, Option.bind_some, Bool.not_true, Qo, specShare_eq R D c1 c2 d2 bD dn (by omega) bud, Option.bind_some, specMade_eq R D c1 c2 d2 bD _ (share_ok R D dn bud) rn (by omega) (by omega)]
          rfl
        · obtain ⟨y, m1, m2⟩ := implMade_eq R D c1 c2 d2 bD _ (share_ok R D dn bud) rn (by omega) (by omega)
          rw [Q0t.eq, f2', Option.bind_some, Bool.not_true, Qo, hsh, Option.bind_some, decide_eq_true ⟨c1, c2, c3, c4⟩, Bool.not_true, Qo, Q48, hr, Option.bind_some, Bool.not_true, Qo, implShare_eq R D c1 c2 d2 bD dn (by omega) bud, Option.bind_some]
          simp only
          rw [m1, Option.bind_some, m2]
          rfl
    · have key : ∀ bud, Q0t f (ints D) d bud r = some (rel0, false) := fun bud => by
        rw [Q0t.eq, f2', Option.bind_some, Bool.not_true, Qo, hsh, Option.bind_some, decide_eq_false hc]; rfl
      exact .inl ⟨by rw [Q0Q.eq, f1', Option.bind_some, Bool.not_true, Qo, l13Fit_eq, Option.bind_some, decide_eq_false hc]; rfl, key bud, key⟩
end Go.Ev.W
/- The law of FmRead. -/
set_option linter.unusedVariables false
set_option linter.unusedSimpArgs false
namespace Go.Ev.W
open Go.Ev
theorem heldPk_eq (a b c : Int) (n : Nat) (k : Int) (hk : 0 ≤ k) (h : k + (n : Int) < 4611686018427387904) : Q1l (a, b, c, Q0F IntKind.u64.wrap k n) k = some (k + n) := by
  rw [Q1l.eq, Q49 _ n k hk h, Option.bind_some, Q3 (by omega)]
end Go.Ev.W
/- The law of RelOf. -/
set_option linter.unusedVariables false
set_option linter.unusedSimpArgs false
namespace Go.Ev.W
open Go.Ev
theorem markRel_held (x : RelT) (h : GdRel x) : ∃ (K : Int) (e1 e2 z1 : List Int) (l1 : Lv) (z2 : List Int) (l2 : Lv) (c m s i : List Int),
    Q1F x 1 = some (K, (x.1, x.2.1, x.2.2.1, e1, x.2.2.2.2.1, e2, x.2.2.2.2.2.2.1, z1, l1, x.2.2.2.2.2.2.2.2.2.1, z2, l2, c, x.2.2.2.2.2.2.2.2.2.2.2.2.2.1, m, x.2.2.2.2.2.2.2.2.2.2.2.2.2.2.2.1, x.2.2.2.2.2.2.2.2.2.2.2.2.2.2.2.2.1, x.2.2.2.2.2.2.2.2.2.2.2.2.2.2.2.2.2.1, s, x.2.2.2.2.2.2.2.2.2.2.2.2.2.2.2.2.2.2.2.1, x.2.2.2.2.2.2.2.2.2.2.2.2.2.2.2.2.2.2.2.2.1, x.2.2.2.2.2.2.2.2.2.2.2.2.2.2.2.2.2.2.2.2.2.1, i)) ∧
    Q1m (x.1, x.2.1, x.2.2.1, e1, x.2.2.2.2.1, e2, x.2.2.2.2.2.2.1, z1, l1, x.2.2.2.2.2.2.2.2.2.1, z2, l2, c, x.2.2.2.2.2.2.2.2.2.2.2.2.2.1, m, x.2.2.2.2.2.2.2.2.2.2.2.2.2.2.2.1, x.2.2.2.2.2.2.2.2.2.2.2.2.2.2.2.2.1, x.2.2.2.2.2.2.2.2.2.2.2.2.2.2.2.2.2.1, s, x.2.2.2.2.2.2.2.2.2.2.2.2.2.2.2.2.2.2.2.1, x.2.2.2.2.2.2.2.2.2.2.2.2.2.2.2.2.2.2.2.2.1, x.2.2.2.2.2.2.2.2.2.2.2.2.2.2.2.2.2.2.2.2.2.1, i) 1 = some K ∧ 0 ≤ K := by
  have g1 := h.sm.ref
  have g2 := h.sm.inn
  have g3 := h.sm.c
  have g4 := h.sm.m
  have g5 := h.sm.s
  have g6 := h.sm.i
  have s1 := h.wv1.sum
  have s2 := h.wv2.sum
  have v1 := h.wv1
  have v2 := h.wv2
  obtain ⟨a1, a2, a3, a4, a5, a6, a7, a8, a9, a10, a11, a12, a13, a14, a15, a16, a17, a18, a19, a20, a21, a22, a23⟩ := x
  simp only at g1 g2 g3 g4 g5 g6 s1 s2 v1 v2
  obtain ⟨K1, hK1⟩ : ∃ K : Int, K = 1 + a4.length := ⟨_, rfl⟩
  obtain ⟨K2, hK2⟩ : ∃ K : Int, K = K1 + a6.length := ⟨_, rfl⟩
  have E1 := mBE_eq (K2 + a8.length) (lens a9)
  obtain ⟨K3, hK3⟩ : ∃ K : Int, K = mBE (K2 + a8.length) (lens a9) := ⟨_, rfl⟩
  have E2 := mBE_eq (K3 + a11.length) (lens a12)
  obtain ⟨K4, hK4⟩ : ∃ K : Int, K = mBE (K3 + a11.length) (lens a12) := ⟨_, rfl⟩
  rw [← hK3] at E1
  rw [← hK4] at E2
  obtain ⟨K5, hK5⟩ : ∃ K : Int, K = K4 + a13.length := ⟨_, rfl⟩
  obtain ⟨K6, hK6⟩ : ∃ K : Int, K = K5 + a15.length := ⟨_, rfl⟩
  obtain ⟨K7, hK7⟩ : ∃ K : Int, K = K6 + a19.length := ⟨_, rfl⟩
  obtain ⟨K8, hK8⟩ : ∃ K : Int, K = K7 + a23.length := ⟨_, rfl⟩
  refine ⟨K8, Q0F IntKind.u64.wrap 1 a4.length, Q0F IntKind.u64.wrap K1 a6.length, Q0F id K2 a8.length, mBS (K2 + a8.length) (lens a9), Q0F id K3 a11.length, mBS (K3 + a11.length) (lens a12), Q0F id K4 a13.length, Q0F IntKind.u64.wrap K5 a15.length, Q0F IntKind.u64.wrap K6 a19.length, Q0F IntKind.u64.wrap K7 a23.length, ?_, ?_, by omega⟩
  · rw [Q1F.eq]
    simp only
    rw [Q3H a3 a4 1 (by omega) (by omega), ← hK1, Option.bind_some]
    simp only
    rw [Q3H a5 a6 K1 (by omega) (by omega), ← hK2, Option.bind_some]
    simp only
    rw [Q4y a7 a8 a9 K2 (by omega) (by omega) v1, ← hK3, Option.bind_some]
    simp only
    rw [Q4y a10 a11 a12 K3 (by omega) (by omega) v2, ← hK4, Option.bind_some]
    simp only
    rw [Q4r a13 K4 (by omega) (by omega), ← hK5, Option.bind_some]
    simp only
    rw [Q3H a14 a15 K5 (by omega) (by omega), ← hK6, Option.bind_some]
    simp only
    rw [Q46 a16 a17 a18 a19 K6 (by omega) (by omega), ← hK7, Option.bind_some]
    simp only
    rw [Q46 a20 a21 a22 a23 K7 (by omega) (by omega), ← hK8, Option.bind_some]
  · rw [Q1m.eq]
    simp only
    rw [Q49 a3 a4.length 1 (by omega) (by omega), ← hK1, Option.bind_some, Q3 (by omega), Q49 a5 a6.length K1 (by omega) (by omega), ← hK2, Option.bind_some, Q3 (by omega),
      heldWave_eq a7 a8 a9 K2 (by omega) (by omega) v1, ← hK3, Option.bind_some, Q3 (by omega), heldWave_eq a10 a11 a12 K3 (by omega) (by omega) v2, ← hK4, Option.bind_some, Q3 (by omega),
      heldIntS_eq a13.length K4 (by omega) (by omega), ← hK5, Option.bind_some, Q3 (by omega), Q49 a14 a15.length K5 (by omega) (by omega), ← hK6, Option.bind_some, Q3 (by omega),
      heldPk_eq a16 a17 a18 a19.length K6 (by omega) (by omega), ← hK7, Option.bind_some, Q3 (by omega), heldPk_eq a20 a21 a22 a23.length K7 (by omega) (by omega), ← hK8, Option.bind_some, Q3 (by omega)]
theorem gdr_of_small (x : RelT) (h : SmRel x 1000) : GdRel x := by
  have w1 := sum_le' 1000 (x.2.2.2.2.2.2.2.2.1.map fun p => p.2.length) fun y hy => by
    obtain ⟨p, hp, rfl⟩ := List.mem_map.1 hy
    exact h.v1 p hp
  have w2 := sum_le' 1000 (x.2.2.2.2.2.2.2.2.2.2.2.1.map fun p => p.2.length) fun y hy => by
    obtain ⟨p, hp, rfl⟩ := List.mem_map.1 hy
    exact h.v2 p hp
  rw [List.length_map] at w1 w2
  have h1 : x.2.2.2.2.2.2.2.2.1.length * 1000 ≤ 1000 * 1000 := Nat.mul_le_mul_right _ h.l1
  have h2 : x.2.2.2.2.2.2.2.2.2.2.2.1.length * 1000 ≤ 1000 * 1000 := Nat.mul_le_mul_right _ h.l2
  have := h.ref
  have := h.inn
  have := h.z1
  have := h.l1
  have := h.z2
  have := h.l2
  have := h.c
  have := h.m
  have := h.s
  have := h.i
  exact ⟨⟨by omega, by omega, by omega, by omega, by omega, by omega, by omega, by omega, by omega, by omega, fun p hp => by have := h.v1 p hp; omega, fun p hp => by have := h.v2 p hp; omega⟩, ⟨by omega, by omega, fun p hp => by have := h.v1 p hp; omega, by omega⟩, ⟨by omega, by omega, fun p hp => by have := h.v2 p hp; omega, by omega⟩⟩
theorem rel0_small : SmRel rel0 1000 := by
  refine ⟨?_, ?_, ?_, ?_, ?_, ?_, ?_, ?_, ?_, ?_, ?_, ?_⟩ <;> simp [rel0]
theorem law_RelOf (a : FmT × List Int × Int × Int × Int) (hx : goodA tab QL.as a) : QL.fn a = some true := by
  obtain ⟨f, ts, d, bud, rt⟩ := a
  show QL f ts d bud rt = some true
  have hz : f.2.2.2.1.length ≤ maxLen := hx.1.2.2.2.1.1
  have hl : f.2.2.2.2.1.length ≤ maxLen := hx.1.2.2.2.2.1.1
  have hw : ∀ p ∈ f.2.2.2.2.1, p.2.length ≤ maxLen := fun p hp => (hx.1.2.2.2.2.1.2 p hp).2.1
  have hw2 : ∀ p ∈ f.2.2.2.2.1, ∀ x ∈ p.2, 0 ≤ x ∧ x < ((2 ^ 64 : Nat) : Int) := fun p hp => words_in (d := 2) (hx.1.2.2.2.2.1.2 p hp).2
  have hc : f.2.2.2.2.2.1.length ≤ maxLen := hx.1.2.2.2.2.2.1.1
  have hm : f.2.2.2.2.2.2.2.1.length ≤ maxLen := hx.1.2.2.2.2.2.2.2.1.1
  have hs : f.2.2.2.2.2.2.2.2.2.2.2.1.length ≤ maxLen := hx.1.2.2.2.2.2.2.2.2.2.2.2.1.1
  have hi : f.2.2.2.2.2.2.2.2.2.2.2.2.2.2.2.length ≤ maxLen := hx.1.2.2.2.2.2.2.2.2.2.2.2.2.2.2.2.1
  have hg2 : AllP (α := Tup [CT.int .u8]) (allL (goodC 4) [CT.int .u8]) ts := hx.2.1
  obtain ⟨r, h1, h2⟩ := szFm_ok3 f hz hl hw hc hm hs hi
  rw [QL.eq]
  by_cases hlen : (ts.length : Int) > 1048576
  · rw [Q2 hlen]
  rw [Q3 hlen]
  show (Q1i f 1048576).bind _ = _
  rw [h1, Option.bind_some]
  rcases h2 with h2 | ⟨h2, hg, hr⟩
  · rw [Q2 h2]
  rw [Q3 h2]
  obtain ⟨D, rfl, bD⟩ := ints_of ts 256 (bytes_of hg2)
  have hDl : D.length ≤ 1048576 := by rw [List.length_map] at hlen; omega
  have hil : (ints D).length = D.length := List.length_map ..
  obtain ⟨y, v, hsp, him, hgd⟩ : ∃ (y : RelT) (v : Bool), Q0Q f (ints D) d bud rt = some (y, v) ∧ Q0t f (ints D) d bud rt = some (y, v) ∧ GdRel y := by
    rcases relOf_eq f hg.sm hw2 D bD d bud rt with ⟨k1, k2, _⟩ | ⟨R, hv, k⟩
    · exact ⟨_, _, k1, k2, gdr_of_small _ rel0_small⟩
    · exact ⟨_, _, (k bud).1, (k bud).2, gdr_of_small _ (relX_small R D hv.fv.1.1 hv.dl _ _)⟩
  have ht := toFm_eq f hg
  have he := eqFm_eq f f hg
  rw [decide_eq_true rfl] at he
  have hey := eqRel_eq y y hgd
  rw [decide_eq_true rfl] at hey
  obtain ⟨k, g, hmk, k0, k1⟩ := markFm_ok f hg
  obtain ⟨K, e1, e2, z1, l1, z2, l2, c, m, s, i, hm1, hm2, hm3⟩ := markRel_held y hgd
  have hK : decide (K < 0) = false := decide_eq_false (by omega)
  have hk' : decide (k + (D.length : Int) < 0) = false := decide_eq_false (by omega)
  have hmb := markByteS_eq (ints D) k k0 (by rw [hil]; omega)
  rw [hil] at hmb
  obtain ⟨a1, a2, a3, a4, a5, a6, a7, a8, a9, a10, a11, a12, a13, a14, a15, a16⟩ := f
  obtain ⟨b1, b2, b3, b4, b5, b6, b7, b8, b9, b10, b11, b12, b13, b14, b15, b16, b17, b18, b19, b20, b21, b22, b23⟩ := y
  simp (disch := omega) only [ht, hsp, him, he, hey, hmk, hmb, hm1, hm2, hK, hk', toByteS_eq, hil, eqByteS_eq, QL_l0.eq, QL_l1.eq, QL_l2.eq, Option.bind_some, bne_self_eq_false, beq_self_eq_true, Qo, decide_true, Bool.not_true]
end Go.Ev.W
