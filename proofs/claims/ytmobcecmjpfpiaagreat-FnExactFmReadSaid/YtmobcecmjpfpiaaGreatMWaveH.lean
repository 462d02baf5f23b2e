/- What the laws' own helpers come to: marks in waves. -/
import Derived.Test.YtmobcecmjpfpiaaGreatEvC
import Derived.Test.YtmobcecmjpfpiaaGreatPz2
import Derived.Test.YtmobcecmjpfpiaaGreatMWaveS
set_option linter.unusedVariables false
set_option linter.unusedSimpArgs false
namespace Go.Ev.W
open Go.Ev

def mBS : Int → List Nat → Lv
  | _, [] => []
  | k, m :: ms => (k, markF IntKind.u64.wrap (k + 1) m) :: mBS (k + 1 + m) ms
def mBE : Int → List Nat → Int
  | k, [] => k
  | k, m :: ms => mBE (k + 1 + m) ms
theorem mBE_eq : ∀ (k : Int) (ms : List Nat), mBE k ms = k + (ms.length + ms.sum : Nat)
  | k, [] => by simp [mBE]
  | k, m :: ms => by rw [mBE, mBE_eq, List.length_cons, List.sum_cons]; omega
theorem mBS_length : ∀ (k : Int) (ms : List Nat), (mBS k ms).length = ms.length
  | k, [] => rfl
  | k, m :: ms => by rw [mBS, List.length_cons, List.length_cons, mBS_length]
theorem markBitsS_l : ∀ (ms : List Nat) (P : Lv) (Q : Lv) (k : Int), Q.map (fun p => p.2.length) = ms → 0 ≤ k → P.length + Q.length ≤ 1048576 → (∀ m ∈ ms, m ≤ 1048576) → k + ((ms.length + ms.sum : Nat) : Int) ≤ 4000000000 →
    laws_markBitsS_l0 k P.length (P ++ Q) = some (mBE k ms, P ++ mBS k ms)
  | [], P, Q, k, hq, hk, hl, hm, hs => by
    have : Q = [] := by simpa using hq
    subst this
    rw [laws_markBitsS_l0.eq, bif_ndec (by rw [List.length_append]; simp)]
    rfl
  | m :: ms, P, Q, k, hq, hk, hl, hm, hs => by
    cases Q with
    | nil => simp at hq
    | cons q Q =>
      rw [List.map_cons] at hq
      injection hq with h1 h2
      have hmm : m ≤ 1048576 := hm m List.mem_cons_self
      rw [List.length_cons, List.sum_cons] at hs
      have hi : P.length < (P ++ q :: Q).length := by rw [List.length_append, List.length_cons]; omega
      have hg : (P ++ q :: Q)[P.length]? = some q := by rw [List.getElem?_append_right (Nat.le_refl _), Nat.sub_self]; rfl
      have hset : ∀ (y z : Int × List Int), (P ++ y :: Q).set P.length z = P ++ z :: Q := fun y z => by rw [List.set_append_right _ _ (Nat.le_refl _), Nat.sub_self]; rfl
      have hg2 : ∀ y : Int × List Int, (P ++ y :: Q)[P.length]? = some y := fun y => by rw [List.getElem?_append_right (Nat.le_refl _), Nat.sub_self]; rfl
      rw [List.length_cons] at hl
      rw [laws_markBitsS_l0.eq, bif_dec (by omega)]
      simp only [at?_nat, Int.toNat_natCast, hg, hset, hg2, Option.bind_some]
      rw [wrapI (by omega) (by omega), markUint64S_eq _ _ (by omega) (by omega), Option.bind_some, wrapS _ (by omega)]
      have ih := markBitsS_l ms (P ++ [(k, markF IntKind.u64.wrap (k + 1) m)]) Q (k + 1 + m) h2 (by omega) (by rw [List.length_append, List.length_cons, List.length_nil]; omega) (fun x hx => hm x (List.mem_cons_of_mem _ hx)) (by omega)
      rw [List.length_append, List.length_cons, List.length_nil, List.append_assoc, List.append_assoc] at ih
      simp only [h1]
      exact ih
theorem heldBitsS_l : ∀ (ms : List Nat) (P : Lv) (k : Int), 0 ≤ k → P.length + ms.length ≤ 1048576 → (∀ m ∈ ms, m ≤ 1048576) → k + ((ms.length + ms.sum : Nat) : Int) ≤ 4000000000 →
    laws_heldBitsS_l0 (P ++ mBS k ms) k P.length = some (mBE k ms)
  | [], P, k, hk, hl, hm, hs => by
    rw [laws_heldBitsS_l0.eq, bif_ndec (by rw [List.length_append]; simp [mBS])]
    rfl
  | m :: ms, P, k, hk, hl, hm, hs => by
    have hmm : m ≤ 1048576 := hm m List.mem_cons_self
    rw [List.length_cons, List.sum_cons] at hs
    rw [List.length_cons] at hl
    have hi : P.length < (P ++ mBS k (m :: ms)).length := by rw [List.length_append, mBS_length, List.length_cons]; omega
    have hg : (P ++ mBS k (m :: ms))[P.length]? = some (k, markF IntKind.u64.wrap (k + 1) m) := by rw [List.getElem?_append_right (Nat.le_refl _), Nat.sub_self]; rfl
    rw [laws_heldBitsS_l0.eq, bif_dec (by omega)]
    simp only [at?_nat, hg, Option.bind_some]
    rw [bif_nne rfl, wrapI (by omega) (by omega), heldUint64S_eq _ _ (by omega) (by omega), Option.bind_some, bif_ndec (by omega), wrapS _ (by omega)]
    have ih := heldBitsS_l ms (P ++ [(k, markF IntKind.u64.wrap (k + 1) m)]) (k + 1 + m) (by omega) (by rw [List.length_append, List.length_cons, List.length_nil]; omega) (fun x hx => hm x (List.mem_cons_of_mem _ hx)) (by omega)
    rw [List.length_append, List.length_cons, List.length_nil, List.append_assoc] at ih
    exact ih
abbrev lens (L : Lv) : List Nat := L.map fun p => p.2.length
theorem Small.sum {Z : List Int} {L : Lv} (h : Small Z L) : Z.length + (lens L).length + (lens L).sum ≤ 1048576 := by
  have := h.s
  rw [List.length_map]; exact this
theorem Small.lw {Z : List Int} {L : Lv} (h : Small Z L) : ∀ m ∈ lens L, m ≤ 1048576 := by
  intro m hm
  obtain ⟨p, hp, rfl⟩ := List.mem_map.1 hm
  exact h.w p hp
theorem markWave_eq (n : Int) (Z : List Int) (L : Lv) (k : Int) (hk : 0 ≤ k) (hk2 : k ≤ 1000000000) (h : Small Z L) :
    laws_markWave (n, Z, L) k = some (mBE (k + Z.length) (lens L), (n, markF id k Z.length, mBS (k + Z.length) (lens L))) := by
  rw [laws_markWave.eq]
  have := h.z
  have := h.l
  have hs := h.sum
  try simp only
  rw [markIntS_eq _ _ hk (by omega), Option.bind_some, laws_markBitsS.eq]
  have := markBitsS_l (lens L) [] L (k + Z.length) rfl (by omega) (by simp; omega) h.lw (by omega)
  simp only [List.length_nil, List.nil_append] at this ⊢
  have e : ((0 : Nat) : Int) = 0 := rfl
  rw [e] at this
  rw [this, Option.bind_some]
theorem heldWave_eq (n : Int) (Z : List Int) (L : Lv) (k : Int) (hk : 0 ≤ k) (hk2 : k ≤ 1000000000) (h : Small Z L) :
    laws_heldWave (n, markF id k Z.length, mBS (k + Z.length) (lens L)) k = some (mBE (k + Z.length) (lens L)) := by
  rw [laws_heldWave.eq]
  have := h.z
  have := h.l
  have hs := h.sum
  have hE := mBE_eq (k + Z.length) (lens L)
  try simp only
  rw [heldIntS_eq _ _ hk (by omega), Option.bind_some, bif_ndec (by omega), laws_heldBitsS.eq]
  have := heldBitsS_l (lens L) [] (k + Z.length) (by omega) (by simp; omega) h.lw (by omega)
  simp only [List.length_nil, List.nil_append] at this
  have e : ((0 : Nat) : Int) = 0 := rfl
  rw [e] at this
  rw [this, Option.bind_some, bif_ndec (by omega)]
end Go.Ev.W
