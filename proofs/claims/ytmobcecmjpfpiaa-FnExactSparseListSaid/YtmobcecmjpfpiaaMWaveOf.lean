/- The wave of a list: the reference's. -/
import Derived.Test.YtmobcecmjpfpiaaEvC
import Derived.Test.YtmobcecmjpfpiaaPp4
import Derived.Test.YtmobcecmjpfpiaaMBitsOf
import Derived.Test.YtmobcecmjpfpiaaMWave3
import Derived.Test.YtmobcecmjpfpiaaMRead2
set_option linter.unusedVariables false
set_option linter.unusedSimpArgs false
namespace Go.Ev.W
open Go.Ev

/-- Bit 8 - l of a number. -/
def wbit (l x : Nat) : Bool := x / 2 ^ (8 - l) % 2 == 1
def wlo (l : Nat) (X : List Nat) : List Nat := X.filter fun x => !wbit l x
def whi (l : Nat) (X : List Nat) : List Nat := X.filter fun x => wbit l x
def wbs (l : Nat) (X : List Nat) : List Bool := X.map (wbit l)
/-- Zeros and levels from level l on. -/
def wLv : Nat → Nat → List Nat → List Nat × List (Int × List Nat)
  | 0, _, _ => ([], [])
  | d + 1, l, X => ((wlo l X).length :: (wLv d (l + 1) (wlo l X ++ whi l X)).1, ((X.length : Int), wrds (wbs l X)) :: (wLv d (l + 1) (wlo l X ++ whi l X)).2)
theorem lohi_len (l : Nat) : ∀ X : List Nat, (wlo l X).length + (whi l X).length = X.length
  | [] => rfl
  | x :: X => by
    have ih := lohi_len l X
    unfold wlo whi at ih ⊢
    rw [List.filter_cons, List.filter_cons, List.length_cons]
    cases wbit l x <;> simp <;> omega
theorem snocF {α : Type} (p : α → Bool) (X : List α) (i : Nat) (hi : i < X.length) : (X.take (i + 1)).filter p = (X.take i).filter p ++ (if p X[i] then [X[i]] else []) := by
  rw [List.take_add_one, List.getElem?_eq_getElem hi, List.filter_append]
  cases h : p X[i] <;> simp [h]
theorem wbit_val (l x : Nat) : (((x / 2 ^ (8 - l) % 2 : Nat) : Int)) = bint (wbit l x) := by
  unfold wbit bint
  rcases Nat.mod_two_eq_zero_or_one (x / 2 ^ (8 - l)) with h | h <;> rw [h] <;> rfl
theorem specWaveOf_l2 (l : Nat) (hl : l < 9) (X : List Nat) (hX : X.length ≤ 1000) (hx : ∀ x ∈ X, x ≤ 511) (a : Int) (b : List Int) (c : List (Int × List Int)) (n : Int) (Z : List Int) (L : List (Int × List Int)) (hZ : Z.length ≤ 100) (hL : L.length ≤ 100) : ∀ (d i : Nat), X.length - i = d → i ≤ X.length →
    spec_WaveOf_l2 l i a b c n Z L (ints X) (bints (wbs l (X.take i))) (ints (wlo l (X.take i))) (ints (whi l (X.take i))) = spec_WaveOf_l1 (l + 1 : Nat) a b c n (Z ++ [((wlo l X).length : Int)]) (L ++ [((X.length : Int), ints (wrds (wbs l X)))]) (ints (wlo l X ++ whi l X)) := by
  have hll := lohi_len l X
  intro d
  induction d with
  | zero =>
    intro i h1 h2
    obtain rfl : i = X.length := by omega
    have hbl : (wbs l X).length = X.length := List.length_map ..
    rw [spec_WaveOf_l2.eq, List.length_map, bif_ndec (by omega), List.take_length, specBitsOf_eq _ (by omega), Option.bind_some]
    try simp only
    rw [bif_dec (by simp only [List.length_cons, List.length_nil]; omega), bif_dec (by simp only [List.length_cons, List.length_nil]; omega), bif_dec (by rw [List.length_map, List.length_map]; omega), wrapS l (by omega), List.length_map, hbl]
    congr 1
    exact (List.map_append (f := fun (x : Nat) => (x : Int)) (l₁ := wlo l X) (l₂ := whi l X)).symm
  | succ d ih =>
    intro i h1 h2
    have hi : i < X.length := by omega
    have hxi := hx _ (List.getElem_mem hi)
    have hp : 2 ^ (8 - l) ≤ 2 ^ 8 := Nat.pow_le_pow_right (by omega) (by omega)
    have hp0 : 0 < 2 ^ (8 - l) := Nat.two_pow_pos _
    have hd : X[i] / 2 ^ (8 - l) ≤ X[i] := Nat.div_le_self _ _
    have e1 : (X[i] : Int).tdiv ((2 ^ (8 - l) : Nat) : Int) = ((X[i] / 2 ^ (8 - l) : Nat) : Int) := rfl
    have e2 : ((X[i] / 2 ^ (8 - l) : Nat) : Int).tmod 2 = ((X[i] / 2 ^ (8 - l) % 2 : Nat) : Int) := rfl
    have l1 := lohi_len l (X.take i)
    rw [List.length_take] at l1
    have hb0 : (bints (wbs l (X.take i))).length = i := by rw [List.length_map]; unfold wbs; rw [List.length_map, List.length_take]; omega
    have ih' := ih (i + 1) (by omega) (by omega)
    have eb : bints (wbs l (X.take i)) ++ [bint (wbit l X[i])] = bints (wbs l (X.take (i + 1))) := by
      unfold wbs
      rw [List.take_add_one, List.getElem?_eq_getElem hi, List.map_append]
      exact (List.map_append (f := bint) (l₁ := (X.take i).map (wbit l)) (l₂ := [wbit l X[i]])).symm
    have elo := snocF (fun x => !wbit l x) X i hi
    have ehi := snocF (fun x => wbit l x) X i hi
    rw [spec_WaveOf_l2.eq, List.length_map, bif_dec (by omega), at?_ints _ _ hi, Option.bind_some, Int.toNat_natCast, getElem?_ints _ _ hi, Option.bind_some, wrapI (by omega) (by omega), show (8 : Int) - (l : Int) = ((8 - l : Nat) : Int) by omega, l02Pow_eq _ (by omega), Option.bind_some, bif_ndec (by omega), e1, wrapIn (by omega), e2, wbit_val,
      bif_dec (by rw [hb0]; simp only [List.length_cons, List.length_nil]; omega), wrapS i (by omega), eb]
    rw [Option.bind_some, Option.bind_some, bint_zero]
    cases hb : wbit l X[i] with
    | true =>
      rw [hb] at elo ehi
      rw [Bool.not_true, bif_false, Option.bind_some, Option.bind_some, bif_dec (by simp only [List.length_cons, List.length_nil, List.length_map]; omega)]
      rw [show wlo l (X.take i) = wlo l (X.take (i + 1)) by unfold wlo; rw [elo]; simp,
        show ints (whi l (X.take i)) ++ [((X[i] : Nat) : Int)] = ints (whi l (X.take (i + 1))) by
          unfold whi; rw [ehi]; exact (List.map_append (f := fun (x : Nat) => (x : Int)) (l₁ := (X.take i).filter _) (l₂ := [X[i]])).symm]
      exact ih'
    | false =>
      rw [hb] at elo ehi
      rw [Bool.not_false, bif_true, bif_dec (by simp only [List.length_cons, List.length_nil, List.length_map]; omega)]
      rw [show whi l (X.take i) = whi l (X.take (i + 1)) by unfold whi; rw [ehi]; simp,
        show ints (wlo l (X.take i)) ++ [((X[i] : Nat) : Int)] = ints (wlo l (X.take (i + 1))) by
          unfold wlo; rw [elo]; exact (List.map_append (f := fun (x : Nat) => (x : Int)) (l₁ := (X.take i).filter _) (l₂ := [X[i]])).symm]
      exact ih'
theorem specWaveOf_l1 (a : Int) (b : List Int) (c : List (Int × List Int)) (n : Int) : ∀ (d l : Nat), 9 - l = d → l ≤ 9 → ∀ (X : List Nat) (Z : List Int) (L : List (Int × List Int)), X.length ≤ 1000 → (∀ x ∈ X, x ≤ 511) → Z.length = l → L.length = l →
    spec_WaveOf_l1 l a b c n Z L (ints X) = some ((n, Z ++ ints (wLv d l X).1, L ++ LI (wLv d l X).2), true) := by
  intro d
  induction d with
  | zero =>
    intro l h1 h2 X Z L hX hx hZ hL
    rw [spec_WaveOf_l1.eq, bif_ndec (by omega)]
    simp [wLv]
  | succ d ih =>
    intro l h1 h2 X Z L hX hx hZ hL
    have hll := lohi_len l X
    have hmem : ∀ x ∈ wlo l X ++ whi l X, x ≤ 511 := fun x h => by
      rcases List.mem_append.1 h with h | h
      · exact hx x (List.mem_filter.1 h).1
      · exact hx x (List.mem_filter.1 h).1
    have h3 := specWaveOf_l2 l (by omega) X hX hx a b c n Z L (by omega) (by omega) _ 0 rfl (by omega)
    rw [spec_WaveOf_l1.eq, bif_dec (by omega)]
    refine h3.trans ?_
    rw [ih (l + 1) (by omega) (by omega) (wlo l X ++ whi l X) _ _ (by rw [List.length_append]; omega) hmem (by rw [List.length_append, hZ]; rfl) (by rw [List.length_append, hL]; rfl), wLv]
    simp only [List.append_assoc]
    rfl
theorem specWaveOf_l0 (X : List Nat) (hX : X.length ≤ 1000) (hx : ∀ x ∈ X, x ≤ 511) (a : Int) (b : List Int) (c : List (Int × List Int)) : ∀ (d i : Nat), X.length - i = d → i ≤ X.length → spec_WaveOf_l0 (ints X) i a b c = some (((X.length : Int), ints (wLv 9 0 X).1, LI (wLv 9 0 X).2), true) := by
  intro d
  induction d with
  | zero =>
    intro i h1 h2
    rw [spec_WaveOf_l0.eq, List.length_map, bif_ndec (by omega), bif_dec (by simp only [List.length_nil]; omega), List.nil_append]
    have := specWaveOf_l1 a b c X.length 9 0 rfl (by omega) X [] [] hX hx rfl rfl
    rw [List.nil_append, List.nil_append] at this
    exact this
  | succ d ih =>
    intro i h1 h2
    have hi : i < X.length := by omega
    have hxi := hx _ (List.getElem_mem hi)
    rw [spec_WaveOf_l0.eq, List.length_map, bif_dec (by omega), at?_ints _ _ hi, Option.bind_some, bif_ndec (by omega), Option.bind_some, bif_ndec (by omega), wrapS i (by omega)]
    exact ih (i + 1) (by omega) (by omega)
theorem specWaveOf_eq (X : List Nat) (hX : X.length ≤ 1000) (hx : ∀ x ∈ X, x ≤ 511) : spec_WaveOf (ints X) = some (((X.length : Int), ints (wLv 9 0 X).1, LI (wLv 9 0 X).2), true) := by
  rw [spec_WaveOf.eq, List.length_map, bif_ndec (by omega)]
  exact specWaveOf_l0 X hX hx 0 [] [] _ 0 rfl (by omega)
end Go.Ev.W
