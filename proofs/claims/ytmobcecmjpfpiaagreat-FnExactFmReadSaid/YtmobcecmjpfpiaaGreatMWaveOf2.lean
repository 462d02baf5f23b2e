/- The wave of a list: the program's. -/
import Derived.Test.YtmobcecmjpfpiaaGreatEvC
import Derived.Test.YtmobcecmjpfpiaaGreatPz1
import Derived.Test.YtmobcecmjpfpiaaGreatMWaveOf
import Derived.Test.YtmobcecmjpfpiaaGreatMConcatI
set_option linter.unusedVariables false
set_option linter.unusedSimpArgs false
namespace Go.Ev.W
open Go.Ev

theorem ibit (l x : Nat) (hl : l < 9) (hx : x ≤ 511) : IntKind.i64.wrap (((BitVec.ofInt 64 ((x : Int).fdiv (2 ^ (min (IntKind.i64.wrap ((8 : Int) - (l : Int))).toNat 64)))) &&& (BitVec.ofInt 64 (1 : Int))).toNat : Int) = bint (wbit l x) := by
  have e0 : IntKind.i64.wrap ((8 : Int) - (l : Int)) = ((8 - l : Nat) : Int) := by rw [wrapI (by omega) (by omega)]; omega
  have e1 : min (8 - l) 64 = 8 - l := by omega
  have hd : x / 2 ^ (8 - l) ≤ x := Nat.div_le_self _ _
  have h1 := bv_and 64 (x / 2 ^ (8 - l)) 1 (by omega) (by omega)
  rw [show ((1 : Nat) : Int) = 1 from rfl] at h1
  rw [e0, Int.toNat_natCast, e1, fdiv_nat, h1, Nat.and_one_is_mod, wrapIn (by omega), wbit_val]
theorem implWaveOf_l4 (l : Nat) (hl : l < 9) (X : List Nat) (hX : X.length ≤ 1000) (hx : ∀ x ∈ X, x ≤ 511) (a : Int) (b : List Int) (c : List (Int × List Int)) (n : Int) (Z : List Int) (L : List (Int × List Int)) (hZ : Z.length ≤ 100) (hL : L.length ≤ 100) : ∀ (d i : Nat), X.length - i = d → i ≤ X.length →
    impl_WaveOf_l4 l l X.length i a b c n Z L (ints (wlo l (X.take i))) (ints (whi l (X.take i))) (bints (wbs l (X.take i))) (ints X) = impl_WaveOf_l3 (l + 1 : Nat) (ints (wlo l X ++ whi l X)) a b c n (Z ++ [((wlo l X).length : Int)]) (L ++ [((X.length : Int), ints (wrds (wbs l X)))]) := by
  have hll := lohi_len l X
  intro d
  induction d with
  | zero =>
    intro i h1 h2
    obtain rfl : i = X.length := by omega
    have hbl : (wbs l X).length = X.length := List.length_map ..
    rw [impl_WaveOf_l4.eq, bif_ndec (by omega), List.take_length, bif_dec (by simp only [List.length_cons, List.length_nil]; omega), implBitsOf_eq _ (by omega), Option.bind_some]
    try simp only
    rw [bif_dec (by simp only [List.length_cons, List.length_nil]; omega), concatI_eq _ (by simp) (by simp only [List.map_cons, List.map_nil, List.sum_cons, List.sum_nil, List.length_map]; omega), Option.bind_some, wrapS l (by omega), List.length_map, hbl]
    congr 1
    simp only [List.flatten_cons, List.flatten_nil, List.append_nil]
    exact (List.map_append (f := fun (x : Nat) => (x : Int)) (l₁ := wlo l X) (l₂ := whi l X)).symm
  | succ d ih =>
    intro i h1 h2
    have hi : i < X.length := by omega
    have hxi := hx _ (List.getElem_mem hi)
    have l1 := lohi_len l (X.take i)
    rw [List.length_take] at l1
    have hb0 : (bints (wbs l (X.take i))).length = i := by rw [List.length_map]; unfold wbs; rw [List.length_map, List.length_take]; omega
    have ih' := ih (i + 1) (by omega) (by omega)
    have eb : bints (wbs l (X.take i)) ++ [bint (wbit l X[i])] = bints (wbs l (X.take (i + 1))) := by
      unfold wbs
      rw [List.take_add_one, List.getElem?_eq_getElem hi, List.map_append]
      exact (List.map_append (f := bint) (l₁ := (X.take i).map (wbit l)) (l₂ := [wbit l X[i]])).symm
    have elo := snocF (fun x => !wbit l x) X i hi
    have ehi := snocF (fun x => wbit l x) X i hi
    rw [impl_WaveOf_l4.eq, bif_dec (by omega), at?_ints _ _ hi, Option.bind_some, Int.toNat_natCast, getElem?_ints _ _ hi, Option.bind_some, ibit l X[i] hl hxi, bif_ndec (by rw [wrapI (by omega) (by omega)]; omega), bif_dec (by rw [hb0]; simp only [List.length_cons, List.length_nil]; omega), wrapS i (by omega), eb, bint_zero]
    cases hb : wbit l X[i] with
    | true =>
      rw [hb] at elo ehi
      rw [Bool.not_true, bif_false, bif_dec (by simp only [List.length_cons, List.length_nil, List.length_map]; omega)]
      rw [show wlo l (X.take i) = wlo l (X.take (i + 1)) by unfold wlo; rw [elo]; simp,
        show ints (whi l (X.take i)) ++ [((X[i] : Nat) : Int)] = ints (whi l (X.take (i + 1))) by
          unfold whi; rw [ehi]; exact (List.map_append (f := fun (x : Nat) => (x : Int)) (l₁ := (X.take i).filter _) (l₂ := [X[i]])).symm]
      exact ih'
    | false =>
      rw [hb] at elo ehi
      rw [Bool.not_false, bif_true, bif_dec (by simp only [List.length_cons, List.length_nil, List.length_map]; omega)]
      rw [show whi l (X.take i) = whi l (X.take (i + 1)) by unfold whi; rw [ehi]; simp,
        show ints (wlo l (X.take i)) ++ [((X[i] : Nat) : Int)] = ints (wlo l (X.take (i + 1))) by
          unfold wlo; rw [elo]; exact (List.map_append (f := fun (x : Nat) => (x : Int)) (l₁ := (X.take i).filter _) (l₂ := [X[i]])).symm]
      exact ih'
theorem implWaveOf_l2 (l : Nat) (hl : l < 9) (X : List Nat) (hX : X.length ≤ 1000) (hx : ∀ x ∈ X, x ≤ 511) (a : Int) (b : List Int) (c : List (Int × List Int)) (n : Int) (Z : List Int) (L : List (Int × List Int)) (hZ : Z.length ≤ 100) (hL : L.length ≤ 100) : ∀ (d i : Nat), X.length - i = d → i ≤ X.length →
    impl_WaveOf_l2 l l (ints X) X.length i a b c n Z L (ints (wlo l (X.take i))) (ints (whi l (X.take i))) (bints (wbs l (X.take i))) = impl_WaveOf_l3 (l + 1 : Nat) (ints (wlo l X ++ whi l X)) a b c n (Z ++ [((wlo l X).length : Int)]) (L ++ [((X.length : Int), ints (wrds (wbs l X)))]) := by
  have hll := lohi_len l X
  intro d
  induction d with
  | zero =>
    intro i h1 h2
    obtain rfl : i = X.length := by omega
    have hbl : (wbs l X).length = X.length := List.length_map ..
    rw [impl_WaveOf_l2.eq, bif_ndec (by omega), List.take_length, bif_dec (by simp only [List.length_cons, List.length_nil]; omega), implBitsOf_eq _ (by omega), Option.bind_some]
    try simp only
    rw [bif_dec (by simp only [List.length_cons, List.length_nil]; omega), concatI_eq _ (by simp) (by simp only [List.map_cons, List.map_nil, List.sum_cons, List.sum_nil, List.length_map]; omega), Option.bind_some, wrapS l (by omega), List.length_map, hbl]
    congr 1
    simp only [List.flatten_cons, List.flatten_nil, List.append_nil]
    exact (List.map_append (f := fun (x : Nat) => (x : Int)) (l₁ := wlo l X) (l₂ := whi l X)).symm
  | succ d ih =>
    intro i h1 h2
    have hi : i < X.length := by omega
    have hxi := hx _ (List.getElem_mem hi)
    have l1 := lohi_len l (X.take i)
    rw [List.length_take] at l1
    have hb0 : (bints (wbs l (X.take i))).length = i := by rw [List.length_map]; unfold wbs; rw [List.length_map, List.length_take]; omega
    have ih' := ih (i + 1) (by omega) (by omega)
    have eb : bints (wbs l (X.take i)) ++ [bint (wbit l X[i])] = bints (wbs l (X.take (i + 1))) := by
      unfold wbs
      rw [List.take_add_one, List.getElem?_eq_getElem hi, List.map_append]
      exact (List.map_append (f := bint) (l₁ := (X.take i).map (wbit l)) (l₂ := [wbit l X[i]])).symm
    have elo := snocF (fun x => !wbit l x) X i hi
    have ehi := snocF (fun x => wbit l x) X i hi
    rw [impl_WaveOf_l2.eq, bif_dec (by omega), at?_ints _ _ hi, Option.bind_some, ibit l X[i] hl hxi, bif_ndec (by rw [wrapI (by omega) (by omega)]; omega), bif_dec (by rw [hb0]; simp only [List.length_cons, List.length_nil]; omega), wrapS i (by omega), eb, bint_zero]
    cases hb : wbit l X[i] with
    | true =>
      rw [hb] at elo ehi
      rw [Bool.not_true, bif_false, bif_dec (by simp only [List.length_cons, List.length_nil, List.length_map]; omega)]
      rw [show wlo l (X.take i) = wlo l (X.take (i + 1)) by unfold wlo; rw [elo]; simp,
        show ints (whi l (X.take i)) ++ [((X[i] : Nat) : Int)] = ints (whi l (X.take (i + 1))) by
          unfold whi; rw [ehi]; exact (List.map_append (f := fun (x : Nat) => (x : Int)) (l₁ := (X.take i).filter _) (l₂ := [X[i]])).symm]
      exact ih'
    | false =>
      rw [hb] at elo ehi
      rw [Bool.not_false, bif_true, bif_dec (by simp only [List.length_cons, List.length_nil, List.length_map]; omega)]
      rw [show whi l (X.take i) = whi l (X.take (i + 1)) by unfold whi; rw [ehi]; simp,
        show ints (wlo l (X.take i)) ++ [((X[i] : Nat) : Int)] = ints (wlo l (X.take (i + 1))) by
          unfold wlo; rw [elo]; exact (List.map_append (f := fun (x : Nat) => (x : Int)) (l₁ := (X.take i).filter _) (l₂ := [X[i]])).symm]
      exact ih'
theorem implWaveOf_l3 (a : Int) (b : List Int) (c : List (Int × List Int)) (n : Int) : ∀ (d l : Nat), 9 - l = d → l ≤ 9 → ∀ (X : List Nat) (Z : List Int) (L : List (Int × List Int)), X.length ≤ 1000 → (∀ x ∈ X, x ≤ 511) → Z.length = l → L.length = l →
    impl_WaveOf_l3 l (ints X) a b c n Z L = some ((n, Z ++ ints (wLv d l X).1, L ++ LI (wLv d l X).2), true) := by
  intro d
  induction d with
  | zero =>
    intro l h1 h2 X Z L hX hx hZ hL
    rw [impl_WaveOf_l3.eq, bif_ndec (by omega)]
    simp [wLv]
  | succ d ih =>
    intro l h1 h2 X Z L hX hx hZ hL
    have hll := lohi_len l X
    have hmem : ∀ x ∈ wlo l X ++ whi l X, x ≤ 511 := fun x h => by
      rcases List.mem_append.1 h with h | h
      · exact hx x (List.mem_filter.1 h).1
      · exact hx x (List.mem_filter.1 h).1
    have h3 := implWaveOf_l4 l (by omega) X hX hx a b c n Z L (by omega) (by omega) _ 0 rfl (by omega)
    rw [impl_WaveOf_l3.eq, bif_dec (by omega), List.length_map]
    refine h3.trans ?_
    rw [ih (l + 1) (by omega) (by omega) (wlo l X ++ whi l X) _ _ (by rw [List.length_append]; omega) hmem (by rw [List.length_append, hZ]; rfl) (by rw [List.length_append, hL]; rfl), wLv]
    simp only [List.append_assoc]
    rfl
theorem implWaveOf_l0 (X : List Nat) (hX : X.length ≤ 1000) (hx : ∀ x ∈ X, x ≤ 511) (a : Int) (b : List Int) (c : List (Int × List Int)) : impl_WaveOf_l0 (ints X) a b c = some (((X.length : Int), ints (wLv 9 0 X).1, LI (wLv 9 0 X).2), true) := by
  have hll := lohi_len 0 X
  have hmem : ∀ x ∈ wlo 0 X ++ whi 0 X, x ≤ 511 := fun x h => by
    rcases List.mem_append.1 h with h | h
    · exact hx x (List.mem_filter.1 h).1
    · exact hx x (List.mem_filter.1 h).1
  have h3 := implWaveOf_l2 0 (by omega) X hX hx a b c X.length [] [] (by simp) (by simp) _ 0 rfl (by omega)
  rw [impl_WaveOf_l0.eq, impl_WaveOf_l1.eq, bif_dec (by omega), List.length_map]
  refine h3.trans ?_
  rw [implWaveOf_l3 a b c X.length 8 1 rfl (by omega) (wlo 0 X ++ whi 0 X) _ _ (by rw [List.length_append]; omega) hmem rfl rfl]
  rfl
theorem wave1_eq (n : Int) : impl_areAll_int_1_WaveOf_1 n () = some (!(decide (0 ≤ n) && decide (n ≤ 511))) := by
  rw [impl_areAll_int_1_WaveOf_1.eq, impl_WaveOf_1.eq, withinS_eq]; rfl
theorem waveAll_eq (xs : List Int) (h : xs.length < 4611686018427387904) : impl_areAll_int_WaveOf_1 xs () = some (xs.all fun x => decide (0 ≤ x) && decide (x ≤ 511)) := by
  rw [impl_areAll_int_WaveOf_1.eq, slices_ContainsFunc_int_int_areAll_int_1_WaveOf_1.eq, slices_IndexFunc_int_int_areAll_int_1_WaveOf_1.eq]
  obtain ⟨r, h1, h2⟩ := find_loop (fun n : Int => !(decide (0 ≤ n) && decide (n ≤ 511))) (fun n => impl_areAll_int_1_WaveOf_1 n ()) xs h (fun x _ => wave1_eq x) (slices_IndexFunc_int_int_areAll_int_1_WaveOf_1_l0 xs xs.length) (slices_IndexFunc_int_int_areAll_int_1_WaveOf_1_l0.eq xs xs.length)
  rw [h1]
  simp only [Option.bind_some, h2, List.any_eq_not_all_not, Bool.not_not]
theorem implWaveOf_eq (X : List Nat) (hX : X.length ≤ 1000) (hx : ∀ x ∈ X, x ≤ 511) : impl_WaveOf (ints X) = some (((X.length : Int), ints (wLv 9 0 X).1, LI (wLv 9 0 X).2), true) := by
  have hall : ((ints X).all fun x => decide (0 ≤ x) && decide (x ≤ 511)) = true := by
    refine List.all_eq_true.2 fun x h => ?_
    obtain ⟨y, hy, rfl⟩ := List.mem_map.1 h
    have := hx y hy
    rw [Bool.and_eq_true, decide_eq_true_eq, decide_eq_true_eq]; omega
  rw [impl_WaveOf.eq, List.length_map, bif_ndec (by omega), waveAll_eq _ (by rw [List.length_map]; omega), hall, Option.bind_some, Bool.not_true, bif_false]
  exact implWaveOf_l0 X hX hx 0 [] []
end Go.Ev.W
