/- What the functions come to, in plain mathematics, part 2. -/
import Derived.Test.YthhbmllipmhikaaGreatEvC
import Derived.Test.YthhbmllipmhikaaGreatPk1
import Derived.Test.YthhbmllipmhikaaGreatMmA
import Derived.Lib.SlicesCompact
import Derived.Test.YthhbmllipmhikaaGreatEvTable
import Derived.Test.YthhbmllipmhikaaGreatEvIterS
import Derived.Test.YthhbmllipmhikaaGreatEvCompact
import Derived.Test.YthhbmllipmhikaaGreatPk2
import Derived.Test.YthhbmllipmhikaaGreatPk3
/- Drawn inputs: texts, wavelet matrices, indexes: there is always something, within bounds. -/
set_option linter.unusedVariables false
set_option linter.unusedSimpArgs false
namespace Go.Ev.W
open Go.Ev
theorem ba_at (A : ByteArray) (x : Int) (h0 : 0 ≤ x) (h1 : x < A.size) : ∃ u : UInt8, at? A.data.toList x = some u := by
  have hs : A.data.toList.length = A.size := Array.length_toList
  obtain ⟨y, y1, _, _⟩ := Q1Q A.data.toList x h0 (by rw [hs]; exact h1)
  exact ⟨y, y1⟩
theorem Q0z.app {A B : List Nat} (h : Q0z A) (g : Q0z B) : Q0z (A ++ B) := fun x hx => (List.mem_append.1 hx).elim (h x) (g x)
theorem textOf_l0 (n : Nat) (hn : n ≤ 1000) (A : ByteArray) (hA : 1 ≤ A.size) : ∀ (m k : Nat) (c : Cur) (D : List Nat), QV k c → k + 3 * m < 100000000000 → D.length + 6 * m ≤ 1000000 → Q0z D →
    ∃ (D' : List Nat) (c' : Cur), QK_l0 n A m c.1 c.2.1 c.2.2 (ints D) = some (ints D', c') ∧ QV (k + 3 * m) c' ∧ D'.length ≤ n ∧ Q0z D' := by
  intro m
  induction m with
  | zero =>
    intro k c D h hk hl hD
    rw [QK_l0.eq, Q3 (by omega), Q8]
    by_cases hlt : (D.length : Int) > n
    · rw [Q2 hlt, Q2 (by omega), Int.toNat_natCast, Nat.sub_zero, Q3a]
      exact ⟨D.take n, c, rfl, h, by rw [List.length_take]; omega, fun x hx => hD x (List.mem_of_mem_take hx)⟩
    · rw [Q3 hlt]
      exact ⟨D, c, rfl, h, by omega, hD⟩
  | succ m ih =>
    intro k c D h hk hl hD
    have letter : ∀ (k' : Nat) (c' : Cur), QV k' c' → k' ≤ k + 1 → ∃ (D' : List Nat) (c2 : Cur), ((Q9 (c'.1, c'.2.1, c'.2.2) (A.size : Int)).bind fun y6 =>
        (at? A.data.toList y6.1).bind fun y7 =>
        bif decide (((ints D).length + ([(y7.toNat : Int)] : List Int).length) * 1 ≤ 140737488355328) then
          QK_l0 n A m y6.2.1 y6.2.2.1 y6.2.2.2 (ints D ++ ([(y7.toNat : Int)] : List Int))
        else
          none) = some (ints D', c2) ∧ QV (k + 3 * (m + 1)) c2 ∧ D'.length ≤ n ∧ Q0z D' := by
      intro k' c' h' hk'
      obtain ⟨x, c1, e1, g1, a1, b1⟩ := QW h' (by omega) (A.size : Int)
      obtain ⟨u, hu⟩ := ba_at A x a1 (by omega)
      have hu2 : u.toNat < 256 := u.toNat_lt
      simp only [Q1B, e1, Option.bind_some, hu]
      rw [Q2 (by rw [Q8]; simp only [List.length_cons, List.length_nil]; omega), Q2k]
      obtain ⟨D', c2, e2, g2, l2, b2⟩ := ih (k' + 1) c1 (D ++ [u.toNat]) g1 (by omega) (by simp only [List.length_append, List.length_cons, List.length_nil]; omega) (hD.app fun x hx => by rw [List.mem_singleton.1 hx]; exact hu2)
      exact ⟨D', c2, e2, g2.mono (by omega), l2, b2⟩
    rw [QK_l0.eq, Q2 (by omega)]
    have em : IntKind.i64.wrap (((m + 1 : Nat) : Int) - 1) = m := by rw [Qb (by omega) (by omega)]; omega
    simp only [em]
    by_cases h3 : ((ints D).length : Int) > 3
    · rw [Q2 h3]
      rw [Q8] at h3
      obtain ⟨b, c1, e1, g1⟩ := once_ok h (by omega) 6
      simp only [Q1B, e1, Option.bind_some]
      cases b with
      | false =>
        rw [Qd]
        exact letter (k + 1) c1 g1 (by omega)
      | true =>
        rw [Qu]
        obtain ⟨x2, c2, e2, g2, a2, b2⟩ := QW g1 (by omega) ((ints D).length : Int)
        obtain ⟨x3, c3, e3, g3, a3, b3⟩ := QW g2 (by omega) 6
        simp only [Q1B, e2, e3, Option.bind_some]
        rw [Q8] at b2
        rw [Qb (x := x2 + 1) (by omega) (by omega), Qb (x := x2 + 1 + x3) (by omega) (by omega)]
        obtain ⟨t, ht⟩ : ∃ t, t = (if x2 + 1 + x3 < ((ints D).length : Int) then x2 + 1 + x3 else ((ints D).length : Int)) := ⟨_, rfl⟩
        rw [← ht]
        have ht2 : x2 ≤ t ∧ t ≤ (D.length : Int) ∧ t ≤ x2 + 6 := by
          rw [Q8] at ht
          rw [ht]; split <;> omega
        have hsub : ((ints D).drop x2.toNat).take (t.toNat - x2.toNat) = ints ((D.drop x2.toNat).take (t.toNat - x2.toNat)) := by rw [ints_dropN, Q3a]
        have hsl : ((D.drop x2.toNat).take (t.toNat - x2.toNat)).length ≤ 6 := by rw [List.length_take]; omega
        rw [Q8, Q2 (by omega), Q2 (by omega), hsub, Q8, Q2 (by omega), show ints D ++ ints ((D.drop x2.toNat).take (t.toNat - x2.toNat)) = ints (D ++ (D.drop x2.toNat).take (t.toNat - x2.toNat)) from List.map_append.symm]
        obtain ⟨D', c4, e4, g4, l4, b4⟩ := ih (k + 3) c3 (D ++ (D.drop x2.toNat).take (t.toNat - x2.toNat)) g3 (by omega) (by rw [List.length_append]; omega) (hD.app fun x hx => hD x (List.mem_of_mem_drop (List.mem_of_mem_take hx)))
        exact ⟨D', c4, e4, g4.mono (by omega), l4, b4⟩
    · rw [Q3 h3]
      exact letter k c h (by omega)
theorem textOf_ok {k : Nat} {c : Cur} (h : QV k c) (hk : k < 10000000000) (n : Nat) (hn : n ≤ 100) : ∃ (D : List Nat) (c' : Cur), QK c n = some (ints D, c') ∧ QV (k + 1000) c' ∧ D.length ≤ n ∧ Q0z D := by
  obtain ⟨x1, c1, e1, g1, a1, b1⟩ := QW h (by omega) 5
  obtain ⟨y, y1, y2, y3⟩ := Q1Q ([(⟨#[97]⟩ : ByteArray), (⟨#[97, 98]⟩ : ByteArray), (⟨#[97, 98, 99]⟩ : ByteArray), (⟨#[97, 99, 103, 116]⟩ : ByteArray), (⟨#[0, 255]⟩ : ByteArray)] : List ByteArray) x1 a1 (by simp; omega)
  obtain ⟨x2, c2, e2, g2, a2, b2⟩ := size_ok g1 (by omega) n (by omega) (by omega)
  obtain ⟨m, rfl⟩ : ∃ m : Nat, x2 = m := ⟨x2.toNat, by omega⟩
  have hA : 1 ≤ y.size := by
    simp only [List.mem_cons, List.not_mem_nil, or_false] at y3
    rcases y3 with rfl | rfl | rfl | rfl | rfl <;> decide
  rw [QK.eq]
  simp only [Q1B, e1, Option.bind_some, y1, y2, e2]
  obtain ⟨D, c3, e3, g3, l3, b3⟩ := textOf_l0 n (by omega) y hA m (k + 2) c2 [] g2 (by omega) (by simp; omega) (fun x hx => by cases hx)
  exact ⟨D, c3, e3, g3.mono (by omega), l3, b3⟩
theorem rate_ok {k : Nat} {c : Cur} (h : QV k c) (hk : k < 10000000000) : ∃ (r : Nat) (c' : Cur), Q0K c = some ((r : Int), c') ∧ QV (k + 1) c' ∧ 1 ≤ r ∧ r ≤ 64 := by
  obtain ⟨x1, c1, e1, g1, a1, b1⟩ := QW h (by omega) 5
  obtain ⟨y, y1, y2, y3⟩ := Q1Q ([1, 2, 3, 8, 64] : List Int) x1 a1 (by simp; omega)
  have hy : 1 ≤ y ∧ y ≤ 64 := by simp only [List.mem_cons, List.not_mem_nil, or_false] at y3; omega
  obtain ⟨r, rfl⟩ : ∃ r : Nat, y = r := ⟨y.toNat, by omega⟩
  rw [Q0K.eq]
  simp only [Q1B, e1, Option.bind_some, y1, y2]
  exact ⟨r, c1, rfl, g1, by omega, by omega⟩
def LvIn (L : List (Int × List Nat)) : Prop := L.length ≤ 9 ∧ ∀ p ∈ L, p.2.length ≤ 80 ∧ ∀ x ∈ p.2, x < 2 ^ 64
theorem wave_l0 {k : Nat} {c : Cur} (h : QV k c) (hk : k < 1000000000) (v3 : Int) (v4 : List Int) (v5 : Lv) (X : List Nat) (hX : X.length ≤ 100) (hx : ∀ x ∈ X, x ≤ 511) :
    ∃ (n : Int) (Z : List Int) (L : List (Int × List Nat)) (c' : Cur), Q0f_l0 c.1 c.2.1 c.2.2 v3 v4 v5 (ints X) = some ((n, Z, LI L), c') ∧ QV (k + 20000) c' ∧ Z.length ≤ 10 ∧ LvIn L := by
  have hlen := wLv_len 9 0 X
  have hZ : (ints (wLv 9 0 X).1).length = 9 := by rw [Q8]; exact hlen.1
  have hLl : (LI (wLv 9 0 X).2).length = 9 := (List.length_map ..).trans hlen.2
  have hin : LvIn (wLv 9 0 X).2 := ⟨by omega, fun p hp => ⟨by rw [Q39 9 0 X p hp]; unfold nw; omega, Q2S X 9 0 X p hp⟩⟩
  obtain ⟨x1, c1, e1, g1, a1, b1⟩ := QW h (by omega) 14
  rw [Q0f_l0.eq, Q3y X (by omega) hx]
  simp only [Q1B, e1, Option.bind_some]
  by_cases q0 : x1 = 0
  · rw [Q07 q0]
    obtain ⟨x2, c2, e2, g2, _⟩ := QW g1 (by omega) 3
    simp only [e2, Option.bind_some]
    exact ⟨_, _, _, c2, rfl, g2.mono (by omega), by omega, hin⟩
  rw [Q0a q0]
  by_cases q1 : x1 = 1
  · rw [Q07 q1]
    obtain ⟨x2, c2, e2, g2, a2, b2⟩ := QW g1 (by omega) 9
    obtain ⟨x3, c3, e3, g3, _⟩ := raw_ok g2 (by omega)
    obtain ⟨y, y1, y2, y3⟩ := Q1Q (ints (wLv 9 0 X).1) x2 a2 (by omega)
    simp only [e2, e3, Option.bind_some, y1, y2]
    exact ⟨_, _, _, c3, rfl, g3.mono (by omega), by rw [List.length_set]; omega, hin⟩
  rw [Q0a q1]
  by_cases q2 : x1 = 2
  · rw [Q07 q2]
    obtain ⟨x2, c2, e2, g2, a2, b2⟩ := QW g1 (by omega) 9
    obtain ⟨n, W, c3, e3, g3, l3, w3⟩ := Q3Y g2 (by omega)
    obtain ⟨y, y1, y2, y3⟩ := Q1Q (LI (wLv 9 0 X).2) x2 a2 (by omega)
    simp only [e2, e3, Option.bind_some, y1, y2]
    refine ⟨(X.length : Int), ints (wLv 9 0 X).1, (wLv 9 0 X).2.set x2.toNat (n, W), c3, ?_, g3.mono (by omega), by omega, by rw [List.length_set]; omega, fun p hp => ?_⟩
    · have : (LI (wLv 9 0 X).2).set x2.toNat (n, ints W) = LI ((wLv 9 0 X).2.set x2.toNat (n, W)) := (List.map_set (f := fun p : Int × List Nat => (p.1, ints p.2)) (l := (wLv 9 0 X).2) (i := x2.toNat) (a := (n, W))).symm
      rw [this]
    · rcases List.mem_or_eq_of_mem_set hp with hp | hp
      · exact hin.2 p hp
      · rw [hp]; exact ⟨l3, w3⟩
  rw [Q0a q2]
  by_cases q3 : x1 = 3
  · rw [Q07 q3]
    obtain ⟨x2, c2, e2, g2, a2, b2⟩ := QW g1 (by omega) 9
    simp only [e2, Option.bind_some]
    rw [Q2 (by omega)]
    refine ⟨(X.length : Int), ints (wLv 9 0 X).1, (wLv 9 0 X).2.take (x2.toNat - 0), c2, ?_, g2.mono (by omega), by omega, by rw [List.length_take]; omega, fun p hp => hin.2 p (List.mem_of_mem_take hp)⟩
    have : (LI (wLv 9 0 X).2).take (x2.toNat - 0) = LI ((wLv 9 0 X).2.take (x2.toNat - 0)) := (List.map_take).symm
    rw [this]
  rw [Q0a q3]
  by_cases q4 : x1 = 4
  · rw [Q07 q4, hZ, Q2 (by simp only [List.length_cons, List.length_nil]; omega)]
    exact ⟨_, _, _, c1, rfl, g1.mono (by omega), by rw [List.length_append, hZ]; simp, hin⟩
  · rw [Q0a q4]
    exact ⟨_, _, _, c1, rfl, g1.mono (by omega), by omega, hin⟩
theorem wave_ok {k : Nat} {c : Cur} (h : QV k c) (hk : k < 100000000) : ∃ (n : Int) (Z : List Int) (L : List (Int × List Nat)) (c' : Cur), Q0f c = some ((n, Z, LI L), c') ∧ QV (k + 4000000) c' ∧ Z.length ≤ 10 ∧ LvIn L := by
  obtain ⟨x1, c1, e1, g1, a1, b1⟩ := QW h (by omega) 3
  obtain ⟨y, y1, y2, y3⟩ := Q1Q ([3, 100, 512] : List Int) x1 a1 (by simp; omega)
  have hy : 1 ≤ y ∧ y ≤ 512 := by simp only [List.mem_cons, List.not_mem_nil, or_false] at y3; omega
  obtain ⟨X, c2, e2, g2, l2, x2⟩ := nums_ok g1 (by omega) 24 (by omega) y
  obtain ⟨b, c3, e3, g3⟩ := once_ok g2 (by omega) 3
  have e2' : Q06 c1 24 y = some (ints X, c2) := e2
  rw [Q0f.eq]
  simp only [Q1B, e1, Option.bind_some, y1, y2, e2', e3]
  cases b with
  | false =>
    rw [Qd]
    obtain ⟨n, Z, L, c4, e4, g4, h4⟩ := wave_l0 g3 (by omega) 0 [] [] X (by omega) (fun x hx => by have := x2 x hx; omega)
    exact ⟨n, Z, L, c4, e4, g4.mono (by omega), h4⟩
  | true =>
    rw [Qu]
    obtain ⟨D, c4, e4, g4, l4, b4⟩ := textOf_ok g3 (by omega) 24 (by omega)
    have e4' : QK c3 24 = some (ints D, c4) := e4
    simp only [e4', Option.bind_some]
    rw [Q2n D (by omega) b4, Option.bind_some]
    obtain ⟨n, Z, L, c5, e5, g5, h5⟩ := wave_l0 g4 (by omega) 0 [] [] (bwt D) (by rw [Q1x]; omega) (fun x hx => by have := bwt_le D b4 x hx; omega)
    exact ⟨n, Z, L, c5, e5, g5.mono (by omega), h5⟩
def FmIn (f : FmT) : Prop := SmFm f 1048576 ∧ ∀ p ∈ f.2.2.2.2.1, ∀ x ∈ p.2, 0 ≤ x ∧ x < ((2 ^ 64 : Nat) : Int)
theorem LvIn.words {L : List (Int × List Nat)} (h : LvIn L) : (LI L).length ≤ 9 ∧ (∀ p ∈ LI L, p.2.length ≤ 80) ∧ ∀ p ∈ LI L, ∀ x ∈ p.2, 0 ≤ x ∧ x < ((2 ^ 64 : Nat) : Int) := by
  refine ⟨by rw [List.length_map]; exact h.1, fun p hp => ?_, fun p hp x hx => ?_⟩
  · obtain ⟨q, hq, rfl⟩ := List.mem_map.1 hp
    rw [Q8]; exact (h.2 q hq).1
  · obtain ⟨q, hq, rfl⟩ := List.mem_map.1 hp
    obtain ⟨y, hy, rfl⟩ := List.mem_map.1 hx
    have := (h.2 q hq).2 y hy
    omega
theorem fm_ok {k : Nat} {c : Cur} (h : QV k c) (hk : k < 10000000) : ∃ (f : FmT) (c' : Cur), Q1b c = some (f, c') ∧ QV (k + 5000000) c' ∧ FmIn f := by
  obtain ⟨D, c1, e1, g1, l1, b1⟩ := textOf_ok h (by omega) 24 (by omega)
  have e1' : QK c 24 = some (ints D, c1) := e1
  obtain ⟨r, c2, e2, g2, r1, r2⟩ := rate_ok g1 (by omega)
  have e3 := Q3l D (by omega) b1 r (by omega) r2
  obtain ⟨x, c4, e4, g4, a4, b4⟩ := QW g2 (by omega) 16
  have hs := Q3o D (by omega) r
  have hw := fmV_words D r
  have hC : (fmV D r).2.2.2.2.2.1.length = 258 := by show (ints _).length = _; rw [Q8, List.length_map, List.length_range]
  obtain ⟨f, hf⟩ : ∃ f, f = fmV D r := ⟨_, rfl⟩
  rw [← hf] at e3 hs hw hC
  obtain ⟨z, l, w, cc, m, s, i⟩ := hs
  rw [Q1b.eq]
  simp only [Q1B, e1', Option.bind_some, e2, e3, e4]
  by_cases q0 : x = 0
  · rw [Q07 q0]
    obtain ⟨x5, c5, e5, g5, _⟩ := QW g4 (by omega) 3
    simp only [e5, Option.bind_some]
    exact ⟨_, c5, rfl, g5.mono (by omega), ⟨by simp only; omega, by simp only; omega, fun p hp => by have := w p hp; omega, by simp only; omega, by simp only; omega, by simp only; omega, by simp only; omega⟩, hw⟩
  rw [Q0a q0]
  by_cases q1 : x = 1
  · rw [Q07 q1]
    obtain ⟨x5, c5, e5, g5, _⟩ := raw_ok g4 (by omega)
    obtain ⟨x6, c6, e6, g6, a6, b6⟩ := QW g5 (by omega) 4
    obtain ⟨y, y1, y2, y3⟩ := Q1Q ([x5, 64, 65, 2] : List Int) x6 a6 (by simp; omega)
    simp only [e5, e6, Option.bind_some, y1, y2]
    exact ⟨_, c6, rfl, g6.mono (by omega), ⟨by simp only; omega, by simp only; omega, fun p hp => by have := w p hp; omega, by simp only; omega, by simp only; omega, by simp only; omega, by simp only; omega⟩, hw⟩
  rw [Q0a q1]
  by_cases q2 : x = 2
  · rw [Q07 q2]
    obtain ⟨n, Z, L, c5, e5, g5, hZ, hL⟩ := wave_ok g4 (by omega)
    obtain ⟨k1, k2, k3⟩ := hL.words
    simp only [e5, Option.bind_some]
    exact ⟨_, c5, rfl, g5.mono (by omega), ⟨by simp only; omega, by simp only; omega, fun p hp => by have := k2 p hp; omega, by simp only; omega, by simp only; omega, by simp only; omega, by simp only; omega⟩, k3⟩
  rw [Q0a q2]
  by_cases q3 : x = 3
  · rw [Q07 q3]
    obtain ⟨x5, c5, e5, g5, a5, b5⟩ := QW g4 (by omega) 250
    obtain ⟨x6, c6, e6, g6, _⟩ := raw_ok g5 (by omega)
    obtain ⟨y, y1, y2, y3⟩ := Q1Q f.2.2.2.2.2.1 x5 a5 (by omega)
    simp only [e5, e6, Option.bind_some, y1, y2]
    exact ⟨_, c6, rfl, g6.mono (by omega), ⟨by simp only; omega, by simp only; omega, fun p hp => by have := w p hp; omega, by simp only [List.length_set]; omega, by simp only; omega, by simp only; omega, by simp only; omega⟩, hw⟩
  rw [Q0a q3]
  by_cases q4 : x = 4
  · rw [Q07 q4]
    obtain ⟨n, W, c5, e5, g5, l5, _⟩ := Q3Y g4 (by omega)
    simp only [e5, Option.bind_some]
    have hl : (ints W).length ≤ 80 := by rw [Q8]; exact l5
    exact ⟨_, c5, rfl, g5.mono (by omega), ⟨by simp only; omega, by simp only; omega, fun p hp => by have := w p hp; omega, by simp only; omega, by simp only; omega, by simp only; omega, by simp only; omega⟩, hw⟩
  rw [Q0a q4]
  by_cases q5 : x = 5
  · rw [Q07 q5]
    obtain ⟨u, n, b, W, c5, e5, g5, l5, _⟩ := badPacked_ok g4 (by omega)
    simp only [e5, Option.bind_some]
    have hl : (ints W).length ≤ 80 := by rw [Q8]; exact l5
    exact ⟨_, c5, rfl, g5.mono (by omega), ⟨by simp only; omega, by simp only; omega, fun p hp => by have := w p hp; omega, by simp only; omega, by simp only; omega, by simp only; omega, by simp only; omega⟩, hw⟩
  rw [Q0a q5]
  by_cases q6 : x = 6
  · rw [Q07 q6]
    exact ⟨_, c4, rfl, g4.mono (by omega), ⟨by simp only; omega, by simp only; omega, fun p hp => by have := w p hp; omega, by simp only; omega, by simp only; omega, by simp only; omega, by simp only; omega⟩, hw⟩
  · rw [Q0a q6]
    exact ⟨_, c4, rfl, g4.mono (by omega), ⟨by omega, by omega, fun p hp => by have := w p hp; omega, by omega, by omega, by omega, by omega⟩, hw⟩
theorem place_ok {k : Nat} {c : Cur} (h : QV k c) (hk : k < 1000000000) (n : Int) (h0 : 0 ≤ n) (h1 : n ≤ 1000000) : ∃ (x : Int) (c' : Cur), Q1e c n = some (x, c') ∧ QV (k + 5) c' := by
  rw [Q1e.eq]
  obtain ⟨x1, c1, e1, g1, _⟩ := QW h (by omega) (if IntKind.i64.wrap (n + (2 : Int)) > (1 : Int) then IntKind.i64.wrap (n + (2 : Int)) else (1 : Int))
  obtain ⟨x2, c2, e2, g2, _⟩ := raw_ok g1 (by omega)
  obtain ⟨x3, c3, e3, g3, _⟩ := QW g2 (by omega) (if n > (1 : Int) then n else (1 : Int))
  obtain ⟨x4, c4, e4, g4, a4, b4⟩ := QW g3 (by omega) 5
  obtain ⟨y, y1, y2, y3⟩ := Q1Q ([x1, n, IntKind.i64.wrap (n - (1 : Int)), x2, x3] : List Int) x4 a4 (by simp; omega)
  simp only [Q1B, e1, e2, e3, e4, Option.bind_some, y1, y2]
  exact ⟨y, c4, rfl, g4.mono (by omega)⟩
theorem bigD_eq (xs : List Int) : Q14 xs = some (decide ((xs.length : Int) > 1048576)) := Q14.eq xs
theorem codeD_bytes {xs : List Int} (h : AllP (α := Tup [CT.int .u8]) (allL (goodC 4) [CT.int .u8]) xs) (hl : ¬ (xs.length : Int) > 1048576) : Bytes xs := by
  refine ⟨by omega, fun x hx => ?_⟩
  have := h.2 x hx
  have : (Lit.int .u8 x).wf = true := this
  simp only [Lit.wf, Bool.and_eq_true, decide_eq_true_eq] at this
  exact this
end Go.Ev.W
/- Drawn inputs: two texts alike, depths, budgets. -/
set_option linter.unusedVariables false
set_option linter.unusedSimpArgs false
namespace Go.Ev.W
open Go.Ev
theorem twin_l1 (n : Nat) (c : Cur) (R T : List Nat) (hT : Q0z T) : ∃ T', QX_l1 n c.1 c.2.1 c.2.2 (ints R) (ints T) = some (ints R, ints T', c) ∧ T'.length ≤ n ∧ Q0z T' := by
  rw [QX_l1.eq, Q8]
  by_cases h : (T.length : Int) > n
  · rw [Q2 h, Q2 (by omega), Int.toNat_natCast, Nat.sub_zero, Q3a]
    exact ⟨T.take n, rfl, by rw [List.length_take]; omega, fun x hx => hT x (List.mem_of_mem_take hx)⟩
  · rw [Q3 h]
    exact ⟨T, rfl, by omega, hT⟩
theorem twin_l0 (n : Nat) (hn : n ≤ 100) (R : List Nat) : ∀ (m k : Nat) (c : Cur) (T : List Nat), QV k c → k + 3 * m + 2000 < 10000000000 → T.length + 2 * m ≤ 1000 → m ≤ 10 → Q0z T →
    ∃ (T' : List Nat) (c' : Cur), QX_l0 n m c.1 c.2.1 c.2.2 (ints R) (ints T) = some (ints R, ints T', c') ∧ QV (k + 3 * m + 2000) c' ∧ T'.length ≤ n ∧ Q0z T' := by
  intro m
  induction m with
  | zero =>
    intro k c T h hk hl _ hT
    rw [QX_l0.eq, Q3 (by omega)]
    obtain ⟨b, c1, e1, g1⟩ := once_ok h (by omega) 6
    simp only [Q1B, e1, Option.bind_some]
    cases b with
    | true =>
      rw [Qu]
      obtain ⟨D, c2, e2, g2, l2, b2⟩ := textOf_ok g1 (by omega) n hn
      simp only [e2, Option.bind_some]
      obtain ⟨T', e3, l3, b3⟩ := twin_l1 n c2 R D b2
      exact ⟨T', c2, e3, g2.mono (by omega), l3, b3⟩
    | false =>
      rw [Qd]
      obtain ⟨T', e3, l3, b3⟩ := twin_l1 n c1 R T hT
      exact ⟨T', c1, e3, g1.mono (by omega), l3, b3⟩
  | succ m ih =>
    intro k c T h hk hl hm hT
    rw [QX_l0.eq, Q2 (by omega), Q8, Q6 _ (by omega)]
    obtain ⟨x1, c1, e1, g1, a1, b1⟩ := QW h (by omega) ((T.length + 1 : Nat) : Int)
    obtain ⟨x2, c2, e2, g2, a2, b2⟩ := QW g1 (by omega) 4
    obtain ⟨y, y1, y2, y3⟩ := Q1Q ([(⟨#[]⟩ : ByteArray), (⟨#[97]⟩ : ByteArray), (⟨#[98]⟩ : ByteArray), (⟨#[122, 122]⟩ : ByteArray)] : List ByteArray) x2 a2 (by simp; omega)
    obtain ⟨x3, c3, e3, g3, a3, b3⟩ := QW g2 (by omega) 3
    obtain ⟨i, rfl⟩ : ∃ i : Nat, x1 = i := ⟨x1.toNat, by omega⟩
    obtain ⟨B, hB, lB, bB⟩ : ∃ B : List Nat, (y.data.toList.map fun b => (b.toNat : Int)) = ints B ∧ B.length ≤ 2 ∧ Q0z B := by
      refine ⟨y.data.toList.map UInt8.toNat, by simp [ints, List.map_map, Function.comp_def], ?_, fun x hx => ?_⟩
      · rw [List.length_map]
        simp only [List.mem_cons, List.not_mem_nil, or_false] at y3
        rcases y3 with rfl | rfl | rfl | rfl <;> decide
      · obtain ⟨u, _, rfl⟩ := List.mem_map.1 hx
        exact u.toNat_lt
    have hi : i ≤ T.length := by omega
    have ht : (if IntKind.i64.wrap ((i : Int) + x3) < (T.length : Int) then IntKind.i64.wrap ((i : Int) + x3) else (T.length : Int)) = ((min T.length (i + x3.toNat) : Nat) : Int) := by
      rw [Qb (by omega) (by omega)]; split <;> omega
    have em : IntKind.i64.wrap (((m + 1 : Nat) : Int) - 1) = m := by rw [Qb (by omega) (by omega)]; omega
    have hdr : ((ints T).drop (min T.length (i + x3.toNat))).take (T.length - min T.length (i + x3.toNat)) = ints (T.drop (min T.length (i + x3.toNat))) := by
      rw [ints_dropN, List.take_of_length_le (by rw [Q8, List.length_drop]; omega)]
    have htk : [] ++ ((ints T).drop 0).take (i - 0) = ints (T.take i) := by rw [List.nil_append, List.drop_zero, Nat.sub_zero, Q3a]
    have l1 : (T.take i).length ≤ i := by rw [List.length_take]; omega
    have l2 : (T.drop (min T.length (i + x3.toNat))).length ≤ T.length - i := by rw [List.length_drop]; omega
    simp only [Q1B, e1, e2, Option.bind_some, y1, y2, Int.toNat_natCast, hB, e3, ht, hdr, htk, em]
    rw [Q2 (by omega), Q2 (by simp only [List.length_nil, List.length_take, List.length_drop, List.length_map]; omega), Q2 (by simp only [Q8]; omega), Q2 (by omega)]
    rw [show ints (T.take i) ++ ints B = ints (T.take i ++ B) from List.map_append.symm, show ints (T.take i ++ B) ++ ints (T.drop (min T.length (i + x3.toNat))) = ints (T.take i ++ B ++ T.drop (min T.length (i + x3.toNat))) from List.map_append.symm]
    rw [Q2 (by simp only [Q8, List.length_append]; omega)]
    obtain ⟨T', c4, e4, g4, l4, b4⟩ := ih (k + 3) c3 (T.take i ++ B ++ T.drop (min T.length (i + x3.toNat))) g3 (by omega) (by simp only [List.length_append]; omega) (by omega)
      (((show Q0z (T.take i) from fun x hx => hT x (List.mem_of_mem_take hx)).app bB).app fun x hx => hT x (List.mem_of_mem_drop hx))
    exact ⟨T', c4, e4, g4.mono (by omega), l4, b4⟩
theorem twin_ok {k : Nat} {c : Cur} (h : QV k c) (hk : k < 1000000000) : ∃ (R T : List Nat) (c' : Cur), QX c 20 = some (ints R, ints T, c') ∧ QV (k + 4000) c' ∧ R.length ≤ 20 ∧ T.length ≤ 20 ∧ Q0z R ∧ Q0z T := by
  obtain ⟨R, c1, e1, g1, l1, b1⟩ := textOf_ok h (by omega) 20 (by omega)
  have e1' : QK c 20 = some (ints R, c1) := e1
  obtain ⟨x, c2, e2, g2, a2, b2⟩ := QW g1 (by omega) 4
  obtain ⟨m, rfl⟩ : ∃ m : Nat, x = m := ⟨x.toNat, by omega⟩
  obtain ⟨T, c3, e3, g3, l3, b3⟩ := twin_l0 20 (by omega) R m (k + 1000 + 1) c2 R g2 (by omega) (by omega) (by omega) b1
  rw [QX.eq]
  simp only [e1', Option.bind_some]
  rw [Q2 (by rw [Q8]; simp only [List.length_nil]; omega), List.nil_append]
  simp only [e2, Option.bind_some]
  exact ⟨R, T, c3, e3, g3.mono (by omega), l1, l3, b1, b3⟩
theorem fmV_in (D : List Nat) (hD : D.length ≤ 300) (r : Nat) : FmIn (fmV D r) := by
  obtain ⟨z, l, w, cc, m, s, i⟩ := Q3o D hD r
  exact ⟨⟨by omega, by omega, fun p hp => by have := w p hp; omega, by omega, by omega, by omega, by omega⟩, fmV_words D r⟩
end Go.Ev.W
/- Heads of rows: sorted, without doubles; spans. -/
set_option linter.unusedVariables false
set_option linter.unusedSimpArgs false
namespace Go.Ev.W
open Go.Ev
abbrev Ls := List (List Nat)
def ltN (x y : List Nat) : Prop := cmpN x y < 0
def leN (x y : List Nat) : Prop := cmpN x y ≤ 0
theorem le_lt {x y z : List Nat} (h1 : leN x y) (h2 : ltN y z) : ltN x z := by
  unfold leN ltN at *
  rcases Int.lt_or_eq_of_le h1 with h | h
  · exact Q3Q h h2
  · rw [cmpN_eq x y h]; exact h2
def ins (x : List Nat) : Ls → Ls
  | [] => [x]
  | v :: V => if cmpN v x < 0 then v :: ins x V else if cmpN v x = 0 then v :: V else x :: v :: V
theorem ins_mem (x y : List Nat) : ∀ V : Ls, y ∈ ins x V ↔ y = x ∨ y ∈ V
  | [] => by simp [ins]
  | v :: V => by
    unfold ins
    by_cases h1 : cmpN v x < 0
    · rw [if_pos h1, List.mem_cons, ins_mem x y V, List.mem_cons]
      exact or_left_comm
    · by_cases h2 : cmpN v x = 0
      · rw [if_neg h1, if_pos h2, List.mem_cons]
        have := cmpN_eq v x h2
        subst this
        exact ⟨fun h => .inr h, fun h => h.elim (fun h => .inl h) id⟩
      · rw [if_neg h1, if_neg h2, List.mem_cons]
theorem ins_sorted (x : List Nat) : ∀ V : Ls, V.Pairwise ltN → (ins x V).Pairwise ltN
  | [], _ => by simp [ins]
  | v :: V, h => by
    obtain ⟨p, q⟩ := List.pairwise_cons.1 h
    unfold ins
    by_cases h1 : cmpN v x < 0
    · rw [if_pos h1]
      refine List.pairwise_cons.2 ⟨fun y hy => ?_, ins_sorted x V q⟩
      rcases (ins_mem x y V).1 hy with h3 | h3
      · rw [h3]; exact h1
      · exact p y h3
    · by_cases h2 : cmpN v x = 0
      · rw [if_neg h1, if_pos h2]; exact h
      · rw [if_neg h1, if_neg h2]
        have hx : ltN x v := by have := Q2r v x; unfold ltN; omega
        refine List.pairwise_cons.2 ⟨fun y hy => ?_, h⟩
        rcases List.mem_cons.1 hy with h3 | h3
        · rw [h3]; exact hx
        · exact Q3Q hx (p y h3)
theorem ins_len (x : List Nat) : ∀ V : Ls, (ins x V).length ≤ V.length + 1
  | [] => by simp [ins]
  | v :: V => by
    have := ins_len x V
    unfold ins
    split
    · simp only [List.length_cons]; omega
    · split <;> simp
def words (L : Ls) : Ls := L.foldl (fun V x => ins x V) []
theorem words_aux : ∀ (L V : Ls), V.Pairwise ltN → (L.foldl (fun V x => ins x V) V).Pairwise ltN ∧ ∀ y, y ∈ L.foldl (fun V x => ins x V) V ↔ y ∈ L ∨ y ∈ V
  | [], V, h => ⟨h, fun y => by simp⟩
  | x :: L, V, h => by
    obtain ⟨h1, h2⟩ := words_aux L (ins x V) (ins_sorted x V h)
    refine ⟨h1, fun y => (h2 y).trans ?_⟩
    rw [ins_mem, List.mem_cons]
    constructor
    · rintro (h | h | h)
      · exact .inl (.inr h)
      · exact .inl (.inl h)
      · exact .inr h
    · rintro ((h | h) | h)
      · exact .inr (.inl h)
      · exact .inl h
      · exact .inr (.inr h)
theorem words_sorted (L : Ls) : (words L).Pairwise ltN := (words_aux L [] .nil).1
theorem words_mem (L : Ls) (y : List Nat) : y ∈ words L ↔ y ∈ L := ((words_aux L [] .nil).2 y).trans (by simp)
theorem words_len (L : Ls) : (words L).length ≤ L.length := by
  have key : ∀ (L V : Ls), (L.foldl (fun V x => ins x V) V).length ≤ V.length + L.length := by
    intro L
    induction L with
    | nil => intro V; simp
    | cons x L ih =>
      intro V
      have := ih (ins x V)
      have := ins_len x V
      simp only [List.foldl_cons, List.length_cons]; omega
  have := key L []
  rw [List.length_nil, Nat.zero_add] at this
  exact this
def hd (D : List Nat) (d : Nat) : Ls := (srt D).map fun i => (D.drop i).take d
theorem hd_len (D : List Nat) (d : Nat) : (hd D d).length = D.length + 1 := by
  unfold hd
  rw [List.length_map, (Q2s D).length (by omega), Nat.sub_zero]
theorem hd_byte (D : List Nat) (hD : Q0z D) (d : Nat) : ∀ w ∈ hd D d, Q0z w ∧ w.length ≤ d := fun w hw => by
  unfold hd at hw
  obtain ⟨i, _, rfl⟩ := List.mem_map.1 hw
  exact ⟨(hD.drop i).take d, by rw [List.length_take]; omega⟩
def spLo (H : Ls) (w : List Nat) : Nat := (H.filter fun x => decide (cmpN x w < 0)).length
def spHi (H : Ls) (w : List Nat) : Nat := (H.filter fun x => decide (cmpN x w ≤ 0)).length
theorem filt_le {P Q : List Nat → Bool} (h : ∀ x, P x = true → Q x = true) : ∀ H : Ls, (H.filter P).length ≤ (H.filter Q).length
  | [] => by simp
  | x :: H => by
    have ih := filt_le h H
    rw [List.filter_cons, List.filter_cons]
    by_cases hp : P x = true
    · rw [if_pos hp, if_pos (h x hp), List.length_cons, List.length_cons]; omega
    · rw [if_neg hp]
      split
      · rw [List.length_cons]; omega
      · exact ih
theorem sp_le (H : Ls) (w : List Nat) : spLo H w ≤ spHi H w := filt_le (fun x h => by simp only [decide_eq_true_eq] at h ⊢; omega) H
theorem sp_len (H : Ls) (w : List Nat) : spHi H w ≤ H.length := List.length_filter_le _ _
theorem sp_next (H : Ls) {v w : List Nat} (h : ltN v w) : spHi H v ≤ spLo H w := filt_le (fun x hx => by simp only [decide_eq_true_eq] at hx ⊢; exact le_lt hx h) H
end Go.Ev.W
/- The longest common subsequence: its length, the first one; both functions give it. -/
set_option linter.unusedVariables false
set_option linter.unusedSimpArgs false
namespace Go.Ev.W
open Go.Ev
def lc : List Int → List Int → Nat
  | [], _ => 0
  | _ :: _, [] => 0
  | x :: xs, y :: ys => if x = y then lc xs ys + 1 else max (lc xs (y :: ys)) (lc (x :: xs) ys)
termination_by xs ys => xs.length + ys.length
theorem lc_nil (X : List Int) : lc X [] = 0 := by cases X <;> simp [lc]
theorem lc_cons (x y : Int) (xs ys : List Int) : lc (x :: xs) (y :: ys) = if x = y then lc xs ys + 1 else max (lc xs (y :: ys)) (lc (x :: xs) ys) := by rw [lc]
theorem mx {a b m : Nat} (h : m = max a b) : a ≤ m ∧ b ≤ m ∧ (m = a ∨ m = b) := by
  rw [Nat.max_def] at h
  split at h <;> omega
theorem lc_step : ∀ (n : Nat) (X Y : List Int), X.length + Y.length ≤ n → (∀ x xs, X = x :: xs → lc xs Y ≤ lc X Y ∧ lc X Y ≤ lc xs Y + 1) ∧ (∀ y ys, Y = y :: ys → lc X ys ≤ lc X Y ∧ lc X Y ≤ lc X ys + 1) := by
  intro n
  induction n with
  | zero =>
    intro X Y h
    exact ⟨fun x xs e => by subst e; simp at h, fun y ys e => by subst e; simp at h⟩
  | succ n ih =>
    intro X Y h
    cases X with
    | nil => exact ⟨fun x xs e => (by cases e), fun y ys e => by simp [lc]⟩
    | cons x xs =>
      cases Y with
      | nil => exact ⟨fun a bs e => by cases e; simp [lc_nil], fun y ys e => by cases e⟩
      | cons y ys =>
        simp only [List.length_cons] at h
        have i1 := (ih xs (y :: ys) (by simp only [List.length_cons]; omega)).2 y ys rfl
        have i2 := (ih (x :: xs) ys (by simp only [List.length_cons]; omega)).1 x xs rfl
        have e := lc_cons x y xs ys
        constructor
        · intro a bs ea
          cases ea
          by_cases hx : x = y
          · rw [if_pos hx] at e; omega
          · rw [if_neg hx] at e; have := mx e; omega
        · intro a bs ea
          cases ea
          by_cases hx : x = y
          · rw [if_pos hx] at e; omega
          · rw [if_neg hx] at e; have := mx e; omega
theorem lc_left (x : Int) (xs Y : List Int) : lc xs Y ≤ lc (x :: xs) Y ∧ lc (x :: xs) Y ≤ lc xs Y + 1 := (lc_step _ (x :: xs) Y (Nat.le_refl _)).1 x xs rfl
theorem lc_right (X : List Int) (y : Int) (ys : List Int) : lc X ys ≤ lc X (y :: ys) ∧ lc X (y :: ys) ≤ lc X ys + 1 := (lc_step _ X (y :: ys) (Nat.le_refl _)).2 y ys rfl
theorem lc_le (X Y : List Int) : lc X Y ≤ X.length := by
  induction X with
  | nil => simp [lc]
  | cons x xs ih => have := lc_left x xs Y; simp only [List.length_cons]; omega
theorem lc_drop (X : List Int) : ∀ (k : Nat) (Y : List Int), lc X (Y.drop k) ≤ lc X Y
  | 0, Y => by simp
  | k + 1, [] => by simp
  | k + 1, y :: ys => by
    have := lc_drop X k ys
    have := lc_right X y ys
    simp only [List.drop_succ_cons]; omega
theorem lc_drop2 (X Y : List Int) (a b : Nat) (h : a ≤ b) : lc X (Y.drop b) ≤ lc X (Y.drop a) := by
  obtain ⟨c, rfl⟩ := Nat.exists_eq_add_of_le h
  rw [← List.drop_drop]
  exact lc_drop X c (Y.drop a)
theorem w64_small {x : Int} (h0 : -9223372036854775808 ≤ x) (h1 : x < 9223372036854775808) : w64 x = x := by
  unfold w64 Go.RowKit.wrap64; omega
def StepOk (f : Bool → Int → Int → Int → Int) : Prop := ∀ (e : Bool) (d u r : Nat), d ≤ u → d ≤ r → u ≤ d + 1 → r ≤ d + 1 → d ≤ 1000000 → f e d u r = ((if e then d + 1 else max u r : Nat) : Int)
theorem fS_ok : StepOk fS := by
  intro e d u r h1 h2 h3 h4 h5
  unfold fS
  rw [w64_small (by omega) (by omega)]
  have hm := mx (rfl : max u r = max u r)
  cases e with
  | false => simp only [Bool.false_eq_true, if_false]; split <;> omega
  | true =>
    simp only [if_true]
    by_cases h : (u : Int) < r
    · simp only [h, if_true]; split <;> omega
    · simp only [h, if_false]; split <;> omega
theorem tabZ_lc {f : Bool → Int → Int → Int → Int} (hf : StepOk f) (X Y : List Int) (hX : X.length ≤ 1000000) : ∀ (s i j : Nat), (X.length - i) + (Y.length - j) = s → i ≤ X.length → j ≤ Y.length → tabZ f X Y i j = (lc (X.drop i) (Y.drop j) : Nat) := by
  intro s
  induction s using Nat.strongRecOn with
  | _ s ih =>
    intro i j hs hi hj
    by_cases h1 : i = X.length
    · subst h1
      rw [tabZ_row f X Y j hj, List.drop_length]; simp [lc]
    · by_cases h2 : j = Y.length
      · subst h2
        rw [tabZ_col f X Y i hi, List.drop_length, lc_nil]; rfl
      · have hi' : i < X.length := by omega
        have hj' : j < Y.length := by omega
        rw [tabZ_at f X Y i j hi' hj', ih _ (by omega) (i + 1) (j + 1) rfl (by omega) (by omega), ih _ (by omega) (i + 1) j rfl (by omega) (by omega), ih _ (by omega) i (j + 1) rfl (by omega) (by omega)]
        rw [List.drop_eq_getElem_cons hi', List.drop_eq_getElem_cons hj', lc_cons]
        have gx : X.getD i 0 = X[i] := by rw [List.getD_eq_getElem?_getD, List.getElem?_eq_getElem hi']; rfl
        have gy : Y.getD j 0 = Y[j] := by rw [List.getD_eq_getElem?_getD, List.getElem?_eq_getElem hj']; rfl
        rw [gx, gy]
        have a1 := lc_right (X.drop (i + 1)) Y[j] (Y.drop (j + 1))
        have a2 := lc_left X[i] (X.drop (i + 1)) (Y.drop (j + 1))
        have a3 := lc_le (X.drop (i + 1)) (Y.drop (j + 1))
        rw [List.length_drop] at a3
        rw [hf _ _ _ _ a1.1 a2.1 a1.2 a2.2 (by omega)]
        by_cases e : X[i] = Y[j]
        · rw [if_pos (by simpa using e), if_pos e]
        · rw [if_neg (by simpa using e), if_neg e]
theorem tab_at {f : Bool → Int → Int → Int → Int} (hf : StepOk f) (X Y : List Int) (hX : X.length ≤ 1000000) (i j : Nat) (hi : i ≤ X.length) (hj : j ≤ Y.length) :
    ∃ row, at? (Q0A f X Y) (i : Int) = some row ∧ at? row (j : Int) = some ((lc (X.drop i) (Y.drop j) : Nat) : Int) := by
  have hl := Q3O f X Y
  have hr := Q4z f X Y i hi
  have hz := tabZ_lc hf X Y hX _ i j rfl hi hj
  unfold tabZ at hz
  have e : (Q0A f X Y)[i]? = some ((Q0A f X Y).getD i []) := by
    rw [List.getD_eq_getElem?_getD, List.getElem?_eq_getElem (by omega)]; rfl
  refine ⟨(Q0A f X Y).getD i [], by rw [Q0C, e], ?_⟩
  have e2 : ((Q0A f X Y).getD i [])[j]? = some (((Q0A f X Y).getD i []).getD j 0) := by
    generalize (Q0A f X Y).getD i [] = r at hr
    rw [List.getD_eq_getElem?_getD, List.getElem?_eq_getElem (by omega)]; rfl
  rw [Q0C, e2, hz]
def fst1 (x : Int) : List Int → Option Nat
  | [] => none
  | y :: ys => if x = y then some 0 else (fst1 x ys).map (· + 1)
theorem fst1_some (x : Int) : ∀ (Y : List Int) (p : Nat), fst1 x Y = some p → ∃ h : p < Y.length, Y[p] = x ∧ ∀ k (hk : k < Y.length), k < p → Y[k] ≠ x
  | [], p, h => by cases h
  | y :: ys, p, h => by
    unfold fst1 at h
    by_cases e : x = y
    · rw [if_pos e] at h; cases h
      exact ⟨by simp, e.symm, fun k _ hk => absurd hk (Nat.not_lt_zero _)⟩
    · rw [if_neg e] at h
      obtain ⟨q, hq, rfl⟩ := Option.map_eq_some_iff.1 h
      obtain ⟨h1, h2, h3⟩ := fst1_some x ys q hq
      refine ⟨by simp; omega, by simpa using h2, fun k hk hlt => ?_⟩
      cases k with
      | zero => simpa using fun e' => e e'.symm
      | succ k => simpa using h3 k (by simpa using hk) (by omega)
theorem fst1_none (x : Int) : ∀ (Y : List Int), fst1 x Y = none → ∀ k (hk : k < Y.length), Y[k] ≠ x
  | [], _, k, hk => absurd hk (Nat.not_lt_zero _)
  | y :: ys, h, k, hk => by
    unfold fst1 at h
    by_cases e : x = y
    · rw [if_pos e] at h; cases h
    · rw [if_neg e] at h
      have h := Option.map_eq_none_iff.1 h
      cases k with
      | zero => simpa using fun e' => e e'.symm
      | succ k => simpa using fst1_none x ys h k (by simpa using hk)
theorem lc_fst (x : Int) (xs : List Int) : ∀ Y : List Int, lc (x :: xs) Y = match fst1 x Y with | some p => max (lc xs Y) (lc xs (Y.drop (p + 1)) + 1) | none => lc xs Y
  | [] => by simp [fst1, lc_nil]
  | y :: ys => by
    have ih := lc_fst x xs ys
    rw [lc_cons]
    have r := lc_right xs y ys
    by_cases e : x = y
    · rw [if_pos e]
      simp only [fst1, if_pos e, Nat.zero_add, List.drop_succ_cons, List.drop_zero]
      rw [Nat.max_eq_right r.2]
    · rw [if_neg e]
      simp only [fst1, if_neg e]
      cases hf : fst1 x ys with
      | none => rw [hf] at ih; simp only at ih; simp only [Option.map_none]; rw [ih]; exact Nat.max_eq_left r.1
      | some p => rw [hf] at ih; simp only at ih; simp only [Option.map_some, List.drop_succ_cons]; rw [ih, ← Nat.max_assoc, Nat.max_eq_left r.1]
def grd : List Int → List Int → Nat → Nat → List (Nat × Nat)
  | [], _, _, _ => []
  | x :: xs, Y, i, k => match fst1 x Y with
    | some p => if lc xs (Y.drop (p + 1)) + 1 = lc (x :: xs) Y then (i, k + p) :: grd xs (Y.drop (p + 1)) (i + 1) (k + p + 1) else grd xs Y (i + 1) k
    | none => grd xs Y (i + 1) k
theorem grd_len : ∀ (X Y : List Int) (i k : Nat), (grd X Y i k).length = lc X Y
  | [], Y, i, k => by simp [grd, lc]
  | x :: xs, Y, i, k => by
    have h := lc_fst x xs Y
    unfold grd
    cases hf : fst1 x Y with
    | none => rw [hf] at h; simp only at h ⊢; rw [grd_len xs, h]
    | some p =>
      rw [hf] at h; simp only at h ⊢
      by_cases e : lc xs (Y.drop (p + 1)) + 1 = lc (x :: xs) Y
      · rw [if_pos e, List.length_cons, grd_len xs, e]
      · rw [if_neg e, grd_len xs]; omega
theorem grd_nil {X Y : List Int} (h : lc X Y = 0) (i k : Nat) : grd X Y i k = [] := List.eq_nil_of_length_eq_zero (by rw [grd_len, h])
def ipr (p : Nat × Nat) : Int × Int := ((p.1 : Int), (p.2 : Int))
theorem tableC_eq (f : Bool → Int → Int → Int → Int) (X Y : List Int) (hX : X.length ≤ 1000000) (hY : Y.length ≤ 1000000) : (tableC f (List.map (fun x => x) X) (List.map (fun x => x) Y)).map (List.map fun x => x) = some (Q0A f X Y) := by
  have e1 : ∀ Z : List Int, List.map (fun x => x) Z = Z := fun Z => List.map_id' Z
  rw [e1, e1]
  unfold tableC
  rw [decide_eq_true hX, decide_eq_true hY]
  show some (List.map (fun x => x) (Q0A f X Y)) = _
  rw [List.map_id']
end Go.Ev.W
/- Bits out of bytes: the program's; the law. -/
set_option linter.unusedVariables false
set_option linter.unusedSimpArgs false
namespace Go.Ev.W
open Go.Ev
def filled (B : List Nat) (n m : Nat) (V : List Nat) : Prop := V.length = nw n ∧ (∀ x ∈ V, x < 2 ^ 64) ∧ ∀ i, bit V i = (decide (i < 8 * m) && bbit B i)
end Go.Ev.W
/- The law of WaveRead. -/
set_option linter.unusedVariables false
set_option linter.unusedSimpArgs false
namespace Go.Ev.W
open Go.Ev
end Go.Ev.W
/- Frames out of bytes; an index out of bytes: both functions. -/
set_option linter.unusedVariables false
set_option linter.unusedSimpArgs false
namespace Go.Ev.W
open Go.Ev
theorem td_ints (D : List Nat) (a b : Nat) : ((ints D).take a).drop b = ints ((D.take a).drop b) := by rw [Q3a, ints_dropN]
end Go.Ev.W
/- Parts: what both functions give. -/
set_option linter.unusedVariables false
set_option linter.unusedSimpArgs false
namespace Go.Ev.W
open Go.Ev
abbrev wds (L : Ls) : List (List Int) := L.map ints
theorem specHead_eq (D : List Nat) (hD : D.length ≤ 300) (d i : Nat) (hi : i ≤ D.length) (hd8 : d ≤ 8) : Q16 (ints D) i d = some (ints ((D.drop i).take d)) := by
  have e : (if IntKind.i64.wrap ((i : Int) + d) < ((ints D).length : Int) then IntKind.i64.wrap ((i : Int) + d) else ((ints D).length : Int)) = ((min D.length (i + d) : Nat) : Int) := by
    rw [Qb (by omega) (by omega), Q8]; split <;> omega
  have et : (D.take (min D.length (i + d))).drop i = (D.drop i).take d := by
    rw [List.drop_take]
    by_cases h : i + d ≤ D.length
    · rw [Nat.min_eq_right h, Nat.add_sub_cancel_left]
    · rw [Nat.min_eq_left (by omega), List.take_of_length_le (by rw [List.length_drop]; omega), List.take_of_length_le (by rw [List.length_drop]; omega)]
  rw [Q16.eq, e, Q2 (by rw [Q8]; omega), Q2 (by omega), Int.toNat_natCast, Int.toNat_natCast, td_ints, et]
theorem specHeads_l0 (D : List Nat) (hD : D.length ≤ 300) (d : Nat) (hd8 : d ≤ 8) : ∀ (s i : Nat), (srt D).length - i = s → i ≤ (srt D).length →
    Q0i_l0 (ints D) d i (ints (srt D)) (wds ((hd D d).take i)) = some (wds (hd D d)) := by
  have hl : (hd D d).length = (srt D).length := by unfold hd; rw [List.length_map]
  have hsl : (srt D).length = D.length + 1 := by rw [(Q2s D).length (by omega)]; omega
  intro s
  induction s with
  | zero =>
    intro i h1 h2
    obtain rfl : i = (srt D).length := by omega
    rw [Q0i_l0.eq, Q8, Q3 (by omega), List.take_of_length_le (by omega)]
  | succ s ih =>
    intro i h1 h2
    have hi : i < (srt D).length := by omega
    have hx := ((Q2s D).mem (srt D)[i]).1 (List.getElem_mem hi)
    have eg : (ints (srt D))[i]? = some (((srt D)[i] : Nat) : Int) := by rw [List.getElem?_map, List.getElem?_eq_getElem hi]; rfl
    rw [Q0i_l0.eq, Q8, Q2 (by omega), Q0C, eg, Option.bind_some, Int.toNat_natCast, eg, Option.bind_some, specHead_eq D hD d _ hx.2 hd8, Option.bind_some]
    have ef : wds ((hd D d).take i) ++ [ints ((D.drop (srt D)[i]).take d)] = wds ((hd D d).take (i + 1)) := by
      rw [Q2R _ _ (by omega), wds, wds, List.map_append]
      congr 1
      simp only [List.map_cons, List.map_nil, hd, List.getElem_map]
    rw [ef, Q2 (by simp only [List.length_map, List.length_take, List.length_cons, List.length_nil]; omega), Q6 i (by omega)]
    exact ih (i + 1) (by omega) (by omega)
theorem specHeads_eq (D : List Nat) (hD : D.length ≤ 300) (d : Nat) (hd8 : d ≤ 8) : Q0i (ints D) d = some (wds (hd D d)) := by
  rw [Q0i.eq, specSuf_eq D hD, Option.bind_some]
  have := specHeads_l0 D hD d hd8 _ 0 rfl (Nat.zero_le _)
  rw [List.take_zero] at this
  exact this
theorem specSpan_l0 (H : Ls) (hH : H.length ≤ 100000) (w : List Nat) (hw : w.length ≤ 4000000) (hs : ∀ x ∈ H, x.length ≤ 4000000) : ∀ (s i : Nat), H.length - i = s → i ≤ H.length →
    Q0b_l0 (wds H) (ints w) (spLo (H.take i) w) (spHi (H.take i) w) i = some ((spLo H w : Int), (spHi H w : Int)) := by
  intro s
  induction s with
  | zero =>
    intro i h1 h2
    obtain rfl : i = H.length := by omega
    rw [Q0b_l0.eq, List.length_map, Q3 (by omega), List.take_length]
  | succ s ih =>
    intro i h1 h2
    have hi : i < H.length := by omega
    have b1 := sp_len (H.take i) w
    have b2 := sp_le (H.take i) w
    rw [List.length_take] at b1
    have e1 : spLo (H.take (i + 1)) w = spLo (H.take i) w + if cmpN H[i] w < 0 then 1 else 0 := by
      unfold spLo
      rw [Q2R _ _ hi, List.filter_append, List.length_append, List.filter_cons]
      by_cases h : cmpN H[i] w < 0 <;> simp [h]
    have e2 : spHi (H.take (i + 1)) w = spHi (H.take i) w + if cmpN H[i] w ≤ 0 then 1 else 0 := by
      unfold spHi
      rw [Q2R _ _ hi, List.filter_append, List.length_append, List.filter_cons]
      by_cases h : cmpN H[i] w ≤ 0 <;> simp [h]
    have ih := ih (i + 1) (by omega) (by omega)
    rw [e1, e2] at ih
    rw [Q0b_l0.eq, List.length_map, Q2 (by omega), Q0C, List.getElem?_map, List.getElem?_eq_getElem hi, Option.map_some, Option.bind_some, l05Cmp_eq _ _ (hs _ (List.getElem_mem hi)) hw, Option.bind_some]
    by_cases h1 : cmpN H[i] w < 0
    · rw [if_pos h1, if_pos (by omega)] at ih
      rw [Q2 h1, Q2 (by omega), Q6 _ (by omega), Q6 _ (by omega), Q6 _ (by omega)]
      exact ih
    · rw [if_neg h1] at ih
      rw [Q3 h1]
      by_cases h2 : cmpN H[i] w ≤ 0
      · rw [if_pos h2] at ih
        rw [Q2 h2, Q6 _ (by omega), Q6 _ (by omega)]
        exact ih
      · rw [if_neg h2] at ih
        rw [Q3 h2, Q6 _ (by omega)]
        exact ih
theorem specSpan_eq (H : Ls) (hH : H.length ≤ 100000) (w : List Nat) (hw : w.length ≤ 4000000) (hs : ∀ x ∈ H, x.length ≤ 4000000) : Q0b (wds H) (ints w) = some ((spLo H w : Int), (spHi H w : Int)) := by
  rw [Q0b.eq]
  exact specSpan_l0 H hH w hw hs _ 0 rfl (Nat.zero_le _)
section
variable (H : Ls) (hH : H.length ≤ 100000) (hs : H.Pairwise leN) (hB : ∀ x ∈ H, Q0z x) (w : List Nat) (hw : Q0z w)
include hH hs hB hw
end
end Go.Ev.W
/- Parts: the words, and what both functions give. -/
set_option linter.unusedVariables false
set_option linter.unusedSimpArgs false
namespace Go.Ev.W
open Go.Ev
def part (A B : Ls) (w : List Nat) : List Int × Int × Int × Int × Int := (ints w, (spLo A w : Int), (spHi A w : Int), (spLo B w : Int), (spHi B w : Int))
def parts (A B : Ls) : List (List Int × Int × Int × Int × Int) := (words (A ++ B)).map (part A B)
theorem take_cat (V : Ls) (k : Nat) (x : List Nat) : ([] ++ ((wds V).drop 0).take (k - 0)) ++ ([ints x] ++ ((wds V).drop k).take ((wds V).length - k)) = wds (V.take k ++ x :: V.drop k) := by
  rw [List.nil_append, List.drop_zero, Nat.sub_zero, List.take_of_length_le (l := (wds V).drop k) (by rw [List.length_drop]; omega)]
  simp [wds, List.map_take, List.map_drop]
section
variable (L : Ls) (hL : L.length ≤ 1000) (hs : ∀ x ∈ L, x.length ≤ 4000000) (a b : List (List Int))
include hL hs
theorem specIns_hit (i : Nat) (hi : i < L.length) (V : Ls) (hV : V.length ≤ 1000) (vs : ∀ x ∈ V, x.length ≤ 4000000) : ∀ (s k : Nat), V.length - k = s → k ≤ V.length → Ql_l1 i k true a b (wds L) (wds V) = Ql_l0 ((i + 1 : Nat) : Int) a b (wds L) (wds V) := by
  intro s
  induction s with
  | zero =>
    intro k h1 h2
    obtain rfl : k = V.length := by omega
    rw [Ql_l1.eq, List.length_map, Q3 (by omega), Bool.not_true, Qd, Q6 i (by omega)]
  | succ s ih =>
    intro k h1 h2
    have hk : k < V.length := by omega
    have eg : (wds V)[k]? = some (ints V[k]) := by rw [List.getElem?_map, List.getElem?_eq_getElem hk]; rfl
    have el : (wds L)[i]? = some (ints L[i]) := by rw [List.getElem?_map, List.getElem?_eq_getElem hi]; rfl
    rw [Ql_l1.eq, List.length_map, Q2 (by omega), Q0C, eg, Option.bind_some, Int.toNat_natCast, eg, Option.bind_some, Q0C, el, Option.bind_some, Int.toNat_natCast, el, Option.bind_some, l05Cmp_eq _ _ (vs _ (List.getElem_mem hk)) (hs _ (List.getElem_mem hi)), Option.bind_some]
    by_cases h : cmpN V[k] L[i] ≤ 0
    · rw [Q2 h, Qu, Q6 k (by omega)]
      exact ih (k + 1) (by omega) (by omega)
    · rw [Q3 h, Bool.not_true, Qd, Q6 i (by omega)]
theorem specIns_l1 (i : Nat) (hi : i < L.length) (V : Ls) (hV : V.length ≤ 1000) (vs : ∀ x ∈ V, x.length ≤ 4000000) : ∀ (s k : Nat), V.length - k = s → k ≤ V.length → Ql_l1 i k false a b (wds L) (wds V) = Ql_l0 ((i + 1 : Nat) : Int) a b (wds L) (wds (V.take k ++ ins L[i] (V.drop k))) := by
  have el : (wds L)[i]? = some (ints L[i]) := by rw [List.getElem?_map, List.getElem?_eq_getElem hi]; rfl
  intro s
  induction s with
  | zero =>
    intro k h1 h2
    obtain rfl : k = V.length := by omega
    rw [Ql_l1.eq, List.length_map, Q3 (by omega), Bool.not_false, Qu, Q0C, el, Option.bind_some, Int.toNat_natCast, el, Option.bind_some]
    simp only [Int.toNat_natCast]
    have e := take_cat V V.length L[i]
    rw [List.length_map] at e
    rw [Q2 (by omega), Q2 (by simp only [List.length_cons, List.length_nil, List.length_take, List.length_drop, List.length_map]; omega), Q2 (by omega), Q2 (by simp only [List.length_nil, List.length_take, List.length_drop, List.length_map]; omega), Q2 (by simp only [List.length_append, List.length_cons, List.length_nil, List.length_take, List.length_drop, List.length_map]; omega), e, Q6 i (by omega), List.drop_length]
    rfl
  | succ s ih =>
    intro k h1 h2
    have hk : k < V.length := by omega
    have eg : (wds V)[k]? = some (ints V[k]) := by rw [List.getElem?_map, List.getElem?_eq_getElem hk]; rfl
    have hc := l05Cmp_eq V[k] L[i] (vs _ (List.getElem_mem hk)) (hs _ (List.getElem_mem hi))
    have hd : V.drop k = V[k] :: V.drop (k + 1) := List.drop_eq_getElem_cons hk
    rw [Ql_l1.eq, List.length_map, Q2 (by omega), Q0C, eg, Option.bind_some, Int.toNat_natCast, eg, Option.bind_some, Q0C, el, Option.bind_some, Int.toNat_natCast, el, Option.bind_some, hc, Option.bind_some]
    by_cases h : cmpN V[k] L[i] ≤ 0
    · rw [Q2 h, Qd, Option.bind_some, Option.bind_some, Option.bind_some, Option.bind_some, hc, Option.bind_some, Q6 k (by omega)]
      by_cases h0 : cmpN V[k] L[i] = 0
      · rw [h0, beq_self_eq_true, specIns_hit L hL hs a b i hi V hV vs _ (k + 1) rfl (by omega), hd, ins, if_neg (by omega), if_pos h0, ← hd, List.take_append_drop]
      · rw [beq_eq_false_iff_ne.2 h0, ih (k + 1) (by omega) (by omega), hd, ins, if_pos (by omega), Q2R V k hk, List.append_assoc]
        rfl
    · rw [Q3 h, Bool.not_false, Qu, Option.bind_some, Option.bind_some]
      have e := take_cat V k L[i]
      rw [List.length_map] at e
      rw [Q2 (by omega), Q2 (by simp only [List.length_cons, List.length_nil, List.length_take, List.length_drop, List.length_map]; omega), Q2 (by omega), Q2 (by simp only [List.length_nil, List.length_take, List.length_drop, List.length_map]; omega), Q2 (by simp only [List.length_append, List.length_cons, List.length_nil, List.length_take, List.length_drop, List.length_map]; omega), e, Q6 i (by omega)]
      rw [hd, ins, if_neg (by omega), if_neg (by omega)]
theorem specIns_l0 : ∀ (s i : Nat) (V : Ls), L.length - i = s → i ≤ L.length → V.length ≤ i → (∀ x ∈ V, x ∈ L) → Ql_l0 i a b (wds L) (wds V) = Ql_l2 0 a b (wds ((L.drop i).foldl (fun V x => ins x V) V)) [] := by
  intro s
  induction s with
  | zero =>
    intro i V h1 h2 h3 h4
    obtain rfl : i = L.length := by omega
    rw [Ql_l0.eq, List.length_map, Q3 (by omega), List.drop_length]; rfl
  | succ s ih =>
    intro i V h1 h2 h3 h4
    have hi : i < L.length := by omega
    have := specIns_l1 L hL hs a b i hi V (by omega) (fun x hx => hs x (h4 x hx)) _ 0 rfl (Nat.zero_le _)
    rw [List.take_zero, List.drop_zero, List.nil_append] at this
    rw [Ql_l0.eq, List.length_map, Q2 (by omega), List.drop_eq_getElem_cons hi, List.foldl_cons]
    have hl := ins_len L[i] V
    refine this.trans (ih (i + 1) _ (by omega) (by omega) (by omega) fun x hx => ?_)
    rcases (ins_mem _ x V).1 hx with h | h
    · rw [h]; exact List.getElem_mem _
    · exact h4 x h
end
theorem specParts_l2 (A B : Ls) (hA : A.length ≤ 301) (hB : B.length ≤ 301) (W : Ls) (hW : W.length ≤ 602) (bA : ∀ x ∈ A, x.length ≤ 8) (bB : ∀ x ∈ B, x.length ≤ 8) (bW : ∀ x ∈ W, x.length ≤ 8) : ∀ (s i : Nat), W.length - i = s → i ≤ W.length →
    Ql_l2 i (wds A) (wds B) (wds W) ((W.take i).map (part A B)) = some (W.map (part A B)) := by
  intro s
  induction s with
  | zero =>
    intro i h1 h2
    obtain rfl : i = W.length := by omega
    rw [Ql_l2.eq, List.length_map, Q3 (by omega), List.take_length]
  | succ s ih =>
    intro i h1 h2
    have hi : i < W.length := by omega
    have eg : (wds W)[i]? = some (ints W[i]) := by rw [List.getElem?_map, List.getElem?_eq_getElem hi]; rfl
    have hb := bW _ (List.getElem_mem hi)
    have sA := specSpan_eq A (by omega) W[i] (by omega) fun x hx => by have := bA x hx; omega
    have sB := specSpan_eq B (by omega) W[i] (by omega) fun x hx => by have := bB x hx; omega
    rw [Ql_l2.eq, List.length_map, Q2 (by omega)]
    simp only [Q0C, Int.toNat_natCast, eg, Option.bind_some, sA, sB]
    have ef : (W.take i).map (part A B) ++ [([] ++ ints W[i], (spLo A W[i] : Int), (spHi A W[i] : Int), (spLo B W[i] : Int), (spHi B W[i] : Int))] = (W.take (i + 1)).map (part A B) := by
      rw [Q2R _ _ hi, List.map_append]; rfl
    rw [ef, Q2 (by simp only [List.length_nil, Q8]; omega), Q2 (by simp only [List.length_map, List.length_take, List.length_cons, List.length_nil]; omega), Q6 i (by omega)]
    exact ih (i + 1) (by omega) (by omega)
theorem l13Fit_eq (R T : List Nat) (d : Int) : Q0Q (ints R) (ints T) d = some (decide (R.length ≤ 300 ∧ T.length ≤ 300 ∧ 0 ≤ d ∧ d ≤ 8)) := by
  rw [Q0Q.eq, Q4j, Option.bind_some]
  by_cases h1 : R.length ≤ 300
  · rw [Q2 h1, Q4j, Option.bind_some]
    by_cases h2 : T.length ≤ 300
    · rw [Q2 h2]
      by_cases h3 : 0 ≤ d
      · rw [Q2 h3]; congr 1; exact decide_eq_decide.2 (by omega)
      · rw [Q3 (by omega), decide_eq_false (by omega)]
    · rw [Q3 h2, decide_eq_false (by omega)]
  · rw [Q3 h1, decide_eq_false (by omega)]
theorem specParts_eq (R T : List Nat) (hR : R.length ≤ 300) (hT : T.length ≤ 300) (bR : Q0z R) (bT : Q0z T) (d : Nat) (hd8 : d ≤ 8) : Ql (ints R) (ints T) d = some (parts (hd R d) (hd T d)) := by
  have lR := hd_len R d
  have lT := hd_len T d
  have wl := words_len (hd R d ++ hd T d)
  have h8 : ∀ x ∈ hd R d ++ hd T d, x.length ≤ 8 := fun x hx => Nat.le_trans ((List.mem_append.1 hx).elim (fun h => (hd_byte R bR d x h).2) (fun h => (hd_byte T bT d x h).2)) hd8
  rw [List.length_append] at wl
  have e1 : Ql_l0 0 (wds (hd R d)) (wds (hd T d)) (wds (hd R d ++ hd T d)) (wds []) = _ := specIns_l0 (hd R d ++ hd T d) (by rw [List.length_append]; omega) (fun x hx => by have := h8 x hx; omega) (wds (hd R d)) (wds (hd T d)) _ 0 [] rfl (Nat.zero_le _) (Nat.le_refl _) (fun x hx => by cases hx)
  rw [Ql.eq, l13Fit_eq, Option.bind_some, decide_eq_true (by omega), Bool.not_true, Qd, specHeads_eq R hR d hd8, Option.bind_some, specHeads_eq T hT d hd8, Option.bind_some, Q2 (by simp only [List.length_nil, List.length_map]; omega), Q2 (by simp only [List.length_append, List.length_nil, List.length_map]; omega), List.nil_append, ← List.map_append]
  refine e1.trans ?_
  rw [List.drop_zero]
  have := specParts_l2 (hd R d) (hd T d) (by omega) (by omega) (words (hd R d ++ hd T d)) (by omega) (fun x hx => h8 x (List.mem_append_left _ hx)) (fun x hx => h8 x (List.mem_append_right _ hx)) (fun x hx => h8 x ((words_mem _ x).1 hx)) _ 0 rfl (Nat.zero_le _)
  rw [List.take_zero] at this
  exact this
end Go.Ev.W
/- The longest common subsequence: the reference's functions; both within a budget. -/
set_option linter.unusedVariables false
set_option linter.unusedSimpArgs false
namespace Go.Ev.W
open Go.Ev
def hitC (X Y : List Int) (v x k : Nat) : Bool := (X.getD x 0 == Y.getD k 0) && (1 + lc (X.drop (x + 1)) (Y.drop (k + 1)) == v)
def lowC (X Y : List Int) (v x j : Nat) : Nat → Int → Int
  | 0, y => y
  | k + 1, y => if j ≤ k then lowC X Y v x j k (if hitC X Y v x k then (k : Int) else y) else y
theorem specCommon_l3 (X Y : List Int) (hX : X.length ≤ 100000) (hY : Y.length ≤ 100000) (i j x : Nat) (hi : i ≤ X.length) (hj : j ≤ Y.length) (hx : x < X.length) (out : List (Int × Int)) :
    ∀ (k : Nat) (y : Int), k ≤ Y.length → Qk_l3 X Y (Q0A fS X Y) i j x y ((k : Int) - 1) out = Qk_l2 X Y (Q0A fS X Y) i j ((x + 1 : Nat) : Int) (lowC X Y (lc (X.drop i) (Y.drop j)) x j k y) out := by
  intro k
  induction k with
  | zero =>
    intro y hk
    rw [Qk_l3.eq, Q3 (by omega), Q6 x (by omega)]; rfl
  | succ k ih =>
    intro y hk
    have hk' : k < Y.length := by omega
    rw [show ((k + 1 : Nat) : Int) - 1 = (k : Int) by omega, Qk_l3.eq]
    by_cases hjk : j ≤ k
    · obtain ⟨row, e1, e2⟩ := tab_at fS_ok X Y (by omega) i j hi hj
      obtain ⟨row2, f1, f2⟩ := tab_at fS_ok X Y (by omega) (x + 1) (k + 1) (by omega) (by omega)
      have hb := lc_le (X.drop (x + 1)) (Y.drop (k + 1))
      rw [List.length_drop] at hb
      have gx : X.getD x 0 = X[x] := by rw [List.getD_eq_getElem?_getD, List.getElem?_eq_getElem hx]; rfl
      have gy : Y.getD k 0 = Y[k] := by rw [List.getD_eq_getElem?_getD, List.getElem?_eq_getElem hk']; rfl
      rw [Q2 (by omega), Q0C, List.getElem?_eq_getElem hx, Option.bind_some, Q0C, List.getElem?_eq_getElem hk', Option.bind_some, Qb (x := (k : Int) - 1) (by omega) (by omega)]
      simp only [lowC, if_pos hjk]
      by_cases e : X[x] = Y[k]
      · rw [Q07 e, Q6 x (by omega), f1, Option.bind_some, Q6 k (by omega), f2, Option.bind_some, e1, Option.bind_some, e2, Option.bind_some, Qb (by omega) (by omega)]
        by_cases e3 : 1 + lc (X.drop (x + 1)) (Y.drop (k + 1)) = lc (X.drop i) (Y.drop j)
        · have hh : hitC X Y (lc (X.drop i) (Y.drop j)) x k = true := by unfold hitC; rw [gx, gy, e, e3]; simp
          rw [Q07 (by omega), hh, if_pos rfl]
          exact ih k (by omega)
        · have hh : hitC X Y (lc (X.drop i) (Y.drop j)) x k = false := by unfold hitC; rw [beq_eq_false_iff_ne.2 e3, Bool.and_false]
          rw [Q0a (by omega), hh, if_neg (by simp)]
          exact ih y (by omega)
      · have hh : hitC X Y (lc (X.drop i) (Y.drop j)) x k = false := by unfold hitC; rw [gx, gy, beq_eq_false_iff_ne.2 e, Bool.false_and]
        rw [Q0a e, hh, if_neg (by simp)]
        exact ih y (by omega)
    · rw [Q3 (by omega), Q6 x (by omega)]
      simp only [lowC, if_neg hjk]
theorem lowC_none (X Y : List Int) (v x j : Nat) : ∀ (k : Nat) (y : Int), (∀ q, j ≤ q → q < k → hitC X Y v x q = false) → lowC X Y v x j k y = y
  | 0, y, _ => rfl
  | k + 1, y, h => by
    unfold lowC
    by_cases hjk : j ≤ k
    · rw [if_pos hjk, h k hjk (Nat.lt_succ_self k), if_neg (by simp)]
      exact lowC_none X Y v x j k y fun q h1 h2 => h q h1 (by omega)
    · rw [if_neg hjk]
theorem lowC_some (X Y : List Int) (v x j p : Nat) (hp : j ≤ p) (hh : hitC X Y v x p = true) (hlo : ∀ q, j ≤ q → q < p → hitC X Y v x q = false) : ∀ (k : Nat) (y : Int), p < k → lowC X Y v x j k y = p
  | 0, y, h => absurd h (Nat.not_lt_zero _)
  | k + 1, y, h => by
    unfold lowC
    rw [if_pos (by omega)]
    by_cases e : p = k
    · subst e
      rw [hh, if_pos rfl]
      exact lowC_none X Y v x j p _ fun q h1 h2 => hlo q h1 h2
    · exact lowC_some X Y v x j p hp hh hlo k _ (by omega)
theorem row_step (X Y : List Int) (x j v : Nat) (hx : x < X.length) (hj : j ≤ Y.length) (hv : lc (X.drop x) (Y.drop j) = v) :
    (lowC X Y v x j Y.length (-1) = -1 ∧ lc (X.drop (x + 1)) (Y.drop j) = v ∧ ∀ i, grd (X.drop x) (Y.drop j) i j = grd (X.drop (x + 1)) (Y.drop j) (i + 1) j) ∨
    ∃ p, j ≤ p ∧ p < Y.length ∧ lowC X Y v x j Y.length (-1) = (p : Int) ∧ ∀ i, grd (X.drop x) (Y.drop j) i j = (i, p) :: grd (X.drop (x + 1)) (Y.drop (p + 1)) (i + 1) (p + 1) := by
  have hd : X.drop x = X[x] :: X.drop (x + 1) := List.drop_eq_getElem_cons hx
  have gx : X.getD x 0 = X[x] := by rw [List.getD_eq_getElem?_getD, List.getElem?_eq_getElem hx]; rfl
  rw [hd] at hv ⊢
  have hf := lc_fst X[x] (X.drop (x + 1)) (Y.drop j)
  have gy : ∀ q, q < Y.length → Y.getD q 0 = Y[q]! := fun q hq => by rw [List.getD_eq_getElem?_getD, List.getElem?_eq_getElem hq, getElem!_pos Y q hq]; rfl
  cases hc : fst1 X[x] (Y.drop j) with
  | none =>
    rw [hc] at hf; simp only at hf
    have hn := fst1_none _ _ hc
    refine .inl ⟨lowC_none X Y v x j _ _ fun q h1 h2 => ?_, by omega, fun i => by rw [grd, hc]⟩
    unfold hitC
    have := hn (q - j) (by rw [List.length_drop]; omega)
    rw [List.getElem_drop] at this
    simp only [show j + (q - j) = q by omega] at this
    rw [gx, List.getD_eq_getElem?_getD, List.getElem?_eq_getElem h2, beq_eq_false_iff_ne.2 (by simpa using fun e => this e.symm), Bool.false_and]
  | some p =>
    rw [hc] at hf; simp only at hf
    obtain ⟨h1, h2, h3⟩ := fst1_some _ _ _ hc
    rw [List.length_drop] at h1
    rw [List.getElem_drop] at h2
    rw [List.drop_drop] at hf
    have hm := mx hf
    have hne : ∀ q, j ≤ q → q < j + p → hitC X Y v x q = false := fun q q1 q2 => by
      have := h3 (q - j) (by rw [List.length_drop]; omega) (by omega)
      rw [List.getElem_drop] at this
      simp only [show j + (q - j) = q by omega] at this
      unfold hitC
      rw [gx, List.getD_eq_getElem?_getD, List.getElem?_eq_getElem (by omega), beq_eq_false_iff_ne.2 (by simpa using fun e => this e.symm), Bool.false_and]
    by_cases e : lc (X.drop (x + 1)) (Y.drop (j + (p + 1))) + 1 = lc (X[x] :: X.drop (x + 1)) (Y.drop j)
    · refine .inr ⟨j + p, by omega, by omega, lowC_some X Y v x j (j + p) (by omega) ?_ hne _ _ (by omega), fun i => ?_⟩
      · unfold hitC
        rw [gx, List.getD_eq_getElem?_getD, List.getElem?_eq_getElem (by omega)]
        simp only [Option.getD_some, h2, beq_self_eq_true, Bool.true_and, beq_iff_eq]
        rw [Nat.add_assoc]; omega
      · rw [grd, hc]
        simp only
        rw [List.drop_drop, if_pos e, Nat.add_assoc]
    · refine .inl ⟨lowC_none X Y v x j _ _ fun q q1 q2 => ?_, by omega, fun i => by
        rw [grd, hc]
        simp only
        rw [List.drop_drop, if_neg e]⟩
      by_cases hq : q < j + p
      · exact hne q q1 hq
      · have hl := lc_drop2 (X.drop (x + 1)) Y (j + (p + 1)) (q + 1) (by omega)
        unfold hitC
        rw [beq_eq_false_iff_ne.2 (show 1 + lc (X.drop (x + 1)) (Y.drop (q + 1)) ≠ v by omega), Bool.and_false]
theorem specCommon_l12 (X Y : List Int) (hX : X.length ≤ 100000) (hY : Y.length ≤ 100000) : ∀ (d : Nat),
    (∀ (i j : Nat) (out : List (Int × Int)), X.length - i = d → i ≤ X.length → j ≤ Y.length → out.length ≤ i → Qk_l1 X Y (Q0A fS X Y) i j out = some (out ++ (grd (X.drop i) (Y.drop j) i j).map ipr)) ∧
    (∀ (i j x : Nat) (out : List (Int × Int)), X.length - x = d → i ≤ x → x ≤ X.length → j ≤ Y.length → out.length ≤ i → lc (X.drop i) (Y.drop j) = lc (X.drop x) (Y.drop j) → 0 < lc (X.drop i) (Y.drop j) →
      Qk_l2 X Y (Q0A fS X Y) i j x (-1) out = some (out ++ (grd (X.drop x) (Y.drop j) x j).map ipr)) := by
  intro d
  induction d with
  | zero =>
    constructor
    · intro i j out h1 h2 h3 h4
      obtain rfl : i = X.length := by omega
      obtain ⟨row, e1, e2⟩ := tab_at fS_ok X Y (by omega) X.length j h2 h3
      rw [Qk_l1.eq, e1, Option.bind_some, e2, Option.bind_some, List.drop_length]
      simp [lc, grd]
    · intro i j x out h1 h2 h3 h4 h5 h6 h7
      obtain rfl : x = X.length := by omega
      rw [h6, List.drop_length] at h7
      simp [lc] at h7
  | succ d ih =>
    have two : ∀ (i j x : Nat) (out : List (Int × Int)), X.length - x = d + 1 → i ≤ x → x ≤ X.length → j ≤ Y.length → out.length ≤ i → lc (X.drop i) (Y.drop j) = lc (X.drop x) (Y.drop j) → 0 < lc (X.drop i) (Y.drop j) →
        Qk_l2 X Y (Q0A fS X Y) i j x (-1) out = some (out ++ (grd (X.drop x) (Y.drop j) x j).map ipr) := by
      intro i j x out h1 h2 h3 h4 h5 h6 h7
      have hx : x < X.length := by omega
      rw [Qk_l2.eq, Q2 (by omega), Qb (by omega) (by omega), specCommon_l3 X Y hX hY i j x (by omega) h4 hx out Y.length (-1) (Nat.le_refl _)]
      rcases row_step X Y x j _ hx h4 h6.symm with ⟨r1, r2, r3⟩ | ⟨p, r1, r2, r3, r4⟩
      · rw [r1, r3 x]
        exact ih.2 i j (x + 1) out (by omega) (by omega) (by omega) h4 h5 r2.symm h7
      · rw [r3, r4 x, Qk_l2.eq, Q3 (by omega), Qb (x := ((x + 1 : Nat) : Int) - 1) (by omega) (by omega), Q2 (by simp only [List.length_cons, List.length_nil]; omega), Q6 p (by omega), show ((x + 1 : Nat) : Int) - 1 = (x : Int) by omega]
        rw [ih.1 (x + 1) (p + 1) _ (by omega) (by omega) (by omega) (by rw [List.length_append]; simp; omega), List.append_assoc]
        rfl
    refine ⟨?_, two⟩
    intro i j out h1 h2 h3 h4
    obtain ⟨row, e1, e2⟩ := tab_at fS_ok X Y (by omega) i j h2 h3
    rw [Qk_l1.eq, e1, Option.bind_some, e2, Option.bind_some]
    by_cases hz : lc (X.drop i) (Y.drop j) = 0
    · rw [Q3 (by omega), grd_nil hz]; simp
    · rw [Q2 (by omega)]
      exact two i j i out h1 (Nat.le_refl _) h2 h3 h4 rfl (by omega)
theorem specTable_eq (X Y : List Int) (hX : X.length ≤ 100000) (hY : Y.length ≤ 100000) : Q1I X Y = some (Q0A fS X Y) := tableC_eq fS X Y (by omega) (by omega)
def cw (X Y : List Int) (b : Int) : List (Nat × Nat) := if ((X.length + Y.length : Nat) : Int) - 2 * (lc X Y : Nat) > b then [] else grd X Y 0 0
theorem specWithin_eq (X Y : List Int) (hX : X.length ≤ 301) (hY : Y.length ≤ 301) (b : Int) : Q0V X Y b = some ((cw X Y b).map ipr) := by
  have hb := lc_le X Y
  have hr : ∀ Z : List Int, Z.length ≤ 301 → Q0u Z = some true := fun Z hZ => by rw [Q0u.eq, decide_eq_true (by omega)]
  obtain ⟨row, e1, e2⟩ := tab_at fS_ok X Y (by omega) 0 0 (Nat.zero_le _) (Nat.zero_le _)
  have e1' : at? (Q0A fS X Y) 0 = some row := e1
  have e2' : at? row 0 = some ((lc X Y : Nat) : Int) := e2
  have hL : Q17 X Y = some ((lc X Y : Nat) : Int) := by
    rw [Q17.eq, hr X hX, hr Y hY, Option.bind_some, Option.bind_some, specTable_eq X Y (by omega) (by omega), Option.bind_some, e1', Option.bind_some, e2']; rfl
  have hC : Qk X Y = some ((grd X Y 0 0).map ipr) := by
    rw [Qk.eq, hr X hX, hr Y hY, Option.bind_some, Option.bind_some, Qk_l0.eq, specTable_eq X Y (by omega) (by omega)]
    have := (specCommon_l12 X Y (by omega) (by omega) _).1 0 0 [] rfl (Nat.zero_le _) (Nat.zero_le _) (Nat.le_refl _)
    simp only [List.drop_zero, List.nil_append] at this
    exact this
  rw [Q0V.eq, hL, Option.bind_some, Q3 (by omega), Qb (x := (X.length : Int) + Y.length) (by omega) (by omega), Qb (x := 2 * (lc X Y : Int)) (by omega) (by omega), Qb (by omega) (by omega)]
  unfold cw
  by_cases h : (X.length : Int) + Y.length - 2 * (lc X Y : Int) > b
  · rw [Q2 h, if_pos (by omega)]; rfl
  · rw [Q3 h, if_neg (by omega), hC]; rfl
end Go.Ev.W
/- What two texts share: both functions; the pairs go up and tell equal symbols. -/
set_option linter.unusedVariables false
set_option linter.unusedSimpArgs false
namespace Go.Ev.W
open Go.Ev
theorem grd_at : ∀ (X Y : List Int) (i k : Nat), ∀ q ∈ grd X Y i k, i ≤ q.1 ∧ k ≤ q.2 ∧ ∃ v, X[q.1 - i]? = some v ∧ Y[q.2 - k]? = some v
  | [], Y, i, k, q, h => by simp [grd] at h
  | x :: xs, Y, i, k, q, h => by
    have none : ∀ q ∈ grd xs Y (i + 1) k, i ≤ q.1 ∧ k ≤ q.2 ∧ ∃ v, (x :: xs)[q.1 - i]? = some v ∧ Y[q.2 - k]? = some v := fun q h => by
      obtain ⟨h1, h2, v, h3, h4⟩ := grd_at xs Y (i + 1) k q h
      refine ⟨by omega, h2, v, ?_, h4⟩
      rw [show q.1 - i = (q.1 - (i + 1)) + 1 by omega, List.getElem?_cons_succ]; exact h3
    unfold grd at h
    cases hf : fst1 x Y with
    | none => rw [hf] at h; exact none q h
    | some p =>
      rw [hf] at h
      simp only at h
      by_cases e : lc xs (Y.drop (p + 1)) + 1 = lc (x :: xs) Y
      · rw [if_pos e] at h
        rcases List.mem_cons.1 h with h | h
        · subst h
          obtain ⟨hp, h2, _⟩ := fst1_some _ _ _ hf
          refine ⟨Nat.le_refl _, Nat.le_add_right _ _, x, by simp, ?_⟩
          show Y[k + p - k]? = _
          rw [Nat.add_sub_cancel_left, List.getElem?_eq_getElem hp, h2]
        · obtain ⟨h1, h2, v, h3, h4⟩ := grd_at xs (Y.drop (p + 1)) (i + 1) (k + p + 1) q h
          refine ⟨by omega, by omega, v, ?_, ?_⟩
          · rw [show q.1 - i = (q.1 - (i + 1)) + 1 by omega, List.getElem?_cons_succ]; exact h3
          · rw [List.getElem?_drop, show p + 1 + (q.2 - (k + p + 1)) = q.2 - k by omega] at h4; exact h4
      · rw [if_neg e] at h; exact none q h
def Up (p q : Nat × Nat) : Prop := p.1 < q.1 ∧ p.2 < q.2
theorem grd_up : ∀ (X Y : List Int) (i k : Nat), (grd X Y i k).Pairwise Up
  | [], Y, i, k => by simp [grd]
  | x :: xs, Y, i, k => by
    unfold grd
    cases hf : fst1 x Y with
    | none => exact grd_up xs Y (i + 1) k
    | some p =>
      simp only
      by_cases e : lc xs (Y.drop (p + 1)) + 1 = lc (x :: xs) Y
      · rw [if_pos e]
        refine List.pairwise_cons.2 ⟨fun q hq => ?_, grd_up xs _ _ _⟩
        obtain ⟨h1, h2, _⟩ := grd_at xs (Y.drop (p + 1)) (i + 1) (k + p + 1) q hq
        exact ⟨by omega, by omega⟩
      · rw [if_neg e]; exact grd_up xs Y (i + 1) k
theorem cw_at (X Y : List Int) (b : Int) : ∀ q ∈ cw X Y b, ∃ v, X[q.1]? = some v ∧ Y[q.2]? = some v := fun q hq => by
  unfold cw at hq
  split at hq
  · cases hq
  · obtain ⟨_, _, h⟩ := grd_at X Y 0 0 q hq
    exact h
theorem cw_up (X Y : List Int) (b : Int) : (cw X Y b).Pairwise Up := by
  unfold cw
  split
  · exact .nil
  · exact grd_up X Y 0 0
theorem cw_len (X Y : List Int) (b : Int) : (cw X Y b).length ≤ X.length := by
  unfold cw
  split
  · exact Nat.zero_le _
  · rw [grd_len]; exact lc_le X Y
def seg (X : List Int) (lo hi : Nat) : List Int := (X.drop lo).take (hi - lo)
theorem seg_at {X : List Int} {lo hi i : Nat} {v : Int} (h : (seg X lo hi)[i]? = some v) : X[i + lo]? = some v ∧ i + lo < hi := by
  unfold seg at h
  rw [List.getElem?_take] at h
  split at h
  · rename_i hlt
    rw [List.getElem?_drop, Nat.add_comm] at h
    exact ⟨h, by omega⟩
  · cases h
theorem seg_len (X : List Int) (lo hi : Nat) : (seg X lo hi).length ≤ X.length := by unfold seg; rw [List.length_take, List.length_drop]; omega
def shq (a b : List Int) (bud : Int) (A B : Ls) (w : List Nat) : List (Nat × Nat) := cw (seg a (spLo A w) (spHi A w)) (seg b (spLo B w) (spHi B w)) bud
def shf (A B : Ls) (w : List Nat) (p : Nat × Nat) : Nat × Nat := (p.1 + spLo A w, p.2 + spLo B w)
def shw (a b : List Int) (bud : Int) (A B : Ls) (w : List Nat) : List (Nat × Nat) := (shq a b bud A B w).map (shf A B w)
def shv (a b : List Int) (bud : Int) (A B : Ls) : List (Nat × Nat) := (words (A ++ B)).flatMap (shw a b bud A B)
theorem shw_at (a b : List Int) (bud : Int) (A B : Ls) (w : List Nat) : ∀ q ∈ shw a b bud A B w, spLo A w ≤ q.1 ∧ q.1 < spHi A w ∧ spLo B w ≤ q.2 ∧ q.2 < spHi B w ∧ ∃ v, a[q.1]? = some v ∧ b[q.2]? = some v := fun q hq => by
  obtain ⟨p, hp, rfl⟩ := List.mem_map.1 hq
  obtain ⟨v, h1, h2⟩ := cw_at _ _ _ p hp
  obtain ⟨k1, l1⟩ := seg_at h1
  obtain ⟨k2, l2⟩ := seg_at h2
  exact ⟨Nat.le_add_left _ _, l1, Nat.le_add_left _ _, l2, v, k1, k2⟩
theorem shv_up (a b : List Int) (bud : Int) (A B : Ls) : (shv a b bud A B).Pairwise Up := by
  unfold shv
  refine List.pairwise_flatMap.2 ⟨fun w _ => ?_, (words_sorted _).imp fun {v w} hvw x hx y hy => ?_⟩
  · unfold shw
    rw [List.pairwise_map]
    exact (cw_up _ _ _).imp fun {p q} h => ⟨Nat.add_lt_add_right h.1 _, Nat.add_lt_add_right h.2 _⟩
  · obtain ⟨_, x1, _, x2, _⟩ := shw_at a b bud A B v x hx
    obtain ⟨y1, _, y2, _, _⟩ := shw_at a b bud A B w y hy
    have := sp_next A hvw
    have := sp_next B hvw
    exact ⟨by omega, by omega⟩
theorem shv_at (a b : List Int) (bud : Int) (A B : Ls) : ∀ q ∈ shv a b bud A B, ∃ v, a[q.1]? = some v ∧ b[q.2]? = some v := fun q hq => by
  obtain ⟨w, _, hw⟩ := List.mem_flatMap.1 hq
  exact (shw_at a b bud A B w q hw).2.2.2.2
theorem Q3f {f : List Nat → List (Nat × Nat)} (h : ∀ w, (f w).length ≤ 301) : ∀ W : Ls, (W.flatMap f).length ≤ W.length * 301
  | [] => by simp
  | w :: W => by
    have := Q3f h W
    have := h w
    rw [List.flatMap_cons, List.length_append, List.length_cons]; omega
section
variable (a b : List Int) (ha : a.length ≤ 301) (hb : b.length ≤ 301) (bud : Int) (A B : Ls) (hA : A.length = a.length) (hB : B.length = b.length)
include ha hb hA hB
omit hb hB in
theorem shq_len (w : List Nat) : (shq a b bud A B w).length ≤ 301 := by
  have := cw_len (seg a (spLo A w) (spHi A w)) (seg b (spLo B w) (spHi B w)) bud
  have := seg_len a (spLo A w) (spHi A w)
  unfold shq; omega
omit hb hB in
theorem shw_len (w : List Nat) : (shw a b bud A B w).length ≤ 301 := by unfold shw; rw [List.length_map]; exact shq_len a b ha bud A B hA w
theorem shift_eq (w : List Nat) (p : Nat × Nat) (hp : p ∈ shq a b bud A B w) : (IntKind.i64.wrap ((ipr p).1 + (spLo A w : Int)), IntKind.i64.wrap ((ipr p).2 + (spLo B w : Int))) = ipr (shf A B w p) := by
  obtain ⟨v, h1, h2⟩ := cw_at _ _ _ p hp
  obtain ⟨k1, l1⟩ := seg_at h1
  obtain ⟨k2, l2⟩ := seg_at h2
  have s1 := sp_len A w
  have s2 := sp_len B w
  show (IntKind.i64.wrap ((p.1 : Int) + (spLo A w : Int)), IntKind.i64.wrap ((p.2 : Int) + (spLo B w : Int))) = (((p.1 + spLo A w : Nat) : Int), ((p.2 + spLo B w : Nat) : Int))
  rw [Qb (by omega) (by omega), Qb (by omega) (by omega)]
  congr 1
theorem specShare_l1 (w : List Nat) (j : Int) (P : List (List Int × Int × Int × Int × Int)) (out : List (Nat × Nat)) (ho : out.length ≤ 1000000) (x : List Int) (r1 r2 : Int) : ∀ (s i : Nat), (shq a b bud A B w).length - i = s → i ≤ (shq a b bud A B w).length →
    QO_l1 bud P j i ((out ++ ((shq a b bud A B w).take i).map (shf A B w)).map ipr) a b x (spLo A w) r1 (spLo B w) r2 ((shq a b bud A B w).map ipr) =
      QO_l0 bud P (IntKind.i64.wrap (j + 1)) ((out ++ shw a b bud A B w).map ipr) a b := by
  have hl := shq_len a b ha bud A B hA w
  intro s
  induction s with
  | zero =>
    intro i h1 h2
    obtain rfl : i = (shq a b bud A B w).length := by omega
    rw [QO_l1.eq, List.length_map, Q3 (by omega), List.take_length]; rfl
  | succ s ih =>
    intro i h1 h2
    have hi : i < (shq a b bud A B w).length := by omega
    have eg : ((shq a b bud A B w).map ipr)[i]? = some (ipr (shq a b bud A B w)[i]) := by rw [List.getElem?_map, List.getElem?_eq_getElem hi]; rfl
    have ef : (out ++ ((shq a b bud A B w).take i).map (shf A B w)).map ipr ++ [ipr (shf A B w (shq a b bud A B w)[i])] = (out ++ ((shq a b bud A B w).take (i + 1)).map (shf A B w)).map ipr := by
      rw [Q2R _ _ hi, List.map_append, List.map_append, List.map_append, List.map_append, List.append_assoc]; rfl
    rw [QO_l1.eq, List.length_map, Q2 (by omega)]
    simp only [Q0C, Int.toNat_natCast, eg, Option.bind_some]
    rw [shift_eq a b ha hb bud A B hA hB w _ (List.getElem_mem hi), ef, Q2 (by simp only [List.length_map, List.length_append, List.length_take, List.length_cons, List.length_nil]; omega), Q6 i (by omega)]
    exact ih (i + 1) (by omega) (by omega)
theorem specShare_l0 (W : Ls) (hW : W.length ≤ 602) : ∀ (s i : Nat), W.length - i = s → i ≤ W.length →
    QO_l0 bud (W.map (part A B)) i (((W.take i).flatMap (shw a b bud A B)).map ipr) a b = some ((W.flatMap (shw a b bud A B)).map ipr) := by
  intro s
  induction s with
  | zero =>
    intro i h1 h2
    obtain rfl : i = W.length := by omega
    rw [QO_l0.eq, List.length_map, Q3 (by omega), List.take_length]
  | succ s ih =>
    intro i h1 h2
    have hi : i < W.length := by omega
    have eg : (W.map (part A B))[i]? = some (part A B W[i]) := by rw [List.getElem?_map, List.getElem?_eq_getElem hi]; rfl
    have s1 := sp_le A W[i]
    have s2 := sp_len A W[i]
    have s3 := sp_le B W[i]
    have s4 := sp_len B W[i]
    have hq := specWithin_eq (seg a (spLo A W[i]) (spHi A W[i])) (seg b (spLo B W[i]) (spHi B W[i])) (Nat.le_trans (seg_len _ _ _) ha) (Nat.le_trans (seg_len _ _ _) hb) bud
    have ho := Q3f (shw_len a b ha bud A B hA) (W.take i)
    rw [List.length_take] at ho
    have h1' := specShare_l1 a b ha hb bud A B hA hB W[i] i (W.map (part A B)) ((W.take i).flatMap (shw a b bud A B)) (by omega) (ints W[i]) (spHi A W[i]) (spHi B W[i]) _ 0 rfl (Nat.zero_le _)
    have ih := ih (i + 1) (by omega) (by omega)
    rw [Q2R _ _ hi, List.flatMap_append, List.flatMap_cons, List.flatMap_nil, List.append_nil] at ih
    rw [List.take_zero, List.map_nil, List.append_nil, Q6 i (by omega), ih] at h1'
    rw [QO_l0.eq, List.length_map, Q2 (by omega), Q0C, eg, Option.bind_some]
    show (bif decide (0 ≤ (spHi A W[i] : Int) ∧ (spHi A W[i] : Int) ≤ (a.length : Int)) then
        bif decide (0 ≤ (spLo A W[i] : Int) ∧ (spLo A W[i] : Int) ≤ ((((spHi A W[i] : Nat) : Int).toNat : Nat) : Int)) then
        bif decide (0 ≤ (spHi B W[i] : Int) ∧ (spHi B W[i] : Int) ≤ (b.length : Int)) then
        bif decide (0 ≤ (spLo B W[i] : Int) ∧ (spLo B W[i] : Int) ≤ ((((spHi B W[i] : Nat) : Int).toNat : Nat) : Int)) then _ else none else none else none else none) = _
    rw [Q2 (by omega), Q2 (by omega), Q2 (by omega), Q2 (by omega)]
    show (Q0V (seg a (spLo A W[i]) (spHi A W[i])) (seg b (spLo B W[i]) (spHi B W[i])) bud).bind _ = _
    rw [hq, Option.bind_some]
    exact h1'
end
def share (R T : List Nat) (d : Nat) (bud : Int) : List (Nat × Nat) := shv (ints (bwt R)) (ints (bwt T)) bud (hd R d) (hd T d)
section
variable (R T : List Nat) (hR : R.length ≤ 300) (hT : T.length ≤ 300) (bR : Q0z R) (bT : Q0z T) (d : Nat) (hd8 : d ≤ 8) (bud : Int)
include hR hT bR bT hd8
theorem specShare_eq : QO (ints R) (ints T) d bud = some ((share R T d bud).map ipr) := by
  have l1 := Q1x R
  have l2 := Q1x T
  have k1 := hd_len R d
  have k2 := hd_len T d
  have wl := words_len (hd R d ++ hd T d)
  rw [List.length_append] at wl
  have h := specShare_l0 (ints (bwt R)) (ints (bwt T)) (by rw [Q8]; omega) (by rw [Q8]; omega) bud (hd R d) (hd T d) (by rw [Q8]; omega) (by rw [Q8]; omega) (words (hd R d ++ hd T d)) (by omega) _ 0 rfl (Nat.zero_le _)
  rw [QO.eq, specParts_eq R T hR hT bR bT d hd8, Option.bind_some, Q2n R hR bR, Option.bind_some, Q2n T hT bT, Option.bind_some]
  unfold parts
  rw [List.take_zero] at h
  exact h
end
theorem share_up (R T : List Nat) (d : Nat) (bud : Int) : (share R T d bud).Pairwise Up := shv_up _ _ _ _ _
theorem share_at (R T : List Nat) (d : Nat) (bud : Int) : ∀ q ∈ share R T d bud, ∃ v, (bwt R)[q.1]? = some v ∧ (bwt T)[q.2]? = some v := fun q hq => by
  obtain ⟨v, h1, h2⟩ := shv_at _ _ _ _ _ q hq
  rw [List.getElem?_map] at h1 h2
  obtain ⟨x, hx, ex⟩ := Option.map_eq_some_iff.1 h1
  obtain ⟨y, hy, ey⟩ := Option.map_eq_some_iff.1 h2
  refine ⟨x, hx, ?_⟩
  rw [hy]; congr 1; omega
end Go.Ev.W
/- Patches and waves of two texts: plain facts. -/
set_option linter.unusedVariables false
set_option linter.unusedSimpArgs false
namespace Go.Ev.W
open Go.Ev
def at0 : List Nat → List Bool → List Nat
  | x :: X, b :: bs => (if b then [] else [x]) ++ at0 X bs
  | _, _ => []
def at1 : List Nat → List Bool → List Nat
  | x :: X, b :: bs => (if b then [x] else []) ++ at1 X bs
  | _, _ => []
theorem at0_not : ∀ (X : List Nat) (bs : List Bool), at0 X (bs.map not) = at1 X bs
  | [], [] => rfl
  | [], _ :: _ => rfl
  | _ :: _, [] => rfl
  | x :: X, b :: bs => by
    rw [List.map_cons, at0, at1, at0_not X bs]
    cases b <;> rfl
theorem at0_snoc : ∀ (X : List Nat) (bs : List Bool) (i : Nat) (hi : i < X.length) (hb : i < bs.length), at0 (X.take (i + 1)) bs = at0 (X.take i) bs ++ (if bs[i] then [] else [X[i]])
  | [], _, _, hi, _ => by simp at hi
  | _ :: _, [], _, _, hb => by simp at hb
  | x :: X, b :: bs, 0, _, _ => by cases b <;> simp [at0]
  | x :: X, b :: bs, i + 1, hi, hb => by
    rw [List.take_succ_cons, List.take_succ_cons, at0, at0, at0_snoc X bs i (by simpa using hi) (by simpa using hb), List.append_assoc]; rfl
theorem at1_snoc : ∀ (X : List Nat) (bs : List Bool) (i : Nat) (hi : i < X.length) (hb : i < bs.length), at1 (X.take (i + 1)) bs = at1 (X.take i) bs ++ (if bs[i] then [X[i]] else [])
  | [], _, _, hi, _ => by simp at hi
  | _ :: _, [], _, _, hb => by simp at hb
  | x :: X, b :: bs, 0, _, _ => by cases b <;> simp [at1]
  | x :: X, b :: bs, i + 1, hi, hb => by
    rw [List.take_succ_cons, List.take_succ_cons, at1, at1, at1_snoc X bs i (by simpa using hi) (by simpa using hb), List.append_assoc]; rfl
theorem Q3b : ∀ (X : List Nat) (bs : List Bool), ∀ x ∈ at0 X bs, x ∈ X
  | [], [], x, h => by cases h
  | [], _ :: _, x, h => by cases h
  | _ :: _, [], x, h => by cases h
  | y :: X, b :: bs, x, h => by
    rw [at0] at h
    rcases List.mem_append.1 h with h | h
    · cases b
      · rw [if_neg (by simp)] at h; rw [List.mem_singleton.1 h]; exact List.mem_cons_self
      · cases h
    · exact List.mem_cons_of_mem _ (Q3b X bs x h)
theorem Q2o : ∀ (X : List Nat) (bs : List Bool), (at0 X bs).length ≤ X.length
  | [], [] => by simp [at0]
  | [], _ :: _ => by simp [at0]
  | _ :: _, [] => by simp [at0]
  | y :: X, b :: bs => by
    have := Q2o X bs
    rw [at0, List.length_append, List.length_cons]
    cases b <;> simp <;> omega
theorem at1_len : ∀ (X : List Nat) (bs : List Bool), X.length = bs.length → (at1 X bs).length = one bs bs.length
  | [], [], _ => by simp [at1, one]
  | [], _ :: _, h => by cases h
  | _ :: _, [], h => by cases h
  | y :: X, b :: bs, h => by
    have := at1_len X bs (by simpa using h)
    unfold one at this ⊢
    rw [List.take_length] at this ⊢
    rw [at1, List.length_append, this, List.filter_cons]
    cases b <;> simp <;> omega
theorem zer_cons (b : Bool) (bs : List Bool) : zer (b :: bs) (b :: bs).length = (if b then 0 else 1) + zer bs bs.length := by
  unfold zer
  rw [List.take_length, List.take_length, List.filter_cons]
  cases b <;> simp <;> omega
theorem one_cons (b : Bool) (bs : List Bool) : one (b :: bs) (b :: bs).length = (if b then 1 else 0) + one bs bs.length := by
  unfold one
  rw [List.take_length, List.take_length, List.filter_cons]
  cases b <;> simp <;> omega
def pat : List Bool → List Nat → List Nat → List Nat
  | [], _, _ => []
  | true :: bs, T, R => T.headD 0 :: pat bs T.tail R
  | false :: bs, T, R => R.headD 0 :: pat bs T R.tail
theorem Q2v : ∀ (bs : List Bool) (T R : List Nat), (pat bs T R).length = bs.length
  | [], _, _ => rfl
  | true :: bs, T, R => by rw [pat, List.length_cons, List.length_cons, Q2v bs]
  | false :: bs, T, R => by rw [pat, List.length_cons, List.length_cons, Q2v bs]
theorem pat_at0 : ∀ (bs : List Bool) (T R : List Nat), zer bs bs.length = R.length → at0 (pat bs T R) bs = R
  | [], T, R, h => by
    have : R.length = 0 := by rw [← h]; rfl
    rw [List.length_eq_zero_iff.1 this]; rfl
  | true :: bs, T, R, h => by
    rw [zer_cons, if_pos rfl, Nat.zero_add] at h
    rw [pat, at0, if_pos rfl, List.nil_append, pat_at0 bs T.tail R h]
  | false :: bs, T, R, h => by
    rw [zer_cons, if_neg (by simp)] at h
    cases R with
    | nil => simp at h
    | cons r R =>
      rw [List.length_cons] at h
      rw [pat, at0, if_neg (by simp)]
      show r :: at0 (pat bs T R) bs = _
      rw [pat_at0 bs T R (by omega)]
theorem pat_snoc : ∀ (bs : List Bool) (T R : List Nat) (i : Nat) (hi : i < bs.length), zer bs bs.length = R.length → one bs bs.length = T.length →
    (pat bs T R)[i]? = if bs[i] then T[one bs i]? else R[zer bs i]?
  | [], _, _, _, hi, _, _ => by simp at hi
  | true :: bs, T, R, i, hi, h1, h2 => by
    rw [zer_cons, if_pos rfl, Nat.zero_add] at h1
    rw [one_cons, if_pos rfl] at h2
    cases T with
    | nil => simp at h2
    | cons t T =>
      rw [List.length_cons] at h2
      cases i with
      | zero => rfl
      | succ i =>
        have ih := pat_snoc bs T R i (by simpa using hi) h1 (by omega)
        have e1 : one (true :: bs) (i + 1) = one bs i + 1 := by unfold one; simp
        have e2 : zer (true :: bs) (i + 1) = zer bs i := by unfold zer; simp
        rw [pat, List.getElem?_cons_succ, List.getElem_cons_succ, e1, e2, List.getElem?_cons_succ]
        exact ih
  | false :: bs, T, R, i, hi, h1, h2 => by
    rw [zer_cons, if_neg (by simp)] at h1
    rw [one_cons, if_neg (by simp), Nat.zero_add] at h2
    cases R with
    | nil => simp at h1
    | cons r R =>
      rw [List.length_cons] at h1
      cases i with
      | zero => rfl
      | succ i =>
        have ih := pat_snoc bs T R i (by simpa using hi) (by omega) h2
        have e1 : one (false :: bs) (i + 1) = one bs i := by unfold one; simp
        have e2 : zer (false :: bs) (i + 1) = zer bs i + 1 := by unfold zer; simp
        rw [pat, List.getElem?_cons_succ, List.getElem_cons_succ, e1, e2, List.getElem?_cons_succ]
        exact ih
theorem LI_inj : ∀ {L M : List (Int × List Nat)}, LI L = LI M → L = M
  | [], [], _ => rfl
  | [], _ :: _, h => by cases h
  | _ :: _, [], h => by cases h
  | (a, x) :: L, (b, y) :: M, h => by
    have h' : (a, ints x) :: LI L = (b, ints y) :: LI M := h
    injection h' with h1 h2
    injection h1 with h3 h4
    rw [h3, ints_inj' h4, LI_inj h2]
def wvV (Y : List Nat) : Int × List Int × List (Int × List Int) := ((Y.length : Int), ints (wLv 9 0 Y).1, LI (wLv 9 0 Y).2)
theorem waves_iff (n : Int) (Z : List Int) (L : List (Int × List Nat)) (hx : ∀ p ∈ L, ∀ x ∈ p.2, x < 2 ^ 64) (Y : List Nat) (hY : Y.length ≤ 1000) (hy : ∀ y ∈ Y, y ≤ 511) :
    (wOk n Z L = true ∧ Q22 n.toNat L = Y) ↔ (n, Z, LI L) = wvV Y := by
  constructor
  · rintro ⟨h1, h2⟩
    have h3 := wave_inv n Z L hx h1
    have h4 := Q36 n.toNat L
    have h5 := (wOk_at h1).1
    rw [h2] at h3 h4
    unfold wvV
    rw [h3.1, h3.2, h4, Int.toNat_of_nonneg h5]
  · intro h
    unfold wvV at h
    injection h with h1 h2
    injection h2 with h2 h3
    have h3 := LI_inj h3
    subst h1; subst h2; subst h3
    rw [Int.toNat_natCast]
    exact wave_back Y hY hy
end Go.Ev.W
/- How many bits are as told: both functions. -/
set_option linter.unusedVariables false
set_option linter.unusedSimpArgs false
namespace Go.Ev.W
open Go.Ev
theorem countB_l0 (bs : List Bool) (b : Bool) (hn : bs.length ≤ 5000) : ∀ (d i : Nat), bs.length - i = d → i ≤ bs.length → Qh_l0 (bint b) (bef bs i b : Nat) (Qe bs) bs.length i = some ((bef bs bs.length b : Nat) : Int)
  | 0, i, h1, h2 => by
    obtain rfl : i = bs.length := by omega
    rw [Qh_l0.eq, Q3 (by omega)]
  | d + 1, i, h1, h2 => by
    have hi : i < bs.length := by omega
    have hz := bef_le bs i b
    have ih := countB_l0 bs b hn d (i + 1) (by omega) (by omega)
    rw [bef_succ bs i b hi] at ih
    rw [Qh_l0.eq, Q2 (by omega), Q27 bs i hi, Option.bind_some, bint_eq, Q6 i (by omega), Q6 (bef bs i b) (by omega)]
    cases hb : (bs[i] == b) with
    | true => rw [hb, if_pos rfl] at ih; rw [Qu]; exact ih
    | false => rw [hb, if_neg (by simp), Nat.add_zero] at ih; rw [Qd]; exact ih
theorem bef_zero (bs : List Bool) (b : Bool) : bef bs 0 b = 0 := rfl
theorem countB_eq (bs : List Bool) (b : Bool) (hn : bs.length ≤ 5000) : Qh (Qe bs) (bint b) = some ((bef bs bs.length b : Nat) : Int) := by
  rw [Qh.eq, List.length_map]
  have := countB_l0 bs b hn _ 0 rfl (by omega)
  rw [bef_zero] at this
  exact this
theorem rankB_l1 (bs : List Bool) (b : Bool) (hn : bs.length ≤ 5000) : ∀ (d i : Nat), bs.length - i = d → i ≤ bs.length → Qv_l1 (bint b) bs.length (bef bs i b : Nat) i (Qe bs) = some ((bef bs bs.length b : Nat) : Int)
  | 0, i, h1, h2 => by
    obtain rfl : i = bs.length := by omega
    rw [Qv_l1.eq, Q3 (by omega)]
  | d + 1, i, h1, h2 => by
    have hi : i < bs.length := by omega
    have hz := bef_le bs i b
    have ih := rankB_l1 bs b hn d (i + 1) (by omega) (by omega)
    rw [bef_succ bs i b hi] at ih
    rw [Qv_l1.eq, Q2 (by omega), Q27 bs i hi, Option.bind_some, Int.toNat_natCast, Q2t bs i hi, Option.bind_some, bint_eq, Q6 i (by omega), Q6 (bef bs i b) (by omega)]
    cases hb : (bs[i] == b) with
    | true => rw [hb, if_pos rfl] at ih; rw [Qu]; exact ih
    | false => rw [hb, if_neg (by simp), Nat.add_zero] at ih; rw [Qd]; exact ih
theorem bit_bint (b : Bool) : Q0U (bint b) = some true := by
  rw [Q0U.eq]
  cases b <;> rfl
theorem rankB_eq (m : Nat) (W : List Nat) (b : Bool) (hm : m ≤ 5000) (hl : W.length ≤ 1048576) (hx : ∀ x ∈ W, x < 2 ^ 64) (hv : vOk m W = true) : Qv ((m : Int), ints W) (bint b) m = some ((bef (bts m W) m b : Nat) : Int) := by
  rw [Qv.eq]
  try simp only
  have ht := (Q26 m W hx).1 (by simp only [vOk, Bool.and_eq_true] at hv; simpa using hv.2)
  have hb := Q1A m W
  rw [Q3j _ W hl hx, Option.bind_some, hv, Bool.not_true, Qd, bit_bint, Option.bind_some, Bool.not_true, Qd, Q3 (by omega), Q3 (by omega), Qv_l0.eq,
    Q2P m W hm (by have := ht.1; unfold nw at this; omega) hx, Option.bind_some]
  have := rankB_l1 (bts m W) b (by omega) _ 0 rfl (by omega)
  rw [bef_zero, hb] at this
  exact this
end Go.Ev.W
/- Patches: both functions. -/
set_option linter.unusedVariables false
set_option linter.unusedSimpArgs false
namespace Go.Ev.W
open Go.Ev
theorem bint_one (b : Bool) : (bint b == (1 : Int)) = b := by cases b <;> rfl
theorem bint_not (b : Bool) : IntKind.i64.wrap ((1 : Int) - bint b) = bint (!b) := by cases b <;> rfl
theorem flip_l0 (bs : List Bool) (hn : bs.length ≤ 5000) (a : Int) (b : List Int) : ∀ (d i : Nat), bs.length - i = d → i ≤ bs.length → Q0n_l0 bs.length i a b (Qe ((bs.take i).map not ++ bs.drop i)) = some ((bs.length : Int), ints (wrds (bs.map not)))
  | 0, i, h1, h2 => by
    obtain rfl : i = bs.length := by omega
    rw [Q0n_l0.eq, Q3 (by omega), List.take_length, List.drop_length, List.append_nil, Q3x _ (by rw [List.length_map]; omega), Option.bind_some, List.length_map]
  | d + 1, i, h1, h2 => by
    have hi : i < bs.length := by omega
    have hl : ((bs.take i).map not).length = i := by rw [List.length_map, List.length_take]; omega
    have hg : (Qe ((bs.take i).map not ++ bs.drop i))[i]? = some (bint bs[i]) := by
      rw [List.getElem?_map, List.getElem?_append_right (by omega), hl, Nat.sub_self, List.getElem?_drop, Nat.add_zero, List.getElem?_eq_getElem hi]; rfl
    have hs : (Qe ((bs.take i).map not ++ bs.drop i)).set i (bint (!bs[i])) = Qe ((bs.take (i + 1)).map not ++ bs.drop (i + 1)) := by
      have e : ((bs.take i).map not ++ bs.drop i).set i (!bs[i]) = (bs.take (i + 1)).map not ++ bs.drop (i + 1) := by
        rw [List.set_append_right _ _ (by omega), hl, Nat.sub_self, List.drop_eq_getElem_cons hi, List.set_cons_zero, List.take_add_one, List.getElem?_eq_getElem hi, List.map_append, List.append_assoc]; rfl
      rw [← e]
      exact (List.map_set (f := bint)).symm
    rw [Q0n_l0.eq, Q2 (by omega)]
    simp only [Q0C, Int.toNat_natCast, hg, Option.bind_some]
    rw [bint_not, hs, Q6 i (by omega)]
    exact flip_l0 bs hn a b d (i + 1) (by omega) (by omega)
theorem flip_eq (m : Nat) (W : List Nat) (hm : m ≤ 5000) (hl : W.length ≤ 1048576) (hx : ∀ x ∈ W, x < 2 ^ 64) (hv : vOk m W = true) : Q0n ((m : Int), ints W) = some ((m : Int), ints (wrds ((bts m W).map not))) := by
  have ht := (Q26 m W hx).1 (by simp only [vOk, Bool.and_eq_true] at hv; simpa using hv.2)
  have hb := Q1A m W
  rw [Q0n.eq]
  try simp only
  rw [Q33 _ _ hl hx, hv, Option.bind_some, Bool.not_true, Qd, Q3k m W hm hx ht, Option.bind_some, Q1R]
  have := flip_l0 (bts m W) (by omega) 0 [] _ 0 rfl (by omega)
  rw [List.take_zero, List.map_nil, List.nil_append, List.drop_zero] at this
  refine this.trans ?_
  rw [hb]
theorem unmarked_l0 (X : List Nat) (m : Nat) (W : List Nat) (hm : m ≤ 5000) (ht : tight m W) (hX : X.length ≤ m) : ∀ (d i : Nat), X.length - i = d → i ≤ X.length → Q09_l0 (ints X) X.length i m (ints W) (ints (at0 (X.take i) (bts m W))) = some (ints (at0 X (bts m W)))
  | 0, i, h1, h2 => by
    obtain rfl : i = X.length := by omega
    rw [Q09_l0.eq, Q3 (by omega), List.take_length]
  | d + 1, i, h1, h2 => by
    have hi : i < X.length := by omega
    have hb := Q1A m W
    have hbi : (bts m W)[i]'(by omega) = bit W i := by simp [bts]
    have hle := Q2o (X.take i) (bts m W)
    rw [List.length_take] at hle
    have ih := unmarked_l0 X m W hm ht hX d (i + 1) (by omega) (by omega)
    rw [at0_snoc X (bts m W) i hi (by omega), hbi] at ih
    rw [Q09_l0.eq, Q2 (by omega), Q0s _ _ hi, Option.bind_some, bitsAt_eq _ W ht.2.1 i (by omega) (by have := ht.1; unfold nw at this; omega), Option.bind_some, Q2z, Q6 i (by omega)]
    cases hb : bit W i with
    | true =>
      rw [hb, if_pos rfl, List.append_nil] at ih
      rw [Bool.not_true, Qd]; exact ih
    | false =>
      rw [hb, if_neg (by simp), ← Q2k] at ih
      rw [Bool.not_false, Qu, Q2 (by simp only [List.length_cons, List.length_nil, Q8]; omega)]
      exact ih
theorem Q4o (X : List Nat) (m : Nat) (W : List Nat) (hm : m ≤ 5000) (ht : tight m W) (hX : X.length ≤ m) : Q09 (ints X) ((m : Int), ints W) = some (ints (at0 X (bts m W))) := by
  rw [Q09.eq, Q8]
  have := unmarked_l0 X m W hm ht hX _ 0 rfl (by omega)
  rw [List.take_zero] at this
  have e : at0 [] (bts m W) = [] := by cases bts m W <;> rfl
  rw [e] at this
  exact this
theorem zeros_l0 (X : List Nat) (bs : List Bool) (hX : X.length ≤ bs.length) (hb : bs.length ≤ 5000) : ∀ (d i : Nat), X.length - i = d → i ≤ X.length → Q0c_l0 (ints X) (Qe bs) i (ints (at0 (X.take i) bs)) = some (ints (at0 X bs))
  | 0, i, h1, h2 => by
    obtain rfl : i = X.length := by omega
    rw [Q0c_l0.eq, Q8, Q3 (by omega), List.take_length]
  | d + 1, i, h1, h2 => by
    have hi : i < X.length := by omega
    have hle := Q2o (X.take i) bs
    rw [List.length_take] at hle
    have ih := zeros_l0 X bs hX hb d (i + 1) (by omega) (by omega)
    rw [at0_snoc X bs i hi (by omega)] at ih
    rw [Q0c_l0.eq, Q8, Q2 (by omega), Q27 bs i (by omega), Option.bind_some, Q2z, Q6 i (by omega)]
    cases hb : bs[i] with
    | true =>
      rw [hb, if_pos rfl, List.append_nil] at ih
      rw [Bool.not_true, Qd]; exact ih
    | false =>
      rw [hb, if_neg (by simp), ← Q2k] at ih
      rw [Bool.not_false, Qu, Q0s _ _ hi, Option.bind_some, Q2 (by simp only [List.length_cons, List.length_nil, Q8]; omega)]
      exact ih
theorem zeros_eq (X : List Nat) (bs : List Bool) (hX : X.length ≤ bs.length) (hb : bs.length ≤ 5000) : Q0c (ints X) (Qe bs) = some (ints (at0 X bs)) := by
  rw [Q0c.eq]
  have := zeros_l0 X bs hX hb _ 0 rfl (by omega)
  rw [List.take_zero] at this
  have e : at0 [] bs = [] := by cases bs <;> rfl
  rw [e] at this
  exact this
section
variable (bs : List Bool) (T R : List Nat) (hz : zer bs bs.length = R.length) (ho : one bs bs.length = T.length)
include hz ho
theorem pat_step (i : Nat) (hi : i < bs.length) : (∃ y, (pat bs T R)[i]? = some y ∧ ints ((pat bs T R).take i) ++ [(y : Int)] = ints ((pat bs T R).take (i + 1)) ∧ (bs[i] = true → ∃ h : one bs i < T.length, y = T[one bs i] ∧ one bs (i + 1) = one bs i + 1 ∧ zer bs (i + 1) = zer bs i) ∧
    (bs[i] = false → ∃ h : zer bs i < R.length, y = R[zer bs i] ∧ one bs (i + 1) = one bs i ∧ zer bs (i + 1) = zer bs i + 1)) := by
  have hl := Q2v bs T R
  have hp := pat_snoc bs T R i hi hz ho
  have h1 := Q35 bs i hi
  have h2 := Q2I bs i hi
  have m1 := one_mono bs (i + 1) (bs.length - (i + 1)) (by omega)
  have m2 := zer_mono bs (i + 1) (bs.length - (i + 1)) (by omega)
  rw [show i + 1 + (bs.length - (i + 1)) = bs.length by omega] at m1 m2
  have hpi : i < (pat bs T R).length := by omega
  refine ⟨(pat bs T R)[i], List.getElem?_eq_getElem hpi, by rw [Q2k, ← Q38 _ i hpi], fun hb => ?_, fun hb => ?_⟩
  · rw [hb, if_pos rfl] at h1 h2 hp
    have hlt : one bs i < T.length := by omega
    rw [List.getElem?_eq_getElem hpi, List.getElem?_eq_getElem hlt] at hp
    injection hp with hp
    exact ⟨hlt, hp, h1, by omega⟩
  · rw [hb] at h1 h2 hp
    simp only [Bool.false_eq_true, if_false] at h1 h2 hp
    have hlt : zer bs i < R.length := by omega
    rw [List.getElem?_eq_getElem hpi, List.getElem?_eq_getElem hlt] at hp
    injection hp with hp
    exact ⟨hlt, hp, by omega, h2⟩
variable (hn : bs.length ≤ 5000)
include hn
theorem implPatch_l3 : ∀ (d i : Nat), bs.length - i = d → i ≤ bs.length → Qr_l3 (one bs i) (T.length - one bs i) (ints (R.drop (zer bs i))) bs.length i (ints T) (ints ((pat bs T R).take i)) (Qe bs) = some (ints (pat bs T R), true)
  | 0, i, h1, h2 => by
    obtain rfl : i = bs.length := by omega
    rw [Qr_l3.eq, Q3 (by omega), List.take_of_length_le (by rw [Q2v]; omega)]
  | d + 1, i, h1, h2 => by
    have hi : i < bs.length := by omega
    obtain ⟨y, _, p2, p3, p4⟩ := pat_step bs T R hz ho i hi
    have ih := implPatch_l3 d (i + 1) (by omega) (by omega)
    rw [Qr_l3.eq, Q2 (by omega)]
    simp only [Q27 bs i hi, Q2t bs i hi, Int.toNat_natCast, Option.bind_some, bint_one]
    have hol : (ints ((pat bs T R).take i)).length ≤ 5000 := by rw [Q8, List.length_take, Q2v]; omega
    cases hb : bs[i] with
    | true =>
      obtain ⟨q1, q2, q3, q4⟩ := p3 hb
      rw [q3, q4] at ih
      rw [Qu, Q2 (by omega), Q1S _ _ q1, Option.bind_some, Q2 (by simp only [List.length_cons, List.length_nil]; omega), Q2 (by omega), Q6 i (by omega), ← q2, p2, show T.length - one bs i - 1 = T.length - (one bs i + 1) by omega]
      exact ih
    | false =>
      obtain ⟨q1, q2, q3, q4⟩ := p4 hb
      rw [q3, q4] at ih
      have hd : R.drop (zer bs i) = R[zer bs i] :: R.drop (zer bs i + 1) := List.drop_eq_getElem_cons q1
      have hdl : (R.drop (zer bs i)).length = R.length - zer bs i := List.length_drop ..
      have ht : ((ints (R.drop (zer bs i))).take (ints (R.drop (zer bs i))).length).drop 1 = ints (R.drop (zer bs i + 1)) := by
        rw [List.take_length, hd]; rfl
      have ha : at? (ints (R.drop (zer bs i))) 0 = some ((R[zer bs i] : Nat) : Int) := by rw [at?_zero, hd]; rfl
      rw [Qd, ha, Option.bind_some, Q2 (by simp only [List.length_cons, List.length_nil]; omega), Q2 (by rw [Q8]; omega), Q6 i (by omega), ht, ← q2, p2]
      exact ih
theorem implPatch_l2 : ∀ (d i : Nat), bs.length - i = d → i ≤ bs.length → one bs i = 0 → Qr_l2 (ints (R.drop (zer bs i))) bs.length i (ints T) (ints ((pat bs T R).take i)) (Qe bs) = some (ints (pat bs T R), true)
  | 0, i, h1, h2, h0 => by
    obtain rfl : i = bs.length := by omega
    rw [Qr_l2.eq, Q3 (by omega), List.take_of_length_le (by rw [Q2v]; omega)]
  | d + 1, i, h1, h2, h0 => by
    have hi : i < bs.length := by omega
    obtain ⟨y, _, p2, p3, p4⟩ := pat_step bs T R hz ho i hi
    rw [Qr_l2.eq, Q2 (by omega)]
    simp only [Q27 bs i hi, Q2t bs i hi, Int.toNat_natCast, Option.bind_some, bint_one]
    have hol : (ints ((pat bs T R).take i)).length ≤ 5000 := by rw [Q8, List.length_take, Q2v]; omega
    cases hb : bs[i] with
    | true =>
      obtain ⟨q1, q2, q3, q4⟩ := p3 hb
      have ih := implPatch_l3 bs T R hz ho hn d (i + 1) (by omega) (by omega)
      rw [q3, q4, h0] at ih
      simp only [h0] at q1 q2
      rw [Qu, at?_zero, Q1S _ 0 q1, Option.bind_some, Option.bind_some, Q2 (by simp only [List.length_cons, List.length_nil]; omega), Q2 (by rw [Q8]; omega), Q6 i (by omega), ← q2, p2, Q8]
      exact ih
    | false =>
      obtain ⟨q1, q2, q3, q4⟩ := p4 hb
      have ih := implPatch_l2 d (i + 1) (by omega) (by omega) (by omega)
      rw [q4] at ih
      have hd : R.drop (zer bs i) = R[zer bs i] :: R.drop (zer bs i + 1) := List.drop_eq_getElem_cons q1
      have hdl : (R.drop (zer bs i)).length = R.length - zer bs i := List.length_drop ..
      have ht : ((ints (R.drop (zer bs i))).take (ints (R.drop (zer bs i))).length).drop 1 = ints (R.drop (zer bs i + 1)) := by
        rw [List.take_length, hd]; rfl
      have ha : at? (ints (R.drop (zer bs i))) 0 = some ((R[zer bs i] : Nat) : Int) := by rw [at?_zero, hd]; rfl
      rw [Qd, ha, Option.bind_some, Q2 (by simp only [List.length_cons, List.length_nil]; omega), Q2 (by rw [Q8]; omega), Q6 i (by omega), ht, ← q2, p2]
      exact ih
theorem specPatch_l3 (a : Int) (b : List Int) (c : Int) (e : List Int) : ∀ (d i : Nat), bs.length - i = d → i ≤ bs.length → Qq_l3 (one bs i : Nat) i a b c e (ints R) (Qe bs) (ints T) (ints ((pat bs T R).take i)) = some (ints (pat bs T R), true)
  | 0, i, h1, h2 => by
    obtain rfl : i = bs.length := by omega
    rw [Qq_l3.eq, Q1R, Q3 (by omega), List.take_of_length_le (by rw [Q2v]; omega)]
  | d + 1, i, h1, h2 => by
    have hi : i < bs.length := by omega
    obtain ⟨y, _, p2, p3, p4⟩ := pat_step bs T R hz ho i hi
    have ih := specPatch_l3 a b c e d (i + 1) (by omega) (by omega)
    have hzo := Q2a bs i (by omega)
    rw [Qq_l3.eq, Q1R, Q2 (by omega)]
    simp only [Q27 bs i hi, Q2t bs i hi, Int.toNat_natCast, Option.bind_some, bint_one]
    have hol : (ints ((pat bs T R).take i)).length ≤ 5000 := by rw [Q8, List.length_take, Q2v]; omega
    cases hb : bs[i] with
    | true =>
      obtain ⟨q1, q2, q3, q4⟩ := p3 hb
      rw [q3] at ih
      rw [Qu, Q0s _ _ q1, Option.bind_some, Q1S _ _ q1, Option.bind_some, Q2 (by simp only [List.length_cons, List.length_nil]; omega), Q6 i (by omega), Q6 (one bs i) (by omega), ← q2, p2]
      exact ih
    | false =>
      obtain ⟨q1, q2, q3, q4⟩ := p4 hb
      rw [q3] at ih
      rw [Qd, Qb (x := (i : Int) - ((one bs i : Nat) : Int)) (by omega) (by omega), show (i : Int) - ((one bs i : Nat) : Int) = ((zer bs i : Nat) : Int) by omega, Q0s _ _ q1, Option.bind_some, Q2 (by simp only [List.length_cons, List.length_nil]; omega), Q6 i (by omega), ← q2, p2]
      exact ih
end
theorem specPatch_l1 (A : List Nat) (bs : List Bool) (hA : A.length = bs.length) (hn : bs.length ≤ 5000) (a : Int) (b : List Int) (c : Int) (e : List Int) (r : List Int) (y : List Int) : ∀ (d i : Nat), bs.length - i = d → i ≤ bs.length →
    Qq_l1 (ints A) i a b c e r (Qe bs) y (ints (at1 (A.take i) bs)) = (Qv (c, e) (1 : Int) c).bind fun y4 => bif y4 != ((ints (at1 A bs)).length : Int) then some (([] : List Int), false) else
        (Qv (c, e) (0 : Int) c).bind fun y5 => bif y5 != (r.length : Int) then some (([] : List Int), false) else Qq_l2 a b c e r y (ints (at1 A bs))
  | 0, i, h1, h2 => by
    obtain rfl : i = bs.length := by omega
    rw [Qq_l1.eq, Q1R, Q3 (by omega), List.take_of_length_le (by omega)]
  | d + 1, i, h1, h2 => by
    have hi : i < bs.length := by omega
    have hle : (at1 (A.take i) bs).length ≤ (A.take i).length := by
      have : ∀ (X : List Nat) (bs : List Bool), (at1 X bs).length ≤ X.length := by
        intro X
        induction X with
        | nil => intro bs; cases bs <;> simp [at1]
        | cons x X ih =>
          intro bs
          cases bs with
          | nil => simp [at1]
          | cons b bs =>
            have := ih bs
            rw [at1, List.length_append, List.length_cons]
            cases b <;> simp <;> omega
      exact this _ _
    rw [List.length_take] at hle
    have ih := specPatch_l1 A bs hA hn a b c e r y d (i + 1) (by omega) (by omega)
    rw [at1_snoc A bs i (by omega) hi] at ih
    rw [← ih, Qq_l1.eq, Q1R, Q2 (by omega)]
    simp only [Q27 bs i hi, Q2t bs i hi, Int.toNat_natCast, Option.bind_some, bint_one]
    cases hb : bs[i] with
    | true =>
      rw [Qu, Q0s _ i (by omega), Option.bind_some, Q2 (by simp only [List.length_cons, List.length_nil, Q8]; omega), Q6 i (by omega), if_pos rfl, Q2k]
    | false =>
      rw [Qd, Q6 i (by omega), if_neg (by simp), List.append_nil]
def pOkB (A : List Nat) (n1 : Int) (W1 : List Nat) (n2 : Int) (W2 : List Nat) (R : List Nat) : Bool :=
  vOk n1 W1 && (vOk n2 W2 && (decide (n1 = A.length) && (decide (n2 ≤ 301) && (decide (one (bts n1.toNat W1) n1.toNat = one (bts n2.toNat W2) n2.toNat) && decide (zer (bts n2.toNat W2) n2.toNat = R.length)))))
def pVal (A : List Nat) (n1 : Int) (W1 : List Nat) (n2 : Int) (W2 : List Nat) (R : List Nat) : List Nat := pat (bts n2.toNat W2) (at1 A (bts n1.toNat W1)) R
section
variable (A : List Nat) (hA : A.length ≤ 301) (n1 : Int) (W1 : List Nat) (n2 : Int) (W2 : List Nat) (R : List Nat) (l1 : W1.length ≤ 1048576) (x1 : ∀ x ∈ W1, x < 2 ^ 64) (l2 : W2.length ≤ 1048576) (x2 : ∀ x ∈ W2, x < 2 ^ 64)
include hA l1 x1 l2 x2
theorem specPatch_eq : Qq (ints A) (n1, ints W1, n2, ints W2, ints R) = some (bif pOkB A n1 W1 n2 W2 R then (ints (pVal A n1 W1 n2 W2 R), true) else ([], false)) := by
  rw [Qq.eq, Q0u.eq, Q8, decide_eq_true (by omega), Option.bind_some, Bool.not_true, Qd]
  try simp only
  rw [Q3j _ _ l1 x1, Option.bind_some, Q3j _ _ l2 x2]
  unfold pOkB
  cases hv1 : vOk n1 W1 with
  | false => rfl
  | true =>
    rw [Bool.not_true, Qd, Option.bind_some, Bool.true_and]
    cases hv2 : vOk n2 W2 with
    | false => rfl
    | true =>
      rw [Bool.not_true, Qd, Bool.true_and]
      by_cases h1 : n1 = (A.length : Int)
      · rw [Q1F h1, decide_eq_true h1, Bool.true_and]
        by_cases h2 : n2 ≤ 301
        · rw [Q3 (by omega), decide_eq_true h2, Bool.true_and, Qq_l0.eq]
          have b1 := hv1; have b2 := hv2
          simp only [vOk, Bool.and_eq_true, decide_eq_true_eq] at b1 b2
          obtain ⟨m1, rfl⟩ : ∃ m : Nat, n1 = m := ⟨n1.toNat, by omega⟩
          obtain ⟨m2, rfl⟩ : ∃ m : Nat, n2 = m := ⟨n2.toNat, by omega⟩
          simp only [Int.toNat_natCast] at b1 b2 ⊢
          have t1 := (Q26 m1 W1 x1).1 b1.2
          have t2 := (Q26 m2 W2 x2).1 b2.2
          have e1 := Q1A m1 W1
          have e2 := Q1A m2 W2
          have hA1 : A.length = (bts m1 W1).length := by omega
          rw [Q2P m1 W1 (by omega) (by have := t1.1; unfold nw at this; omega) x1, Option.bind_some, Q2P m2 W2 (by omega) (by have := t2.1; unfold nw at this; omega) x2, Option.bind_some]
          have h3 := specPatch_l1 A (bts m1 W1) hA1 (by omega) m1 (ints W1) m2 (ints W2) (ints R) (Qe (bts m2 W2)) _ 0 rfl (by omega)
          rw [List.take_zero] at h3
          have e0 : at1 [] (bts m1 W1) = [] := by cases bts m1 W1 <;> rfl
          rw [e0] at h3
          refine h3.trans ?_
          have r1 := rankB_eq m2 W2 true (by omega) l2 x2 hv2
          have r0 := rankB_eq m2 W2 false (by omega) l2 x2 hv2
          rw [Q2Q] at r1
          rw [bef_false] at r0
          rw [show bint true = 1 from rfl] at r1
          rw [show bint false = 0 from rfl] at r0
          have hal := at1_len A (bts m1 W1) hA1
          rw [e1] at hal
          rw [r1, Option.bind_some, Q8, hal]
          by_cases h4 : one (bts m1 W1) m1 = one (bts m2 W2) m2
          · rw [Q1F (by omega), decide_eq_true h4, Bool.true_and, r0, Option.bind_some, Q8]
            by_cases h5 : zer (bts m2 W2) m2 = R.length
            · rw [Q1F (by omega), decide_eq_true h5, Qu, Qq_l2.eq]
              have h6 := specPatch_l3 (bts m2 W2) (at1 A (bts m1 W1)) R (by rw [e2]; exact h5) (by rw [e2]; omega) (by omega) m1 (ints W1) m2 (ints W2) _ 0 rfl (by omega)
              rw [one_zero, List.take_zero] at h6
              refine h6.trans ?_
              unfold pVal
              simp only [Int.toNat_natCast]
            · rw [Q1K (by omega), decide_eq_false h5]; rfl
          · rw [Q1K (by omega), decide_eq_false h4]; rfl
        · rw [Q2 (by omega), decide_eq_false h2]; rfl
      · rw [Q1K h1, decide_eq_false h1]; rfl
theorem implPatchDo_eq : Qr (ints A) (n1, ints W1, n2, ints W2, ints R) = some (bif pOkB A n1 W1 n2 W2 R then (ints (pVal A n1 W1 n2 W2 R), true) else ([], false)) := by
  rw [Qr.eq, Q8, Q3 (by omega)]
  try simp only
  rw [Q33 _ _ l1 x1, Option.bind_some, Q33 _ _ l2 x2]
  unfold pOkB
  cases hv1 : vOk n1 W1 with
  | false => rfl
  | true =>
    rw [Bool.not_true, Qd, Option.bind_some, Bool.true_and]
    cases hv2 : vOk n2 W2 with
    | false => rfl
    | true =>
      rw [Bool.not_true, Qd, Bool.true_and]
      by_cases h1 : n1 = (A.length : Int)
      · rw [Q1F h1, decide_eq_true h1, Bool.true_and]
        by_cases h2 : n2 ≤ 301
        · rw [Q3 (by omega), decide_eq_true h2, Bool.true_and, Qr_l0.eq]
          have b1 := hv1; have b2 := hv2
          simp only [vOk, Bool.and_eq_true, decide_eq_true_eq] at b1 b2
          obtain ⟨m1, rfl⟩ : ∃ m : Nat, n1 = m := ⟨n1.toNat, by omega⟩
          obtain ⟨m2, rfl⟩ : ∃ m : Nat, n2 = m := ⟨n2.toNat, by omega⟩
          simp only [Int.toNat_natCast] at b1 b2 ⊢
          have t1 := (Q26 m1 W1 x1).1 b1.2
          have t2 := (Q26 m2 W2 x2).1 b2.2
          have e1 := Q1A m1 W1
          have e2 := Q1A m2 W2
          have hA1 : A.length = (bts m1 W1).length := by omega
          have c1 := countB_eq (bts m1 W1) true (by omega)
          have c2 := countB_eq (bts m2 W2) true (by omega)
          rw [Q2Q, e1, show bint true = 1 from rfl] at c1
          rw [Q2Q, e2, show bint true = 1 from rfl] at c2
          have hal := at1_len A (bts m1 W1) hA1
          rw [e1] at hal
          have hzo := Q2a (bts m2 W2) m2 (by omega)
          rw [Q3k m2 W2 (by omega) x2 t2, Option.bind_some, c2, Option.bind_some, Q3k m1 W1 (by omega) x1 t1, Option.bind_some, c1, Option.bind_some]
          by_cases h4 : one (bts m1 W1) m1 = one (bts m2 W2) m2
          · rw [Q1F (by omega), decide_eq_true h4, Bool.true_and, Qb (by omega) (by omega), Q8]
            by_cases h5 : zer (bts m2 W2) m2 = R.length
            · have ht' := Q2y ((bts m1 W1).map not)
              rw [List.length_map, e1] at ht'
              have hbt : bts m1 (wrds ((bts m1 W1).map not)) = (bts m1 W1).map not := by
                have := bts_wrds ((bts m1 W1).map not)
                rw [List.length_map, e1] at this
                exact this
              rw [Q1F (by omega), decide_eq_true h5, Qu, Qr_l1.eq, flip_eq m1 W1 (by omega) l1 x1 hv1, Option.bind_some]
              try simp only
              rw [Q4o A m1 _ (by omega) ht' (by omega), hbt, at0_not, Option.bind_some, Q3k m2 W2 (by omega) x2 t2, Option.bind_some, Q1R]
              have h6 := implPatch_l2 (bts m2 W2) (at1 A (bts m1 W1)) R (by rw [e2]; exact h5) (by rw [e2]; omega) (by omega) _ 0 rfl (by omega) (one_zero _)
              rw [Q34, List.take_zero, List.drop_zero] at h6
              refine h6.trans ?_
              unfold pVal
              simp only [Int.toNat_natCast]
            · rw [Q1K (by omega), decide_eq_false h5]; rfl
          · rw [Q1K (by omega), decide_eq_false h4]; rfl
        · rw [Q2 (by omega), decide_eq_false h2]; rfl
      · rw [Q1K h1, decide_eq_false h1]; rfl
end
end Go.Ev.W
/- Flags of pairs: marks, patches. -/
set_option linter.unusedVariables false
set_option linter.unusedSimpArgs false
namespace Go.Ev.W
open Go.Ev
def fl (n : Nat) (I : List Nat) : List Bool := (List.range n).map fun i => decide (i ∈ I)
theorem Q2c (n : Nat) (I : List Nat) : (fl n I).length = n := by simp [fl]
theorem fl_get (n : Nat) (I : List Nat) (i : Nat) (h : i < n) : (fl n I)[i]'(by rw [Q2c]; exact h) = decide (i ∈ I) := by simp [fl]
theorem fl_nil (n : Nat) : fl n [] = List.replicate n false := by
  unfold fl
  refine List.ext_getElem (by simp) fun i h1 h2 => by simp
theorem fl_set (n : Nat) (I : List Nat) (a : Nat) (ha : a < n) : (fl n I).set a true = fl n (I ++ [a]) := by
  refine List.ext_getElem (by rw [List.length_set, Q2c, Q2c]) fun i h1 h2 => ?_
  rw [List.length_set, Q2c] at h1
  rw [List.getElem_set, fl_get n _ i h1, fl_get n _ i h1]
  by_cases h : a = i
  · subst h; simp
  · rw [if_neg h]
    refine decide_eq_decide.2 ?_
    rw [List.mem_append, List.mem_singleton]
    exact ⟨.inl, fun h' => h'.elim id fun h' => absurd h'.symm h⟩
theorem bints_set (bs : List Bool) (a : Nat) : (Qe bs).set a (1 : Int) = Qe (bs.set a true) := (List.map_set (f := bint) (a := true)).symm
theorem bints_rep (n : Nat) : List.replicate n (0 : Int) = Qe (fl n []) := by rw [fl_nil, Qe, List.map_replicate]; rfl
theorem at0_len' : ∀ (X : List Nat) (bs : List Bool), X.length = bs.length → (at0 X bs).length = zer bs bs.length
  | [], [], _ => by simp [at0, zer]
  | [], _ :: _, h => by cases h
  | _ :: _, [], h => by cases h
  | y :: X, b :: bs, h => by
    have := at0_len' X bs (by simpa using h)
    rw [zer_cons, at0, List.length_append, this]
    cases b <;> simp
theorem patchS_l1 (X : List Nat) (bs : List Bool) (hX : X.length = bs.length) (hb : bs.length ≤ 5000) (k e a b : Int) (x y z u v : List Int) : ∀ (s i : Nat), X.length - i = s → i ≤ X.length →
    QP_l1 (ints X) i k e x y z (Qe bs) a b u v (ints (at0 (X.take i) bs)) = some (a, u, b, v, ints (at0 X bs)) := by
  intro s
  induction s with
  | zero =>
    intro i h1 h2
    obtain rfl : i = X.length := by omega
    rw [QP_l1.eq, Q8, Q3 (by omega), List.take_length]
  | succ s ih =>
    intro i h1 h2
    have hi : i < X.length := by omega
    have hle := Q2o (X.take i) bs
    rw [List.length_take] at hle
    have ih := ih (i + 1) (by omega) (by omega)
    rw [at0_snoc X bs i hi (by omega)] at ih
    rw [QP_l1.eq, Q8, Q2 (by omega), Q27 bs i (by omega), Option.bind_some, Int.toNat_natCast, Q2t bs i (by omega), Option.bind_some, Q2z, Q6 i (by omega)]
    cases hb : bs[i] with
    | true =>
      rw [hb, if_pos rfl, List.append_nil] at ih
      rw [Bool.not_true, Qd]; exact ih
    | false =>
      rw [hb, if_neg (by simp), ← Q2k] at ih
      rw [Bool.not_false, Qu, Q0s _ _ hi, Option.bind_some, Q2 (by simp only [List.length_cons, List.length_nil, Q8]; omega)]
      exact ih
theorem patchS_l0 (X : List Nat) (P : List (Nat × Nat)) (m : Nat) (hm : m ≤ 5000) (hn : X.length ≤ 5000) (hl : P.length ≤ 100000) (hP : ∀ q ∈ P, q.1 < m ∧ q.2 < X.length) (k e : Int) (x y z : List Int) : ∀ (s i : Nat), P.length - i = s → i ≤ P.length →
    QP_l0 (ints X) (P.map ipr) i k e x y z (Qe (fl m ((P.take i).map Prod.fst))) (Qe (fl X.length ((P.take i).map Prod.snd))) = some ((m : Int), ints (wrds (fl m (P.map Prod.fst))), (X.length : Int), ints (wrds (fl X.length (P.map Prod.snd))), ints (at0 X (fl X.length (P.map Prod.snd)))) := by
  intro s
  induction s with
  | zero =>
    intro i h1 h2
    obtain rfl : i = P.length := by omega
    have h := patchS_l1 X (fl X.length (P.map Prod.snd)) (by rw [Q2c]) (by rw [Q2c]; exact hn) k e m X.length x y z (ints (wrds (fl m (P.map Prod.fst)))) (ints (wrds (fl X.length (P.map Prod.snd)))) _ 0 rfl (Nat.zero_le _)
    rw [List.take_zero] at h
    have e0 : at0 [] (fl X.length (P.map Prod.snd)) = [] := by cases fl X.length (P.map Prod.snd) <;> rfl
    rw [e0] at h
    rw [QP_l0.eq, List.length_map, Q3 (by omega), List.take_length, Q32 _ (by rw [Q2c]; exact hm), Option.bind_some, Q32 _ (by rw [Q2c]; exact hn), Option.bind_some, Q2c, Q2c]
    exact h
  | succ s ih =>
    intro i h1 h2
    have hi : i < P.length := by omega
    have ⟨b1, b2⟩ := hP _ (List.getElem_mem hi)
    have eg : (P.map ipr)[i]? = some (ipr P[i]) := by rw [List.getElem?_map, List.getElem?_eq_getElem hi]; rfl
    have g1 : (Qe (fl m ((P.take i).map Prod.fst)))[P[i].1]? = some (bint (decide (P[i].1 ∈ (P.take i).map Prod.fst))) := by
      rw [List.getElem?_map, List.getElem?_eq_getElem (by rw [Q2c]; exact b1), Option.map_some, fl_get _ _ _ b1]
    have g2 : (Qe (fl X.length ((P.take i).map Prod.snd)))[P[i].2]? = some (bint (decide (P[i].2 ∈ (P.take i).map Prod.snd))) := by
      rw [List.getElem?_map, List.getElem?_eq_getElem (by rw [Q2c]; exact b2), Option.map_some, fl_get _ _ _ b2]
    have ih := ih (i + 1) (by omega) (by omega)
    rw [Q2R _ _ hi, List.map_append, List.map_append, List.map_cons, List.map_nil, List.map_cons, List.map_nil, ← fl_set m _ _ b1, ← fl_set X.length _ _ b2, ← bints_set, ← bints_set] at ih
    rw [QP_l0.eq, List.length_map, Q2 (by omega), Q0C, eg, Option.bind_some]
    show (at? _ ((P[i].1 : Nat) : Int)).bind _ = _
    rw [Q0C, g1, Option.bind_some]
    show ((Qe (fl m ((P.take i).map Prod.fst)))[P[i].1]?).bind _ = _
    rw [g1, Option.bind_some, Option.bind_some]
    show (at? _ ((P[i].2 : Nat) : Int)).bind _ = _
    rw [Q0C, g2, Option.bind_some]
    show ((Qe (fl X.length ((P.take i).map Prod.snd)))[P[i].2]?).bind _ = _
    rw [g2, Option.bind_some, Q6 i (by omega)]
    exact ih
theorem patchS_eq (X : List Nat) (P : List (Nat × Nat)) (m : Nat) (hm : m ≤ 5000) (hn : X.length ≤ 5000) (hl : P.length ≤ 100000) (hP : ∀ q ∈ P, q.1 < m ∧ q.2 < X.length) :
    QP m (ints X) (P.map ipr) = some ((m : Int), ints (wrds (fl m (P.map Prod.fst))), (X.length : Int), ints (wrds (fl X.length (P.map Prod.snd))), ints (at0 X (fl X.length (P.map Prod.snd)))) := by
  have h := patchS_l0 X P m hm hn hl hP 0 0 [] [] [] _ 0 rfl (Nat.zero_le _)
  rw [List.take_zero, List.map_nil, List.map_nil] at h
  rw [QP.eq, decide_eq_true (by omega), decide_eq_true (by omega), Bool.true_and, Qu, decide_eq_true (by omega), decide_eq_true (by rw [Q8]; omega), Bool.true_and, Qu, Q8, Int.toNat_natCast, Int.toNat_natCast, bints_rep, bints_rep]
  exact h
end Go.Ev.W
/- Relative indexes: equality and the laws' helpers. -/
set_option linter.unusedVariables false
set_option linter.unusedSimpArgs false
namespace Go.Ev.W
open Go.Ev
abbrev RelT := Int × Int × Int × (List Int) × Int × (List Int) × Int × (List Int) × (List (Int × (List Int))) × Int × (List Int) × (List (Int × (List Int))) × FmT11
instance decRelA : DecidableEq (Int × (List Int) × (List (Int × (List Int))) × FmT11) := @instDecidableEqProd Int _ inferInstance decFm13
instance decRelB : DecidableEq (Int × (List Int) × (List (Int × (List Int))) × Int × (List Int) × (List (Int × (List Int))) × FmT11) := @instDecidableEqProd Int _ inferInstance (@instDecidableEqProd (List Int) _ inferInstance (@instDecidableEqProd (List (Int × (List Int))) _ inferInstance decRelA))
instance decRelC : DecidableEq (Int × (List Int) × Int × (List Int) × Int × (List Int) × (List (Int × (List Int))) × Int × (List Int) × (List (Int × (List Int))) × FmT11) := @instDecidableEqProd Int _ inferInstance (@instDecidableEqProd (List Int) _ inferInstance (@instDecidableEqProd Int _ inferInstance (@instDecidableEqProd (List Int) _ inferInstance decRelB)))
instance decRel : DecidableEq RelT := @instDecidableEqProd Int _ inferInstance (@instDecidableEqProd Int _ inferInstance decRelC)
theorem rel_dec (x y : RelT) : decide (x = y) = (decide (x.1 = y.1) && (decide (x.2.1 = y.2.1) && (decide ((x.2.2.1, x.2.2.2.1) = (y.2.2.1, y.2.2.2.1)) && (decide ((x.2.2.2.2.1, x.2.2.2.2.2.1) = (y.2.2.2.2.1, y.2.2.2.2.2.1)) && (decide ((x.2.2.2.2.2.2.1, x.2.2.2.2.2.2.2.1, x.2.2.2.2.2.2.2.2.1) = (y.2.2.2.2.2.2.1, y.2.2.2.2.2.2.2.1, y.2.2.2.2.2.2.2.2.1)) && (decide ((x.2.2.2.2.2.2.2.2.2.1, x.2.2.2.2.2.2.2.2.2.2.1, x.2.2.2.2.2.2.2.2.2.2.2.1) = (y.2.2.2.2.2.2.2.2.2.1, y.2.2.2.2.2.2.2.2.2.2.1, y.2.2.2.2.2.2.2.2.2.2.2.1)) && (decide (x.2.2.2.2.2.2.2.2.2.2.2.2.1 = y.2.2.2.2.2.2.2.2.2.2.2.2.1) && (decide ((x.2.2.2.2.2.2.2.2.2.2.2.2.2.1, x.2.2.2.2.2.2.2.2.2.2.2.2.2.2.1) = (y.2.2.2.2.2.2.2.2.2.2.2.2.2.1, y.2.2.2.2.2.2.2.2.2.2.2.2.2.2.1)) && (decide ((x.2.2.2.2.2.2.2.2.2.2.2.2.2.2.2.1, x.2.2.2.2.2.2.2.2.2.2.2.2.2.2.2.2.1, x.2.2.2.2.2.2.2.2.2.2.2.2.2.2.2.2.2.1, x.2.2.2.2.2.2.2.2.2.2.2.2.2.2.2.2.2.2.1) = (y.2.2.2.2.2.2.2.2.2.2.2.2.2.2.2.1, y.2.2.2.2.2.2.2.2.2.2.2.2.2.2.2.2.1, y.2.2.2.2.2.2.2.2.2.2.2.2.2.2.2.2.2.1, y.2.2.2.2.2.2.2.2.2.2.2.2.2.2.2.2.2.2.1)) && decide (x.2.2.2.2.2.2.2.2.2.2.2.2.2.2.2.2.2.2.2 = y.2.2.2.2.2.2.2.2.2.2.2.2.2.2.2.2.2.2.2)))))))))) := by
  obtain ⟨a1, a2, a3, a4, a5, a6, a7, a8, a9, a10, a11, a12, a13, a14, a15, a16, a17, a18, a19, a20⟩ := x
  obtain ⟨b1, b2, b3, b4, b5, b6, b7, b8, b9, b10, b11, b12, b13, b14, b15, b16, b17, b18, b19, b20⟩ := y
  simp only [Q2A, Bool.and_assoc]
structure SmRel (x : RelT) (k : Nat) : Prop where
  ref : x.2.2.2.1.length ≤ k
  inn : x.2.2.2.2.2.1.length ≤ k
  z1 : x.2.2.2.2.2.2.2.1.length ≤ k
  l1 : x.2.2.2.2.2.2.2.2.1.length ≤ k
  z2 : x.2.2.2.2.2.2.2.2.2.2.1.length ≤ k
  l2 : x.2.2.2.2.2.2.2.2.2.2.2.1.length ≤ k
  c : x.2.2.2.2.2.2.2.2.2.2.2.2.1.length ≤ k
  m : x.2.2.2.2.2.2.2.2.2.2.2.2.2.2.1.length ≤ k
  s : x.2.2.2.2.2.2.2.2.2.2.2.2.2.2.2.2.2.2.1.length ≤ k
  i : x.2.2.2.2.2.2.2.2.2.2.2.2.2.2.2.2.2.2.2.2.2.2.length ≤ k
  v1 : ∀ p ∈ x.2.2.2.2.2.2.2.2.1, p.2.length ≤ k
  v2 : ∀ p ∈ x.2.2.2.2.2.2.2.2.2.2.2.1, p.2.length ≤ k
structure GdRel (x : RelT) : Prop where
  sm : SmRel x 1048576
  wv1 : Small x.2.2.2.2.2.2.2.1 x.2.2.2.2.2.2.2.2.1
  wv2 : Small x.2.2.2.2.2.2.2.2.2.2.1 x.2.2.2.2.2.2.2.2.2.2.2.1
theorem samePacked_v (v w : Int × Int × Int × List Int) (h : v.2.2.2.length < 4611686018427387904) : Q0D v w = some (decide (v = w)) := Q3W v.1 v.2.1 v.2.2.1 v.2.2.2 w.1 w.2.1 w.2.2.1 w.2.2.2 h
theorem sameRel_eq (x y : RelT) (k : Nat) (hk : k < 4611686018427387904) (h : SmRel x k) : Q12 x y = some (decide (x = y)) := by
  rw [Q12.eq, rel_dec, Q3m _ _ _ _ (by have := h.ref; omega), Q3m _ _ _ _ (by have := h.inn; omega), Q4l _ _ _ _ _ _ (by have := h.z1; omega) (by have := h.l1; omega) (fun p hp => by have := h.v1 p hp; omega), Q4l _ _ _ _ _ _ (by have := h.z2; omega) (by have := h.l2; omega) (fun p hp => by have := h.v2 p hp; omega), equalI_eq _ _ (by have := h.c; omega), Q3m _ _ _ _ (by have := h.m; omega), Q3W _ _ _ _ _ _ _ _ (by have := h.s; omega), samePacked_v _ _ (by have := h.i; omega), Q2j, Q2j]
  simp only [Option.bind_some]
  cases decide (x.1 = y.1)
  · rfl
  cases decide (x.2.1 = y.2.1)
  · rfl
  cases decide ((x.2.2.1, x.2.2.2.1) = (y.2.2.1, y.2.2.2.1))
  · rfl
  cases decide ((x.2.2.2.2.1, x.2.2.2.2.2.1) = (y.2.2.2.2.1, y.2.2.2.2.2.1))
  · rfl
  cases decide ((x.2.2.2.2.2.2.1, x.2.2.2.2.2.2.2.1, x.2.2.2.2.2.2.2.2.1) = (y.2.2.2.2.2.2.1, y.2.2.2.2.2.2.2.1, y.2.2.2.2.2.2.2.2.1))
  · rfl
  cases decide ((x.2.2.2.2.2.2.2.2.2.1, x.2.2.2.2.2.2.2.2.2.2.1, x.2.2.2.2.2.2.2.2.2.2.2.1) = (y.2.2.2.2.2.2.2.2.2.1, y.2.2.2.2.2.2.2.2.2.2.1, y.2.2.2.2.2.2.2.2.2.2.2.1))
  · rfl
  cases decide (x.2.2.2.2.2.2.2.2.2.2.2.2.1 = y.2.2.2.2.2.2.2.2.2.2.2.2.1)
  · rfl
  cases decide ((x.2.2.2.2.2.2.2.2.2.2.2.2.2.1, x.2.2.2.2.2.2.2.2.2.2.2.2.2.2.1) = (y.2.2.2.2.2.2.2.2.2.2.2.2.2.1, y.2.2.2.2.2.2.2.2.2.2.2.2.2.2.1))
  · rfl
  cases decide ((x.2.2.2.2.2.2.2.2.2.2.2.2.2.2.2.1, x.2.2.2.2.2.2.2.2.2.2.2.2.2.2.2.2.1, x.2.2.2.2.2.2.2.2.2.2.2.2.2.2.2.2.2.1, x.2.2.2.2.2.2.2.2.2.2.2.2.2.2.2.2.2.2.1) = (y.2.2.2.2.2.2.2.2.2.2.2.2.2.2.2.1, y.2.2.2.2.2.2.2.2.2.2.2.2.2.2.2.2.1, y.2.2.2.2.2.2.2.2.2.2.2.2.2.2.2.2.2.1, y.2.2.2.2.2.2.2.2.2.2.2.2.2.2.2.2.2.2.1))
  · rfl
  rfl
end Go.Ev.W
/- Relative indexes: the text of a valid one. -/
set_option linter.unusedVariables false
set_option linter.unusedSimpArgs false
namespace Go.Ev.W
open Go.Ev
structure XWords (x : RelT) : Prop where
  ref : ∀ y ∈ x.2.2.2.1, 0 ≤ y ∧ y < ((2 ^ 64 : Nat) : Int)
  inn : ∀ y ∈ x.2.2.2.2.2.1, 0 ≤ y ∧ y < ((2 ^ 64 : Nat) : Int)
  w1 : ∀ p ∈ x.2.2.2.2.2.2.2.2.1, ∀ y ∈ p.2, 0 ≤ y ∧ y < ((2 ^ 64 : Nat) : Int)
  w2 : ∀ p ∈ x.2.2.2.2.2.2.2.2.2.2.2.1, ∀ y ∈ p.2, 0 ≤ y ∧ y < ((2 ^ 64 : Nat) : Int)
def relV (R D : List Nat) (x : RelT) (W1 W2 : List Nat) : RelT :=
  ((D.length : Int), x.2.1, x.2.2.1, x.2.2.2.1, x.2.2.2.2.1, x.2.2.2.2.2.1, (wvV (at0 (bwt R) (bts x.2.2.1.toNat W1))).1, (wvV (at0 (bwt R) (bts x.2.2.1.toNat W1))).2.1, (wvV (at0 (bwt R) (bts x.2.2.1.toNat W1))).2.2,
    (wvV (at0 (bwt D) (bts x.2.2.2.2.1.toNat W2))).1, (wvV (at0 (bwt D) (bts x.2.2.2.2.1.toNat W2))).2.1, (wvV (at0 (bwt D) (bts x.2.2.2.2.1.toNat W2))).2.2, (fmV D x.2.1.toNat).2.2.2.2.2)
structure RelOkV (f : FmT) (x : RelT) (R D : List Nat) : Prop where
  dl : D.length ≤ 300
  db : ∀ y ∈ D, y < 256
  r1 : 1 ≤ x.2.1
  r2 : x.2.1 ≤ 64
  fv : FmOkV f R ∧ FmW f R
  ft : QY f = some (ints R, true)
  fi : Q0I f = some (ints R, true)
  ref : ∃ W1, x.2.2.2.1 = ints W1 ∧ W1.length ≤ 1048576 ∧ (∀ y ∈ W1, y < 2 ^ 64) ∧ vOk x.2.2.1 W1 = true
  inn : ∃ W2, x.2.2.2.2.2.1 = ints W2 ∧ W2.length ≤ 1048576 ∧ (∀ y ∈ W2, y < 2 ^ 64) ∧ vOk x.2.2.2.2.1 W2 = true
  wv1 : ∃ L, x.2.2.2.2.2.2.2.2.1 = LI L ∧ (∀ p ∈ L, p.2.length ≤ 1048576) ∧ (∀ p ∈ L, ∀ y ∈ p.2, y < 2 ^ 64) ∧ wOk x.2.2.2.2.2.2.1 x.2.2.2.2.2.2.2.1 L = true
  wv2 : ∃ L, x.2.2.2.2.2.2.2.2.2.2.2.1 = LI L ∧ (∀ p ∈ L, p.2.length ≤ 1048576) ∧ (∀ p ∈ L, ∀ y ∈ p.2, y < 2 ^ 64) ∧ wOk x.2.2.2.2.2.2.2.2.2.1 x.2.2.2.2.2.2.2.2.2.2.1 L = true
  tail : x.2.2.2.2.2.2.2.2.2.2.2.2 = (fmV D x.2.1.toNat).2.2.2.2.2
  full : ∃ W1 W2, relV R D x W1 W2 = x ∧ x.2.2.2.1 = ints W1 ∧ x.2.2.2.2.2.1 = ints W2 ∧ (∀ y ∈ W1, y < 2 ^ 64) ∧ (∀ y ∈ W2, y < 2 ^ 64) ∧ W1.length ≤ 1048576 ∧ W2.length ≤ 1048576 ∧ vOk x.2.2.1 W1 = true ∧ vOk x.2.2.2.2.1 W2 = true ∧ x.2.2.1 = ((bwt R).length : Int) ∧ x.2.2.2.2.1 = ((bwt D).length : Int) ∧ at1 (bwt R) (bts x.2.2.1.toNat W1) = at1 (bwt D) (bts x.2.2.2.2.1.toNat W2)
theorem pat_at1 : ∀ (bs : List Bool) (T R : List Nat), one bs bs.length = T.length → at1 (pat bs T R) bs = T
  | [], T, R, h => by
    have : T.length = 0 := by rw [← h]; rfl
    rw [List.length_eq_zero_iff.1 this]; rfl
  | false :: bs, T, R, h => by
    rw [one_cons, if_neg (by simp), Nat.zero_add] at h
    rw [pat, at1, if_neg (by simp), List.nil_append, pat_at1 bs T R.tail h]
  | true :: bs, T, R, h => by
    rw [one_cons, if_pos rfl] at h
    cases T with
    | nil => simp at h
    | cons t T =>
      rw [List.length_cons] at h
      rw [pat, at1, if_pos rfl]
      show t :: at1 (pat bs T R) bs = _
      rw [pat_at1 bs T R (by omega)]
theorem waves_eq (n : Int) (Z : List Int) (L : List (Int × List Nat)) (hl : ∀ p ∈ L, p.2.length ≤ 1048576) (hx : ∀ p ∈ L, ∀ x ∈ p.2, x < 2 ^ 64) (Y : List Nat) (hY : Y.length ≤ 1000) (hy : ∀ y ∈ Y, y ≤ 511) :
    Q0W (n, Z, LI L) (wvV Y) = some (decide ((n, Z, LI L) = wvV Y)) := by
  have hb := wave_back Y hY hy
  have hiff := waves_iff n Z L hx Y hY hy
  have hYl : ∀ p ∈ (wLv 9 0 Y).2, p.2.length ≤ 1048576 := fun p hp => by rw [Q39 9 0 Y p hp]; unfold nw; omega
  have hY64 := Q2S [] 9 0 Y
  rw [Q0W.eq]
  show ((QA (n, Z, LI L)).bind fun y1 => bif y1 then (QA ((Y.length : Int), ints (wLv 9 0 Y).1, LI (wLv 9 0 Y).2)).bind fun y2 => bif y2 then (Qf (n, Z, LI L)).bind fun y3 => (Qf ((Y.length : Int), ints (wLv 9 0 Y).1, LI (wLv 9 0 Y).2)).bind fun y4 => (QT y3 y4).bind fun y5 => some y5 else some false else some false) = _
  rw [Q3T n Z L hl hx, Option.bind_some]
  cases hw : wOk n Z L with
  | false =>
    rw [Qd]
    congr 1
    symm
    rw [decide_eq_false_iff_not]
    intro h
    rw [(hiff.2 h).1] at hw; cases hw
  | true =>
    rw [Qu, Q3T _ _ _ hYl hY64, hb.1, Option.bind_some, Qu, l07List_eq n Z L hx hw, l07List_eq _ _ _ hY64 hb.1, Option.bind_some, Option.bind_some, Int.toNat_natCast, hb.2, same_eq _ _ (by rw [Q8, Q36]; have := (wOk_at hw).2.1; omega), Option.bind_some, dec_ints]
    congr 1
    rw [Bool.eq_iff_iff, decide_eq_true_eq, decide_eq_true_eq]
    exact ⟨fun h => hiff.1 ⟨hw, h⟩, fun h => (hiff.2 h).2⟩
theorem Q3Z {Y : List Nat} {k : Nat} (h : Y.length ≤ k) (hk : k ≤ 400) : (wvV Y).2.1.length ≤ 1000 ∧ (wvV Y).2.2.length ≤ 1000 ∧ ∀ p ∈ (wvV Y).2.2, p.2.length ≤ 1000 := by
  have h1 := wLv_len' 9 0 Y
  refine ⟨?_, ?_, fun p hp => ?_⟩
  · show (ints (wLv 9 0 Y).1).length ≤ 1000
    rw [Q8]; omega
  · show (LI (wLv 9 0 Y).2).length ≤ 1000
    rw [List.length_map]; omega
  · have hp' : p ∈ LI (wLv 9 0 Y).2 := hp
    obtain ⟨q, hq, rfl⟩ := List.mem_map.1 hp'
    rw [Q8, Q39 _ _ _ q hq]
    unfold nw; omega
theorem relRead_eq (f : FmT) (hf : SmFm f 1048576) (hw : ∀ p ∈ f.2.2.2.2.1, ∀ x ∈ p.2, 0 ≤ x ∧ x < ((2 ^ 64 : Nat) : Int)) (x : RelT) (hx : SmRel x 1048576) (xw : XWords x) :
    ∃ (v : Bool) (D : List Nat) (t : List Int), QF f x = some (bif v then (ints D, true) else ([], false)) ∧ Q0O x f = some (bif v then ints D else t, v) ∧ (v = true → ∃ R, RelOkV f x R D) := by
  have bad : ∀ s i, s = some (([] : List Int), false) → (∃ t, i = some ((t : List Int), false)) → ∃ (v : Bool) (D : List Nat) (t : List Int), s = some (bif v then (ints D, true) else ([], false)) ∧ i = some (bif v then ints D else t, v) ∧ (v = true → ∃ R, RelOkV f x R D) :=
    fun s i h1 ⟨t, h2⟩ => ⟨false, [], t, h1, h2, fun h => by cases h⟩
  obtain ⟨v1, R, t1, f1, f2, f3⟩ := fmRead_eq f hf hw
  obtain ⟨L2, l2e, l2x⟩ := lv_of x.2.2.2.2.2.2.2.2.2.2.2.1 xw.w2
  have l2l : ∀ p ∈ L2, p.2.length ≤ 1048576 := LI_len (by rw [← l2e]; exact hx.v2)
  obtain ⟨L1, l1e, l1x⟩ := lv_of x.2.2.2.2.2.2.2.2.1 xw.w1
  have l1l : ∀ p ∈ L1, p.2.length ≤ 1048576 := LI_len (by rw [← l1e]; exact hx.v1)
  obtain ⟨W1, w1e, w1x⟩ := ints_of x.2.2.2.1 (2 ^ 64) xw.ref
  obtain ⟨W2, w2e, w2x⟩ := ints_of x.2.2.2.2.2.1 (2 ^ 64) xw.inn
  have w1l : W1.length ≤ 1048576 := by have := hx.ref; rw [w1e, Q8] at this; exact this
  have w2l : W2.length ≤ 1048576 := by have := hx.inn; rw [w2e, Q8] at this; exact this
  have hrd := Q4g x.2.2.2.2.2.2.2.2.2.1 x.2.2.2.2.2.2.2.2.2.2.1 L2 l2l l2x
  have hok := Q3T x.2.2.2.2.2.2.2.2.2.1 x.2.2.2.2.2.2.2.2.2.2.1 L2 l2l l2x
  have hls := Q4n x.2.2.2.2.2.2.2.2.2.1 x.2.2.2.2.2.2.2.2.2.2.1 L2 l2l l2x
  rw [← l2e] at hrd hok hls
  have hbk := Q3j x.2.2.1 W1 w1l w1x
  rw [← w1e] at hbk
  rw [QF.eq, Q0O.eq]
  show ∃ v D t, (QY f).bind _ = _ ∧ (Q0I f).bind _ = _ ∧ _
  cases v1 with
  | false =>
    rw [show QY f = some (([] : List Int), false) from f1, show Q0I f = some (t1, false) from f2, hrd]
    exact bad _ _ rfl ⟨[], rfl⟩
  | true =>
    have f1' : QY f = some (ints R, true) := f1
    have f2' : Q0I f = some (ints R, true) := f2
    obtain ⟨k1, k2⟩ := f3 rfl
    obtain ⟨d1, d2, d3, d4, d5⟩ := k1
    have hbl := Q1x R
    have hble := bwt_le R d2
    rw [f1', f2', hrd, Option.bind_some, Option.bind_some, Option.bind_some, Bool.not_true, Qd, Qd, Q3A, Option.bind_some, Q4k]
    cases hr : decide (1 ≤ x.2.1) && decide (x.2.1 ≤ 64) with
    | false =>
      refine bad _ _ rfl ?_
      cases wOk x.2.2.2.2.2.2.2.2.2.1 x.2.2.2.2.2.2.2.2.2.2.1 L2 <;> exact ⟨[], rfl⟩
    | true =>
      simp only [Bool.and_eq_true, decide_eq_true_eq] at hr
      rw [Bool.not_true, Qd, hok, Option.bind_some]
      cases hwo : wOk x.2.2.2.2.2.2.2.2.2.1 x.2.2.2.2.2.2.2.2.2.2.1 L2 with
      | false => exact bad _ _ rfl ⟨[], rfl⟩
      | true =>
        rw [hwo, Qu] at hls
        rw [Bool.not_true, Qd, Qu, hbk, Option.bind_some]
        simp only [Bool.not_true, Qd, Option.bind_some]
        rw [Q1w.eq]
        try simp only
        rw [Q31 R d1 d2, Option.bind_some]
        obtain ⟨Q, hQ⟩ : ∃ Q, Q = Q22 x.2.2.2.2.2.2.2.2.2.1.toNat L2 := ⟨_, rfl⟩
        have hQl := Q36 x.2.2.2.2.2.2.2.2.2.1.toNat L2
        obtain ⟨wa, wb, wc, wd', we⟩ := wOk_at hwo
        have hQ511 := wList_le x.2.2.2.2.2.2.2.2.2.1.toNat L2 wd'
        have hinv := wave_inv _ _ L2 l2x hwo
        have hints : ints (snds (rows (L2.map lvb) (start x.2.2.2.2.2.2.2.2.2.1.toNat))) = ints Q := by rw [hQ]; rfl
        rw [← hQ] at hQl hQ511 hinv hls
        rw [hints]
        have hp1 := implPatchDo_eq (bwt R) (by omega) x.2.2.1 W1 x.2.2.2.2.1 W2 Q w1l w1x w2l w2x
        have hp2 := specPatch_eq (bwt R) (by omega) x.2.2.1 W1 x.2.2.2.2.1 W2 Q w1l w1x w2l w2x
        rw [← w1e, ← w2e] at hp1 hp2
        rw [hp1, Option.bind_some]
        have bt0 := Q3w [] (by simp) (by simp)
        rw [show ints [] = ([] : List Int) from rfl] at bt0
        cases hpo : pOkB (bwt R) x.2.2.1 W1 x.2.2.2.2.1 W2 Q with
        | false =>
          refine bad _ _ ?_ ⟨[], rfl⟩
          cases hvo : vOk x.2.2.1 W1 with
          | false => rfl
          | true =>
            rw [Bool.not_true, Qd]
            by_cases hn : x.2.2.1 = IntKind.i64.wrap (((ints R).length : Int) + 1)
            · rw [Q1F hn, QF_l0.eq, Q2n R d1 d2, Option.bind_some, hls, Option.bind_some, hp2, hpo, Qd, Option.bind_some, bt0]; rfl
            · rw [Q1K hn]
        | true =>
          have hpo' := hpo
          unfold pOkB at hpo'
          simp only [Bool.and_eq_true, decide_eq_true_eq] at hpo'
          obtain ⟨o1, o2, o3, o4, o5, o6⟩ := hpo'
          have o2' := o2
          simp only [vOk, Bool.and_eq_true, decide_eq_true_eq] at o2'
          have b2l := Q1A x.2.2.2.2.1.toNat W2
          have b1l := Q1A x.2.2.1.toNat W1
          have hal := at1_len (bwt R) (bts x.2.2.1.toNat W1) (by omega)
          rw [b1l] at hal
          rw [hpo] at hp2
          have hXl : (pVal (bwt R) x.2.2.1 W1 x.2.2.2.2.1 W2 Q).length ≤ 301 := by unfold pVal; rw [Q2v]; omega
          have hXlen : (pVal (bwt R) x.2.2.1 W1 x.2.2.2.2.1 W2 Q).length = x.2.2.2.2.1.toNat := by unfold pVal; rw [Q2v, b2l]
          have hat0 : at0 (pVal (bwt R) x.2.2.1 W1 x.2.2.2.2.1 W2 Q) (bts x.2.2.2.2.1.toNat W2) = Q := pat_at0 _ _ _ (by rw [b2l]; exact o6)
          obtain ⟨X, hXe⟩ : ∃ X, X = pVal (bwt R) x.2.2.1 W1 x.2.2.2.2.1 W2 Q := ⟨_, rfl⟩
          rw [← hXe] at hXl hXlen hat0 hp2 ⊢
          rw [o1, Bool.not_true, Qd, Q1F (show x.2.2.1 = IntKind.i64.wrap (((ints R).length : Int) + 1) by rw [Q8, Q6 _ (by omega)]; omega), QF_l0.eq, Q2n R d1 d2, Option.bind_some, hls, Option.bind_some, hp2, Qu, Option.bind_some]
          simp only [Bool.not_true, Qd]
          cases hs : sOk (ints X) with
          | false =>
            rw [Q4C _ (by rw [Q8]; omega) hs, Q4m _ (by rw [Q8]; omega) hs]
            exact bad _ _ rfl ⟨[], rfl⟩
          | true =>
            have hXx : ∀ y ∈ X, y ≤ 256 := by
              simp only [sOk, Bool.and_eq_true, decide_eq_true_eq, List.all_eq_true] at hs
              intro y hy
              have := hs.2 (y : Int) (List.mem_map.2 ⟨y, hy, rfl⟩)
              omega
            rw [Q3w X hXl hXx, Q4B X hXl hXx, Option.bind_some, Option.bind_some]
            cases hb : (bT X).2 with
            | false => exact bad _ _ rfl ⟨(bT X).1, by simp only [Option.bind_some, hb]; rfl⟩
            | true =>
              obtain ⟨D, e1, e2, e3, e4⟩ := bT_true X hXl hXx hb
              have hbD := Q1x D
              obtain ⟨r, hre⟩ : ∃ r : Nat, x.2.1 = r := ⟨x.2.1.toNat, by omega⟩
              have hfm := implFm_eq D e3 e4 r (by omega) (by omega)
              have hfs := Q3l D e3 e4 r (by omega) (by omega)
              rw [← hre] at hfm hfs
              have t1' := (Q26 x.2.2.1.toNat W1 w1x).1 (by have := o1; simp only [vOk, Bool.and_eq_true] at this; exact this.2)
              have t2' := (Q26 x.2.2.2.2.1.toNat W2 w2x).1 o2'.2
              have hn1 : ((x.2.2.1.toNat : Nat) : Int) = x.2.2.1 := by omega
              have hn2 : ((x.2.2.2.2.1.toNat : Nat) : Int) = x.2.2.2.2.1 := by omega
              have hY1 := Q2o (bwt R) (bts x.2.2.1.toNat W1)
              have hY1x : ∀ y ∈ at0 (bwt R) (bts x.2.2.1.toNat W1), y ≤ 511 := fun y hy => by have := hble y (Q3b _ _ y hy); omega
              have hY2 : at0 (bwt D) (bts x.2.2.2.2.1.toNat W2) = Q := by rw [e2]; exact hat0
              have hY2l := Q2o X (bts x.2.2.2.2.1.toNat W2)
              rw [hat0] at hY2l
              have u1 := Q4o (bwt R) x.2.2.1.toNat W1 (by omega) t1' (by omega)
              have u2 := Q4o (bwt D) x.2.2.2.2.1.toNat W2 (by omega) t2' (by rw [e2]; omega)
              rw [hn1, ← w1e] at u1
              rw [hn2, ← w2e, hY2] at u2
              have hl1 := Q2P x.2.2.1.toNat W1 (by omega) (by have := t1'.1; unfold nw at this; omega) w1x
              rw [hn1, ← w1e] at hl1
              have z1 := zeros_eq (bwt R) (bts x.2.2.1.toNat W1) (by omega) (by omega)
              have v1i := Q4h (at0 (bwt R) (bts x.2.2.1.toNat W1)) (by omega) hY1x
              have v1s := Q3y (at0 (bwt R) (bts x.2.2.1.toNat W1)) (by omega) hY1x
              have v2i := Q4h Q (by omega) hQ511
              have hwq : wvV Q = (x.2.2.2.2.2.2.2.2.2.1, x.2.2.2.2.2.2.2.2.2.2.1, x.2.2.2.2.2.2.2.2.2.2.2.1) := by
                unfold wvV
                rw [hinv.1, hinv.2, ← l2e, hQl, Int.toNat_of_nonneg wa]
              have hwv := waves_eq x.2.2.2.2.2.2.1 x.2.2.2.2.2.2.2.1 L1 l1l l1x (at0 (bwt R) (bts x.2.2.1.toNat W1)) (by omega) hY1x
              rw [← l1e] at hwv
              have hV : Q1l (ints R) (ints D) (x.2.2.1, x.2.2.2.1) (x.2.2.2.2.1, x.2.2.2.2.2.1) x.2.1 = some (relV R D x W1 W2, ints R, ints D) := by
                rw [Q1l.eq, hfm, Option.bind_some, Q31 R d1 d2, Option.bind_some]
                try simp only
                rw [u1, Option.bind_some, v1i, Option.bind_some, Q31 D e3 e4, Option.bind_some, u2, Option.bind_some, v2i, Option.bind_some]
                unfold relV
                rw [hY2, hre]; rfl
              have hsm := Q3o D e3 r
              have q1 := Q3Z hY1 (by omega)
              have q2 := Q3Z (Y := Q) (k := 301) (by omega) (by omega)
              have hsr : SmRel (relV R D x W1 W2) 2000000 := by
                unfold relV
                rw [hY2, hre, Int.toNat_natCast]
                have a1 := hx.ref
                have a2 := hx.inn
                exact ⟨by show x.2.2.2.1.length ≤ _; omega, by show x.2.2.2.2.2.1.length ≤ _; omega, by have := q1.1; show (wvV _).2.1.length ≤ _; omega, by have := q1.2.1; show (wvV _).2.2.length ≤ _; omega, by have := q2.1; show (wvV _).2.1.length ≤ _; omega, by have := q2.2.1; show (wvV _).2.2.length ≤ _; omega, by have := hsm.c; show (fmV D r).2.2.2.2.2.1.length ≤ _; omega, by have := hsm.m; show (fmV D r).2.2.2.2.2.2.2.1.length ≤ _; omega, by have := hsm.s; show (fmV D r).2.2.2.2.2.2.2.2.2.2.2.1.length ≤ _; omega, by have := hsm.i; show (fmV D r).2.2.2.2.2.2.2.2.2.2.2.2.2.2.2.length ≤ _; omega, fun p hp => by have := q1.2.2 p hp; omega, fun p hp => by have := q2.2.2 p hp; omega⟩
              have hse := sameRel_eq (relV R D x W1 W2) x 2000000 (by omega) hsr
              rw [e1]
              simp only [Option.bind_some, Qu, hV, Bool.not_true, Qd]
              refine ⟨decide (relV R D x W1 W2 = x), D, ints D, ?_, ?_, fun h => ⟨R, ?_⟩⟩
              · have hdec : decide (relV R D x W1 W2 = x) = decide (x = relV R D x W1 W2) := by rw [Bool.eq_iff_iff, decide_eq_true_eq, decide_eq_true_eq]; exact eq_comm
                rw [hdec, rel_dec, QF_l1.eq, hfs, Option.bind_some, Q2n R d1 d2, Option.bind_some, hl1, Option.bind_some, z1, Option.bind_some, v1s, Option.bind_some]
                have g2 : decide (x.2.1 = (relV R D x W1 W2).2.1) = true := decide_eq_true rfl
                have g3 : decide ((x.2.2.1, x.2.2.2.1) = ((relV R D x W1 W2).2.2.1, (relV R D x W1 W2).2.2.2.1)) = true := decide_eq_true rfl
                have g4 : decide ((x.2.2.2.2.1, x.2.2.2.2.2.1) = ((relV R D x W1 W2).2.2.2.2.1, (relV R D x W1 W2).2.2.2.2.2.1)) = true := decide_eq_true rfl
                have g6 : decide ((x.2.2.2.2.2.2.2.2.2.1, x.2.2.2.2.2.2.2.2.2.2.1, x.2.2.2.2.2.2.2.2.2.2.2.1) = ((relV R D x W1 W2).2.2.2.2.2.2.2.2.2.1, (relV R D x W1 W2).2.2.2.2.2.2.2.2.2.2.1, (relV R D x W1 W2).2.2.2.2.2.2.2.2.2.2.2.1)) = true := by
                  refine decide_eq_true ?_
                  rw [← hwq, ← hY2]; rfl
                rw [g2, g3, g4, g6, Bool.true_and, Bool.true_and, Bool.true_and, Bool.true_and]
                have hrt : x.2.1.toNat = r := by omega
                have c1 : (relV R D x W1 W2).1 = (fmV D r).1 := rfl
                have c2 : (relV R D x W1 W2).2.2.2.2.2.2.2.2.2.2.2.2 = (fmV D r).2.2.2.2.2 := by unfold relV; rw [hrt]
                have c3 : ((relV R D x W1 W2).2.2.2.2.2.2.1, (relV R D x W1 W2).2.2.2.2.2.2.2.1, (relV R D x W1 W2).2.2.2.2.2.2.2.2.1) = wvV (at0 (bwt R) (bts x.2.2.1.toNat W1)) := rfl
                rw [c3, c1]
                simp only [c2]
                rw [same_eq _ _ (by have := hx.c; omega), Q3X _ _ _ _ (by have := hx.m; omega), Q3n _ _ _ _ _ _ _ _ (by have := hx.s; omega), Q3n _ _ _ _ _ _ _ _ (by have := hx.i; omega)]
                have hwv' : Q0W (x.2.2.2.2.2.2.1, x.2.2.2.2.2.2.2.1, x.2.2.2.2.2.2.2.2.1) (((at0 (bwt R) (bts x.2.2.1.toNat W1)).length : Int), ints (wLv 9 0 (at0 (bwt R) (bts x.2.2.1.toNat W1))).1, LI (wLv 9 0 (at0 (bwt R) (bts x.2.2.1.toNat W1))).2) = _ := hwv
                simp only [Option.bind_some, bne, Q2j, hwv']
                cases decide (x.1 = (fmV D r).1)
                · rfl
                cases decide (x.2.2.2.2.2.2.2.2.2.2.2.2.1 = (fmV D r).2.2.2.2.2.1)
                · simp only [Bool.true_and, Bool.false_and, Bool.and_false, Bool.not_false, Bool.not_true, Qu, Qd]
                cases decide ((x.2.2.2.2.2.2.2.2.2.2.2.2.2.1, x.2.2.2.2.2.2.2.2.2.2.2.2.2.2.1) = ((fmV D r).2.2.2.2.2.2.1, (fmV D r).2.2.2.2.2.2.2.1))
                · simp only [Bool.true_and, Bool.false_and, Bool.and_false, Bool.not_false, Bool.not_true, Qu, Qd]
                cases decide ((x.2.2.2.2.2.2.2.2.2.2.2.2.2.2.2.1, x.2.2.2.2.2.2.2.2.2.2.2.2.2.2.2.2.1, x.2.2.2.2.2.2.2.2.2.2.2.2.2.2.2.2.2.1, x.2.2.2.2.2.2.2.2.2.2.2.2.2.2.2.2.2.2.1) = ((fmV D r).2.2.2.2.2.2.2.2.1, (fmV D r).2.2.2.2.2.2.2.2.2.1, (fmV D r).2.2.2.2.2.2.2.2.2.2.1, (fmV D r).2.2.2.2.2.2.2.2.2.2.2.1))
                · simp only [Bool.true_and, Bool.false_and, Bool.and_false, Bool.not_false, Bool.not_true, Qu, Qd]
                cases decide (x.2.2.2.2.2.2.2.2.2.2.2.2.2.2.2.2.2.2.2 = (fmV D r).2.2.2.2.2.2.2.2.2.2.2.2)
                · simp only [Bool.true_and, Bool.false_and, Bool.and_false, Bool.not_false, Bool.not_true, Qu, Qd]
                cases decide ((x.2.2.2.2.2.2.1, x.2.2.2.2.2.2.2.1, x.2.2.2.2.2.2.2.2.1) = wvV (at0 (bwt R) (bts x.2.2.1.toNat W1))) <;> rfl
              · show (Q12 (relV R D x W1 W2) x).bind _ = _
                rw [hse]
                cases decide (relV R D x W1 W2 = x) <;> rfl
              · have h := of_decide_eq_true h
                have hw1 : (x.2.2.2.2.2.2.1, x.2.2.2.2.2.2.2.1, x.2.2.2.2.2.2.2.2.1) = wvV (at0 (bwt R) (bts x.2.2.1.toNat W1)) := by
                  have h' := congrArg (fun y : RelT => (y.2.2.2.2.2.2.1, y.2.2.2.2.2.2.2.1, y.2.2.2.2.2.2.2.2.1)) h
                  exact h'.symm
                have hat1 : at1 (bwt R) (bts x.2.2.1.toNat W1) = at1 (bwt D) (bts x.2.2.2.2.1.toNat W2) := by
                  rw [e2, hXe]
                  exact (pat_at1 _ _ _ (by rw [b2l, hal]; exact o5.symm)).symm
                have ht : x.2.2.2.2.2.2.2.2.2.2.2.2 = (fmV D x.2.1.toNat).2.2.2.2.2 := (congrArg (fun y : RelT => y.2.2.2.2.2.2.2.2.2.2.2.2) h).symm
                rw [l1e] at hw1
                exact ⟨e3, e4, hr.1, hr.2, ⟨⟨d1, d2, d3, d4, d5⟩, k2⟩, f1', f2', ⟨W1, w1e, w1l, w1x, o1⟩, ⟨W2, w2e, w2l, w2x, o2⟩, ⟨L1, l1e, l1l, l1x, ((waves_iff _ _ L1 l1x _ (by omega) hY1x).2 hw1).1⟩, ⟨L2, l2e, l2l, l2x, hwo⟩, ht, W1, W2, h, w1e, w2e, w1x, w2x, w1l, w2l, o1, o2, o3, by rw [e2, hXlen]; omega, hat1⟩
end Go.Ev.W
/- Relative indexes made: both functions. -/
-- names as printed
set_option linter.unusedVariables false
set_option linter.unusedSimpArgs false
namespace Go.Ev.W
open Go.Ev
structure Q2w (R D : List Nat) (P : List (Nat × Nat)) : Prop where
  up : P.Pairwise Up
  eq : ∀ q ∈ P, ∃ v, (bwt R)[q.1]? = some v ∧ (bwt D)[q.2]? = some v
theorem Q2w.lt {R D : List Nat} {P : List (Nat × Nat)} (h : Q2w R D P) : ∀ q ∈ P, q.1 < R.length + 1 ∧ q.2 < D.length + 1 := fun q hq => by
  obtain ⟨v, h1, h2⟩ := h.eq q hq
  have k1 := (List.getElem?_eq_some_iff.1 h1).1
  have k2 := (List.getElem?_eq_some_iff.1 h2).1
  rw [Q1x] at k1 k2
  exact ⟨k1, k2⟩
theorem up_len : ∀ (I : List Nat) (a n : Nat), I.Pairwise (· < ·) → (∀ i ∈ I, a ≤ i ∧ i < n) → I.length ≤ n - a
  | [], _, _, _, _ => by simp
  | i :: I, a, n, h, hn => by
    obtain ⟨p, q⟩ := List.pairwise_cons.1 h
    have h1 := hn i List.mem_cons_self
    have := up_len I (i + 1) n q fun j hj => ⟨p j hj, (hn j (List.mem_cons_of_mem _ hj)).2⟩
    rw [List.length_cons]; omega
theorem Q2w.up2 {R D : List Nat} {P : List (Nat × Nat)} (h : Q2w R D P) : (P.map Prod.snd).Pairwise (· < ·) := by
  rw [List.pairwise_map]; exact h.up.imp fun h => h.2
theorem Q2w.m2 {R D : List Nat} {P : List (Nat × Nat)} (h : Q2w R D P) : ∀ i ∈ P.map Prod.snd, i < D.length + 1 := fun i hi => by
  obtain ⟨q, hq, rfl⟩ := List.mem_map.1 hi
  exact (h.lt q hq).2
theorem Q2w.len {R D : List Nat} {P : List (Nat × Nat)} (h : Q2w R D P) : P.length ≤ D.length + 1 := by
  have := up_len (P.map Prod.snd) 0 (D.length + 1) h.up2 fun i hi => ⟨Nat.zero_le _, h.m2 i hi⟩
  rw [List.length_map] at this; omega
def fl1 (R : List Nat) (P : List (Nat × Nat)) : List Bool := fl (R.length + 1) (P.map Prod.fst)
def fl2 (D : List Nat) (P : List (Nat × Nat)) : List Bool := fl (D.length + 1) (P.map Prod.snd)
theorem fl1_len (R : List Nat) (P : List (Nat × Nat)) : (fl1 R P).length = R.length + 1 := Q2c _ _
theorem fl2_len (D : List Nat) (P : List (Nat × Nat)) : (fl2 D P).length = D.length + 1 := Q2c _ _
theorem share_ok (R D : List Nat) (d : Nat) (bud : Int) : Q2w R D (share R D d bud) := ⟨share_up R D d bud, share_at R D d bud⟩
theorem nil_ok (R D : List Nat) : Q2w R D [] := ⟨.nil, fun q hq => by cases hq⟩
def relX (R D : List Nat) (P : List (Nat × Nat)) (r : Nat) : RelT :=
  ((D.length : Int), (r : Int), ((R.length + 1 : Nat) : Int), ints (wrds (fl1 R P)), ((D.length + 1 : Nat) : Int), ints (wrds (fl2 D P)), (wvV (at0 (bwt R) (fl1 R P))).1, (wvV (at0 (bwt R) (fl1 R P))).2.1, (wvV (at0 (bwt R) (fl1 R P))).2.2,
    (wvV (at0 (bwt D) (fl2 D P))).1, (wvV (at0 (bwt D) (fl2 D P))).2.1, (wvV (at0 (bwt D) (fl2 D P))).2.2, (fmV D r).2.2.2.2.2)
section
variable (R D : List Nat) (hR : R.length ≤ 300) (hD : D.length ≤ 300) (bR : Q0z R) (bD : Q0z D) (P : List (Nat × Nat)) (hP : Q2w R D P) (r : Nat) (h1 : 1 ≤ r) (h64 : r ≤ 64)
include hR hD bR bD hP h1 h64
theorem specMade_eq : Q0M (ints R) (ints D) (P.map ipr) r = some (relX R D P r) := by
  have l1 := Q1x R
  have l2 := Q1x D
  have f1 := fl1_len R P
  have f2 := fl2_len D P
  have pl := hP.len
  have a1 := Q2o (bwt R) (fl1 R P)
  have a2 := Q2o (bwt D) (fl2 D P)
  have v1 := Q3y (at0 (bwt R) (fl1 R P)) (by omega) fun y hy => by have := bwt_le R bR y (Q3b _ _ y hy); omega
  have v2 := Q3y (at0 (bwt D) (fl2 D P)) (by omega) fun y hy => by have := bwt_le D bD y (Q3b _ _ y hy); omega
  have hp := patchS_eq (bwt D) P (R.length + 1) (by omega) (by omega) (by omega) fun q hq => by have := hP.lt q hq; omega
  have t1 := Q2y (fl1 R P)
  have hl := Q2P (fl1 R P).length (wrds (fl1 R P)) (by omega) (by have := t1.1; unfold nw at this; omega) t1.2.1
  rw [bts_wrds, f1] at hl
  have hz := zeros_eq (bwt R) (fl1 R P) (by omega) (by omega)
  rw [l2] at hp
  rw [Q0M.eq, Q3l D hD bD r (by omega) h64, Option.bind_some, Q2n D hD bD, Option.bind_some, Q8, Q6 _ (by omega), hp, Option.bind_some, Q2n R hR bR, Option.bind_some]
  show (Qp (((R.length + 1 : Nat) : Int), ints (wrds (fl1 R P)))).bind _ = _
  rw [hl, Option.bind_some, hz, Option.bind_some, v1, Option.bind_some]
  show (Qj (ints (at0 (bwt D) (fl2 D P)))).bind _ = _
  rw [v2, Option.bind_some]
  rfl
end
theorem relX_small (R D : List Nat) (hR : R.length ≤ 300) (hD : D.length ≤ 300) (P : List (Nat × Nat)) (r : Nat) : SmRel (relX R D P r) 1000 := by
  have l1 := Q1x R
  have l2 := Q1x D
  have q1 := Q3Z (k := 301) (show (at0 (bwt R) (fl1 R P)).length ≤ 301 by have := Q2o (bwt R) (fl1 R P); omega) (by omega)
  have q2 := Q3Z (k := 301) (show (at0 (bwt D) (fl2 D P)).length ≤ 301 by have := Q2o (bwt D) (fl2 D P); omega) (by omega)
  have hsm := Q3o D hD r
  refine ⟨?_, ?_, q1.1, q1.2.1, q2.1, q2.2.1, hsm.c, hsm.m, hsm.s, hsm.i, q1.2.2, q2.2.2⟩
  · show (ints (wrds (fl1 R P))).length ≤ 1000
    rw [Q8, Q1M, fl1_len]; unfold nw; omega
  · show (ints (wrds (fl2 D P))).length ≤ 1000
    rw [Q8, Q1M, fl2_len]; unfold nw; omega
theorem SmRel.mono {x : RelT} {k m : Nat} (h : SmRel x k) (hk : k ≤ m) : SmRel x m :=
  ⟨Nat.le_trans h.ref hk, Nat.le_trans h.inn hk, Nat.le_trans h.z1 hk, Nat.le_trans h.l1 hk, Nat.le_trans h.z2 hk, Nat.le_trans h.l2 hk, Nat.le_trans h.c hk, Nat.le_trans h.m hk, Nat.le_trans h.s hk, Nat.le_trans h.i hk, fun p hp => Nat.le_trans (h.v1 p hp) hk, fun p hp => Nat.le_trans (h.v2 p hp) hk⟩
structure OfV (f : FmT) (D : List Nat) (d r : Int) (R : List Nat) : Prop where
  fv : FmOkV f R ∧ FmW f R
  ft : QY f = some (ints R, true)
  fi : Q0I f = some (ints R, true)
  dl : D.length ≤ 300
  d0 : 0 ≤ d
  d8 : d ≤ 8
  r1 : 1 ≤ r
  r64 : r ≤ 64
end Go.Ev.W
/- Sparse lists: plain facts. -/
set_option linter.unusedVariables false
set_option linter.unusedSimpArgs false
namespace Go.Ev.W
open Go.Ev
def ones (bs : List Bool) : Nat := (bs.filter id).length
end Go.Ev.W
/- Sparse lists: widths, packed numbers as a list. -/
set_option linter.unusedVariables false
set_option linter.unusedSimpArgs false
namespace Go.Ev.W
open Go.Ev
def hv (W : List Nat) (o w : Nat) : Nat → Nat
  | 0 => 0
  | d + 1 => 2 * hv W o w d + (bit W (o + (w - (d + 1)))).toNat
section
variable (w n : Nat) (W : List Nat) (hw : w ≤ 32) (hn : n ≤ 5000) (hm : n * w ≤ 5000) (hx : ∀ x ∈ W, x < 2 ^ 64) (ht : tight (n * w) W)
include hw hn hm hx ht
end
end Go.Ev.W
/- Walking back in a text by its rows: plain facts. -/
set_option linter.unusedVariables false
set_option linter.unusedSimpArgs false
namespace Go.Ev.W
open Go.Ev
theorem Q4p {p : Nat → Bool} {A B : List Nat} (h : A.Perm B) : (A.filter p).length = (B.filter p).length := (h.filter p).length_eq
theorem srt_perm (D : List Nat) : (srt D).Perm (List.range (D.length + 1)) := List.mergeSort_perm ..
def sufB (D : List Nat) (a b : Nat) : Bool := decide (cmpN (D.drop a) (D.drop b) < 0)
theorem sufB_iff (D : List Nat) (a b : Nat) : sufB D a b = true ↔ Q1D D a b := decide_eq_true_iff
theorem srt_split (D : List Nat) (k : Nat) (hk : k < (srt D).length) (q : Nat → Bool) : ((srt D).take k).filter q = (srt D).filter fun t => sufB D t (srt D)[k] && q t := by
  have hpw := (Q2s D).pw
  have h1 : ((srt D).take k).filter (fun t => sufB D t (srt D)[k] && q t) = ((srt D).take k).filter q := by
    refine List.filter_congr fun t ht => ?_
    obtain ⟨i, hi, rfl⟩ := List.mem_iff_getElem.1 ht
    rw [List.length_take] at hi
    rw [List.getElem_take, (sufB_iff D _ _).2 (get_lt hpw (show i < k by omega) hk), Bool.true_and]
  have h2 : ((srt D).drop k).filter (fun t => sufB D t (srt D)[k] && q t) = [] := by
    refine List.filter_eq_nil_iff.2 fun t ht => ?_
    obtain ⟨i, hi, rfl⟩ := List.mem_iff_getElem.1 ht
    rw [List.length_drop] at hi
    rw [List.getElem_drop]
    have : ¬ Q1D D (srt D)[k + i] (srt D)[k] := by
      by_cases h0 : i = 0
      · subst h0; exact Q3h D _
      · intro h
        exact Q3h D _ (Q3R (get_lt hpw (show k < k + i by omega) (by omega)) h)
    cases hb : sufB D (srt D)[k + i] (srt D)[k] with
    | false => simp
    | true => exact absurd ((sufB_iff D _ _).1 hb) this
  generalize (srt D)[k] = z at h1 h2 ⊢
  have e : (srt D).filter (fun t => sufB D t z && q t) = ((srt D).take k ++ (srt D).drop k).filter (fun t => sufB D t z && q t) := by rw [List.take_append_drop]
  rw [e, List.filter_append, h2, List.append_nil, h1]
theorem srt_rank (D : List Nat) (k : Nat) (hk : k < (srt D).length) : ((List.range (D.length + 1)).filter fun t => sufB D t (srt D)[k]).length = k := by
  have h := srt_split D k hk (fun _ => true)
  rw [← Q4p (srt_perm D)]
  have e : (fun t => sufB D t (srt D)[k] && true) = fun t => sufB D t (srt D)[k] := by funext t; rw [Bool.and_true]
  rw [e] at h
  rw [← h, List.filter_eq_self.2 (fun _ _ => rfl), List.length_take]; omega
theorem filter_add (A B C : Nat → Bool) : ∀ l : List Nat, (∀ t ∈ l, (A t).toNat + (B t).toNat = (C t).toNat) → (l.filter A).length + (l.filter B).length = (l.filter C).length
  | [], _ => rfl
  | t :: l, h => by
    have ih := filter_add A B C l fun x hx => h x (List.mem_cons_of_mem _ hx)
    have ht := h t List.mem_cons_self
    rw [List.filter_cons, List.filter_cons, List.filter_cons]
    cases hA : A t <;> cases hB : B t <;> cases hC : C t <;> rw [hA, hB, hC] at ht <;> simp at ht ⊢ <;> omega
theorem Q4D (P : Nat → Bool) (n : Nat) : ((List.range (n + 1)).filter P).length = (P 0).toNat + ((List.range n).filter fun t => P (t + 1)).length := by
  rw [List.range_succ_eq_map, List.filter_cons, List.filter_map]
  have e : (P ∘ Nat.succ) = fun t => P (t + 1) := rfl
  rw [e]
  cases P 0 <;> simp <;> omega
theorem filter_range_last (P : Nat → Bool) (n : Nat) : ((List.range (n + 1)).filter P).length = ((List.range n).filter P).length + (P n).toNat := by
  rw [List.range_succ, List.filter_append, List.length_append]
  cases h : P n <;> simp [h]
theorem drop_cons (D : List Nat) (t : Nat) (h : t < D.length) : D.drop t = D[t] :: D.drop (t + 1) := List.drop_eq_getElem_cons h
theorem lf_row (D : List Nat) (k : Nat) (hk : k < (srt D).length) (h0 : (srt D)[k] ≠ 0) : ∃ h : lfV (bwt D) k < (srt D).length, (srt D)[lfV (bwt D) k] + 1 = (srt D)[k] := by
  have hlen := Q1T D
  have hmem := (Q2u D _).1 (List.getElem_mem hk)
  obtain ⟨s, hs⟩ : ∃ s, (srt D)[k] = s + 1 := ⟨(srt D)[k] - 1, by omega⟩
  have hsl : s < D.length := by omega
  obtain ⟨j, hj, hjs⟩ := List.mem_iff_getElem.1 ((Q2u D s).2 (by omega))
  have hr := srt_rank D j hj
  rw [hjs] at hr
  have hbk : k < (bwt D).length := by rw [Q1x]; omega
  have hX : (bwt D)[k] = D[s] + 1 := by
    have e0 : (bwt D)[k] = bwS D (srt D)[k] := by simp [bwt]
    rw [e0, hs]
    unfold bwS
    rw [if_neg (by omega), Nat.add_sub_cancel, List.getD_eq_getElem?_getD, List.getElem?_eq_getElem hsl]; rfl
  have key : lfV (bwt D) k = j := by
    rw [lfV_at _ _ hbk, hX]
    unfold ltc eqc
    have e1 : ((bwt D).filter fun x => decide (x < D[s] + 1)).length = ((List.range (D.length + 1)).filter fun t => decide (bwS D t < D[s] + 1)).length := by
      rw [← Q4p (srt_perm D)]
      unfold bwt
      rw [List.filter_map, List.length_map]; rfl
    have e2 : (((bwt D).take k).filter fun x => decide (x = D[s] + 1)).length = ((List.range (D.length + 1)).filter fun t => sufB D t (s + 1) && decide (bwS D t = D[s] + 1)).length := by
      rw [← Q4p (srt_perm D)]
      unfold bwt
      rw [← List.map_take, List.filter_map, List.length_map]
      have := srt_split D k hk (fun t => decide (bwS D t = D[s] + 1))
      rw [hs] at this
      rw [← this]; rfl
    rw [e1, e2, Q4D, Q4D, ← hr, filter_range_last]
    have z1 : decide (bwS D 0 < D[s] + 1) = true := decide_eq_true (by unfold bwS; rw [if_pos rfl]; omega)
    have z2 : (sufB D 0 (s + 1) && decide (bwS D 0 = D[s] + 1)) = false := by
      rw [show decide (bwS D 0 = D[s] + 1) = false from decide_eq_false (by unfold bwS; rw [if_pos rfl]; omega), Bool.and_false]
    have z3 : sufB D D.length s = true := by
      unfold sufB
      rw [List.drop_length, drop_cons D s hsl]; rfl
    rw [z1, z2, z3]
    have hadd := filter_add (fun t => decide (bwS D (t + 1) < D[s] + 1)) (fun t => sufB D (t + 1) (s + 1) && decide (bwS D (t + 1) = D[s] + 1)) (fun t => sufB D t s) (List.range D.length) (by
      intro t ht
      have htl : t < D.length := List.mem_range.1 ht
      have hb : bwS D (t + 1) = D[t] + 1 := by
        unfold bwS
        rw [if_neg (by omega), Nat.add_sub_cancel, List.getD_eq_getElem?_getD, List.getElem?_eq_getElem htl]; rfl
      unfold sufB
      rw [hb, drop_cons D t htl, drop_cons D s hsl, cmpN]
      by_cases h1 : D[t] < D[s]
      · rw [if_pos h1, decide_eq_true (show D[t] + 1 < D[s] + 1 by omega), decide_eq_false (show ¬ D[t] + 1 = D[s] + 1 by omega), Bool.and_false]; rfl
      · rw [if_neg h1, decide_eq_false (show ¬ D[t] + 1 < D[s] + 1 by omega)]
        by_cases h2 : D[s] < D[t]
        · rw [if_pos h2, decide_eq_false (show ¬ D[t] + 1 = D[s] + 1 by omega), Bool.and_false]; rfl
        · rw [if_neg h2, decide_eq_true (show D[t] + 1 = D[s] + 1 by omega), Bool.and_true]
          exact Nat.zero_add _)
    show 1 + _ + (0 + _) = _ + 1
    omega
  refine ⟨by rw [key]; exact hj, ?_⟩
  simp only [key, hjs, hs]
end Go.Ev.W
/- The text of the rows of a text. -/
set_option linter.unusedVariables false
set_option linter.unusedSimpArgs false
namespace Go.Ev.W
open Go.Ev
theorem srt_first (D : List Nat) (h : 0 < (srt D).length) : (srt D)[0] = D.length := by
  obtain ⟨k, hk, e⟩ := List.mem_iff_getElem.1 ((Q2u D D.length).2 (Nat.le_refl _))
  by_cases h0 : k = 0
  · subst h0; exact e
  · have := get_lt (Q2s D).pw (show 0 < k by omega) hk
    rw [e] at this
    unfold Q1D at this
    rw [List.drop_length] at this
    cases hd : D.drop (srt D)[0] with
    | nil => rw [hd] at this; simp [cmpN] at this
    | cons a x => rw [hd] at this; simp [cmpN] at this
theorem wk_back (D : List Nat) : ∀ (j r : Nat) (hr : r < (srt D).length) (acc : List Nat), (srt D)[r] = j → (wk (bwt D) j r acc).1 = D.take j ++ acc
  | 0, r, hr, acc, _ => by simp [wk]
  | j + 1, r, hr, acc, hj => by
    have hm := (Q2u D (srt D)[r]).1 (List.getElem_mem hr)
    have hl := Q1T D
    have hb := Q1x D
    have hx : (bwt D).getD r 0 = D[j]'(by omega) + 1 := by
      rw [List.getD_eq_getElem?_getD, List.getElem?_eq_getElem (by omega), Option.getD_some]
      unfold bwt
      rw [List.getElem_map]
      unfold bwS
      rw [if_neg (by omega), hj, Nat.add_sub_cancel, List.getD_eq_getElem?_getD, List.getElem?_eq_getElem (by omega), Option.getD_some]
    obtain ⟨h1, h2⟩ := lf_row D r hr (by omega)
    rw [wk, if_neg (by omega), wk_back D j _ h1 _ (by omega), hx, Nat.add_sub_cancel, List.take_add_one, List.getElem?_eq_getElem (by omega), List.append_assoc]
    rfl
theorem bT_bwt (D : List Nat) : bT (bwt D) = (ints D, true) := by
  have hl := Q1T D
  have hb := Q1x D
  have h := wk_back D D.length 0 (by omega) [] (srt_first D (by omega))
  unfold bT
  rw [decide_eq_false (by omega), Qd, hb, Nat.add_sub_cancel, h, List.take_length, List.append_nil]
  unfold tFin
  rw [decide_eq_true rfl, Qu]
end Go.Ev.W
/- Drawn inputs: indexes beside another one. -/
set_option linter.unusedVariables false
set_option linter.unusedSimpArgs false
namespace Go.Ev.W
open Go.Ev
theorem specRelOf_made (R T : List Nat) (hR : R.length ≤ 300) (hT : T.length ≤ 300) (bR : Q0z R) (bT : Q0z T) (r : Nat) (h1 : 1 ≤ r) (h64 : r ≤ 64) (d : Nat) (hd8 : d ≤ 8) (b : Int) (q : Nat) (q1 : 1 ≤ q) (q64 : q ≤ 64) :
    Q18 (fmV R r) (ints T) d b q = some (relX R T (share R T d b) q, true) := by
  rw [Q18.eq]
  show (QY (fmV R r)).bind _ = _
  rw [fmText_round R hR bR r h1 h64 (bT_bwt R), Option.bind_some, Bool.not_true, Qd, l13Fit_eq, Option.bind_some, decide_eq_true ⟨hR, hT, by omega, by omega⟩, Bool.not_true, Qd, Q3A, decide_eq_true (by omega), decide_eq_true (by omega), Option.bind_some, Bool.true_and, Bool.not_true, Qd, specShare_eq R T hR hT bR bT d hd8 b, Option.bind_some, specMade_eq R T hR hT bR bT _ (share_ok R T d b) q q1 q64]
  rfl
def RelIn (x : RelT) : Prop := SmRel x 1048576 ∧ XWords x
theorem LI_words64 (L : List (Int × List Nat)) (h : ∀ p ∈ L, ∀ x ∈ p.2, x < 2 ^ 64) : ∀ p ∈ LI L, ∀ x ∈ p.2, 0 ≤ x ∧ x < ((2 ^ 64 : Nat) : Int) := fun p hp x hx => by
  obtain ⟨q, hq, rfl⟩ := List.mem_map.1 hp
  obtain ⟨y, hy, rfl⟩ := List.mem_map.1 hx
  have := h q hq y hy
  omega
theorem Q4q (W : List Nat) (h : ∀ x ∈ W, x < 2 ^ 64) : ∀ x ∈ ints W, 0 ≤ x ∧ x < ((2 ^ 64 : Nat) : Int) := fun x hx => by
  obtain ⟨y, hy, rfl⟩ := List.mem_map.1 hx
  have := h y hy
  omega
theorem relX_in (R T : List Nat) (hR : R.length ≤ 300) (hT : T.length ≤ 300) (P : List (Nat × Nat)) (r : Nat) : RelIn (relX R T P r) :=
  ⟨(relX_small R T hR hT P r).mono (by omega), ⟨Q4q _ (Q2y (fl1 R P)).2.1, Q4q _ (Q2y (fl2 T P)).2.1, LI_words64 _ (Q2S [] 9 0 _), LI_words64 _ (Q2S [] 9 0 _)⟩⟩
theorem rel_ok {k : Nat} {c : Cur} (h : QV k c) (hk : k < 1000000) : ∃ (f : FmT) (x : RelT) (c' : Cur), Q1c c = some (f, x, c') ∧ QV (k + 10000000) c' ∧ FmIn f ∧ RelIn x := by
  obtain ⟨R, T, c1, e1, g1, lR, lT, bR, bT⟩ := twin_ok h (by omega)
  obtain ⟨r, c2, e2, g2, r1, r2⟩ := rate_ok g1 (by omega)
  have e3 := Q3l R (by omega) bR r (by omega) r2
  obtain ⟨x4, c4, e4, g4, a4, b4⟩ := QW g2 (by omega) 4
  obtain ⟨x5, c5, e5, g5, a5, b5⟩ := QW g4 (by omega) 3
  obtain ⟨y, y1, y2, y3⟩ := Q1Q ([(0 : Int), (2 : Int), (100 : Int)] : List Int) x5 a5 (by simp; omega)
  obtain ⟨q, c8, e8, g8, q1, q2⟩ := rate_ok g5 (by omega)
  obtain ⟨d, rfl⟩ : ∃ d : Nat, x4 = d := ⟨x4.toNat, by omega⟩
  have e9 := specRelOf_made R T (by omega) (by omega) bR bT r r1 r2 d (by omega) y q q1 q2
  have hin := fmV_in R (by omega) r
  have hX := relX_in R T (by omega) (by omega) (share R T d y) q
  obtain ⟨f, hf⟩ : ∃ f, f = fmV R r := ⟨_, rfl⟩
  obtain ⟨X, hXe⟩ : ∃ X, X = relX R T (share R T d y) q := ⟨_, rfl⟩
  rw [← hf] at e3 e9 hin
  rw [← hXe] at e9 hX
  obtain ⟨⟨s1, s2, s3, s4, s5, s6, s7, s8, s9, s10, s11, s12⟩, ⟨w1, w2, w3, w4⟩⟩ := hX
  obtain ⟨x10, c10, e10, g10, a10, b10⟩ := QW g8 (by omega) 18
  rw [Q1c.eq]
  simp only [Q1B, e1, e2, e3, e4, e5, y1, y2, e8, e9, e10, Option.bind_some]
  by_cases p0 : x10 = 0
  · rw [Q07 p0]
    obtain ⟨f2, c11, e11, g11, hf2⟩ := fm_ok g10 (by omega)
    simp only [e11, Option.bind_some]
    exact ⟨f2, X, c11, rfl, g11.mono (by omega), hf2, ⟨s1, s2, s3, s4, s5, s6, s7, s8, s9, s10, s11, s12⟩, ⟨w1, w2, w3, w4⟩⟩
  rw [Q0a p0]
  by_cases p1 : x10 = 1
  · rw [Q07 p1]
    obtain ⟨n, W, c11, e11, g11, hl, hw⟩ := Q3Y g10 (by omega)
    simp only [e11, Option.bind_some]
    have hl' : (ints W).length ≤ 1048576 := by rw [Q8]; omega
    exact ⟨f, _, c11, rfl, g11.mono (by omega), hin, ⟨s1, hl', s3, s4, s5, s6, s7, s8, s9, s10, s11, s12⟩, ⟨w1, Q4q W hw, w3, w4⟩⟩
  rw [Q0a p1]
  by_cases p2 : x10 = 2
  · rw [Q07 p2]
    exact ⟨f, _, c10, rfl, g10.mono (by omega), hin, ⟨s2, s2, s3, s4, s5, s6, s7, s8, s9, s10, s11, s12⟩, ⟨w2, w2, w3, w4⟩⟩
  rw [Q0a p2]
  by_cases p3 : x10 = 3
  · rw [Q07 p3]
    obtain ⟨n, Z, L, c11, e11, g11, hZ, hL⟩ := wave_ok g10 (by omega)
    obtain ⟨k1, k2, k3⟩ := hL.words
    simp only [e11, Option.bind_some]
    have hZ' : Z.length ≤ 1048576 := by omega
    have hL' : (LI L).length ≤ 1048576 := by omega
    exact ⟨f, _, c11, rfl, g11.mono (by omega), hin, ⟨s1, s2, s3, s4, hZ', hL', s7, s8, s9, s10, s11, fun p hp => by have := k2 p hp; omega⟩, ⟨w1, w2, w3, k3⟩⟩
  rw [Q0a p3]
  by_cases p4 : x10 = 4
  · rw [Q07 p4]
    exact ⟨f, _, c10, rfl, g10.mono (by omega), hin, ⟨s1, s2, s5, s6, s5, s6, s7, s8, s9, s10, s12, s12⟩, ⟨w1, w2, w4, w4⟩⟩
  rw [Q0a p4]
  by_cases p5 : x10 = 5
  · rw [Q07 p5]
    obtain ⟨x11, c11, e11, g11, _⟩ := raw_ok g10 (by omega)
    obtain ⟨x12, c12, e12, g12, a12, b12⟩ := QW g11 (by omega) 2
    obtain ⟨z, z1, z2, z3⟩ := Q1Q ([x11, (2 : Int)] : List Int) x12 a12 (by simp; omega)
    simp only [e11, e12, Option.bind_some, z1, z2]
    exact ⟨f, _, c12, rfl, g12.mono (by omega), hin, ⟨s1, s2, s3, s4, s5, s6, s7, s8, s9, s10, s11, s12⟩, ⟨w1, w2, w3, w4⟩⟩
  rw [Q0a p5]
  by_cases p6 : x10 = 6
  · rw [Q07 p6]
    exact ⟨f, _, c10, rfl, g10.mono (by omega), hin, ⟨s1, s2, s3, s4, s5, s6, s7, s8, s9, s10, s11, s12⟩, ⟨w1, w2, w3, w4⟩⟩
  rw [Q0a p6]
  by_cases p7 : x10 = 7
  · rw [Q07 p7]
    exact ⟨f, _, c10, rfl, g10.mono (by omega), hin, ⟨s1, s2, s3, s4, s5, s6, s7, s8, s10, s10, s11, s12⟩, ⟨w1, w2, w3, w4⟩⟩
  rw [Q0a p7]
  by_cases p8 : x10 = 8
  · rw [Q07 p8]
    obtain ⟨x11, c11, e11, g11, a11, b11⟩ := QW g10 (by omega) 4
    obtain ⟨m, rfl⟩ : ∃ m : Nat, x11 = m := ⟨x11.toNat, by omega⟩
    have e12 : Q0M (ints R) (ints T) ([] : List (Int × Int)) (IntKind.i64.wrap ((1 : Int) + m)) = some (relX R T [] (1 + m)) := by
      rw [Qb (by omega) (by omega), show (1 : Int) + (m : Int) = ((1 + m : Nat) : Int) by omega]
      exact specMade_eq R T (by omega) (by omega) bR bT [] (nil_ok R T) (1 + m) (by omega) (by omega)
    simp only [e11, e12, Option.bind_some]
    exact ⟨f, _, c11, rfl, g11.mono (by omega), hin, relX_in R T (by omega) (by omega) [] (1 + m)⟩
  · rw [Q0a p8]
    exact ⟨f, X, c10, rfl, g10.mono (by omega), hin, ⟨s1, s2, s3, s4, s5, s6, s7, s8, s9, s10, s11, s12⟩, ⟨w1, w2, w3, w4⟩⟩
end Go.Ev.W
/- The law of FmLf. -/
set_option linter.unusedVariables false
set_option linter.unusedSimpArgs false
namespace Go.Ev.W
open Go.Ev
end Go.Ev.W
/- The law of FmSa. -/
set_option linter.unusedVariables false
set_option linter.unusedSimpArgs false
namespace Go.Ev.W
open Go.Ev
end Go.Ev.W
/- The law of FmIsa. -/
set_option linter.unusedVariables false
set_option linter.unusedSimpArgs false
namespace Go.Ev.W
open Go.Ev
end Go.Ev.W
/- The law of FmRows. -/
set_option linter.unusedVariables false
set_option linter.unusedSimpArgs false
namespace Go.Ev.W
open Go.Ev
end Go.Ev.W
/- The law of FmExtract. -/
set_option linter.unusedVariables false
set_option linter.unusedSimpArgs false
namespace Go.Ev.W
open Go.Ev
end Go.Ev.W
/- The law of FmLocate. -/
set_option linter.unusedVariables false
set_option linter.unusedSimpArgs false
namespace Go.Ev.W
open Go.Ev
end Go.Ev.W
/- Relative indexes: what the functions answer. -/
set_option linter.unusedVariables false
set_option linter.unusedSimpArgs false
namespace Go.Ev.W
open Go.Ev
section
variable (f : FmT) (hf : SmFm f 1048576) (hw : ∀ p ∈ f.2.2.2.2.1, ∀ x ∈ p.2, 0 ≤ x ∧ x < ((2 ^ 64 : Nat) : Int)) (x : RelT) (hx : SmRel x 1048576) (xw : XWords x)
include hf hw hx xw
theorem relRank_both (c i : Int) : ∃ v, QU f x c i = some v ∧ Q13 f x c i = some v := by
  obtain ⟨v, D, t, h1, h2, h3⟩ := relRead_eq f hf hw x hx xw
  rw [QU.eq, Q13.eq]
  show ∃ v, (QF f x).bind _ = _ ∧ (Q0O x f).bind _ = _
  cases v with
  | false =>
    rw [show QF f x = some (([] : List Int), false) from h1, show Q0O x f = some (t, false) from h2]
    exact ⟨-1, rfl, rfl⟩
  | true =>
    obtain ⟨R0, hk⟩ := h3 rfl
    have d1 := hk.dl
    have d2 := hk.db
    rw [show QF f x = some (ints D, true) from h1, show Q0O x f = some (ints D, true) from h2, Option.bind_some, Option.bind_some]
    simp only [Bool.not_true, Qd]
    rw [Q8, Q6 _ (by omega), Q2H, guard2, Option.bind_some, bif_not]
    have hb := Q1x D
    by_cases hk : 0 ≤ i ∧ i ≤ ((D.length + 1 : Nat) : Int)
    · obtain ⟨m, rfl⟩ : ∃ m : Nat, i = m := ⟨i.toNat, by omega⟩
      rw [show (decide ((0 : Int) ≤ (m : Int)) && decide ((m : Int) ≤ ((D.length + 1 : Nat) : Int))) = true by rw [Bool.and_eq_true, decide_eq_true_eq, decide_eq_true_eq]; exact hk, Qu, Qu, QU_l0.eq, Q2n D d1 d2, Q31 D d1 d2, Option.bind_some, Option.bind_some, Q8, Q2 (by omega), Int.toNat_natCast, List.drop_zero, Nat.sub_zero]
      have key : ∀ (d j : Nat) (n : Int), m - j = d → j ≤ m → 0 ≤ n → n ≤ j → ∃ v, QU_l1 c m n j (ints (bwt D)) = some v ∧ Qh_l0 c n ((ints (bwt D)).take m) m j = some v := by
        intro d
        induction d with
        | zero =>
          intro j n h1 h2 h3 h4
          obtain rfl : j = m := by omega
          rw [QU_l1.eq, Q3 (by omega), Qh_l0.eq, Q3 (by omega)]
          exact ⟨n, rfl, rfl⟩
        | succ d ih =>
          intro j n h1 h2 h3 h4
          have hj : j < (bwt D).length := by omega
          have ht : ((ints (bwt D)).take m)[j]? = some (((bwt D)[j] : Nat) : Int) := by
            rw [List.getElem?_take, if_pos (by omega), Q1S _ _ hj]
          rw [QU_l1.eq, Q2 (by omega), Qh_l0.eq, Q2 (by omega)]
          simp only [Q0C, Int.toNat_natCast, ht, Q1S _ _ hj, Option.bind_some]
          rw [Q6 j (by omega), Qb (x := n + 1) (by omega) (by omega)]
          cases hq : ((((bwt D)[j] : Nat) : Int) == c) with
          | true => rw [Qu, Qu]; exact ih (j + 1) (n + 1) (by omega) (by omega) (by omega) (by omega)
          | false => rw [Qd, Qd]; exact ih (j + 1) n (by omega) (by omega) h3 (by omega)
      obtain ⟨v, p1, p2⟩ := key m 0 0 rfl (by omega) (by omega) (by omega)
      have hl : ((ints (bwt D)).take m).length = m := by rw [List.length_take, Q8]; omega
      refine ⟨v, p1, ?_⟩
      rw [Qh.eq, hl]
      have p2' : Qh_l0 c 0 ((ints (bwt D)).take m) m 0 = some v := p2
      rw [p2']; rfl
    · rw [show (decide ((0 : Int) ≤ i) && decide (i ≤ ((D.length + 1 : Nat) : Int))) = false by rw [Bool.and_eq_false_iff, decide_eq_false_iff_not, decide_eq_false_iff_not]; omega]
      exact ⟨_, rfl, rfl⟩
end
end Go.Ev.W
/- The law FnRelRank. -/
set_option linter.unusedVariables false
set_option linter.unusedSimpArgs false
namespace Go.Ev.W
open Go.Ev
def cntI (X : List Nat) (c : Int) : Nat := (X.filter fun (x : Nat) => decide ((x : Int) = c)).length
theorem cntI_le (X : List Nat) (c : Int) : cntI X c ≤ X.length := List.length_filter_le _ _
theorem cntI_app (X Y : List Nat) (c : Int) : cntI (X ++ Y) c = cntI X c + cntI Y c := by unfold cntI; rw [List.filter_append, List.length_append]
theorem cntI_split : ∀ (X : List Nat) (bs : List Bool) (c : Int), X.length ≤ bs.length → cntI X c = cntI (at1 X bs) c + cntI (at0 X bs) c
  | [], [], c, _ => rfl
  | [], _ :: _, c, _ => rfl
  | _ :: _, [], c, h => by simp at h
  | x :: X, b :: bs, c, h => by
    have ih := cntI_split X bs c (by simpa using h)
    have e : cntI (x :: X) c = cntI [x] c + cntI X c := cntI_app [x] X c
    rw [e, ih, at1, at0, cntI_app, cntI_app]
    cases b
    · show _ = (cntI [] c + _) + (cntI [x] c + _); have : cntI [] c = 0 := rfl; omega
    · show _ = (cntI [x] c + _) + (cntI [] c + _); have : cntI [] c = 0 := rfl; omega
theorem at1_take : ∀ (X : List Nat) (bs : List Bool) (i : Nat), i ≤ X.length → X.length = bs.length → at1 (X.take i) bs = (at1 X bs).take (one bs i) ∧ at0 (X.take i) bs = (at0 X bs).take (zer bs i)
  | [], [], i, _, _ => by simp [at1, at0]
  | [], _ :: _, _, _, h => by cases h
  | _ :: _, [], _, _, h => by cases h
  | x :: X, b :: bs, 0, _, _ => by simp [at1, at0, one, zer]
  | x :: X, b :: bs, i + 1, hi, h => by
    obtain ⟨h1, h2⟩ := at1_take X bs i (by simpa using hi) (by simpa using h)
    rw [List.take_succ_cons, at1, at1, at0, at0, h1, h2]
    cases b with
    | true =>
      have e1 : one (true :: bs) (i + 1) = one bs i + 1 := by unfold one; simp
      have e2 : zer (true :: bs) (i + 1) = zer bs i := by unfold zer; simp
      rw [e1, e2]
      exact ⟨rfl, rfl⟩
    | false =>
      have e1 : one (false :: bs) (i + 1) = one bs i := by unfold one; simp
      have e2 : zer (false :: bs) (i + 1) = zer bs i + 1 := by unfold zer; simp
      rw [e1, e2]
      exact ⟨rfl, rfl⟩
theorem implCount_l0 (X : List Nat) (hX : X.length ≤ 5000) (c : Int) : ∀ (d i : Nat), X.length - i = d → i ≤ X.length → Qh_l0 c (cntI (X.take i) c : Nat) (ints X) X.length i = some ((cntI X c : Nat) : Int) := by
  intro d
  induction d with
  | zero =>
    intro i h1 h2
    obtain rfl : i = X.length := by omega
    rw [Qh_l0.eq, Q3 (by omega), List.take_length]
  | succ d ih =>
    intro i h1 h2
    have hi : i < X.length := by omega
    have hz := cntI_le (X.take i) c
    rw [List.length_take] at hz
    have ih := ih (i + 1) (by omega) (by omega)
    rw [Q38 X i hi, cntI_app] at ih
    rw [Qh_l0.eq, Q2 (by omega), Q0s X i hi, Option.bind_some, Q6 i (by omega), Q6 _ (by omega)]
    by_cases e : ((X[i] : Nat) : Int) = c
    · have e1 : cntI [X[i]] c = 1 := by unfold cntI; simp [e]
      rw [e1] at ih
      rw [Q07 e]; exact ih
    · have e1 : cntI [X[i]] c = 0 := by unfold cntI; simp [e]
      rw [e1, Nat.add_zero] at ih
      rw [Q0a e]; exact ih
theorem implCountI_eq (X : List Nat) (hX : X.length ≤ 5000) (c : Int) : Qh (ints X) c = some ((cntI X c : Nat) : Int) := by
  rw [Qh.eq, Q8]
  exact implCount_l0 X hX c _ 0 rfl (Nat.zero_le _)
theorem Q3B (Y : List Nat) (hY : Y.length ≤ 400) (hy : ∀ y ∈ Y, y ≤ 511) (c : Int) (m : Nat) (hm : m ≤ Y.length) : Q0E (wvV Y) c m = some ((cntI (Y.take m) c : Nat) : Int) := by
  have hb := wave_back Y (by omega) hy
  have hYl : ∀ p ∈ (wLv 9 0 Y).2, p.2.length ≤ 1048576 := fun p hp => by rw [Q39 9 0 Y p hp]; unfold nw; omega
  have hrd := Q4g (Y.length : Int) (ints (wLv 9 0 Y).1) (wLv 9 0 Y).2 hYl (Q2S [] 9 0 Y)
  rw [hb.1, Qu] at hrd
  have hQe : ints (snds (rows ((wLv 9 0 Y).2.map lvb) (start (Y.length : Int).toNat))) = ints Y := by
    have e : Q22 Y.length (wLv 9 0 Y).2 = Y := hb.2
    rw [Int.toNat_natCast]
    exact congrArg ints e
  rw [hQe] at hrd
  rw [Q0E.eq]
  show (Qc ((Y.length : Int), ints (wLv 9 0 Y).1, LI (wLv 9 0 Y).2)).bind _ = _
  rw [hrd, Option.bind_some]
  simp only [Bool.not_true, Qd]
  rw [Q2H, Q8, Option.bind_some, decide_eq_true (show (0 : Int) ≤ m by omega), decide_eq_true (show (m : Int) ≤ Y.length by omega), Bool.and_true, Bool.not_true, Qd, Q2 (by omega), Int.toNat_natCast, List.drop_zero, Nat.sub_zero, Q3a, implCountI_eq _ (by rw [List.length_take]; omega)]
  rfl
theorem nth_l0 (bs : List Bool) (hb : bs.length ≤ 5000) : ∀ (d i k : Nat), bs.length - i = d → i ≤ bs.length → one bs i + k < one bs bs.length → ∃ p, i ≤ p ∧ p < bs.length ∧ Q0o_l0 1 k (Qe bs) bs.length i = some ((p : Nat) : Int) ∧ one bs (p + 1) = one bs i + k + 1 := by
  intro d
  induction d with
  | zero =>
    intro i k h1 h2 h3
    obtain rfl : i = bs.length := by omega
    omega
  | succ d ih =>
    intro i k h1 h2 h3
    have hi : i < bs.length := by omega
    have hs := Q35 bs i hi
    have hle := bef_le bs bs.length true
    rw [Q2Q] at hle
    rw [Q0o_l0.eq, Q2 (by omega), Q27 bs i hi, Option.bind_some, bint_one, Q6 i (by omega)]
    cases hb' : bs[i] with
    | true =>
      rw [hb', if_pos rfl] at hs
      rw [Qu]
      by_cases h0 : k = 0
      · subst h0
        rw [Q07 (by omega)]
        exact ⟨i, Nat.le_refl _, hi, rfl, by omega⟩
      · rw [Q0a (by omega), Qb (x := (k : Int) - 1) (by omega) (by omega), show (k : Int) - 1 = ((k - 1 : Nat) : Int) by omega]
        obtain ⟨p, p1, p2, p3, p4⟩ := ih (i + 1) (k - 1) (by omega) (by omega) (by omega)
        exact ⟨p, by omega, p2, p3, by omega⟩
    | false =>
      rw [hb', if_neg (by simp), Nat.add_zero] at hs
      rw [Qd]
      obtain ⟨p, p1, p2, p3, p4⟩ := ih (i + 1) k (by omega) (by omega) (by omega)
      exact ⟨p, by omega, p2, p3, by omega⟩
theorem isBit1 : Q0T 1 = some true := by rw [Q0T.eq]; rfl
section
variable (m : Nat) (W : List Nat) (hm : m ≤ 5000) (hl : W.length ≤ 1048576) (hx : ∀ x ∈ W, x < 2 ^ 64) (hv : vOk (m : Int) W = true)
include hm hl hx hv
omit hl in
theorem bitsL_ok : QG ((m : Int), ints W) = some (Qe (bts m W)) :=
  Q3k m W hm hx ((Q26 m W hx).1 (by simp only [vOk, Bool.and_eq_true] at hv; simpa using hv.2))
theorem rank1_eq (i : Nat) (hi : i ≤ m) : Q1m ((m : Int), ints W) 1 i = some ((one (bts m W) i : Nat) : Int) := by
  have hb := Q1A m W
  have hc := countB_eq ((bts m W).take i) true (by rw [List.length_take]; omega)
  rw [show bint true = 1 from rfl] at hc
  have e : bef ((bts m W).take i) ((bts m W).take i).length true = one (bts m W) i := by
    rw [Q2Q]; unfold one; rw [List.take_length]
  rw [e] at hc
  rw [Q1m.eq, Q33 _ W hl hx, hv, Option.bind_some, Bool.not_true, Qd, isBit1, Option.bind_some, Bool.not_true, Qd]
  simp only
  rw [Q2H, Option.bind_some, decide_eq_true (show (0 : Int) ≤ i by omega), decide_eq_true (show (i : Int) ≤ m by omega), Bool.and_true, Bool.not_true, Qd, bitsL_ok m W hm hx hv, Option.bind_some, Q1R, Q2 (by omega), Int.toNat_natCast, List.drop_zero, Nat.sub_zero, show (Qe (bts m W)).take i = Qe ((bts m W).take i) from (List.map_take).symm, hc]
  rfl
theorem select1_eq (k : Nat) (hk : k < one (bts m W) m) : ∃ p, p < m ∧ Q1n ((m : Int), ints W) 1 k = some ((p : Nat) : Int) ∧ one (bts m W) (p + 1) = k + 1 := by
  have hb := Q1A m W
  have h0 : one (bts m W) 0 = 0 := by simp [one]
  obtain ⟨p, p1, p2, p3, p4⟩ := nth_l0 (bts m W) (by omega) _ 0 k rfl (Nat.zero_le _) (by rw [hb]; omega)
  refine ⟨p, by omega, ?_, by omega⟩
  rw [Q1n.eq, Q33 _ W hl hx, hv, Option.bind_some, Bool.not_true, Qd, isBit1, Option.bind_some, Bool.not_true, Qd, Q3 (by omega), bitsL_ok m W hm hx hv, Option.bind_some, Q0o.eq, Q1R]
  have p3' : Q0o_l0 1 (k : Int) (Qe (bts m W)) ((bts m W).length : Int) 0 = some ((p : Nat) : Int) := p3
  rw [p3']; rfl
end
theorem relSymbolS (f : FmT) (hf : SmFm f 1048576) (hw : ∀ p ∈ f.2.2.2.2.1, ∀ x ∈ p.2, 0 ≤ x ∧ x < ((2 ^ 64 : Nat) : Int)) (x : RelT) (hx : SmRel x 1048576) (xw : XWords x) (k : Int) : ∃ v, Q1d f x k = some v := by
  obtain ⟨v, D, t, h1, h2, h3⟩ := relRead_eq f hf hw x hx xw
  rw [Q1d.eq]
  show ∃ v, (QF f x).bind _ = _
  cases v with
  | false =>
    rw [show QF f x = some (([] : List Int), false) from h1]
    exact ⟨-1, rfl⟩
  | true =>
    obtain ⟨R0, hk⟩ := h3 rfl
    have d1 := hk.dl
    have d2 := hk.db
    have hb := Q1x D
    rw [show QF f x = some (ints D, true) from h1, Option.bind_some]
    simp only [Bool.not_true, Qd]
    by_cases hk0 : k < 0
    · rw [Q2 hk0]; exact ⟨_, rfl⟩
    rw [Q3 hk0, Q8]
    by_cases hk1 : k > (D.length : Int)
    · rw [Q2 hk1]; exact ⟨_, rfl⟩
    rw [Q3 hk1]
    obtain ⟨m, rfl⟩ : ∃ m : Nat, k = m := ⟨k.toNat, by omega⟩
    rw [Q2n D d1 d2]
    simp only [Option.bind_some, Q0C, Int.toNat_natCast, Q1S _ m (show m < (bwt D).length by omega)]
    exact ⟨_, rfl⟩
theorem drawRelRank_ok (xs : List Int) (h : Bytes xs) : ∃ (f : FmT) (x : RelT) (c i : Int), Q1f xs = some (f, x, c, i) ∧ FmIn f ∧ RelIn x := by
  obtain ⟨c, e0, g0⟩ := open_ok xs h
  obtain ⟨f, x, c1, e1, g1, hf, hx⟩ := rel_ok g0 (by omega)
  obtain ⟨x3, c3, e3, g3, a3, b3⟩ := QW g1 (by omega) 9
  obtain ⟨v4, e4⟩ := relSymbolS f hf.1 hf.2 x hx.1 hx.2 x3
  obtain ⟨x5, c5, e5, g5, _⟩ := raw_ok g3 (by omega)
  obtain ⟨x6, c6, e6, g6, a6, b6⟩ := QW g5 (by omega) 3
  obtain ⟨y, y1, y2, y3⟩ := Q1Q ([v4, x5, (98 : Int)] : List Int) x6 a6 (by simp; omega)
  obtain ⟨n, hn⟩ : ∃ n, n = (if (if x.1 > (0 : Int) then x.1 else (0 : Int)) < (30 : Int) then (if x.1 > (0 : Int) then x.1 else (0 : Int)) else (30 : Int)) := ⟨_, rfl⟩
  have hn2 : 0 ≤ n ∧ n ≤ 30 := by rw [hn]; split <;> split at * <;> omega
  obtain ⟨z, c7, e7, g7⟩ := place_ok g6 (by omega) n hn2.1 (by omega)
  refine ⟨f, x, y, z, ?_, hf, hx⟩
  rw [Q1f.eq]
  simp only [e0, e1, e3, e4, e5, e6, Option.bind_some, y1, y2, ← hn, e7]
theorem law_FnRelRank (xs : List Int) (hx : goodA tab Q0J.as xs) : Q0J.fn xs = some true := by
  show Q0J xs = some true
  rw [Q0J.eq, bigD_eq, Option.bind_some]
  by_cases h : (xs.length : Int) > 1048576
  · rw [Q2 h]
  rw [Q3 h]
  obtain ⟨f, x, c, i, ed, hf, hx⟩ := drawRelRank_ok xs (codeD_bytes hx h)
  rw [ed, Option.bind_some]
  simp only
  obtain ⟨n, n1, n2⟩ := relRank_both f hf.1 hf.2 x hx.1 hx.2 c i
  obtain ⟨v, D, t, h1, h2, h3⟩ := relRead_eq f hf.1 hf.2 x hx.1 hx.2
  rw [n2, Option.bind_some, n1, Option.bind_some, Q1F rfl]
  by_cases hneg : n < 0
  · rw [Q2 hneg, Option.bind_some, beq_self_eq_true]
  rw [Q3 hneg]
  -- what was read
  have key : v = true ∧ 0 ≤ i ∧ i ≤ ((D.length + 1 : Nat) : Int) ∧ (v = true → n = ((cntI ((bwt D).take i.toNat) c : Nat) : Int)) := by
    rw [Q13.eq] at n2
    have n2' : ((Q0O x f).bind fun y1 => bif !y1.2 then some (-1 : Int) else
        (Qy i (0 : Int) (IntKind.i64.wrap ((y1.1.length : Int) + (1 : Int)))).bind fun y2 => bif !y2 then some (-1 : Int) else
        (QB y1.1).bind fun y3 => bif decide (0 ≤ i ∧ i ≤ ((y3.length : Nat) : Int)) then (Qh ((y3.drop 0).take (i.toNat - 0)) c).bind fun y4 => some y4 else none) = some n := n2
    rw [h2] at n2'
    cases v with
    | false =>
      have : some (-1 : Int) = some n := n2'
      injection this with this
      omega
    | true =>
      obtain ⟨R0, hk⟩ := h3 rfl
      have d1 := hk.dl
      have d2 := hk.db
      rw [Qu, Option.bind_some] at n2'
      simp only [Bool.not_true, Qd] at n2'
      rw [Q2H, Q8, Q6 _ (by omega), Option.bind_some] at n2'
      cases hc : decide ((0 : Int) ≤ i) && decide (i ≤ ((D.length + 1 : Nat) : Int)) with
      | false =>
        rw [hc] at n2'
        have : some (-1 : Int) = some n := n2'
        injection this with this
        omega
      | true =>
        rw [hc] at n2'
        simp only [Bool.and_eq_true, decide_eq_true_eq] at hc
        have hb := Q1x D
        rw [Bool.not_true, Qd, Q31 D d1 d2, Option.bind_some, Q8, Q2 (by omega), List.drop_zero, Nat.sub_zero, Q3a, implCountI_eq _ (by rw [List.length_take]; omega)] at n2'
        have : some ((cntI ((bwt D).take i.toNat) c : Nat) : Int) = some n := n2'
        injection this with this
        exact ⟨rfl, hc.1, hc.2, fun _ => this.symm⟩
  obtain ⟨rfl, i0, i1, hn⟩ := key
  have hn := hn rfl
  obtain ⟨m, rfl⟩ : ∃ m : Nat, i = m := ⟨i.toNat, by omega⟩
  rw [Int.toNat_natCast] at hn
  obtain ⟨R, hk⟩ := h3 rfl
  obtain ⟨W1, W2, hxe, e1, e2, x1, x2, q1, q2, o1, o2, m1, m2, hsame⟩ := hk.full
  obtain ⟨⟨r1, r2, r3, r4, r5⟩, _⟩ := hk.fv
  have d1 := hk.dl
  have d2 := hk.db
  have lR := Q1x R
  have lD := Q1x D
  have leR := bwt_le R r2
  have leD := bwt_le D d2
  rw [m1] at o1
  rw [m2] at o2
  rw [m1, m2, Int.toNat_natCast, Int.toNat_natCast] at hsame
  have b1 := Q1A (bwt R).length W1
  have b2 := Q1A (bwt D).length W2
  obtain ⟨A, hA⟩ : ∃ A, A = bts (bwt R).length W1 := ⟨_, rfl⟩
  obtain ⟨B, hB⟩ : ∃ B, B = bts (bwt D).length W2 := ⟨_, rfl⟩
  have w0 : (f.2.2.1, f.2.2.2.1, f.2.2.2.2.1) = wvV (bwt R) := by rw [r5]; rfl
  have w1 : (x.2.2.2.2.2.2.1, x.2.2.2.2.2.2.2.1, x.2.2.2.2.2.2.2.2.1) = wvV (at0 (bwt R) A) := by
    have := congrArg (fun y : RelT => (y.2.2.2.2.2.2.1, y.2.2.2.2.2.2.2.1, y.2.2.2.2.2.2.2.2.1)) hxe
    rw [← this, hA]
    show wvV (at0 (bwt R) (bts x.2.2.1.toNat W1)) = _
    rw [m1, Int.toNat_natCast]
  have w2 : (x.2.2.2.2.2.2.2.2.2.1, x.2.2.2.2.2.2.2.2.2.2.1, x.2.2.2.2.2.2.2.2.2.2.2.1) = wvV (at0 (bwt D) B) := by
    have := congrArg (fun y : RelT => (y.2.2.2.2.2.2.2.2.2.1, y.2.2.2.2.2.2.2.2.2.2.1, y.2.2.2.2.2.2.2.2.2.2.2.1)) hxe
    rw [← this, hB]
    show wvV (at0 (bwt D) (bts x.2.2.2.2.1.toNat W2)) = _
    rw [m2, Int.toNat_natCast]
  have hk1 := rank1_eq (bwt D).length W2 (by omega) q2 x2 o2 m (by omega)
  have hsel := select1_eq (bwt R).length W1 (by omega) q1 x1 o1
  rw [← hB] at hk1
  rw [← hA] at hsel
  rw [← hA, ← hB] at hsame
  rw [← hA] at b1
  rw [← hB] at b2
  have zo := Q2a B m (by omega)
  have s1 := at1_take (bwt D) B m (by omega) (by omega)
  have s2 := cntI_split ((bwt D).take m) B c (by rw [List.length_take]; omega)
  rw [s1.1, s1.2] at s2
  have a1 := at1_len (bwt R) A (by omega)
  have a2 := at1_len (bwt D) B (by omega)
  have zl := Q2o (bwt D) B
  have zl1 := Q2o (bwt R) A
  have hzB : zer B m ≤ (at0 (bwt D) B).length := by
    have := congrArg List.length s1.2
    have l := at0_len' ((bwt D).take m) (B.take m) (by rw [List.length_take, List.length_take]; omega)
    have t := at0_len' (bwt D) B (by omega)
    have mono := zer_mono B m (B.length - m) (by omega)
    rw [show m + (B.length - m) = B.length by omega] at mono
    omega
  have y5 := Q3B (at0 (bwt D) B) (by omega) (fun y hy => by have := leD y (Q3b _ _ y hy); omega) c (zer B m) hzB
  have c5 := cntI_le ((at0 (bwt D) B).take (zer B m)) c
  have c1 := cntI_le ((at1 (bwt D) B).take (one B m)) c
  rw [List.length_take] at c5 c1
  have monoB := one_mono B m (B.length - m) (by omega)
  rw [show m + (B.length - m) = B.length by omega] at monoB
  have hlens := congrArg List.length hsame
  rw [a1, a2, b1, b2] at hlens
  rw [b2] at monoB
  rw [Q0J_l0.eq, w0, w1, w2]
  rw [e2, m2, hk1, Option.bind_some]
  have ei : IntKind.i64.wrap ((m : Int) - ((one B m : Nat) : Int)) = ((zer B m : Nat) : Int) := by rw [Qb (by omega) (by omega)]; omega
  by_cases hk0 : one B m = 0
  · have y3 := Q3B (bwt R) (by omega) (fun y hy => by have := leR y hy; omega) c 0 (Nat.zero_le _)
    have y4 := Q3B (at0 (bwt R) A) (by omega) (fun y hy => by have := leR y (Q3b _ _ y hy); omega) c 0 (Nat.zero_le _)
    have z0 : cntI ([] : List Nat) c = 0 := rfl
    rw [List.take_zero, z0] at y3 y4
    have y3' : Q0E (wvV (bwt R)) c 0 = some ((0 : Nat) : Int) := y3
    have e0 : IntKind.i64.wrap ((0 : Int) - ((one B m : Nat) : Int)) = ((0 : Nat) : Int) := by rw [hk0]; rfl
    rw [hk0, List.take_zero, z0] at s2
    rw [Q3 (by omega), y3', Option.bind_some, e0, y4, Option.bind_some, ei, y5, Option.bind_some]
    rw [Qb (x := ((0 : Nat) : Int) - ((0 : Nat) : Int)) (by omega) (by omega), Qb (by omega) (by omega), hn]
    exact congrArg some (beq_iff_eq.2 (by omega))
  · obtain ⟨p, p1, p2, p3⟩ := hsel (one B m - 1) (by omega)
    have zoA := Q2a A (p + 1) (by omega)
    have t1 := at1_take (bwt R) A (p + 1) (by omega) (by omega)
    have t2 := cntI_split ((bwt R).take (p + 1)) A c (by rw [List.length_take]; omega)
    rw [t1.1, t1.2] at t2
    have hzA : zer A (p + 1) ≤ (at0 (bwt R) A).length := by
      have t := at0_len' (bwt R) A (by omega)
      have mono := zer_mono A (p + 1) (A.length - (p + 1)) (by omega)
      rw [show p + 1 + (A.length - (p + 1)) = A.length by omega] at mono
      omega
    have y3 := Q3B (bwt R) (by omega) (fun y hy => by have := leR y hy; omega) c (p + 1) (by omega)
    have y4 := Q3B (at0 (bwt R) A) (by omega) (fun y hy => by have := leR y (Q3b _ _ y hy); omega) c (zer A (p + 1)) hzA
    have u3 := cntI_le ((bwt R).take (p + 1)) c
    have u4 := cntI_le ((at0 (bwt R) A).take (zer A (p + 1))) c
    rw [List.length_take] at u3 u4
    have ek : IntKind.i64.wrap (((one B m : Nat) : Int) - 1) = ((one B m - 1 : Nat) : Int) := by rw [Qb (by omega) (by omega)]; omega
    have ep : IntKind.i64.wrap (((p + 1 : Nat) : Int) - ((one B m : Nat) : Int)) = ((zer A (p + 1) : Nat) : Int) := by rw [Qb (by omega) (by omega)]; omega
    rw [hsame, show one A (p + 1) = one B m by omega] at t2
    rw [Q2 (by omega), e1, m1, ek, p2, Option.bind_some, Q6 p (by omega), y3, Option.bind_some, ep, y4, Option.bind_some, ei, y5, Option.bind_some]
    rw [Qb (x := ((cntI ((bwt R).take (p + 1)) c : Nat) : Int) - _) (by omega) (by omega), Qb (by omega) (by omega), hn]
    exact congrArg some (beq_iff_eq.2 (by omega))
end Go.Ev.W
