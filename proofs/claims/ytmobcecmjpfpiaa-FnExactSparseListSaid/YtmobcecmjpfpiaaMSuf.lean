/- The order of texts and of suffixes. -/
import Derived.Test.YtmobcecmjpfpiaaEvC
import Derived.Test.YtmobcecmjpfpiaaPp4
import Derived.Test.YtmobcecmjpfpiaaNBits
import Derived.Test.YtmobcecmjpfpiaaEvCmp
import Derived.Test.YtmobcecmjpfpiaaEvSort
set_option linter.unusedVariables false
set_option linter.unusedSimpArgs false
namespace Go.Ev.W
open Go.Ev

def cmpN : List Nat → List Nat → Int
  | [], [] => 0
  | [], _ :: _ => -1
  | _ :: _, [] => 1
  | a :: x, b :: y => if a < b then -1 else if b < a then 1 else cmpN x y
theorem cmpN_self : ∀ x, cmpN x x = 0
  | [] => rfl
  | a :: x => by rw [cmpN, if_neg (by omega), if_neg (by omega)]; exact cmpN_self x
theorem cmpN_neg : ∀ x y, cmpN y x = - cmpN x y
  | [], [] => rfl
  | [], _ :: _ => rfl
  | _ :: _, [] => rfl
  | a :: x, b :: y => by
    rw [cmpN, cmpN]
    by_cases h1 : a < b
    · rw [if_pos h1, if_neg (by omega), if_pos h1]; rfl
    · by_cases h2 : b < a
      · simp [h1, h2]
      · rw [if_neg h1, if_neg h2, if_neg h2, if_neg h1]; exact cmpN_neg x y
theorem cmpN_eq : ∀ x y, cmpN x y = 0 → x = y
  | [], [], _ => rfl
  | [], _ :: _, h => by cases h
  | _ :: _, [], h => by cases h
  | a :: x, b :: y, h => by
    rw [cmpN] at h
    by_cases h1 : a < b
    · rw [if_pos h1] at h; cases h
    · by_cases h2 : b < a
      · rw [if_neg h1, if_pos h2] at h; cases h
      · rw [if_neg h1, if_neg h2] at h
        rw [cmpN_eq x y h, show a = b by omega]
theorem cmpN_le : ∀ x y z, cmpN x y ≤ 0 → cmpN y z ≤ 0 → cmpN x z ≤ 0
  | [], [], _, _, h => h
  | [], _ :: _, [], _, _ => by decide
  | [], _ :: _, _ :: _, _, _ => show (-1 : Int) ≤ 0 by decide
  | _ :: _, [], _, h, _ => by cases h
  | _ :: _, _ :: _, [], _, h => by cases h
  | a :: x, b :: y, c :: z, h1, h2 => by
    rw [cmpN] at h1 h2 ⊢
    by_cases p1 : a < b
    · by_cases p2 : b < c
      · rw [if_pos (by omega)]; decide
      · by_cases p3 : c < b
        · rw [if_neg p2, if_pos p3] at h2; exact absurd h2 (by decide)
        · rw [if_pos (by omega)]; decide
    · by_cases p4 : b < a
      · rw [if_neg p1, if_pos p4] at h1; exact absurd h1 (by decide)
      · rw [if_neg p1, if_neg p4] at h1
        by_cases p2 : b < c
        · rw [if_pos (by omega)]; decide
        · by_cases p3 : c < b
          · rw [if_neg p2, if_pos p3] at h2; exact absurd h2 (by decide)
          · rw [if_neg p2, if_neg p3] at h2
            rw [if_neg (by omega), if_neg (by omega)]
            exact cmpN_le x y z h1 h2
theorem cmpN_trans {x y z : List Nat} (h1 : cmpN x y < 0) (h2 : cmpN y z < 0) : cmpN x z < 0 := by
  have h := cmpN_le x y z (by omega) (by omega)
  rcases Int.lt_or_eq_of_le h with h | h
  · exact h
  · have := cmpN_eq x z h
    subst this
    have := cmpN_neg x y
    omega
theorem cmpN_tri (x y : List Nat) : cmpN x y = -1 ∨ cmpN x y = 0 ∨ cmpN x y = 1 := by
  induction x generalizing y with
  | nil => cases y <;> simp [cmpN]
  | cons a x ih =>
    cases y with
    | nil => simp [cmpN]
    | cons b y =>
      rw [cmpN]
      by_cases h1 : a < b
      · rw [if_pos h1]; simp
      · by_cases h2 : b < a
        · rw [if_neg h1, if_pos h2]; simp
        · rw [if_neg h1, if_neg h2]; exact ih y
theorem cmpB_eq : ∀ (X Y : List Nat), (∀ x ∈ X, x < 256) → (∀ y ∈ Y, y < 256) → cmpB (ints X) (ints Y) = cmpN X Y
  | [], [], _, _ => rfl
  | [], _ :: _, _, _ => rfl
  | _ :: _, [], _, _ => rfl
  | a :: X, b :: Y, hx, hy => by
    have ih := cmpB_eq X Y (fun x h => hx x (List.mem_cons_of_mem _ h)) (fun y h => hy y (List.mem_cons_of_mem _ h))
    have ha := hx a List.mem_cons_self
    have hb := hy b List.mem_cons_self
    have lt : ∀ c d : Nat, c < 256 → d < 256 → (UInt8.ofNat (c : Int).toNat < UInt8.ofNat (d : Int).toNat ↔ c < d) := by
      intro c d hc hd
      rw [UInt8.lt_iff_toNat_lt, Int.toNat_natCast, Int.toNat_natCast, UInt8.toNat_ofNat', UInt8.toNat_ofNat', Nat.mod_eq_of_lt hc, Nat.mod_eq_of_lt hd]
    show (if UInt8.ofNat (a : Int).toNat < UInt8.ofNat (b : Int).toNat then (-1 : Int) else if UInt8.ofNat (b : Int).toNat < UInt8.ofNat (a : Int).toNat then 1 else cmpB (ints X) (ints Y)) = _
    rw [cmpN, ih]
    simp only [lt a b ha hb, lt b a hb ha]
theorem l05Cmp_l0 (X Y : List Nat) (hX : X.length ≤ 4000000) (hY : Y.length ≤ 4000000) : ∀ (d i : Nat), X.length - i = d → i ≤ X.length → i ≤ Y.length → spec_l05Cmp_l0 (ints X) (ints Y) i = some (cmpN (X.drop i) (Y.drop i)) := by
  have tail : ∀ i : Nat, (i = X.length ∨ i = Y.length) → i ≤ X.length → i ≤ Y.length → (bif decide (((ints X).length : Int) < ((ints Y).length : Int)) then some (-1 : Int) else bif decide (((ints X).length : Int) > ((ints Y).length : Int)) then some (1 : Int) else some (0 : Int)) = some (cmpN (X.drop i) (Y.drop i)) := by
    intro i h1 h2 h3
    rw [List.length_map, List.length_map]
    by_cases p1 : X.length < Y.length
    · rw [bif_dec (by omega), List.drop_eq_nil_of_le (show X.length ≤ i by omega), List.drop_eq_getElem_cons (show i < Y.length by omega)]; rfl
    · rw [bif_ndec (by omega)]
      by_cases p2 : Y.length < X.length
      · rw [bif_dec (by omega), List.drop_eq_nil_of_le (show Y.length ≤ i by omega), List.drop_eq_getElem_cons (show i < X.length by omega)]; rfl
      · rw [bif_ndec (by omega), List.drop_eq_nil_of_le (show Y.length ≤ i by omega), List.drop_eq_nil_of_le (show X.length ≤ i by omega)]; rfl
  intro d
  induction d with
  | zero =>
    intro i h1 h2 h3
    rw [spec_l05Cmp_l0.eq, bif_ndec (by rw [List.length_map]; omega)]
    exact tail i (by omega) h2 h3
  | succ d ih =>
    intro i h1 h2 h3
    have hi : i < X.length := by omega
    rw [spec_l05Cmp_l0.eq, bif_dec (by rw [List.length_map]; omega)]
    by_cases hj : i < Y.length
    · rw [bif_dec (by rw [List.length_map]; omega), spec_l05Cmp_l1.eq, at?_ints _ _ hi, Option.bind_some, at?_ints _ _ hj, Option.bind_some, Option.bind_some, Option.bind_some, wrapS i (by omega), ih (i + 1) (by omega) (by omega) (by omega), List.drop_eq_getElem_cons hi, List.drop_eq_getElem_cons hj, cmpN]
      by_cases p1 : X[i] < Y[i]
      · rw [bif_dec (by omega), if_pos p1]
      · rw [bif_ndec (by omega), if_neg p1]
        by_cases p2 : Y[i] < X[i]
        · rw [bif_dec (by omega), if_pos p2]
        · rw [bif_ndec (by omega), if_neg p2]
    · rw [bif_ndec (by rw [List.length_map]; omega)]
      exact tail i (by omega) h2 h3
theorem l05Cmp_eq (X Y : List Nat) (hX : X.length ≤ 4000000) (hY : Y.length ≤ 4000000) : spec_l05Cmp (ints X) (ints Y) = some (cmpN X Y) := by
  rw [spec_l05Cmp.eq]
  exact l05Cmp_l0 X Y hX hY _ 0 rfl (by omega) (by omega)
/-- The suffixes of a text, by the numbers of their beginnings. -/
def sufLt (D : List Nat) (a b : Nat) : Prop := cmpN (D.drop a) (D.drop b) < 0
theorem suf_tri (D : List Nat) (a b : Nat) (ha : a ≤ D.length) (hb : b ≤ D.length) (h : ¬ sufLt D a b) (h' : ¬ sufLt D b a) : a = b := by
  unfold sufLt at h h'
  have := cmpN_neg (D.drop a) (D.drop b)
  have := congrArg List.length (cmpN_eq (D.drop a) (D.drop b) (by omega))
  rw [List.length_drop, List.length_drop] at this
  omega
end Go.Ev.W
