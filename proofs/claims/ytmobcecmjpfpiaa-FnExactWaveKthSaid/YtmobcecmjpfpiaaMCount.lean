/- How many bits are as told: both functions. -/
import Derived.Test.YtmobcecmjpfpiaaEvC
import Derived.Test.YtmobcecmjpfpiaaPp9
import Derived.Test.YtmobcecmjpfpiaaMWave4
set_option linter.unusedVariables false
set_option linter.unusedSimpArgs false
namespace Go.Ev.W
open Go.Ev

theorem countB_l0 (bs : List Bool) (b : Bool) (hn : bs.length ≤ 5000) : ∀ (d i : Nat), bs.length - i = d → i ≤ bs.length → impl_count_l0 (bint b) (bef bs i b : Nat) (bints bs) bs.length i = some ((bef bs bs.length b : Nat) : Int)
  | 0, i, h1, h2 => by
    obtain rfl : i = bs.length := by omega
    rw [impl_count_l0.eq, bif_ndec (by omega)]
  | d + 1, i, h1, h2 => by
    have hi : i < bs.length := by omega
    have hz := bef_le bs i b
    have ih := countB_l0 bs b hn d (i + 1) (by omega) (by omega)
    rw [bef_succ bs i b hi] at ih
    rw [impl_count_l0.eq, bif_dec (by omega), at?_bints bs i hi, Option.bind_some, bint_eq, wrapS i (by omega), wrapS (bef bs i b) (by omega)]
    cases hb : (bs[i] == b) with
    | true => rw [hb, if_pos rfl] at ih; rw [bif_true]; exact ih
    | false => rw [hb, if_neg (by simp), Nat.add_zero] at ih; rw [bif_false]; exact ih
theorem bef_zero (bs : List Bool) (b : Bool) : bef bs 0 b = 0 := rfl
theorem countB_eq (bs : List Bool) (b : Bool) (hn : bs.length ≤ 5000) : impl_count (bints bs) (bint b) = some ((bef bs bs.length b : Nat) : Int) := by
  rw [impl_count.eq, List.length_map]
  have := countB_l0 bs b hn _ 0 rfl (by omega)
  rw [bef_zero] at this
  exact this
theorem rankB_l1 (bs : List Bool) (b : Bool) (hn : bs.length ≤ 5000) : ∀ (d i : Nat), bs.length - i = d → i ≤ bs.length → spec_Rank_l1 (bint b) bs.length (bef bs i b : Nat) i (bints bs) = some ((bef bs bs.length b : Nat) : Int)
  | 0, i, h1, h2 => by
    obtain rfl : i = bs.length := by omega
    rw [spec_Rank_l1.eq, bif_ndec (by omega)]
  | d + 1, i, h1, h2 => by
    have hi : i < bs.length := by omega
    have hz := bef_le bs i b
    have ih := rankB_l1 bs b hn d (i + 1) (by omega) (by omega)
    rw [bef_succ bs i b hi] at ih
    rw [spec_Rank_l1.eq, bif_dec (by omega), at?_bints bs i hi, Option.bind_some, Int.toNat_natCast, get?_bints bs i hi, Option.bind_some, bint_eq, wrapS i (by omega), wrapS (bef bs i b) (by omega)]
    cases hb : (bs[i] == b) with
    | true => rw [hb, if_pos rfl] at ih; rw [bif_true]; exact ih
    | false => rw [hb, if_neg (by simp), Nat.add_zero] at ih; rw [bif_false]; exact ih
theorem bit_bint (b : Bool) : spec_l01Bit (bint b) = some true := by
  rw [spec_l01Bit.eq]
  cases b <;> rfl
theorem rankB_eq (m : Nat) (W : List Nat) (b : Bool) (hm : m ≤ 5000) (hl : W.length ≤ 1048576) (hx : ∀ x ∈ W, x < 2 ^ 64) (hv : vOk m W = true) : spec_Rank ((m : Int), ints W) (bint b) m = some ((bef (bts m W) m b : Nat) : Int) := by
  rw [spec_Rank.eq]
  try simp only
  have ht := (okW_iff m W hx).1 (by simp only [vOk, Bool.and_eq_true] at hv; simpa using hv.2)
  have hb := bts_length m W
  rw [specBitsOk_eq _ W hl hx, Option.bind_some, hv, Bool.not_true, bif_false, bit_bint, Option.bind_some, Bool.not_true, bif_false, bif_ndec (by omega), bif_ndec (by omega), spec_Rank_l0.eq,
    l01List_eq m W hm (by have := ht.1; unfold nw at this; omega) hx, Option.bind_some]
  have := rankB_l1 (bts m W) b (by omega) _ 0 rfl (by omega)
  rw [bef_zero, hb] at this
  exact this
end Go.Ev.W
