/- Sparse lists of numbers: reading them, both ways. -/
import Derived.Test.YtmobcecmjpfpiaaEvC
import Derived.Test.YtmobcecmjpfpiaaPp1
import Derived.Test.YtmobcecmjpfpiaaMSp3
import Derived.Test.YtmobcecmjpfpiaaMWave
import Derived.Test.YtmobcecmjpfpiaaMFm3
set_option linter.unusedVariables false
set_option linter.unusedSimpArgs false
namespace Go.Ev.W
open Go.Ev

theorem shl_or (q l w : Nat) (hq : q ≤ 5000) (hw : w ≤ 32) (hl : l < 2 ^ w) : IntKind.i64.wrap (((BitVec.ofInt 64 (IntKind.i64.wrap ((q : Int) * 2 ^ w))) ||| (BitVec.ofInt 64 (l : Int))).toNat : Int) = ((q * 2 ^ w + l : Nat) : Int) := by
  have hp : 2 ^ w ≤ 2 ^ 32 := Nat.pow_le_pow_right (by omega) hw
  have hm : q * 2 ^ w ≤ 5000 * 2 ^ 32 := Nat.mul_le_mul hq hp
  have e1 : (q : Int) * 2 ^ w = ((q * 2 ^ w : Nat) : Int) := by simp
  rw [e1, wrapIn (z := q * 2 ^ w) (by omega), bv_or 64 _ l (by omega) (by omega), Nat.mul_comm q, ← Nat.two_pow_add_eq_or_of_lt hl, wrapIn (by rw [Nat.mul_comm]; omega)]
theorem drop_bits {bs : List Bool} {i : Nat} (h : i < bs.length) : (bints bs)[i]? = some (bint bs[i]) := by rw [List.getElem?_map, List.getElem?_eq_getElem h]; rfl
noncomputable def spFin (v : SpV) (out : List Int) : Option (List Int × Bool) := (impl_SparseOf out v.1).bind fun y5 =>
      bif y5.2 then
        bif y5.1.2.1 == v.2.1 then
          (impl_samePacked (y5.1.2.2.1, y5.1.2.2.2.1, y5.1.2.2.2.2.1, y5.1.2.2.2.2.2.1) (v.2.2.1, v.2.2.2.1, v.2.2.2.2.1, v.2.2.2.2.2.1)).bind fun y6 =>
          bif y6 then
            (impl_sameBits y5.1.2.2.2.2.2.2 (v.2.2.2.2.2.2.1, v.2.2.2.2.2.2.2)).bind fun y7 =>
            some (out, y7)
          else
            some (out, false)
        else
          some (out, false)
      else
        some (out, false)
theorem ones_f (bs : List Bool) : ones (false :: bs) = ones bs := by rw [ones_cons]; simp
theorem ones_t (bs : List Bool) : ones (true :: bs) = 1 + ones bs := by rw [ones_cons]; simp
section
variable (bs : List Bool) (K : List Nat) (v : SpV) (w : Nat) (hbs : bs.length ≤ 5000) (hK : K.length ≤ 5000) (hw : w ≤ 32) (hv : K = [] ∨ v.2.2.1 = (w : Int)) (hx : ∀ x ∈ K, x < 2 ^ w)
include hbs hK hw hv hx
theorem ird_l0 : ∀ (d i q : Nat) (out : List Nat), bs.length - i = d → i ≤ bs.length → q ≤ i → out.length ≤ K.length →
    impl_Sparse_read_l0 q bs.length i v.1 v.2.1 v.2.2.1 v.2.2.2.1 v.2.2.2.2.1 v.2.2.2.2.2.1 v.2.2.2.2.2.2.1 v.2.2.2.2.2.2.2 (ints K) (ints out) (bints bs)
     = if ones (bs.drop i) ≤ K.length - out.length then spFin v (ints (out ++ deS (2 ^ w) (bs.drop i) q (K.drop out.length))) else some ([], false) := by
  intro d
  induction d with
  | zero =>
    intro i q out hd hi hq ho
    obtain rfl : i = bs.length := by omega
    rw [impl_Sparse_read_l0.eq, bif_ndec (by omega), List.drop_length, if_pos (show ones [] ≤ K.length - out.length from Nat.zero_le _), deS, List.append_nil]; rfl
  | succ d ih =>
    intro i q out hd hi hq ho
    have h : i < bs.length := by omega
    have hdr := List.drop_eq_getElem_cons h
    rw [impl_Sparse_read_l0.eq, bif_dec (by omega), at?_nat, Int.toNat_natCast, drop_bits h, Option.bind_some, Option.bind_some, wrapS i (by omega), hdr]
    cases hb : bs[i] with
    | false =>
      rw [bif_eq (show bint false = 0 from rfl), wrapS q (by omega), ih (i + 1) (q + 1) out (by omega) (by omega) (by omega) ho, ones_f, deS]
    | true =>
      rw [bif_neq (show bint true ≠ 0 by decide), ones_t, ints_len, ints_len]
      by_cases hlen : out.length = K.length
      · rw [bif_eq (by rw [hlen]), if_neg (by omega)]
      · have hlt : out.length < K.length := by omega
        have hKn : K ≠ [] := by intro e; rw [e] at hlt; exact absurd hlt (by simp)
        have hv' : v.2.2.1 = (w : Int) := hv.resolve_left hKn
        have hl := hx _ (List.getElem_mem hlt)
        have e : min w 64 = w := by omega
        rw [bif_neq (by omega), hv', bif_ndec (by omega), at?_nat, Int.toNat_natCast, getElem?_ints K _ hlt, Option.bind_some, Option.bind_some, Int.toNat_natCast, e, shl_or q _ w (by omega) hw hl, bif_dec (by simp only [List.length_cons, List.length_nil]; omega), ints_snoc]
        have := ih (i + 1) q (out ++ [q * 2 ^ w + K[out.length]]) (by omega) (by omega) (by omega) (by simp only [List.length_append, List.length_cons, List.length_nil]; omega)
        rw [hv'] at this
        rw [this, List.drop_eq_getElem_cons hlt, deS, List.append_assoc]
        simp only [List.length_append, List.length_cons, List.length_nil, List.cons_append, List.nil_append]
        by_cases hc : ones (bs.drop (i + 1)) ≤ K.length - (out.length + (0 + 1))
        · rw [if_pos hc, if_pos (by omega)]
        · rw [if_neg hc, if_neg (by omega)]
theorem srd_l0 (hv2 : v.2.2.1 = (w : Int)) : ∀ (d i q : Nat) (out : List Nat), bs.length - i = d → i ≤ bs.length → q ≤ i → out.length ≤ K.length →
    spec_l03List_l0 q i v.1 v.2.1 v.2.2.1 v.2.2.2.1 v.2.2.2.2.1 v.2.2.2.2.2.1 v.2.2.2.2.2.2.1 v.2.2.2.2.2.2.2 (ints out) (ints K) (bints bs) = some (ints (out ++ deS (2 ^ w) (bs.drop i) q (K.drop out.length))) := by
  intro d
  induction d with
  | zero =>
    intro i q out hd hi hq ho
    obtain rfl : i = bs.length := by omega
    rw [spec_l03List_l0.eq, bints_len, bif_ndec (by omega), List.drop_length, deS, List.append_nil]
  | succ d ih =>
    intro i q out hd hi hq ho
    have h : i < bs.length := by omega
    have hdr := List.drop_eq_getElem_cons h
    rw [spec_l03List_l0.eq, bints_len, bif_dec (by omega), at?_nat, Int.toNat_natCast, drop_bits h, Option.bind_some, Option.bind_some, wrapS i (by omega), hdr]
    cases hb : bs[i] with
    | false =>
      rw [bif_eq (show bint false = 0 from rfl), wrapS q (by omega), ih (i + 1) (q + 1) out (by omega) (by omega) (by omega) ho, deS]
    | true =>
      rw [bif_neq (show bint true ≠ 0 by decide), ints_len, ints_len]
      by_cases hlt : out.length < K.length
      · have hl := hx _ (List.getElem_mem hlt)
        have hp : 2 ^ w ≤ 2 ^ 32 := Nat.pow_le_pow_right (by omega) hw
        have hm : q * 2 ^ w ≤ 5000 * 2 ^ 32 := Nat.mul_le_mul (by omega) hp
        have e1 : (q : Int) * ((2 ^ w : Nat) : Int) = ((q * 2 ^ w : Nat) : Int) := by simp
        have e2 : ((q * 2 ^ w : Nat) : Int) + ((K[out.length] : Nat) : Int) = ((q * 2 ^ w + K[out.length] : Nat) : Int) := by omega
        have _ := hv
        rw [bif_dec (by omega), hv2, l02Pow_eq w (by omega), Option.bind_some, at?_nat, Int.toNat_natCast, getElem?_ints K _ hlt, Option.bind_some, Option.bind_some, e1, wrapIn (by omega), e2, wrapIn (by omega), bif_dec (by simp only [List.length_cons, List.length_nil]; omega), ints_snoc]
        have := ih (i + 1) q (out ++ [q * 2 ^ w + K[out.length]]) (by omega) (by omega) (by omega) (by simp only [List.length_append, List.length_cons, List.length_nil]; omega)
        rw [hv2] at this
        rw [this, List.drop_eq_getElem_cons hlt, deS, List.append_assoc]
        simp only [List.length_append, List.length_cons, List.length_nil, List.cons_append, List.nil_append]
      · have hlen : out.length = K.length := by omega
        rw [bif_ndec (by omega), ih (i + 1) q out (by omega) (by omega) (by omega) ho, show K.drop out.length = [] from List.drop_eq_nil_of_le (by omega), deS]
end
end Go.Ev.W
