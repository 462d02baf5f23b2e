/- Bits out of bytes: what the functions come to. -/
import Derived.Test.YtmobcecmjpfpiaaEvC
import Derived.Test.YtmobcecmjpfpiaaPp4
import Derived.Laws.Strings
import Derived.Test.YtmobcecmjpfpiaaMBits
import Derived.Test.YtmobcecmjpfpiaaMLaw2
set_option linter.unusedVariables false
set_option linter.unusedSimpArgs false
namespace Go.Ev.W
open Go.Ev

/-! #### bytes, compared as strings -/
def ByteL (D : List Nat) : Prop := ∀ x ∈ D, x < 256
theorem strOf_eq (X Y : List Nat) (hX : ByteL X) (hY : ByteL Y) : ((strOf ((ints X).map fun x => x)).toList == (strOf ((ints Y).map fun x => x)).toList) = decide (X = Y) := by
  have key : ∀ Z : List Nat, (strOf ((ints Z).map fun x => x)).toList = Z.map UInt8.ofNat := by
    intro Z
    rw [ByteArray.toList_eq]
    simp [strOf, List.map_map, Function.comp]
  rw [key, key, Bool.eq_iff_iff]
  simp only [beq_iff_eq, decide_eq_true_eq]
  constructor
  · intro h
    have := congrArg (List.map UInt8.toNat) h
    rw [List.map_map, List.map_map] at this
    have e : ∀ Z : List Nat, ByteL Z → Z.map (UInt8.toNat ∘ UInt8.ofNat) = Z := by
      intro Z hZ
      refine (List.map_congr_left fun x hx => ?_).trans (List.map_id Z)
      have := hZ x hx
      simp only [Function.comp, id]
      exact UInt8.toNat_ofNat_of_lt' this
    rwa [e X hX, e Y hY] at this
  · intro h; rw [h]
theorem ints_inj {X Y : List Nat} (h : ints X = ints Y) : X = Y := by
  have := congrArg (List.map Int.toNat) h
  unfold ints at this
  rw [List.map_map, List.map_map] at this
  have e : ∀ Z : List Nat, Z.map (Int.toNat ∘ fun (x : Nat) => (x : Int)) = Z := fun Z => (List.map_congr_left fun x _ => by simp).trans (List.map_id Z)
  rwa [e X, e Y] at this
theorem ints_drop (D : List Nat) (i : Nat) : (ints D).drop i = ints (D.drop i) := (List.map_drop).symm
theorem ints_take (D : List Nat) (i : Nat) : (ints D).take i = ints (D.take i) := (List.map_take).symm
theorem ByteL.drop {D : List Nat} (h : ByteL D) (i : Nat) : ByteL (D.drop i) := fun x hx => h x (List.mem_of_mem_drop hx)
theorem ByteL.take {D : List Nat} (h : ByteL D) (i : Nat) : ByteL (D.take i) := fun x hx => h x (List.mem_of_mem_take hx)

/-! #### a number of a variable length -/
def rv : Nat → List Nat → Nat → Nat → Option (Nat × Nat)
  | 0, _, _, _ => none
  | _ + 1, [], _, _ => none
  | f + 1, y :: r, i, acc => if y < 128 then some (acc + 128 ^ i * y, i + 1) else rv f r (i + 1) (acc + 128 ^ i * (y % 128))
def rvFin (D : List Nat) (a : Nat) : Option (Nat × Nat) → Int × Int × Bool
  | some (n, e) => if Var n = (D.drop a).take e then ((n : Int), ((a + e : Nat) : Int), true) else (0, 0, false)
  | none => (0, 0, false)
def VRd (D : List Nat) (a : Int) : Int × Int × Bool := if 0 ≤ a ∧ a ≤ D.length then rvFin D a.toNat (rv 5 (D.drop a.toNat) 0 0) else (0, 0, false)
theorem rv_end : ∀ (f : Nat) (r : List Nat) (i acc n e : Nat), rv f r i acc = some (n, e) → e ≤ i + r.length ∧ i < e ∧ e ≤ i + f
  | 0, _, _, _, _, _, h => by cases h
  | _ + 1, [], _, _, _, _, h => by cases h
  | f + 1, y :: r, i, acc, n, e, h => by
    simp only [rv] at h
    split at h
    · cases h; simp only [List.length_cons]; omega
    · have := rv_end f r (i + 1) _ n e h
      simp only [List.length_cons]; omega
theorem pow128 (i : Nat) (h : i ≤ 4) : 128 ^ i ≤ 268435456 ∧ 1 ≤ 128 ^ i := by
  rcases (show i = 0 ∨ i = 1 ∨ i = 2 ∨ i = 3 ∨ i = 4 by omega) with h | h | h | h | h <;> subst h <;> decide
theorem pow_step (i acc y : Nat) (hi : i ≤ 4) (ha : acc < 128 ^ i) (hy : y < 128) : acc + 128 ^ i * y < 128 ^ (i + 1) ∧ 128 ^ i * y ≤ 34359738368 ∧ 128 ^ (i + 1) ≤ 34359738368 ∧ 128 ^ i * 128 = 128 ^ (i + 1) := by
  rcases (show i = 0 ∨ i = 1 ∨ i = 2 ∨ i = 3 ∨ i = 4 by omega) with h | h | h | h | h <;> subst h <;> simp at ha ⊢ <;> omega
theorem implVarRead_l (D : List Nat) (hD : ByteL D) (hl : D.length ≤ 1048576) (a : Nat) (ha : a ≤ D.length) : ∀ (f i acc : Nat), f + i = 5 → a + i ≤ D.length → acc < 128 ^ i →
    impl_VarRead_l0 (ints D) a acc (ints (D.drop a)) ((D.drop a).length : Nat) i = some (rvFin D a (rv f (D.drop (a + i)) i acc)) := by
  intro f
  have hdl : (D.drop a).length = D.length - a := List.length_drop
  induction f with
  | zero =>
    intro i acc hi hai hacc
    rw [impl_VarRead_l0.eq]
    by_cases h : a + i < D.length
    · rw [bif_dec (by omega), at?_ints _ _ (by omega), Option.bind_some, bif_eq (by omega)]; rfl
    · rw [bif_ndec (by omega)]; rfl
  | succ f ih =>
    intro i acc hi hai hacc
    rw [impl_VarRead_l0.eq]
    by_cases h : a + i < D.length
    · have hid : i < (D.drop a).length := by omega
      have hyy : (D.drop a)[i] = D[a + i] := List.getElem_drop
      rw [bif_dec (by omega), at?_ints _ _ hid, Option.bind_some, bif_neq (by omega), hyy, List.drop_eq_getElem_cons h]
      have hy := hD _ (List.getElem_mem h)
      generalize D[a + i] = y at hy
      have hp := pow128 i (by omega)
      have hs := pow_step i acc (y % 128) (by omega) hacc (Nat.mod_lt _ (by omega))
      have e7 : IntKind.i64.wrap ((7 : Int) * (i : Int)) = ((7 * i : Nat) : Int) := by rw [show (7 : Int) * (i : Int) = ((7 * i : Nat) : Int) by omega]; exact wrapIn (by omega)
      have b1 := bv_and 8 y 127 hy (by omega)
      have a1 : y &&& 127 = y % 128 := Nat.and_two_pow_sub_one_eq_mod y 7
      rw [a1] at b1
      have c1 : (127 : Int) = ((127 : Nat) : Int) := rfl
      have e0 : min ((7 * i : Nat) : Int).toNat 64 = 7 * i := by omega
      have e2 : (2 : Int) ^ (7 * i) = ((128 ^ i : Nat) : Int) := by rw [Int.pow_mul]; simp
      have e3 : IntKind.i64.wrap (((y % 128 : Nat) : Int) * ((128 ^ i : Nat) : Int)) = ((128 ^ i * (y % 128) : Nat) : Int) := by
        rw [← Int.natCast_mul, Nat.mul_comm]; exact wrapIn (by omega)
      have b2 := bv_or 64 acc (128 ^ i * (y % 128)) (by omega) (by omega)
      have a2 : acc ||| 128 ^ i * (y % 128) = acc + 128 ^ i * (y % 128) := by
        have h128 : 128 ^ i = 2 ^ (7 * i) := by rw [Nat.pow_mul]
        have := Nat.two_pow_add_eq_or_of_lt (i := 7 * i) (b := acc) (by rw [← h128]; exact hacc) (y % 128)
        rw [← h128, Nat.or_comm] at this
        omega
      rw [a2] at b2
      have hva : IntKind.i64.wrap (((BitVec.ofInt 64 (acc : Int)) ||| (BitVec.ofInt 64 (IntKind.i64.wrap ((IntKind.i64.wrap (IntKind.u8.wrap (((BitVec.ofInt 8 (y : Int)) &&& (BitVec.ofInt 8 (127 : Int))).toNat : Int))) * 2 ^ (min (IntKind.i64.wrap ((7 : Int) * (i : Int))).toNat 64))))).toNat : Int) = ((acc + 128 ^ i * (y % 128) : Nat) : Int) := by
        rw [e7, e0, c1, b1, wrapBn (z := y % 128) (by omega), wrapIn (z := y % 128) (by omega), e2, e3, b2, wrapIn (by omega)]
      have e9 : IntKind.i64.wrap (IntKind.i64.wrap ((a : Int) + (i : Int)) + 1) = ((a + i + 1 : Nat) : Int) := by
        rw [wrapI (x := (a : Int) + i) (by omega) (by omega), wrapI (by omega) (by omega)]; omega
      rw [hva, e9, wrapS _ (by omega), e7, bif_ndec (by omega)]
      simp only [rv]
      by_cases h1 : y < 128
      · rw [bif_ndec (by omega), if_pos h1, implVarOf_eq, Option.bind_some, List.length_map, bif_dec (by omega), bif_dec (by omega), Int.toNat_natCast, Int.toNat_natCast, ints_take, ints_drop, bytes_Equal.eq, Option.bind_some, strOf_eq _ _ (Var_bytes _) ((hD.take _).drop _)]
        have hm : y % 128 = y := Nat.mod_eq_of_lt h1
        have ed : (D.take (a + i + 1)).drop a = (D.drop a).take (i + 1) := by rw [List.drop_take]; congr 1; omega
        rw [hm, ed]
        simp only [rvFin]
        by_cases hv : Var ((acc + 128 ^ i * y : Nat) : Int) = (D.drop a).take (i + 1)
        · rw [if_pos hv, decide_eq_true hv]; rfl
        · rw [if_neg hv, decide_eq_false hv]; rfl
      · rw [bif_dec (by omega), if_neg h1]
        exact ih (i + 1) _ (by omega) (by omega) hs.1
    · rw [bif_ndec (by omega), drop_nil D (by omega)]; rfl
theorem implVarRead_eq (D : List Nat) (hD : ByteL D) (hl : D.length ≤ 1048576) (a : Int) : impl_VarRead (ints D) a = some (VRd D a) := by
  rw [impl_VarRead.eq, withinN_eq, Option.bind_some, List.length_map]
  unfold VRd
  by_cases h : 0 ≤ a ∧ a ≤ D.length
  · obtain ⟨m, rfl⟩ : ∃ m : Nat, a = m := ⟨a.toNat, by omega⟩
    rw [if_pos h, decide_eq_true h.1, decide_eq_true h.2, Bool.true_and, Bool.not_true, bif_false, bif_dec h, Int.toNat_natCast]
    have e : (ints D).take D.length = ints D := List.take_of_length_le (by rw [List.length_map]; omega)
    rw [e, ints_drop, List.length_map]
    exact implVarRead_l D hD hl m (by omega) 5 0 0 (by omega) (by omega) (by simp)
  · rw [if_neg h, show (decide (0 ≤ a) && decide (a ≤ (D.length : Int))) = false by simp only [Bool.and_eq_false_iff, decide_eq_false_iff_not]; omega]
    rfl
/-- What is read: the number's own bytes stand there. -/
theorem VRd_ok {D : List Nat} {a n b : Int} (h : VRd D a = (n, b, true)) : ∃ (a' n' b' : Nat), a = a' ∧ n = n' ∧ b = b' ∧ a' + (Var n).length = b' ∧ b' ≤ D.length ∧ (D.drop a').take (Var n).length = Var n ∧ 0 < (Var n).length := by
  unfold VRd at h
  split at h
  · rename_i hab
    obtain ⟨m, rfl⟩ : ∃ m : Nat, a = m := ⟨a.toNat, by omega⟩
    rw [Int.toNat_natCast] at h
    cases hr : rv 5 (D.drop m) 0 0 with
    | none => rw [hr] at h; simp [rvFin] at h
    | some p =>
      obtain ⟨k, e⟩ := p
      rw [hr] at h
      simp only [rvFin] at h
      have he := rv_end 5 _ 0 0 k e hr
      rw [List.length_drop] at he
      split at h
      · rename_i hv
        cases h
        have hl : (Var (k : Int)).length = e := by rw [hv, List.length_take, List.length_drop]; omega
        refine ⟨m, k, m + e, rfl, rfl, rfl, by rw [hl], by omega, by rw [hl]; exact hv.symm, by omega⟩
      · simp at h
  · simp at h
end Go.Ev.W
