/- Bits out of bytes: what the functions come to. -/
import Derived.Test.YtddhebliggkadaaGreatEvC
import Derived.Laws.Strings
import Derived.Test.YtddhebliggkadaaGreatMBits
import Derived.Test.YtddhebliggkadaaGreatMLaw2
set_option linter.unusedVariables false
set_option linter.unusedSimpArgs false
namespace Go.Ev.W
open Go.Ev

/-! #### bytes, compared as strings -/
def ByteL (D : List Nat) : Prop := ∀ x ∈ D, x < 256
theorem strOf_eq (X Y : List Nat) (hX : ByteL X) (hY : ByteL Y) : ((strOf ((ints X).map fun x => x)).toList == (strOf ((ints Y).map fun x => x)).toList) = decide (X = Y) := by
  have key : ∀ Z : List Nat, (strOf ((ints Z).map fun x => x)).toList = Z.map UInt8.ofNat := by
    intro Z
    rw [ByteArray.toList_eq]
    simp [strOf, List.map_map, Function.comp]
  rw [key, key, Bool.eq_iff_iff]
  simp only [beq_iff_eq, decide_eq_true_eq]
  constructor
  · intro h
    have := congrArg (List.map UInt8.toNat) h
    rw [List.map_map, List.map_map] at this
    have e : ∀ Z : List Nat, ByteL Z → Z.map (UInt8.toNat ∘ UInt8.ofNat) = Z := by
      intro Z hZ
      refine (List.map_congr_left fun x hx => ?_).trans (List.map_id Z)
      have := hZ x hx
      simp only [Function.comp, id]
      exact UInt8.toNat_ofNat_of_lt' this
    rwa [e X hX, e Y hY] at this
  · intro h; rw [h]
theorem ints_inj {X Y : List Nat} (h : ints X = ints Y) : X = Y := by
  have := congrArg (List.map Int.toNat) h
  unfold ints at this
  rw [List.map_map, List.map_map] at this
  have e : ∀ Z : List Nat, Z.map (Int.toNat ∘ fun (x : Nat) => (x : Int)) = Z := fun Z => (List.map_congr_left fun x _ => by simp).trans (List.map_id Z)
  rwa [e X, e Y] at this
theorem ints_drop (D : List Nat) (i : Nat) : (ints D).drop i = ints (D.drop i) := (List.map_drop).symm
theorem ints_take (D : List Nat) (i : Nat) : (ints D).take i = ints (D.take i) := (List.map_take).symm
theorem ByteL.drop {D : List Nat} (h : ByteL D) (i : Nat) : ByteL (D.drop i) := fun x hx => h x (List.mem_of_mem_drop hx)
theorem ByteL.take {D : List Nat} (h : ByteL D) (i : Nat) : ByteL (D.take i) := fun x hx => h x (List.mem_of_mem_take hx)

/-! #### a number of a variable length -/
def rv : Nat → List Nat → Nat → Nat → Option (Nat × Nat)
  | 0, _, _, _ => none
  | _ + 1, [], _, _ => none
  | f + 1, y :: r, i, acc => if y < 128 then some (acc + 128 ^ i * y, i + 1) else rv f r (i + 1) (acc + 128 ^ i * (y % 128))
def rvFin (D : List Nat) (a : Nat) : Option (Nat × Nat) → Int × Int × Bool
  | some (n, e) => if Var n = (D.drop a).take e then ((n : Int), ((a + e : Nat) : Int), true) else (0, 0, false)
  | none => (0, 0, false)
def VRd (D : List Nat) (a : Int) : Int × Int × Bool := if 0 ≤ a ∧ a ≤ D.length then rvFin D a.toNat (rv 5 (D.drop a.toNat) 0 0) else (0, 0, false)
theorem rv_end : ∀ (f : Nat) (r : List Nat) (i acc n e : Nat), rv f r i acc = some (n, e) → e ≤ i + r.length ∧ i < e ∧ e ≤ i + f
  | 0, _, _, _, _, _, h => by cases h
  | _ + 1, [], _, _, _, _, h => by cases h
  | f + 1, y :: r, i, acc, n, e, h => by
    simp only [rv] at h
    split at h
    · cases h; simp only [List.length_cons]; omega
    · have := rv_end f r (i + 1) _ n e h
      simp only [List.length_cons]; omega
theorem pow128 (i : Nat) (h : i ≤ 4) : 128 ^ i ≤ 268435456 ∧ 1 ≤ 128 ^ i := by
  rcases (show i = 0 ∨ i = 1 ∨ i = 2 ∨ i = 3 ∨ i = 4 by omega) with h | h | h | h | h <;> subst h <;> decide
theorem pow_step (i acc y : Nat) (hi : i ≤ 4) (ha : acc < 128 ^ i) (hy : y < 128) : acc + 128 ^ i * y < 128 ^ (i + 1) ∧ 128 ^ i * y ≤ 34359738368 ∧ 128 ^ (i + 1) ≤ 34359738368 ∧ 128 ^ i * 128 = 128 ^ (i + 1) := by
  rcases (show i = 0 ∨ i = 1 ∨ i = 2 ∨ i = 3 ∨ i = 4 by omega) with h | h | h | h | h <;> subst h <;> simp at ha ⊢ <;> omega
/-- What is read: the number's own bytes stand there. -/
theorem VRd_ok {D : List Nat} {a n b : Int} (h : VRd D a = (n, b, true)) : ∃ (a' n' b' : Nat), a = a' ∧ n = n' ∧ b = b' ∧ a' + (Var n).length = b' ∧ b' ≤ D.length ∧ (D.drop a').take (Var n).length = Var n ∧ 0 < (Var n).length := by
  unfold VRd at h
  split at h
  · rename_i hab
    obtain ⟨m, rfl⟩ : ∃ m : Nat, a = m := ⟨a.toNat, by omega⟩
    rw [Int.toNat_natCast] at h
    cases hr : rv 5 (D.drop m) 0 0 with
    | none => rw [hr] at h; simp [rvFin] at h
    | some p =>
      obtain ⟨k, e⟩ := p
      rw [hr] at h
      simp only [rvFin] at h
      have he := rv_end 5 _ 0 0 k e hr
      rw [List.length_drop] at he
      split at h
      · rename_i hv
        cases h
        have hl : (Var (k : Int)).length = e := by rw [hv, List.length_take, List.length_drop]; omega
        refine ⟨m, k, m + e, rfl, rfl, rfl, by rw [hl], by omega, by rw [hl]; exact hv.symm, by omega⟩
      · simp at h
  · simp at h
end Go.Ev.W
