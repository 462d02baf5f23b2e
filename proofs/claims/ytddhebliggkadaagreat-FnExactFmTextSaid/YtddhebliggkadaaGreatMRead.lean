/- Bits out of bytes: what the functions come to. -/
import Derived.Test.YtddhebliggkadaaGreatEvC
import Derived.Laws.Strings
import Derived.Test.YtddhebliggkadaaGreatMBits
import Derived.Test.YtddhebliggkadaaGreatMLaw2
set_option linter.unusedVariables false
set_option linter.unusedSimpArgs false
namespace Go.Ev.W
open Go.Ev

/-! #### bytes, compared as strings -/
def ByteL (D : List Nat) : Prop := ∀ x ∈ D, x < 256
theorem strOf_eq (X Y : List Nat) (hX : ByteL X) (hY : ByteL Y) : ((strOf ((ints X).map fun x => x)).toList == (strOf ((ints Y).map fun x => x)).toList) = decide (X = Y) := by
  have key : ∀ Z : List Nat, (strOf ((ints Z).map fun x => x)).toList = Z.map UInt8.ofNat := by
    intro Z
    rw [ByteArray.toList_eq]
    simp [strOf, List.map_map, Function.comp]
  rw [key, key, Bool.eq_iff_iff]
  simp only [beq_iff_eq, decide_eq_true_eq]
  constructor
  · intro h
    have := congrArg (List.map UInt8.toNat) h
    rw [List.map_map, List.map_map] at this
    have e : ∀ Z : List Nat, ByteL Z → Z.map (UInt8.toNat ∘ UInt8.ofNat) = Z := by
      intro Z hZ
      refine (List.map_congr_left fun x hx => ?_).trans (List.map_id Z)
      have := hZ x hx
      simp only [Function.comp, id]
      exact UInt8.toNat_ofNat_of_lt' this
    rwa [e X hX, e Y hY] at this
  · intro h; rw [h]
theorem ByteL.drop {D : List Nat} (h : ByteL D) (i : Nat) : ByteL (D.drop i) := fun x hx => h x (List.mem_of_mem_drop hx)
theorem ByteL.take {D : List Nat} (h : ByteL D) (i : Nat) : ByteL (D.take i) := fun x hx => h x (List.mem_of_mem_take hx)

/-! #### a number of a variable length -/
end Go.Ev.W
