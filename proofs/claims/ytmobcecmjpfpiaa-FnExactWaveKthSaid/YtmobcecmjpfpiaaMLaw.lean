/- What the laws' own helpers come to. -/
import Derived.Test.YtmobcecmjpfpiaaEvC
import Derived.Test.YtmobcecmjpfpiaaPp1
import Derived.Test.YtmobcecmjpfpiaaPp11
import Derived.Test.YtmobcecmjpfpiaaPp2
set_option linter.unusedVariables false
set_option linter.unusedSimpArgs false
namespace Go.Ev.W
open Go.Ev

theorem toIntS_eq (xs : List Int) (h : xs.length ≤ 1048576) : laws_toIntS xs = some xs := by
  rw [laws_toIntS.eq]
  have e1 : (decide ((0 : Int) ≤ (xs.length : Int)) && decide (((xs.length : Int).toNat) * 8 ≤ 140737488355328)) = true := by simp; omega
  rw [e1, cond_true, copy_loop some id xs (by omega) (fun _ _ => rfl) (laws_toIntS_l0 xs) (laws_toIntS_l0.eq xs) _ (by simp), List.map_id]
theorem eqIntS_eq (xs ys : List Int) (h : xs.length < 4611686018427387904) : laws_eqIntS xs ys = some (decide (xs = ys)) := by
  rw [laws_eqIntS.eq]
  exact eq_list xs ys _ fun hl => eq_loop (fun x y => some (!(x != y))) xs ys hl h (fun x _ y _ => by rw [bne, Bool.not_not]; exact congrArg some (by rw [Bool.eq_iff_iff]; simp)) (laws_eqIntS_l0 xs ys) (fun i => by rw [laws_eqIntS_l0.eq]; simp only [Option.bind_some, Bool.not_not])
theorem markIntS_eq (xs : List Int) (k : Int) (hk : 0 ≤ k) (h : k + (xs.length : Int) < 4611686018427387904) : laws_markIntS xs k = some (k + xs.length, markF id k xs.length) := by
  rw [laws_markIntS.eq]
  exact mark_loop id xs k hk h laws_markIntS_l0 laws_markIntS_l0.eq
theorem heldIntS_eq (n : Nat) (k : Int) (hk : 0 ≤ k) (h : k + (n : Int) < 4611686018427387904) : laws_heldIntS (markF id k n) k = some (k + n) := by
  rw [laws_heldIntS.eq]
  exact held_loop id n k hk h (fun y v => y != v) (fun k => by simp) (laws_heldIntS_l0 _) (laws_heldIntS_l0.eq _)
/-! #### copies -/
def mkCopy (k : Int) : Int × Int × Int := (k, k + 1, k + 2)
def markC (k : Int) (n : Nat) : List (Int × Int × Int) := (List.range n).map fun (i : Nat) => mkCopy (k + 3 * (i : Int))
theorem markC_length (k : Int) (n : Nat) : (markC k n).length = n := by simp [markC]
end Go.Ev.W
