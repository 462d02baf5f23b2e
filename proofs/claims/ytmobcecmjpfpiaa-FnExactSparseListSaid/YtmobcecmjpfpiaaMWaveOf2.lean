/- The wave of a list: the program's. -/
import Derived.Test.YtmobcecmjpfpiaaEvC
import Derived.Test.YtmobcecmjpfpiaaMWaveOf
import Derived.Test.YtmobcecmjpfpiaaMConcatI
set_option linter.unusedVariables false
set_option linter.unusedSimpArgs false
namespace Go.Ev.W
open Go.Ev

theorem ibit (l x : Nat) (hl : l < 9) (hx : x ≤ 511) : IntKind.i64.wrap (((BitVec.ofInt 64 ((x : Int).fdiv (2 ^ (min (IntKind.i64.wrap ((8 : Int) - (l : Int))).toNat 64)))) &&& (BitVec.ofInt 64 (1 : Int))).toNat : Int) = bint (wbit l x) := by
  have e0 : IntKind.i64.wrap ((8 : Int) - (l : Int)) = ((8 - l : Nat) : Int) := by rw [wrapI (by omega) (by omega)]; omega
  have e1 : min (8 - l) 64 = 8 - l := by omega
  have hd : x / 2 ^ (8 - l) ≤ x := Nat.div_le_self _ _
  have h1 := bv_and 64 (x / 2 ^ (8 - l)) 1 (by omega) (by omega)
  rw [show ((1 : Nat) : Int) = 1 from rfl] at h1
  rw [e0, Int.toNat_natCast, e1, fdiv_nat, h1, Nat.and_one_is_mod, wrapIn (by omega), wbit_val]
end Go.Ev.W
