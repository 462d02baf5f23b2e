/- The law of PackBytes. -/
import Derived.Test.YtmobcecmjpfpiaaEvC
import Derived.Test.YtmobcecmjpfpiaaMPackB
set_option linter.unusedVariables false
set_option linter.unusedSimpArgs false
namespace Go.Ev.W
open Go.Ev

theorem sz_pass (k : Int) : (bif decide ((if k < 0 then -1 else k) < 0) then some (-1 : Int) else some (if k < 0 then -1 else k)) = some (if k < 0 then -1 else k) := by
  by_cases h : k < 0
  · rw [if_pos h]; rfl
  · rw [if_neg h, bif_ndec h]
end Go.Ev.W
