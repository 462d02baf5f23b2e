/- What functions of the program come to. -/
import Derived.Test.YtmdkpcneakoagaaGreatPhT
namespace Go.Ev.W
open Go.Ev Go.Proofs
noncomputable section
set_option maxRecDepth 100000
set_option linter.unusedVariables false
end
end Go.Ev.W
