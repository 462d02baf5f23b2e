/- What functions of the program come to. -/
import Derived.Test.YtddhebliggkadaaGreatPqT
import Derived.Test.YtddhebliggkadaaGreatPq1
import Derived.Test.YtddhebliggkadaaGreatPq6
namespace Go.Ev.W
open Go.Ev Go.Proofs
set_option maxRecDepth 100000
set_option linter.unusedVariables false

end Go.Ev.W
