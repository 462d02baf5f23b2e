/- The contract of slices.Compact at a row of one's own whose elements are strings. -/
import Derived.Test.YthhbmllipmhikaaGreatEvIterS
import Derived.Shelf.SlicesE.Compact
namespace Go.Ev
open Go Go.Shelf Go.Proofs Go.Sort Go.Lib
variable {l : QC} {β : Type}
end Go.Ev
