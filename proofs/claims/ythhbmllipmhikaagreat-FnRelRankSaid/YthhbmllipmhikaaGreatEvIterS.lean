/- Iterators over slices: slices.AppendSeq, slices.Collect, slices.Sorted over a function value that reads a slice of strings. -/
import Derived.Test.YthhbmllipmhikaaGreatEvIterC
import Derived.Shelf.SlIter.Sorted
namespace Go.It
open Go Go.Proofs Go.RowKit Go.Maps Go.Sort Go.Shelf
variable {P : Program} {ρ : Ren}
end Go.It
namespace Go.Ev
open Go Go.Proofs Go.RowKit Go.Sort Go.Shelf
variable {l : QC} {β : Type}
end Go.Ev
