/- strconv.Itoa of whatever number, where the table of powers is laid; out of the library that holds for every program, at the numbers of this one. -/
import Derived.Shelf.LaysM
import Derived.Test.YtgecnlcbdbaneaaDoorShelfI
set_option linter.unusedVariables false
namespace Go.Proofs
open Go.Shelf Go.RowKit Go.Lib Go.Sort
end Go.Proofs
