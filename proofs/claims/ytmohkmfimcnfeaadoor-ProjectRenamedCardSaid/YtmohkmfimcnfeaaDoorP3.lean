/- What a role does, checked: plain. -/
import Derived.Test.YtmohkmfimcnfeaaDoorP2
set_option linter.unusedVariables false
set_option linter.unusedSimpArgs false
namespace Go.Proofs.YtmohkmfimcnfeaaDoor
open Go.RowKit Go.Sw

end Go.Proofs.YtmohkmfimcnfeaaDoor
