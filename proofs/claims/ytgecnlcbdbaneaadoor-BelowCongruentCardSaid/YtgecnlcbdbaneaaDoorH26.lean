/- comply.meets; a symbolic walk. -/
-- TYPESB
import Derived.Test.YtgecnlcbdbaneaaDoorH26a
set_option linter.unusedVariables false
set_option linter.unusedSimpArgs false
namespace Go.Proofs.YtgecnlcbdbaneaaDoor
open Go.RowKit Go.Sw

end Go.Proofs.YtgecnlcbdbaneaaDoor
