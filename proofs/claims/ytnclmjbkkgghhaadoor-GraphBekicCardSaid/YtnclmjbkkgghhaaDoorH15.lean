/- The law BelowOrder; a symbolic walk. -/
-- TYPESA
import Derived.Test.YtnclmjbkkgghhaaDoorH14
import Derived.Test.YtnclmjbkkgghhaaDoorHQ4
set_option linter.unusedVariables false
set_option linter.unusedSimpArgs false
namespace Go.Proofs.YtnclmjbkkgghhaaDoor
open Go.RowKit Go.Sw

def endT : Tp := .mk 1 0 noB [] []
end Go.Proofs.YtnclmjbkkgghhaaDoor
