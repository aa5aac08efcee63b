/- The law BelowOrder; a symbolic walk. -/
-- TYPESA
import Derived.Test.YtnclmjbkkgghhaaDoorH14
import Derived.Test.YtnclmjbkkgghhaaDoorHQ4
set_option linter.unusedVariables false
set_option linter.unusedSimpArgs false
namespace Go.Proofs.YtnclmjbkkgghhaaDoor
open Go.RowKit Go.Sw

def endT : Tp:=.mk 1 0 noB [] []
theorem bErr_of {x y : Tp} (h1 : tCheck x = 0) (h2 : tCheck y = 0) : bErr x y = 0:=by unfold bErr; rw [if_pos h1]; exact h2
end Go.Proofs.YtnclmjbkkgghhaaDoor
