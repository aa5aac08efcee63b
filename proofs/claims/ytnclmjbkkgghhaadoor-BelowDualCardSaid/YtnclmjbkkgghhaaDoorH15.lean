/- The law BelowOrder; a symbolic walk. -/
-- TYPESA
import Derived.Test.YtnclmjbkkgghhaaDoorH14
import Derived.Test.YtnclmjbkkgghhaaDoorHQ4
set_option linter.unusedVariables false
set_option linter.unusedSimpArgs false
namespace Go.Proofs.YtnclmjbkkgghhaaDoor
open Go.RowKit Go.Sw

def endT : Tp := .mk 1 0 noB [] []
theorem first_is : isP endT endT = true ∧ bErr endT endT = 0 := by decide +kernel
theorem isP_bad {x y : Tp} (h : bErr x y ≠ 0) : isP x y = false := by unfold isP; rw [if_neg h]

end Go.Proofs.YtnclmjbkkgghhaaDoor
