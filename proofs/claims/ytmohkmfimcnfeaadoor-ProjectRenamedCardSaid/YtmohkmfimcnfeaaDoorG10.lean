/- The law GlobalRoles by a symbolic walk. -/
-- TYPESA
import Derived.Test.YtmohkmfimcnfeaaDoorG8
import Derived.Test.YtmohkmfimcnfeaaDoorG9
set_option linter.unusedVariables false
set_option linter.unusedSimpArgs false
namespace Go.Proofs.YtmohkmfimcnfeaaDoor
open Go.RowKit Go.Sw

theorem ping_check : gCheck pingG = 0:=by decide +kernel
end Go.Proofs.YtmohkmfimcnfeaaDoor
