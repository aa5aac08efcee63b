/- global.labels: types.labels' code once more (printed by mkg2.py out of T2). -/
import Derived.Test.YtmohkmfimcnfeaaDoorGU2
import Derived.Test.YtmohkmfimcnfeaaDoorGA
import Derived.Test.YtmohkmfimcnfeaaDoorG1
import Derived.Test.YtmohkmfimcnfeaaDoorGU4
-- TYPESA
set_option linter.unusedVariables false
set_option linter.unusedSimpArgs false
namespace Go.Proofs.YtmohkmfimcnfeaaDoor
open Go.RowKit Go.Sw

end Go.Proofs.YtmohkmfimcnfeaaDoor
/- global.shaped: a symbolic walk. -/
-- TYPESA
namespace Go.Proofs.YtmohkmfimcnfeaaDoor
open Go.RowKit Go.Sw

def rolesB (r : Bool) (fr to : ByteArray) : Bool:=if r = true then (if isRoleB fr = true then (if isRoleB to = true then !(fr.toList == to.toList) else false) else false) else (if emptyB fr = true then emptyB to else false)
end Go.Proofs.YtmohkmfimcnfeaaDoor
