/- The law ProjectMerge by a symbolic walk. -/
-- TYPESA
import Derived.Test.YtmohkmfimcnfeaaDoorP8
set_option linter.unusedVariables false
set_option linter.unusedSimpArgs false
namespace Go.Proofs.YtmohkmfimcnfeaaDoor
open Go.RowKit Go.Sw

def endL : Lt:=.mk 1 noB 0 noB [] []
end Go.Proofs.YtmohkmfimcnfeaaDoor
