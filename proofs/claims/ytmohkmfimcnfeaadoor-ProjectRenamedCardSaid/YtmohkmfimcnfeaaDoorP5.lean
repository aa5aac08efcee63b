/- project.check, project.Check; a symbolic walk. -/
-- TYPESA
import Derived.Test.YtmohkmfimcnfeaaDoorP4
set_option linter.unusedVariables false
set_option linter.unusedSimpArgs false
namespace Go.Proofs.YtmohkmfimcnfeaaDoor
open Go.RowKit Go.Sw

def Lt.cs : Lt → List SV
 | .mk k wi so nm ls l=>[.d (iD k),.d (sD wi),.d (iD so),.d (sD nm),.d (.slc (ls.map sD)),.d (.slc (Lt.ds l))]
end Go.Proofs.YtmohkmfimcnfeaaDoor
