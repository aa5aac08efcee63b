/- The law GlobalRoles by a symbolic walk. -/
-- TYPESA
import Derived.Test.YtdcplkefmpjppaaGreatDoorP0
import Derived.Test.YtdcplkefmpjppaaGreatDoorG5
set_option linter.unusedVariables false
set_option linter.unusedSimpArgs false
namespace Go.Proofs.YtdcplkefmpjppaaGreatDoor.GG
open Go.RowKit Go.Sw

theorem ping_check : gCheck pingG = 0:=by decide +kernel
end Go.Proofs.YtdcplkefmpjppaaGreatDoor.GG
