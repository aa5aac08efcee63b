/- The law WiresBack (printed by mkn23.py). -/
-- TYPESE
import Derived.Test.YtdcplkefmpjppaaDoorDN23
set_option linter.unusedVariables false
set_option linter.unusedSimpArgs false
namespace Go.Proofs.YtdcplkefmpjppaaDoor.GG
open Go.RowKit Go.Sw

end Go.Proofs.YtdcplkefmpjppaaDoor.GG
