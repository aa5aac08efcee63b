/- Arguments that are types, and no longer than a machine holds. -/
import Derived.Test.YtgecnlcbdbaneaaDoorU6
import Derived.Test.YtgecnlcbdbaneaaDoorH16
import Derived.Test.YtgecnlcbdbaneaaDoorH17
import Derived.Lib.LaidTab
-- TYPESA
set_option linter.unusedVariables false
set_option linter.unusedSimpArgs false
namespace Go.Proofs.YtgecnlcbdbaneaaDoor
open Go.RowKit Go.Sw

theorem reach_47 : reachBytes ≤ 140737488355328:=by unfold reachBytes;omega
section
variable {H : Type} {enc : TypeId × Value → H} {W : World} {r : Reach} {base b0 : Nat} {sp : Nat → Bool} {held : Bool} {v : Value} {d : DataW H} {p : List MemPlace}
end
end Go.Proofs.YtgecnlcbdbaneaaDoor
/- The table of powers, where it is laid. -/
namespace Go.Proofs.YtgecnlcbdbaneaaDoor
open Go.RowKit Go.Sw

end Go.Proofs.YtgecnlcbdbaneaaDoor
