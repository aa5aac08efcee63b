/- dual.Graph of a graph that is right; a symbolic walk. -/
import Derived.Test.YtgecnlcbdbaneaaDoorH16
import Derived.Test.YtgecnlcbdbaneaaDoorHQ7
import Derived.Test.YtgecnlcbdbaneaaDoorShelfJ
import Derived.Test.YtgecnlcbdbaneaaDoorH10
import Derived.Test.YtgecnlcbdbaneaaDoorHQ4
import Derived.Test.YtgecnlcbdbaneaaDoorH11
-- TYPESA
set_option linter.unusedVariables false
set_option linter.unusedSimpArgs false
namespace Go.Proofs.YtgecnlcbdbaneaaDoor
open Go.RowKit Go.Sw

end Go.Proofs.YtgecnlcbdbaneaaDoor
/- Graphs that are right. -/
namespace Go.Proofs.YtgecnlcbdbaneaaDoor
open Go.RowKit Go.Sw

def endT : Tp:=.mk 1 0 noB [] []
structure Gd (g : List Nd) : Prop where
 pos : 0 < g.length
 le : g.length ≤ 200
 ok : ∀ n ∈ g,NdG g.length n
 sh : ShG g
theorem bErr_of {x y : Tp} (h1 : tCheck x = 0) (h2 : tCheck y = 0) : bErr x y = 0:=by unfold bErr;rw [if_pos h1];exact h2
end Go.Proofs.YtgecnlcbdbaneaaDoor
/- The law BelowOrder; a symbolic walk. -/
-- TYPESA
namespace Go.Proofs.YtgecnlcbdbaneaaDoor
open Go.RowKit Go.Sw

theorem first_is : isP endT endT = true ∧ bErr endT endT = 0:=by decide +kernel
theorem isP_bad {x y : Tp} (h : bErr x y ≠ 0) : isP x y = false:=by unfold isP;rw [if_neg h]

end Go.Proofs.YtgecnlcbdbaneaaDoor
/- dual.Of, below.Graphs, the law BelowDual; a symbolic walk. -/
-- TYPESA
namespace Go.Proofs.YtgecnlcbdbaneaaDoor
open Go.RowKit Go.Sw

end Go.Proofs.YtgecnlcbdbaneaaDoor
