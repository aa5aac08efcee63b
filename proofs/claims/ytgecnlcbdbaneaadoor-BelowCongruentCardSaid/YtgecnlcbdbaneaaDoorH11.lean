/- slices.Equal, duetlaw.Same of texts (turned from G8). -/
import Derived.Test.YtgecnlcbdbaneaaDoorH10
-- TYPESA
set_option linter.unusedVariables false
set_option linter.unusedSimpArgs false
namespace Go.Proofs.YtgecnlcbdbaneaaDoor
open Go.RowKit Go.Sw

theorem toList_inj {x y : ByteArray} (h : x.toList = y.toList) : x = y:=by
 rw [Lib.toList_data,Lib.toList_data] at h
 obtain ⟨x⟩:=x
 obtain ⟨y⟩:=y
 rw [show x = y from Array.toList_inj.1 h]
end Go.Proofs.YtgecnlcbdbaneaaDoor
/- graph.Equal, graph.Same; a symbolic walk. -/
-- TYPESA
namespace Go.Proofs.YtgecnlcbdbaneaaDoor
open Go.RowKit Go.Sw

end Go.Proofs.YtgecnlcbdbaneaaDoor
