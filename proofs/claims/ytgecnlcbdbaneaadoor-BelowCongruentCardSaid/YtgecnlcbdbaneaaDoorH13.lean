/- Arguments that are types, lists of texts, texts. -/
-- TYPESA
import Derived.Test.YtgecnlcbdbaneaaDoorU6
import Derived.Test.YtgecnlcbdbaneaaDoorSwC
import Derived.Test.YtgecnlcbdbaneaaDoorFrame
set_option linter.unusedVariables false
set_option linter.unusedSimpArgs false
namespace Go.Proofs.YtgecnlcbdbaneaaDoor
open Go.RowKit Go.Sw

def GW (W : World) : Gl:=⟨W.heap.size,fun w => ∀ b,b < W.heap.size → w.heap[b]? = W.heap[b]?,fun w w' h g b hb=>(h b hb).trans (g b hb)⟩
def TY : List TypeId:=[25,23,22,9,3]
theorem TY_ok : TY.all (okT Tryd.prog TY) = true:=by kernel_rfl
theorem tds_map : ∀ l : List Tp,Tp.ds l = l.map Tp.d
 | []=>rfl
 | x :: l=>by simp [Tp.ds,tds_map l]
section
variable {H : Type} {enc : TypeId × Value → H} {W : World} {r : Reach} {base b0 : Nat} {sp : Nat → Bool} {held : Bool} {v : Value} {d : DataW H} {p : List MemPlace}
end
end Go.Proofs.YtgecnlcbdbaneaaDoor
