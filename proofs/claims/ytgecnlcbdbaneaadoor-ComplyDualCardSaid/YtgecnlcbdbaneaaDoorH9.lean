/- below.of, Is, Why; a symbolic walk. -/
-- TYPESA
import Derived.Test.YtgecnlcbdbaneaaDoorH8
set_option linter.unusedVariables false
set_option linter.unusedSimpArgs false
namespace Go.Proofs.YtgecnlcbdbaneaaDoor
open Go.RowKit Go.Sw

def bErr (x y : Tp) : Int:=if tCheck x = 0 then tCheck y else tCheck x
def OfFn (Γ : Gl) (x : Tp) : Prop:=DFn Tryd.prog Γ 12 [x.d] (.tup [.slc ((ofP x).map Nd.d),iD (tCheck x)])
def wyE (x y : Tp) : Int:=if bErr x y = 0 then (match whyP (ofP x) (ofP y) with | some _=>0 | none=>8) else bErr x y
def wyL (x y : Tp) : List ByteArray:=if bErr x y = 0 then (match whyP (ofP x) (ofP y) with | some l=>l | none=>[]) else []
theorem bErr_zero {x y : Tp} (h : bErr x y = 0) : tCheck x = 0 ∧ tCheck y = 0:=by
  unfold bErr at h
  split at h
  · rename_i h1;exact ⟨h1,h⟩
  · rename_i h1;exact absurd h h1
end Go.Proofs.YtgecnlcbdbaneaaDoor
