/- below.both's fits; a symbolic walk. -/
-- TYPESA
import Derived.Test.YtgecnlcbdbaneaaDoorH6
set_option linter.unusedVariables false
set_option linter.unusedSimpArgs false
namespace Go.Proofs.YtgecnlcbdbaneaaDoor
open Go.RowKit Go.Sw

abbrev dotS : ByteArray := ⟨#[46]⟩
abbrev hatS : ByteArray := ⟨#[94]⟩
/-- A step: what it is called, where it leads. -/
def stD (s : ByteArray × Pr) : D := .agg [sD s.1, iD s.2.a, iD s.2.b, bD s.2.t]
def ixL (l : ByteArray) (ls : List ByteArray) : Int := idxS l.toList ls 0
def fewL (x y : Nd) : List ByteArray := if x.k = 6 then y.ls else x.ls
def manyL (x y : Nd) : List ByteArray := if x.k = 6 then x.ls else y.ls
def lStep (g h : List Nd) (p : Pr) (l : ByteArray) : ByteArray × Pr := (l, toP g h p (ixL l (ndX g h p).ls) (ixL l (ndY g h p).ls) false)
/-- below.both's fits. -/
def fitsP (g h : List Nd) (p : Pr) : Option (List (ByteArray × Pr)) :=
  if (ndX g h p).k ≠ (ndY g h p).k then none else if (ndX g h p).so ≠ (ndY g h p).so then none
  else if (ndX g h p).k = 2 ∨ (ndX g h p).k = 3 then some [(dotS, toP g h p 0 0 false)]
  else if (ndX g h p).k = 4 ∨ (ndX g h p).k = 5 then some [(hatS, toP g h p 0 0 ((ndX g h p).k == 4)), (dotS, toP g h p 1 1 false)]
  else if (fewL (ndX g h p) (ndY g h p)).all (fun l => inL (manyL (ndX g h p) (ndY g h p)) l) = true then some ((fewL (ndX g h p) (ndY g h p)).map (lStep g h p)) else none
/-- Has a node what its kind asks for? -/
structure NdSh (x : Nd) : Prop where
  one : x.k = 2 ∨ x.k = 3 → 1 ≤ x.to.length
  two : x.k = 4 ∨ x.k = 5 → 2 ≤ x.to.length
  ls : x.ls.length ≤ x.to.length
  l6 : x.ls.length ≤ 6
end Go.Proofs.YtgecnlcbdbaneaaDoor
