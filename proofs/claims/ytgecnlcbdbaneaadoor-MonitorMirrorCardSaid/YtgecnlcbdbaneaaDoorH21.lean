/- duetref.Type; a symbolic walk. -/
-- TYPESB
import Derived.Test.YtgecnlcbdbaneaaDoorHQ4
import Derived.Test.YtgecnlcbdbaneaaDoorU6
set_option linter.unusedVariables false
set_option linter.unusedSimpArgs false
namespace Go.Proofs.YtgecnlcbdbaneaaDoor
open Go.RowKit Go.Sw

mutual
def szT : Tp → Prop
 | .mk k so nm ls l=>SzN nm ls l ∧ szTs l
def szTs : List Tp → Prop
 | []=>True
 | x :: l=>szT x ∧ szTs l
end
theorem szTs_of {l : List Tp} (h : ∀ x ∈ l,szT x) : szTs l:=by
 induction l with
 | nil=>trivial
 | cons x l ih=>exact ⟨h x (by simp),ih fun y hy=>h y (by simp [hy])⟩
end Go.Proofs.YtgecnlcbdbaneaaDoor
