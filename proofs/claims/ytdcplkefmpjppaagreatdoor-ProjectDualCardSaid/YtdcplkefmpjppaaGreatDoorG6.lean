/- global.renamed, Rename; a symbolic walk. -/
import Derived.Test.YtdcplkefmpjppaaGreatDoorU7
import Derived.Test.YtdcplkefmpjppaaGreatDoorSwD
import Derived.Laws.Pointers
-- TYPESA
set_option linter.unusedVariables false
set_option linter.unusedSimpArgs false
namespace Go.Proofs.YtdcplkefmpjppaaGreatDoor.GG
open Go.RowKit Go.Sw

theorem Gt.ds_map : ∀ l : List Gt,Gt.ds l = l.map Gt.d
 | []=>rfl
 | x :: l=>by simp [Gt.ds,Gt.ds_map l]
end Go.Proofs.YtdcplkefmpjppaaGreatDoor.GG
/- A symbolic walk: a slice's literal of one struct, as a box of cells; later it is a row of one's own. -/
namespace Go.Sw
open Go.RowKit
section
variable {P : Program} {N : Nat} {Γ : Gl} {C : Cx P N Γ} {K : Exit → Env → St → Prop} {e : Env} {s : St}
end
end Go.Sw
