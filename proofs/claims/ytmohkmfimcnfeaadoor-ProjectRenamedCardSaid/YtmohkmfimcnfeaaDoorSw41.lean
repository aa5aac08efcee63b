/- A symbolic walk: a slice's literal of one struct, as a box of cells; later it is a row of one's own. -/
import Derived.Test.YtmohkmfimcnfeaaDoorSwD
import Derived.Laws.Pointers
set_option linter.unusedVariables false
set_option linter.unusedSimpArgs false
namespace Go.Sw
open Go.RowKit
section
variable {P : Program} {N : Nat} {Γ : Gl} {C : Cx P N Γ} {K : Exit → Env → St → Prop} {e : Env} {s : St}
end
end Go.Sw
