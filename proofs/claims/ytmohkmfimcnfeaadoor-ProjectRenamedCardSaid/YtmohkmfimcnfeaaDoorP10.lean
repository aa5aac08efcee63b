/- Arguments that are what a role does. -/
-- TYPESA
import Derived.Test.YtmohkmfimcnfeaaDoorP5
import Derived.Test.YtmohkmfimcnfeaaDoorG11
set_option linter.unusedVariables false
set_option linter.unusedSimpArgs false
namespace Go.Proofs.YtmohkmfimcnfeaaDoor
open Go.RowKit Go.Sw

section
variable {H : Type} {enc : TypeId × Value → H} {W : World} {r : Reach} {base b0 : Nat} {sp : Nat → Bool} {held : Bool} {v : Value} {d : DataW H} {p : List MemPlace}
end
end Go.Proofs.YtmohkmfimcnfeaaDoor
