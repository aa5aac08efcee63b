/- global.check, global.Check; a symbolic walk (printed by mkg4.py out of T5). -/
-- TYPESA
import Derived.Test.YtmohkmfimcnfeaaDoorG2
import Derived.Test.YtmohkmfimcnfeaaDoorGU5
set_option linter.unusedVariables false
set_option linter.unusedSimpArgs false
namespace Go.Proofs.YtmohkmfimcnfeaaDoor
open Go.RowKit Go.Sw

mutual
def Gt.size : Gt → Nat
 | .mk _ _ _ _ _ _ l=>Gt.sizes l + 1
def Gt.sizes : List Gt → Nat
 | []=>0
 | x :: l=>x.size + Gt.sizes l
end
theorem Gt.size_pos : ∀ x : Gt,0 < x.size
 | .mk _ _ _ _ _ _ l=>by simp [Gt.size]
theorem Gt.size_mem : ∀ {l : List Gt} {x : Gt},x ∈ l → x.size ≤ Gt.sizes l
 | y :: l,x,h=>by
  unfold Gt.sizes
  rcases List.mem_cons.1 h with rfl | h
  · omega
  · have:=Gt.size_mem h;omega
def Gt.cs : Gt → List SV
 | .mk k fr to so nm ls l=>[.d (iD k),.d (sD fr),.d (sD to),.d (iD so),.d (sD nm),.d (.slc (ls.map sD)),.d (.slc (Gt.ds l))]
end Go.Proofs.YtmohkmfimcnfeaaDoor
