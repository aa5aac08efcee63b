/- types.check, types.Check; a symbolic walk. -/
-- TYPESA
import Derived.Test.YtlnmkdbcdcknjaaDoorU4
set_option linter.unusedVariables false
set_option linter.unusedSimpArgs false
namespace Go.Proofs.YtlnmkdbcdcknjaaDoor
open Go.RowKit Go.Sw

mutual
def Tp.size : Tp → Nat
 | .mk _ _ _ _ l=>Tp.sizes l + 1
def Tp.sizes : List Tp → Nat
 | []=>0
 | x :: l=>x.size + Tp.sizes l
end
theorem Tp.size_pos : ∀ x : Tp,0 < x.size
 | .mk _ _ _ _ l=>by simp [Tp.size]
theorem Tp.size_mem : ∀ {l : List Tp} {x : Tp},x ∈ l → x.size ≤ Tp.sizes l
 | y :: l,x,h=>by
  unfold Tp.sizes
  rcases List.mem_cons.1 h with rfl | h
  · omega
  · have:=Tp.size_mem h;omega
def Tp.cs : Tp → List SV
 | .mk k so nm ls l=>[.d (iD k),.d (iD so),.d (sD nm),.d (.slc (ls.map sD)),.d (.slc (Tp.ds l))]
theorem labels_len {ls : List ByteArray} (h : labelsB ls = true) : ls.length ≤ 6:=by
 unfold labelsB at h
 (repeat' split at h) <;> first | omega | cases h
end Go.Proofs.YtlnmkdbcdcknjaaDoor
