/- types.shaped: a symbolic walk. -/
-- TYPESA
import Derived.Test.YtlnmkdbcdcknjaaDoorU2
import Derived.Test.YtlnmkdbcdcknjaaDoorSwD
set_option linter.unusedVariables false
set_option linter.unusedSimpArgs false
namespace Go.Proofs.YtlnmkdbcdcknjaaDoor
open Go.RowKit Go.Sw

inductive Tp where
 | mk (k so : Int) (nm : ByteArray) (ls : List ByteArray) (kids : List Tp)
mutual
def Tp.d : Tp → D
 | .mk k so nm ls l=>.agg [.v (.int .i64 k),.v (.int .i64 so),.v (.string nm),.slc (ls.map fun b=>.v (.string b)),.slc (Tp.ds l)]
def Tp.ds : List Tp → List D
 | []=>[]
 | x :: l=>Tp.d x :: Tp.ds l
end
theorem Tp.ds_len : ∀ l : List Tp,(Tp.ds l).length = l.length
 | []=>rfl
 | x :: l=>by simp [Tp.ds,Tp.ds_len l]
theorem Tp.ds_get : ∀ (l : List Tp) (j : Nat) (x : Tp),l[j]? = some x → (Tp.ds l).getD j default = x.d
 | y :: l,0,x,h=>by simp at h;subst h;simp [Tp.ds]
 | y :: l,j + 1,x,h=>by
  have:=Tp.ds_get l j x (by simpa using h)
  simpa [Tp.ds] using this
def emptyB (s : ByteArray) : Bool:=s.toList == ByteArray.toList ⟨#[]⟩
def sortB (sort : Bool) (so : Int) : Bool:=if sort = true then (if 1 ≤ so then decide (so ≤ 3) else false) else so == 0
end Go.Proofs.YtlnmkdbcdcknjaaDoor
