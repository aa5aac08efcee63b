/- Conversations that are right; roles, and other names for them: plain. -/
import Derived.Test.YtmohkmfimcnfeaaDoorG4
import Derived.Test.YtmohkmfimcnfeaaDoorGU6
set_option linter.unusedVariables false
set_option linter.unusedSimpArgs false
namespace Go.Proofs.YtmohkmfimcnfeaaDoor
open Go.RowKit Go.Sw

inductive OkG : Gt → Prop
 | nil : OkG (.mk 1 noB noB 0 noB [] [])
 | send (fr to : ByteArray) (so : Int) (x : Gt) (hr : rolesB true fr to = true) (h1 : 1 ≤ so) (h3 : so ≤ 3) (hx : OkG x) : OkG (.mk 2 fr to so noB [] [x])
 | pick (fr to : ByteArray) (ls : List ByteArray) (l : List Gt) (hr : rolesB true fr to = true) (hl : labelsB ls = true) (hn : l.length = ls.length) (h : ∀ x ∈ l,OkG x) : OkG (.mk 6 fr to 0 noB ls l)
 | bind (nm : ByteArray) (x : Gt) (hn : isVarB nm = true) (hx : OkG x) : OkG (.mk 8 noB noB 0 nm [] [x])
 | var (nm : ByteArray) (hn : isVarB nm = true) : OkG (.mk 9 noB noB 0 nm [] [])
mutual
def ren (σ : ByteArray → ByteArray) : Gt → Gt
 | .mk k fr to so nm ls l=>.mk k (σ fr) (σ to) so nm ls (rens σ l)
def rens (σ : ByteArray → ByteArray) : List Gt → List Gt
 | []=>[]
 | x :: l=>ren σ x :: rens σ l
end
theorem role_size {s : ByteArray} (h : isRoleB s = true) : s.size = 1:=by
 unfold isRoleB at h
 cases e : ((s.size : Int) == 1) with
 | true=>have:=eq_of_beq e;omega
 | false=>rw [e] at h;simp at h
end Go.Proofs.YtmohkmfimcnfeaaDoor
