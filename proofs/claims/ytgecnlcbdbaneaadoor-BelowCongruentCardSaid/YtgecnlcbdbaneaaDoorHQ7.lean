/- A type in the place of a name: what it does; what stays right. -/
import Derived.Test.YtgecnlcbdbaneaaDoorHQ6
import Derived.Test.YtgecnlcbdbaneaaDoorH16
import Derived.Test.YtgecnlcbdbaneaaDoorH11
import Derived.Test.YtgecnlcbdbaneaaDoorHQ4
set_option linter.unusedVariables false
set_option linter.unusedSimpArgs false
namespace Go.Proofs.YtgecnlcbdbaneaaDoor
open Go.RowKit Go.Sw

theorem check_all {x : Tp} (h : tCheck x = 0) : OkT x ∧ clT x [] ∧ cnT x ∧ x.size ≤ 60:=by
 have h1:=ok_check h
 have h2:=cl_tchk x [] 60 h
 exact ⟨h1.1,h2.1,h2.2,h1.2⟩
end Go.Proofs.YtgecnlcbdbaneaaDoor
/- What is said of Bekic's and Milner's laws, in plain words. -/
namespace Go.Proofs.YtgecnlcbdbaneaaDoor
open Go.RowKit Go.Sw

theorem rec_parts {so : Int} {nm : ByteArray} {ls : List ByteArray} {x : Tp} (h : tCheck (.mk 8 so nm ls [x]) = 0) : OkT x ∧ clT x [nm] ∧ cnT x ∧ stripK x ≠ 9 ∧ so = 0 ∧ ls = [] ∧ isVarB nm = true:=by
 obtain ⟨h1,h2,h3,h4⟩:=check_all h
 unfold clT at h2
 unfold cnT at h3
 rw [if_pos rfl] at h2
 cases h1 with
 | pass _ _ _ hk=>omega
 | pick _ _ _ hk=>omega
 | bind _ _ hn hx=>exact ⟨hx,h2.2.1,h3.2.1,h3.1 rfl,rfl,rfl,hn⟩
theorem den_closed {s : Tp} (h : tCheck s = 0) (ρ ρ' : Env) : den s ρ = den s ρ':=(trT_den h ρ).symm.trans (trT_den h ρ')
end Go.Proofs.YtgecnlcbdbaneaaDoor
/- What the other end does, of trees and of graphs. -/
namespace Go.Proofs.YtgecnlcbdbaneaaDoor
open Go.RowKit Go.Sw

end Go.Proofs.YtgecnlcbdbaneaaDoor
