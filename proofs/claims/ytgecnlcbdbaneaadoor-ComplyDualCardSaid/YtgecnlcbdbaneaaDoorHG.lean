/- Graphs that are right. -/
import Derived.Test.YtgecnlcbdbaneaaDoorH10
import Derived.Test.YtgecnlcbdbaneaaDoorHQ3
set_option linter.unusedVariables false
set_option linter.unusedSimpArgs false
namespace Go.Proofs.YtgecnlcbdbaneaaDoor
open Go.RowKit Go.Sw

def endT : Tp:=.mk 1 0 noB [] []
theorem least_sh {g : List Nd} (hg : ∀ n ∈ g,NdG g.length n) (h0 : 0 < g.length) (hs : ShG g) : ShG (leastP g):=by
  obtain ⟨o,a1,a2,a3,a4⟩:=lstF_made (cl:=partedP g) hg (g.length + 1) 0 [0] [] (ord_one h0 _) (by simp) rfl (by omega) (by intro p x v hp;simp at hp)
  intro x hx
  obtain ⟨p,hp,rfl⟩:=List.mem_iff_getElem.1 hx
  have hp' : p < o.length:=by rw [a2];exact hp
  obtain ⟨e1,e2,e3,e4, -⟩:=a4 p _ o[p] (List.getElem?_eq_getElem hp) (List.getElem?_eq_getElem hp')
  have hr:=a1.r o[p] (List.getElem_mem hp')
  have:=hs _ (gAt_mem hr.1 hr.2)
  rw [e1,e2,e3,e4]
  exact this
theorem ofP_sh {x : Tp} (h : tCheck x = 0) : ShG (ofP x):=by
  obtain ⟨-, -, -,h4,h5,h6⟩:=raw_good h
  unfold ofP
  rw [if_pos h]
  exact least_sh (g:=rawP x) h6 h4 (raw_sh h)
structure Gd (g : List Nd) : Prop where
  pos : 0 < g.length
  le : g.length ≤ 200
  ok : ∀ n ∈ g,NdG g.length n
  sh : ShG g
theorem ofP_gd {x : Tp} (h : tCheck x = 0) : Gd (ofP x):=⟨(ofP_good h).1,by have:=(ofP_good h).2.1;omega,(ofP_good h).2.2,ofP_sh h⟩
theorem bErr_of {x y : Tp} (h1 : tCheck x = 0) (h2 : tCheck y = 0) : bErr x y = 0:=by unfold bErr;rw [if_pos h1];exact h2
end Go.Proofs.YtgecnlcbdbaneaaDoor
