/- graph.Of, below's Is and Why for all types: the walks and the plain facts joined. -/
import Derived.Test.YtgecnlcbdbaneaaDoorH9
import Derived.Test.YtgecnlcbdbaneaaDoorHP5
set_option linter.unusedVariables false
set_option linter.unusedSimpArgs false
namespace Go.Proofs.YtgecnlcbdbaneaaDoor
open Go.RowKit Go.Sw

theorem of_fn (Γ : Gl) (x : Tp) : OfFn Γ x:=by
 refine of_fn0 Γ x (fun h=>?_) (fun h=>?_)
 · have:=raw_good h
   exact ⟨add_all Γ this.1,this.2.1,this.2.2.1⟩
 · obtain ⟨h1,h2,h3,h4,h5,h6⟩:=raw_good h
   have hp:=parted_fn Γ 100 (Nat.le_refl _) (by decide) (fun n h0 h1=>itoa_fn Γ n h0 (by omega)) (rawP x) (by show (rawP x).length ≤ 100;unfold rawP;omega) (fun n hn=>(h6 n hn).ok) (fun cl hl hc=>grow h6 h5 cl hl (fun c h=>by have:=hc c h;omega))
   exact least_fn Γ (rawP x) (by show (rawP x).length ≤ 250;unfold rawP;omega) h4 (fun n hn=>(h6 n hn).ok) (parted_len _) hp
theorem ofP_good {x : Tp} (h : tCheck x = 0) : 0 < (ofP x).length ∧ (ofP x).length ≤ 60 ∧ ∀ n ∈ ofP x,NdG (ofP x).length n:=by
 obtain ⟨h1,h2,h3,h4,h5,h6⟩:=raw_good h
 unfold ofP
 rw [if_pos h]
 have:=least_good (g:=rawP x) h4 h6
 exact ⟨this.1,Nat.le_trans this.2.1 h5,this.2.2⟩
theorem gAt_mem {g : List Nd} {i : Int} (h0 : 0 ≤ i) (h1 : i < (g.length : Int)) : gAt g i ∈ g:=by
 unfold gAt
 rw [List.getD_eq_getElem?_getD,List.getElem?_eq_getElem (by omega),Option.getD_some]
 exact List.getElem_mem _
theorem to_range {g : List Nd} (h0 : 0 < g.length) {n : Nd} (hn : NdG g.length n) (i : Nat) : 0 ≤ n.to.getD i 0 ∧ n.to.getD i 0 < (g.length : Int):=by
 rw [List.getD_eq_getElem?_getD]
 cases h : n.to[i]? with
 | none=>simp only [Option.getD_none];omega
 | some t=>exact hn.ok.r t (List.mem_of_getElem? h)
theorem toP_range {g h : List Nd} (g0 : 0 < g.length) (h0 : 0 < h.length) (hg : ∀ n ∈ g,NdG g.length n) (hh : ∀ n ∈ h,NdG h.length n) {p : Pr} (a0 : 0 ≤ p.a) (a1 : p.a < (g.length : Int)) (b0 : 0 ≤ p.b) (b1 : p.b < (h.length : Int)) (i k : Int) (t : Bool) :
 (0 ≤ (toP g h p i k t).a ∧ (toP g h p i k t).a < (g.length : Int)) ∧ 0 ≤ (toP g h p i k t).b ∧ (toP g h p i k t).b < (h.length : Int):=by
 have h1:=to_range g0 (hg _ (gAt_mem a0 a1))
 have h2:=to_range h0 (hh _ (gAt_mem b0 b1))
 unfold toP
 split
 · exact ⟨h1 _,h2 _⟩
 · exact ⟨h1 _,h2 _⟩
theorem fits_ok {g h : List Nd} (g0 : 0 < g.length) (h0 : 0 < h.length) (hg : ∀ n ∈ g,NdG g.length n) (hh : ∀ n ∈ h,NdG h.length n) : FitsOK g h:=by
 intro p a0 a1 b0 b1
 refine ⟨?_,?_,fun l hl s hs=>?_⟩
 · unfold ndX
   split
   · exact (hh _ (gAt_mem b0 b1)).sh
   · exact (hg _ (gAt_mem a0 a1)).sh
 · unfold ndY
   split
   · exact (hg _ (gAt_mem a0 a1)).sh
   · exact (hh _ (gAt_mem b0 b1)).sh
 · have key:=toP_range g0 h0 hg hh a0 a1 b0 b1
   unfold fitsP at hl
   split at hl
   · cases hl
   split at hl
   · cases hl
   split at hl
   · cases hl
     obtain rfl : s = (dotS,toP g h p 0 0 false):=by simpa using hs
     exact key _ _ _
   split at hl
   · cases hl
     rcases List.mem_cons.1 hs with rfl | hs
     · exact key _ _ _
     · obtain rfl : s = (dotS,toP g h p 1 1 false):=by simpa using hs
       exact key _ _ _
   split at hl
   · cases hl
     obtain ⟨x, -,rfl⟩:=List.mem_map.1 hs
     exact key _ _ _
   · cases hl
theorem wy_fn (Γ : Gl) (x y : Tp) (h : bErr x y = 0) : WyFn Γ x y:=by
 obtain ⟨h1,h2⟩:=bErr_zero h
 obtain ⟨a1,a2,a3⟩:=ofP_good h1
 obtain ⟨b1,b2,b3⟩:=ofP_good h2
 exact why_fn Γ (ofP x) (ofP y) (by omega) (by omega) a1 b1 (fits_ok a1 b1 a3 b3)
theorem isT_fn (Γ : Gl) (x y : Tp) : DFn Tryd.prog Γ 30 [x.d,y.d] (.tup [bD (isP x y),iD (bErr x y)]):=is_fn Γ x y (of_fn Γ x) (of_fn Γ y) (wy_fn Γ x y)
def sA : Tp:=.mk 2 1 noB [] [.mk 1 0 noB [] []]
def sB : Tp:=.mk 2 1 noB [] [.mk 2 1 noB [] [.mk 1 0 noB [] []]]
theorem first : wyL sA sB = [dotS] ∧ wyE sA sB = 0:=by
 decide +kernel
end Go.Proofs.YtgecnlcbdbaneaaDoor
/- slices.Equal, duetlaw.Same of texts (turned from G8). -/
-- TYPESA
namespace Go.Proofs.YtgecnlcbdbaneaaDoor
open Go.RowKit Go.Sw

theorem toList_inj {x y : ByteArray} (h : x.toList = y.toList) : x = y:=by
 rw [Lib.toList_data,Lib.toList_data] at h
 obtain ⟨x⟩:=x
 obtain ⟨y⟩:=y
 rw [show x = y from Array.toList_inj.1 h]
end Go.Proofs.YtgecnlcbdbaneaaDoor
/- graph.Equal, graph.Same; a symbolic walk. -/
-- TYPESA
namespace Go.Proofs.YtgecnlcbdbaneaaDoor
open Go.RowKit Go.Sw

end Go.Proofs.YtgecnlcbdbaneaaDoor
