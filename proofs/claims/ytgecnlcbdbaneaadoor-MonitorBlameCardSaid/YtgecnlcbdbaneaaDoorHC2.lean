/- Two get on just if the one's other end is below the other one: by trees. -/
import Derived.Test.YtgecnlcbdbaneaaDoorH17
import Derived.Test.YtgecnlcbdbaneaaDoorKV1
import Derived.Test.YtgecnlcbdbaneaaDoorTE
set_option linter.unusedVariables false
set_option linter.unusedSimpArgs false
namespace Go.Proofs.YtgecnlcbdbaneaaDoor
open Go.RowKit Go.Sw

theorem sub_iff {a b : List Nd} (ha : Gd a) (hb : Gd b) : subG a b = true ↔ ∀ n,subT n (obs a n 0) (obs b n 0):=by
 unfold subG
 rw [Option.isNone_iff_eq_none,why_iff ha.pos hb.pos ha.ok hb.ok]
end Go.Proofs.YtgecnlcbdbaneaaDoor
/- monitor.from: a graph from a node on: plain; a symbolic walk. -/
-- TYPESE
namespace Go.Proofs.YtgecnlcbdbaneaaDoor
open Go.RowKit Go.Sw

def upN (x : Nd) : Nd:=⟨x.k,x.so,x.ls,x.to.map (· + 1)⟩
def fromP (g : List Nd) (k : Int) : List Nd:=upN (gAt g k) :: g.map upN
theorem from_len (g : List Nd) (k : Int) : (fromP g k).length = g.length + 1:=by simp [fromP]
theorem from_at {g : List Nd} {i : Int} (k : Int) (h0 : 0 ≤ i) (h1 : i < (g.length : Int)) : gAt (fromP g k) (i + 1) = upN (gAt g i):=by
 have e : (i + 1).toNat = i.toNat + 1:=by omega
 have hl : i.toNat < g.length:=by omega
 unfold gAt fromP
 rw [e,List.getD_cons_succ,List.getD_eq_getElem?_getD,List.getD_eq_getElem?_getD,List.getElem?_map,List.getElem?_eq_getElem hl]
 rfl
theorem from_0 (g : List Nd) (k : Int) : gAt (fromP g k) 0 = upN (gAt g k):=rfl
theorem from_obs {g : List Nd} (Hg : Gd g) (k : Int) : ∀ (n : Nat) (i : Int),0 ≤ i → i < (g.length : Int) → obs (fromP g k) n (i + 1) = obs g n i
 | 0,_,_,_=>rfl
 | n + 1,i,h0,h1=>by
  rw [obs,obs,from_at k h0 h1]
  show Tr.nd _ _ _ ((((gAt g i).to).map (· + 1)).map (obs (fromP g k) n)) = _
  rw [List.map_map]
  refine congrArg _ (List.map_congr_left fun t ht=>?_)
  have hr:=(Hg.ok _ (gAt_mem h0 h1)).ok.r t ht
  exact from_obs Hg k n t hr.1 hr.2
theorem from_obs0 {g : List Nd} (Hg : Gd g) {k : Int} (h0 : 0 ≤ k) (h1 : k < (g.length : Int)) (n : Nat) : obs (fromP g k) n 0 = obs g n k:=by
 cases n with
 | zero=>rfl
 | succ n =>
  rw [obs,obs,from_0]
  show Tr.nd _ _ _ ((((gAt g k).to).map (· + 1)).map (obs (fromP g k) n)) = _
  rw [List.map_map]
  refine congrArg _ (List.map_congr_left fun t ht=>?_)
  have hr:=(Hg.ok _ (gAt_mem h0 h1)).ok.r t ht
  exact from_obs Hg k n t hr.1 hr.2
theorem up_good {g : List Nd} (Hg : Gd g) {x : Nd} (hx : x ∈ g) : NdG (g.length + 1) (upN x) ∧ shp (upN x).k (upN x).so (upN x).ls (upN x).to.length:=by
 have h:=Hg.ok x hx
 have hs:=Hg.sh x hx
 obtain ⟨⟨a1,a2,a3,a4,a5,a6⟩,⟨b1,b2,b3,b4⟩,c⟩:=h
 refine ⟨⟨⟨a1,a2,a3,a4,by simpa [upN] using a5,fun t ht=>?_⟩,⟨fun e=>by simpa [upN] using b1 e,fun e=>by simpa [upN] using b2 e,by simpa [upN] using b3,by simpa [upN] using b4⟩,c⟩,by simpa [upN] using hs⟩
 obtain ⟨s,hs,rfl⟩:=List.mem_map.1 ht
 have:=a6 s hs
 omega
theorem from_gd {g : List Nd} (Hg : Gd g) (h199 : g.length ≤ 199) {k : Int} (h0 : 0 ≤ k) (h1 : k < (g.length : Int)) : Gd (fromP g k):=by
 have hm : ∀ x ∈ fromP g k, ∃ y ∈ g,x = upN y:=fun x hx=>by
  rcases List.mem_cons.1 hx with rfl | hx
  · exact ⟨_,gAt_mem h0 h1,rfl⟩
  · obtain ⟨y,hy,rfl⟩:=List.mem_map.1 hx
    exact ⟨y,hy,rfl⟩
 refine ⟨by rw [from_len];omega,by rw [from_len];omega,fun x hx=>?_,fun x hx=>?_⟩
 · obtain ⟨y,hy,rfl⟩:=hm x hx
   rw [from_len]
   exact (up_good Hg hy).1
 · obtain ⟨y,hy,rfl⟩:=hm x hx
   exact (up_good Hg hy).2
end Go.Proofs.YtgecnlcbdbaneaaDoor
