/- Arguments that are conversations, lists of texts, texts, numbers. -/
-- TYPESA
import Derived.Test.YtmohkmfimcnfeaaDoorGP
import Derived.Test.YtmohkmfimcnfeaaDoorSwC
import Derived.Test.YtmohkmfimcnfeaaDoorFrame
set_option linter.unusedVariables false
set_option linter.unusedSimpArgs false
namespace Go.Proofs.YtmohkmfimcnfeaaDoor
open Go.RowKit Go.Sw

def GW (W : World) : Gl:=⟨W.heap.size,fun w => ∀ b,b < W.heap.size → w.heap[b]? = W.heap[b]?,fun w w' h g b hb=>(h b hb).trans (g b hb)⟩
set_option maxRecDepth 100000 in
theorem tyStrs {m : Nat} {ds : List D} (h : Ty Tryd.prog m 22 ds) : ∃ ls : List ByteArray,ds = [.slc (ls.map sD)] ∧ ls.length ≤ reachBytes:=by
 obtain ⟨L,m2,hm2,rfl,hb,hx⟩:=ty_slc un22 h
 obtain ⟨ls,rfl, -⟩:=map_of (f:=sD) (p:=fun _=>True) (L:=L) fun x hm=>by
  obtain ⟨xs,h6,rfl⟩:=hx x hm
  obtain ⟨y,rfl, -⟩:=ty_str un9 h6
  exact ⟨y,mkD_one (by simp [un9]) _,trivial⟩
 refine ⟨ls,rfl,?_⟩
 rw [List.length_map,show Tryd.prog.bytesOf 9 = 16 by kernel_rfl] at hb
 omega
section
variable {H : Type} {enc : TypeId × Value → H} {W : World} {r : Reach} {base b0 : Nat} {sp : Nat → Bool} {held : Bool} {v : Value} {d : DataW H} {p : List MemPlace}
end
end Go.Proofs.YtmohkmfimcnfeaaDoor
