/- Arguments that are types, conversations, what roles do, lists of texts, texts. -/
-- TYPESA
import Derived.Test.YtlnmkdbcdcknjaaDoorU6
import Derived.Test.YtlnmkdbcdcknjaaDoorGP
import Derived.Test.YtlnmkdbcdcknjaaDoorSwC
import Derived.Test.YtlnmkdbcdcknjaaDoorFrame
set_option linter.unusedVariables false
set_option linter.unusedSimpArgs false
namespace Go.Proofs.YtlnmkdbcdcknjaaDoor
open Go.RowKit Go.Sw

def GW (W : World) : Gl:=⟨W.heap.size,fun w => ∀ b,b < W.heap.size → w.heap[b]? = W.heap[b]?,fun w w' h g b hb=>(h b hb).trans (g b hb)⟩
def TY : List TypeId:=[96,94,25,23,22,9,3]
theorem TY_ok : TY.all (okT Tryd.prog TY) = true:=by kernel_rfl
theorem gds_map : ∀ l : List GG.Gt,GG.Gt.ds l = l.map GG.Gt.d
 | []=>rfl
 | x :: l=>by simp [GG.Gt.ds,gds_map l]
set_option maxRecDepth 100000 in
theorem tyStrs {m : Nat} {ds : List D} (h : Ty Tryd.prog m 22 ds) : ∃ ls : List ByteArray,ds = [.slc (ls.map sD)] ∧ ls.length ≤ reachBytes:=by
 obtain ⟨L,m2,hm2,rfl,hb,hx⟩:=ty_slc un22 h
 obtain ⟨ls,rfl, -⟩:=map_of (f:=sD) (p:=fun _=>True) (L:=L) fun x hm=>by
  obtain ⟨xs,h6,rfl⟩:=hx x hm
  obtain ⟨y,rfl, -⟩:=ty_str un9 h6
  exact ⟨y,mkD_one (by simp [un9]) _,trivial⟩
 refine ⟨ls,rfl,?_⟩
 rw [List.length_map,show Tryd.prog.bytesOf 9 = 16 by kernel_rfl] at hb
 omega
set_option maxRecDepth 100000 in
theorem tyG : ∀ (m : Nat) {ds : List D},Ty Tryd.prog m 25 ds → ∃ x : GG.Gt,D.agg ds = x.d
 | 0,ds,h=>h.elim
 | m + 1,ds,h=>by
  obtain ⟨m',hm,a,b,rfl,h1,a2,b2,rfl,h2,a3,b3,rfl,h3,a4,b4,rfl,h4,a5,b5,rfl,h5,a6,b6,rfl,h6,a7,b7,rfl,h7,rfl⟩:=ty_struct Tryd.underlying25 h
  obtain rfl : m' = m:=by omega
  obtain ⟨k,rfl, -⟩:=ty_int un3 h1
  obtain ⟨fr,rfl, -⟩:=ty_str un9 h2
  obtain ⟨to,rfl, -⟩:=ty_str un9 h3
  obtain ⟨so,rfl, -⟩:=ty_int un3 h4
  obtain ⟨nm,rfl, -⟩:=ty_str un9 h5
  obtain ⟨ls,rfl, -⟩:=tyStrs h6
  obtain ⟨L2,m3,hm3,rfl, -,hx2⟩:=ty_slc un23 h7
  obtain ⟨l,rfl, -⟩:=map_of (f:=GG.Gt.d) (p:=fun _=>True) (L:=L2) fun x hm=>by
   obtain ⟨xs,h8,rfl⟩:=hx2 x hm
   subst hm3
   obtain ⟨y,h9⟩:=tyG m3 h8
   exact ⟨y,by rw [mkD_struct Tryd.underlying25,h9],trivial⟩
  exact ⟨.mk k fr to so nm ls l,by rw [← gds_map];simp only [GG.Gt.d,List.append_nil,List.cons_append,List.nil_append]⟩
section
variable {H : Type} {enc : TypeId × Value → H} {W : World} {r : Reach} {base b0 : Nat} {sp : Nat → Bool} {held : Bool} {v : Value} {d : DataW H} {p : List MemPlace}
set_option maxRecDepth 100000 in
theorem openGlobal (hv : Value.okWide Tryd.prog W r base 25 v) (h : DataW.Trod enc Tryd.prog W b0 sp held 25 v d p) (hw : (d.weights Tryd.prog 25).all (· ≤ reachBytes) = true) : ∃ x : GG.Gt,RpD W M0 (.d x.d v) ∧ True:=by
 obtain ⟨m,xs,h1,h2⟩:=open_top TY_ok (by decide) hv h hw
 rw [mkD_struct Tryd.underlying25] at h2
 obtain ⟨x,h3⟩:=tyG m h1
 rw [h3] at h2
 exact ⟨x,h2,trivial⟩
set_option maxRecDepth 100000 in
theorem openStr (hv : Value.okWide Tryd.prog W r base 9 v) (h : DataW.Trod enc Tryd.prog W b0 sp held 9 v d p) (hw : (d.weights Tryd.prog 9).all (· ≤ reachBytes) = true) : ∃ s : ByteArray,RpD W M0 (.d (sD s) v) ∧ s.size ≤ reachBytes:=by
 obtain ⟨m,xs,h1,h2⟩:=open_top TY_ok (by decide) hv h hw
 obtain ⟨s,rfl,h3⟩:=ty_str un9 h1
 rw [mkD_one (by simp [un9])] at h2
 exact ⟨s,h2,h3⟩
end
end Go.Proofs.YtlnmkdbcdcknjaaDoor
