/- Arguments that are types, and no longer than a machine holds. -/
-- TYPESA
import Derived.Test.YtgecnlcbdbaneaaDoorH13
import Derived.Test.YtgecnlcbdbaneaaDoorH21
set_option linter.unusedVariables false
set_option linter.unusedSimpArgs false
namespace Go.Proofs.YtgecnlcbdbaneaaDoor
open Go.RowKit Go.Sw

theorem reach_47 : reachBytes ≤ 140737488355328:=by unfold reachBytes;omega
set_option maxRecDepth 100000 in
theorem tyStrsZ {m : Nat} {ds : List D} (h : Ty Tryd.prog m 22 ds) : ∃ ls : List ByteArray,ds = [.slc (ls.map sD)] ∧ ls.length ≤ reachBytes ∧ ∀ x ∈ ls,x.size ≤ reachBytes:=by
 obtain ⟨L,m2,hm2,rfl,hb,hx⟩:=ty_slc un22 h
 obtain ⟨ls,rfl,hls⟩:=map_of (f:=sD) (p:=fun y=>y.size ≤ reachBytes) (L:=L) fun x hm=>by
  obtain ⟨xs,h6,rfl⟩:=hx x hm
  obtain ⟨y,rfl,hy⟩:=ty_str un9 h6
  exact ⟨y,mkD_one (by simp [un9]) _,hy⟩
 refine ⟨ls,rfl,?_,hls⟩
 rw [List.length_map,show Tryd.prog.bytesOf 9 = 16 by kernel_rfl] at hb
 omega
set_option maxRecDepth 100000 in
theorem tyTZ : ∀ (m : Nat) {ds : List D},Ty Tryd.prog m 25 ds → ∃ x : Tp,D.agg ds = x.d ∧ szT x
 | 0,ds,h=>h.elim
 | m + 1,ds,h=>by
  obtain ⟨m',hm,a,b,rfl,h1,a2,b2,rfl,h2,a3,b3,rfl,h3,a4,b4,rfl,h4,a5,b5,rfl,h5,rfl⟩:=ty_struct Tryd.underlying25 h
  obtain rfl : m' = m:=by omega
  obtain ⟨k,rfl, -⟩:=ty_int un3 h1
  obtain ⟨so,rfl, -⟩:=ty_int un3 h2
  obtain ⟨nm,rfl,hnm⟩:=ty_str un9 h3
  obtain ⟨ls,rfl,hl1,hl2⟩:=tyStrsZ h4
  obtain ⟨L2,m3,hm3,rfl,hb,hx2⟩:=ty_slc un23 h5
  obtain ⟨l,rfl,hl⟩:=map_of (f:=Tp.d) (p:=szT) (L:=L2) fun x hm=>by
   obtain ⟨xs,h8,rfl⟩:=hx2 x hm
   subst hm3
   obtain ⟨y,h9,h10⟩:=tyTZ m3 h8
   exact ⟨y,by rw [mkD_struct Tryd.underlying25,h9],h10⟩
  have r:=reach_47
  rw [List.length_map,show Tryd.prog.bytesOf 25 = 80 by kernel_rfl] at hb
  refine ⟨.mk k so nm ls l,by rw [← tds_map];simp only [Tp.d,List.append_nil,List.cons_append,List.nil_append],⟨by omega,by omega,fun x hx=>by have:=hl2 x hx;omega,by omega⟩,szTs_of hl⟩
section
variable {H : Type} {enc : TypeId × Value → H} {W : World} {r : Reach} {base b0 : Nat} {sp : Nat → Bool} {held : Bool} {v : Value} {d : DataW H} {p : List MemPlace}
set_option maxRecDepth 100000 in
theorem openZ25 (hv : Value.okWide Tryd.prog W r base 25 v) (h : DataW.Trod enc Tryd.prog W b0 sp held 25 v d p) (hw : (d.weights Tryd.prog 25).all (· ≤ reachBytes) = true) : ∃ x : Tp,RpD W M0 (.d x.d v) ∧ szT x:=by
 obtain ⟨m,xs,h1,h2⟩:=open_top TY_ok (by decide) hv h hw
 rw [mkD_struct Tryd.underlying25] at h2
 obtain ⟨x,h3,h4⟩:=tyTZ m h1
 rw [h3] at h2
 exact ⟨x,h2,h4⟩
end
end Go.Proofs.YtgecnlcbdbaneaaDoor
