/- Arguments that are what a role does. -/
-- TYPESA
import Derived.Test.YtmohkmfimcnfeaaDoorP5
import Derived.Test.YtmohkmfimcnfeaaDoorG11
set_option linter.unusedVariables false
set_option linter.unusedSimpArgs false
namespace Go.Proofs.YtmohkmfimcnfeaaDoor
open Go.RowKit Go.Sw

def TYL : List TypeId:=[45,43,22,9,3]
theorem TYL_ok : TYL.all (okT Tryd.prog TYL) = true:=by kernel_rfl
theorem lsms_of : ∀ {l : List Lt},(∀ x ∈ l,x.sm) → Lt.sms l
 | [],_=>trivial
 | x :: l,h=>⟨h x (by simp),lsms_of fun y hy=>h y (by simp [hy])⟩
set_option maxRecDepth 100000 in
theorem tyL : ∀ (m : Nat) {ds : List D},Ty Tryd.prog m 45 ds → ∃ x : Lt,D.agg ds = x.d ∧ x.sm
 | 0,ds,h=>h.elim
 | m + 1,ds,h=>by
  obtain ⟨m',hm,a,b,rfl,h1,a2,b2,rfl,h2,a3,b3,rfl,h3,a4,b4,rfl,h4,a5,b5,rfl,h5,a6,b6,rfl,h6,rfl⟩:=ty_struct Tryd.underlying45 h
  obtain rfl : m' = m:=by omega
  obtain ⟨k,rfl, -⟩:=ty_int un3 h1
  obtain ⟨wi,rfl, -⟩:=ty_str un9 h2
  obtain ⟨so,rfl, -⟩:=ty_int un3 h3
  obtain ⟨nm,rfl, -⟩:=ty_str un9 h4
  obtain ⟨ls,rfl,hl5⟩:=tyStrs h5
  obtain ⟨L2,m3,hm3,rfl,hb2,hx2⟩:=ty_slc un43 h6
  obtain ⟨l,rfl,hall⟩:=map_of (f:=Lt.d) (p:=Lt.sm) (L:=L2) fun x hm=>by
   obtain ⟨xs,h8,rfl⟩:=hx2 x hm
   subst hm3
   obtain ⟨y,h9,h10⟩:=tyL m3 h8
   exact ⟨y,by rw [mkD_struct Tryd.underlying45,h9],h10⟩
  rw [List.length_map,show Tryd.prog.bytesOf 45 = 96 by kernel_rfl] at hb2
  unfold reachBytes at hb2 hl5
  exact ⟨.mk k wi so nm ls l,by rw [← Lt.ds_map];simp only [Lt.d,List.append_nil,List.cons_append,List.nil_append],⟨by omega,by omega⟩,lsms_of hall⟩
section
variable {H : Type} {enc : TypeId × Value → H} {W : World} {r : Reach} {base b0 : Nat} {sp : Nat → Bool} {held : Bool} {v : Value} {d : DataW H} {p : List MemPlace}
set_option maxRecDepth 100000 in
theorem open45 (hv : Value.okWide Tryd.prog W r base 45 v) (h : DataW.Trod enc Tryd.prog W b0 sp held 45 v d p) (hw : (d.weights Tryd.prog 45).all (· ≤ reachBytes) = true) : ∃ x : Lt,RpD W M0 (.d x.d v) ∧ x.sm:=by
 obtain ⟨m,xs,h1,h2⟩:=open_top TYL_ok (by decide) hv h hw
 rw [mkD_struct Tryd.underlying45] at h2
 obtain ⟨x,h3,h4⟩:=tyL m h1
 rw [h3] at h2
 exact ⟨x,h2,h4⟩
end
end Go.Proofs.YtmohkmfimcnfeaaDoor
