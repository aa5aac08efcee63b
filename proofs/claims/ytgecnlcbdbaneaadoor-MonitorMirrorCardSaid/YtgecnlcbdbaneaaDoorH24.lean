/- Arguments that are types, and no longer than a machine holds. -/
import Derived.Test.YtgecnlcbdbaneaaDoorU6
import Derived.Test.YtgecnlcbdbaneaaDoorH21
import Derived.Test.YtgecnlcbdbaneaaDoorH17
import Derived.Lib.LaidTab
-- TYPESA
set_option linter.unusedVariables false
set_option linter.unusedSimpArgs false
namespace Go.Proofs.YtgecnlcbdbaneaaDoor
open Go.RowKit Go.Sw

theorem reach_47 : reachBytes ≤ 140737488355328:=by unfold reachBytes;omega
set_option maxRecDepth 100000 in
theorem tyStrsZ {m : Nat} {ds : List D} (h : Ty Tryd.prog m 22 ds) : ∃ ls : List ByteArray,ds = [.slc (ls.map sD)] ∧ ls.length ≤ reachBytes ∧ ∀ x ∈ ls,x.size ≤ reachBytes:=by
 obtain ⟨L,m2,hm2,rfl,hb,hx⟩:=ty_slc un22 h
 obtain ⟨ls,rfl,hls⟩:=map_of (f:=sD) (p:=fun y=>y.size ≤ reachBytes) (L:=L) fun x hm=>by
  obtain ⟨xs,h6,rfl⟩:=hx x hm
  obtain ⟨y,rfl,hy⟩:=ty_str un9 h6
  exact ⟨y,mkD_one (by simp [un9]) _,hy⟩
 refine ⟨ls,rfl,?_,hls⟩
 rw [List.length_map,show Tryd.prog.bytesOf 9 = 16 by kernel_rfl] at hb
 omega
set_option maxRecDepth 100000 in
theorem tyTZ : ∀ (m : Nat) {ds : List D},Ty Tryd.prog m 25 ds → ∃ x : Tp,D.agg ds = x.d ∧ szT x
 | 0,ds,h=>h.elim
 | m + 1,ds,h=>by
  obtain ⟨m',hm,a,b,rfl,h1,a2,b2,rfl,h2,a3,b3,rfl,h3,a4,b4,rfl,h4,a5,b5,rfl,h5,rfl⟩:=ty_struct Tryd.underlying25 h
  obtain rfl : m' = m:=by omega
  obtain ⟨k,rfl, -⟩:=ty_int un3 h1
  obtain ⟨so,rfl, -⟩:=ty_int un3 h2
  obtain ⟨nm,rfl,hnm⟩:=ty_str un9 h3
  obtain ⟨ls,rfl,hl1,hl2⟩:=tyStrsZ h4
  obtain ⟨L2,m3,hm3,rfl,hb,hx2⟩:=ty_slc un23 h5
  obtain ⟨l,rfl,hl⟩:=map_of (f:=Tp.d) (p:=szT) (L:=L2) fun x hm=>by
   obtain ⟨xs,h8,rfl⟩:=hx2 x hm
   subst hm3
   obtain ⟨y,h9,h10⟩:=tyTZ m3 h8
   exact ⟨y,by rw [mkD_struct Tryd.underlying25,h9],h10⟩
  have r:=reach_47
  rw [List.length_map,show Tryd.prog.bytesOf 25 = 80 by kernel_rfl] at hb
  refine ⟨.mk k so nm ls l,by rw [← tds_map];simp only [Tp.d,List.append_nil,List.cons_append,List.nil_append],⟨by omega,by omega,fun x hx=>by have:=hl2 x hx;omega,by omega⟩,szTs_of hl⟩
section
variable {H : Type} {enc : TypeId × Value → H} {W : World} {r : Reach} {base b0 : Nat} {sp : Nat → Bool} {held : Bool} {v : Value} {d : DataW H} {p : List MemPlace}
end
end Go.Proofs.YtgecnlcbdbaneaaDoor
/- The table of powers, where it is laid. -/
namespace Go.Proofs.YtgecnlcbdbaneaaDoor
open Go.RowKit Go.Sw

theorem pow10_at : Tryd.prog.globalNamed "internal/strconv.uint64pow10" = some 2 := by kernel_rfl
theorem pow_of {laid : List (String × DataW Unit)} {W : World} (hp : (laid.filter fun x=>x.2.handleName?.isSome) = []) (h : laidMetH Tryd.prog laid W)
 (h3 : ("internal/strconv.uint64pow10", Rows.laid_internal_strconv_uint64pow10) ∈ laid) : Lib.TabIs Tryd.prog W "internal/strconv.uint64pow10" .u64 Lib.pow10Tab := by
 have h' : laidMet Tryd.prog laid W:=by
  unfold laidMetH at h
  rw [hp] at h
  exact h
 obtain ⟨g',t',cs,fuel,p,hg',ht',hvar,hd⟩:=Lib.laidMet.reads h' h3
 obtain rfl:=Option.some.inj (pow10_at.symm.trans hg')
 have e : (Rows.laid_internal_strconv_uint64pow10 : DataW Unit) = Lib.tabData .u64 Lib.pow10Tab:=by kernel_rfl
 rw [e] at hd
 unfold Lib.TabIs
 have ht2 : (Tryd.prog.globals[2]?).map (·.type) = some 186:=by kernel_rfl
 obtain rfl:=Option.some.inj (ht2.symm.trans ht')
 have hc:=Lib.cells_of_tab (n:=20) (e:=161) (by kernel_rfl) (by kernel_rfl) (by kernel_rfl) (by kernel_rfl) hd
 rw [hvar, ← hc]
theorem pow_GW {W : World} (h : Lib.TabIs Tryd.prog W "internal/strconv.uint64pow10" .u64 Lib.pow10Tab) : PowT (GW W) := by
 intro w hw
 have hlt : 2 < W.heap.size:=by
  unfold Lib.TabIs World.var? at h
  rw [pow10_at] at h
  simp only [Option.bind_some] at h
  cases hb : W.heap[2]? with
  | none=>rw [hb] at h;cases h
  | some b=>exact (Array.getElem?_eq_some_iff.1 hb).1
 unfold Lib.TabIs World.var? at h ⊢
 rw [pow10_at] at h ⊢
 simp only [Option.bind_some] at h ⊢
 rw [hw 2 hlt]
 exact h
end Go.Proofs.YtgecnlcbdbaneaaDoor
