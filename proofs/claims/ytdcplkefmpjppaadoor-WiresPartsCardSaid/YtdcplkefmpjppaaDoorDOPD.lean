/- What is laid for the laws of wires; arguments that are events, texts, numbers (printed by mkopd.py). -/
-- TYPESE
import Derived.Test.YtdcplkefmpjppaaDoorDN24
import Derived.Test.YtdcplkefmpjppaaDoorDN25
import Derived.Test.YtdcplkefmpjppaaDoorSwC
import Derived.Lib.LaidU8
import Derived.Test.YtdcplkefmpjppaaDoorShelfV
import Derived.Test.YtdcplkefmpjppaaDoorFrame
set_option linter.unusedVariables false
set_option linter.unusedSimpArgs false
namespace Go.Proofs.YtdcplkefmpjppaaDoor.GG
open Go.RowKit Go.Sw

def GW (W : World) : Gl:=⟨W.heap.size,fun w => ∀ b,b < W.heap.size → w.heap[b]? = W.heap[b]?,fun w w' h g b hb=>(h b hb).trans (g b hb)⟩
theorem es_of {w : World} {M : Nat → Prop} : ∀ (l : List ByteArray) (b o : Nat),(∀ j x,l[j]? = some x → w.cell? ⟨b,o + j,none⟩ = some (.string x)) → (l ≠ [] → ¬ M b) → RpD w M (.es 1 (l.map sD) b o)
 | [],b,o,_,_=>.esn _ _ _
 | x :: l,b,o,h,hm=>.esc rfl (.csc (hm (by simp)) (h 0 x rfl) (.v _ rfl) (.csn _ _)) (es_of l b (o + 1) (fun j y hj=>by
     have:=h (j + 1) y (by simpa using hj)
     rw [show o + 1 + j = o + (j + 1) by omega];exact this) (fun _=>hm (by simp)))
theorem cells22 : Tryd.prog.cellsOf 9 = 1:=by kernel_rfl
theorem gd_sorts {laid : List (String × DataW Unit)} {W : World} (hp : (laid.filter fun x => x.2.handleName?.isSome) = []) (h : laidMetH Tryd.prog laid W) (hm : ("duet/types.sorts", Rows.laid_duet_types_sorts) ∈ laid) :
 GD Tryd.prog (GW W) 1 22 (.slc (sortsL.map sD)):=by
 have h' : laidMet Tryd.prog laid W:=by
  unfold laidMetH at h
  rw [hp] at h
  exact h
 obtain ⟨g,t,cs,fuel,p,hg,ht,hvar,hd⟩:=Lib.laidMet.reads h' hm
 obtain rfl := Option.some.inj ((show Tryd.prog.globalNamed "duet/types.sorts" = some 1 by kernel_rfl).symm.trans hg)
 obtain rfl:=Option.some.inj ((show (Tryd.prog.globals[1]?).map (·.type) = some 22 by kernel_rfl).symm.trans ht)
 rcases DataW.trod_slice un22 hd with ⟨h1,h2⟩ | ⟨a,len,cap,elems,rest,n,hf,hcs,hx, -,hcap, -,hlen,hel, -, -⟩
 · simp [Rows.laid_duet_types_sorts] at h2
 simp only [Rows.laid_duet_types_sorts,Prod.mk.injEq,DataW.slice.injEq] at hx
 obtain ⟨⟨he, -⟩, -⟩:=hx
 have hl4 : len = 4:=by
  have:=congrArg List.length he
  simp only [List.length_map,List.length_cons,List.length_nil] at this
  omega
 subst hl4
 -- the cells, one by one
 have cell : ∀ j (x : ByteArray),sortsL[j]? = some x → W.cell? ⟨a.block,a.off + j,none⟩ = some (.string x):=by
  intro j x hj
  have hj4 : j < 4:=(List.getElem?_eq_some_iff.1 hj).1
  have:=hel j hj4
  rw [cells22,Nat.mul_one] at this
  obtain ⟨y,hy⟩ : ∃ y,elems[j]? = some y:=⟨elems[j]'(by omega),by simp⟩
  rw [hy] at this
  cases hc : W.cells? 0 (a.add j) 1 with
  | none=>rw [hc] at this;cases this
  | some us =>
   rw [hc] at this
   simp only [Option.bind_some] at this
   obtain ⟨b,rfl,rfl, -⟩:=DataW.trod_string un9 this
   obtain ⟨-,c2⟩:=cells_get hc
   have c3:=c2 0 (.string b) rfl
   rw [(add_block a j).1,(add_block a j).2,Nat.add_zero] at c3
   have e1 : (elems.map (·.1))[j]? = some (.lit (.string b.data.toList)):=by rw [List.getElem?_map,hy];rfl
   rw [← he] at e1
   have e2 : b.data.toList = x.data.toList:=by
    rcases (show j = 0 ∨ j = 1 ∨ j = 2 ∨ j = 3 by omega) with rfl | rfl | rfl | rfl
    all_goals
     simp only [sortsL,List.getElem?_cons_zero,List.getElem?_cons_succ,Option.some.injEq,DataW.lit.injEq,Lit.string.injEq] at e1 hj
     subst hj
     exact e1.symm
   rw [c3,data_back e2]
 have hlt : a.block < W.heap.size:=show (⟨a.block,a.off + 0,none⟩ : Addr).block < W.heap.size from World.block_lt_of_cell? _ _ (cell 0 noB rfl)
 have hsp : a.spot = none:=by
  have h0:=hel 0 (by omega)
  rw [cells22,Nat.zero_mul] at h0
  cases hc : W.cells? 0 (a.add 0) 1 with
  | none =>
   rw [hc] at h0
   obtain ⟨y,hy⟩ : ∃ y,elems[0]? = some y:=⟨elems[0]'(by omega),by simp⟩
   rw [hy] at h0;cases h0
  | some us =>
   obtain ⟨c1, -⟩:=cells_get hc
   unfold World.cells? at hc
   split at hc
   · have hg:=mapM_some_get hc 0 0 (by simp)
     cases hu0 : us[0]? with
     | none =>
      have hus : us = []:=by simpa using hu0
      rw [hus] at c1
      cases c1
     | some v0 =>
      rw [hu0] at hg
      have:=cell_spot hg
      simpa [Addr.add] using this
   · cases hc
 have hrp : RpD W (fun b=>W.heap.size ≤ b) (.d (.slc (sortsL.map sD)) (.slice (some a) 4 cap)):=by
  obtain ⟨ab,ao,asp⟩:=a
  simp only at hsp cell hlt
  subst hsp
  exact .slc rfl hcap (es_of sortsL ab ao cell (fun _=>by omega))
 intro w hw
 have hcell : w.cell? ⟨1,0,none⟩ = some (.slice (some a) 4 cap):=by
  have h0:=World.var?_cell hg hvar 0
  have h1 : cs[0]? = some (.slice (some a) 4 cap):=by
   have : cs.toList[0]? = some (.slice (some a) 4 cap):=by rw [hcs];rfl
   simpa using this
  rw [h1] at h0
  have hb : (1 : Nat) < W.heap.size:=World.block_lt_of_cell? _ _ h0
  rw [World.cell?_of_block (w:=W) (hw 1 hb)]
  exact h0
 have hld : loadC Tryd.prog 22 [.d (.slc (sortsL.map sD))] = some (True,.d (.slc (sortsL.map sD))):=by
  simp only [loadC,ag22,sz22]
 obtain ⟨v,h5,h6⟩:=loadC_ok (F:=fun b=>W.heap.size ≤ b) (β := fun _=>undef) (s:=[]) (w:=w) hld trivial (us:=[.slice (some a) 4 cap])
  (.ssc (.d (hrp.keep (fun b hb hm=>hw b (by omega)) (fun b hb hm=>by
   rcases hm with hm | ⟨i,bx,hl, -⟩
   · exact hm
   · cases hl))) .ssn) 1 0 (fun j u hj=>by
  cases j with
  | zero=>simp at hj;subst hj;exact hcell
  | succ j=>simp at hj)
 refine ⟨v,by simp [Instr.loadAt,Instr.sureAddr,h5],?_⟩
 cases h6 with
 | d h7=>exact h7.keep (fun _ _ _=>rfl) (fun b _ hm=>.inl hm)

theorem u8_GW {W : World} (h : Lib.Utf8Tabs 2 3 W) : ∀ w,(GW W).G w → Lib.Utf8Tabs 2 3 w:=by
 intro w hw
 have lt : ∀ {a : Addr} {v : Value},W.cell? a = some v → w.cell? a = some v:=fun {a v} hc=>by
  rcases Nat.lt_or_ge a.block W.heap.size with h' | h'
  · rw [← hc]
    unfold World.cell?
    rw [hw _ h']
  · simp [World.cell?,Array.getElem?_eq_none h'] at hc
 exact ⟨fun c hc=>lt (h.1 c hc),fun i hi=>⟨lt (h.2 i hi).1,lt (h.2 i hi).2⟩⟩
theorem u8_of {laid : List (String × DataW Unit)} {W : World} (hp : (laid.filter fun x=>x.2.handleName?.isSome) = []) (h : laidMetH Tryd.prog laid W)
 (h1 : ("unicode/utf8.first", Rows.laid_unicode_utf8_first) ∈ laid) (h2 : ("unicode/utf8.acceptRanges", Rows.laid_unicode_utf8_acceptRanges) ∈ laid) : Lib.Utf8Tabs 2 3 W := by
 have h' : laidMet Tryd.prog laid W:=by
  unfold laidMetH at h
  rw [hp] at h
  exact h
 have a:=Lib.laidMet.reads h' h1
 have b:=Lib.laidMet.reads h' h2
 have e1 : Rows.laid_unicode_utf8_first = Lib.firstData:=Pinned.utf8First_eq
 have e2 : (Rows.laid_unicode_utf8_acceptRanges : DataW Unit) = Lib.acceptData:=by kernel_rfl
 rw [e1] at a
 rw [e2] at b
 exact utf8Tabs_of_reads Tryd.lays260 Tryd.u8extra a b
theorem vs_ok (Γ : Gl) (hU : ∀ w, Γ.G w → Lib.Utf8Tabs 2 3 w) : VSok Γ (fun s=>Lib.validD s.data.toList):=fun s hs =>
 dfn_of (by kernel_rfl) rfl rfl fun w h=>Tryd.utf8_ValidString s w (by omega) (hU w h)
theorem partsLaw (Γ : Gl) (hU : ∀ w, Γ.G w → Lib.Utf8Tabs 2 3 w) (hG : GD Tryd.prog Γ 1 22 (.slc (sortsL.map sD))) (l : List Ev) (k : Int) (hl : l.length ≤ 140737488355328 ∧ ∀ x ∈ l,Rng x) (hk : -9223372036854775808 ≤ k ∧ k ≤ 9223372036854775807) : DFn Tryd.prog Γ 8 [.slc (l.map Ev.d),iD k] (.v (.bool true)) :=
 partsW Γ (vs_ok Γ hU) hG l k hl.1 hl.2 hk.1 (by omega)
def TYE : List TypeId:=[47,55,50,53,51,22,9,3,2]
theorem TYE_ok : TYE.all (okT Tryd.prog TYE) = true:=by kernel_rfl
theorem tds_map : ∀ l : List Tp,Tp.ds l = l.map Tp.d
 | []=>rfl
 | x :: l=>by simp [Tp.ds,tds_map l]
set_option maxRecDepth 100000 in
theorem tyStrs {m : Nat} {ds : List D} (h : Ty Tryd.prog m 22 ds) : ∃ ls : List ByteArray,ds = [.slc (ls.map sD)] ∧ ls.length ≤ reachBytes:=by
 obtain ⟨L,m2,hm2,rfl,hb,hx⟩:=ty_slc un22 h
 obtain ⟨ls,rfl, -⟩:=map_of (f:=sD) (p:=fun _=>True) (L:=L) fun x hm=>by
  obtain ⟨xs,h6,rfl⟩:=hx x hm
  obtain ⟨y,rfl, -⟩:=ty_str un9 h6
  exact ⟨y,mkD_one (by simp [un9]) _,trivial⟩
 refine ⟨ls,rfl,?_⟩
 rw [List.length_map,show Tryd.prog.bytesOf 9 = 16 by kernel_rfl] at hb
 omega
set_option maxRecDepth 100000 in
theorem tyT : ∀ (m : Nat) {ds : List D},Ty Tryd.prog m 53 ds → ∃ x : Tp,D.agg ds = x.d
 | 0,ds,h=>h.elim
 | m + 1,ds,h=>by
  obtain ⟨m',hm,a,b,rfl,h1,a2,b2,rfl,h2,a3,b3,rfl,h3,a4,b4,rfl,h4,a5,b5,rfl,h5,rfl⟩:=ty_struct Tryd.underlying53 h
  obtain rfl : m' = m:=by omega
  obtain ⟨k,rfl, -⟩:=ty_int un3 h1
  obtain ⟨so,rfl, -⟩:=ty_int un3 h2
  obtain ⟨nm,rfl, -⟩:=ty_str un9 h3
  obtain ⟨ls,rfl, -⟩:=tyStrs h4
  obtain ⟨L2,m3,hm3,rfl, -,hx2⟩:=ty_slc un51 h5
  obtain ⟨l,rfl, -⟩:=map_of (f:=Tp.d) (p:=fun _=>True) (L:=L2) fun x hm=>by
   obtain ⟨xs,h8,rfl⟩:=hx2 x hm
   subst hm3
   obtain ⟨y,h9⟩:=tyT m3 h8
   exact ⟨y,by rw [mkD_struct Tryd.underlying53,h9],trivial⟩
  exact ⟨.mk k so nm ls l,by rw [← tds_map];simp only [Tp.d,List.append_nil,List.cons_append,List.nil_append]⟩
theorem wf_range {n : Int} (h : (Lit.int .i64 n).wf = true) : -9223372036854775808 ≤ n ∧ n ≤ 9223372036854775807:=by
 simp only [Lit.wf,Bool.and_eq_true,decide_eq_true_eq] at h
 have h1 : IntKind.min .i64 = -9223372036854775808:=by decide +kernel
 have h2 : IntKind.max .i64 = 9223372036854775807:=by decide +kernel
 rw [h1,h2] at h
 exact h
set_option maxRecDepth 100000 in
theorem tyEv {m : Nat} {ds : List D} (h : Ty Tryd.prog m 55 ds) : ∃ x : Ev,D.agg ds = x.d ∧ Rng x:=by
 obtain ⟨m',hm,a,b,rfl,h1,a2,b2,rfl,h2,a3,b3,rfl,h3,a4,b4,rfl,h4,rfl⟩:=ty_struct Tryd.underlying55 h
 obtain ⟨kd,rfl, -⟩:=ty_int un3 h1
 obtain ⟨m2,hm2,c,d,rfl,i1,c2,d2,rfl,i2,c3,d3,rfl,i3,rfl⟩:=ty_struct Tryd.underlying50 h2
 obtain ⟨vs,rfl, -⟩:=ty_int un3 i1
 obtain ⟨vn,rfl,hvn⟩:=ty_int Tryd.underlying2 i2
 obtain ⟨vS,rfl, -⟩:=ty_str un9 i3
 obtain ⟨⟨k,so,nm,ls,l⟩,h5⟩:=tyT m' h3
 obtain ⟨lab,rfl, -⟩:=ty_str un9 h4
 simp only [Tp.d,D.agg.injEq] at h5
 subst h5
 exact ⟨⟨kd,vs,vn,vS,.mk k so nm ls l,lab⟩,by simp only [Ev.d,evD,List.append_nil,List.cons_append,List.nil_append],(by have:=wf_range hvn;unfold Rng;simp only;omega)⟩
section
variable {H : Type} {enc : TypeId × Value → H} {W : World} {r : Reach} {base b0 : Nat} {sp : Nat → Bool} {held : Bool} {v : Value} {d : DataW H} {p : List MemPlace}
set_option maxRecDepth 100000 in
theorem openEvents (hv : Value.okWide Tryd.prog W r base 47 v) (h : DataW.Trod enc Tryd.prog W b0 sp held 47 v d p) (hw : (d.weights Tryd.prog 47).all (· ≤ reachBytes) = true) : ∃ l : List Ev,RpD W M0 (.d (.slc (l.map Ev.d)) v) ∧ l.length ≤ 140737488355328 ∧ ∀ e ∈ l,Rng e:=by
 obtain ⟨m,xs,h1,h2⟩:=open_top TYE_ok (by decide) hv h hw
 obtain ⟨L,m2,hm2,rfl,hb,hx⟩:=ty_slc un47 h1
 obtain ⟨l,rfl,hl⟩:=map_of (f:=Ev.d) (p:=fun e=>Rng e) (L:=L) fun x hm=>by
  obtain ⟨ys,h8,rfl⟩:=hx x hm
  obtain ⟨y,h9,h10⟩:=tyEv h8
  exact ⟨y,by rw [mkD_struct Tryd.underlying55,h9],h10⟩
 have r : reachBytes ≤ 140737488355328:=by unfold reachBytes;omega
 rw [List.length_map,show Tryd.prog.bytesOf 55 = 136 by kernel_rfl] at hb
 rw [mkD_one (by simp [un47])] at h2
 exact ⟨l,h2,by omega,hl⟩
set_option maxRecDepth 100000 in
theorem openInt (hv : Value.okWide Tryd.prog W r base 3 v) (h : DataW.Trod enc Tryd.prog W b0 sp held 3 v d p) (hw : (d.weights Tryd.prog 3).all (· ≤ reachBytes) = true) : ∃ n : Int,RpD W M0 (.d (iD n) v) ∧ -9223372036854775808 ≤ n ∧ n ≤ 9223372036854775807:=by
 obtain ⟨m,xs,h1,h2⟩:=open_top TYE_ok (by decide) hv h hw
 obtain ⟨s,rfl,h3⟩:=ty_int un3 h1
 rw [mkD_one (by simp [un3])] at h2
 exact ⟨s,h2,wf_range h3⟩
end
end Go.Proofs.YtdcplkefmpjppaaDoor.GG
