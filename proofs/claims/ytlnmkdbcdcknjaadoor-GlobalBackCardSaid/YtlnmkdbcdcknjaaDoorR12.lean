/- The variable global.sorts as data (printed by mkr12.py out of OPD). -/
-- TYPESA
import Derived.Test.YtlnmkdbcdcknjaaDoorR11
import Derived.Test.YtlnmkdbcdcknjaaDoorOPN
set_option linter.unusedVariables false
set_option linter.unusedSimpArgs false
namespace Go.Proofs.YtlnmkdbcdcknjaaDoor.GG
open Go.RowKit Go.Sw

theorem es_of {w : World} {M : Nat → Prop} : ∀ (l : List ByteArray) (b o : Nat),(∀ j x,l[j]? = some x → w.cell? ⟨b,o + j,none⟩ = some (.string x)) → (l ≠ [] → ¬ M b) → RpD w M (.es 1 (l.map sD) b o)
 | [],b,o,_,_=>.esn _ _ _
 | x :: l,b,o,h,hm=>.esc rfl (.csc (hm (by simp)) (h 0 x rfl) (.v _ rfl) (.csn _ _)) (es_of l b (o + 1) (fun j y hj=>by
     have:=h (j + 1) y (by simpa using hj)
     rw [show o + 1 + j = o + (j + 1) by omega];exact this) (fun _=>hm (by simp)))
theorem cells22 : Tryd.prog.cellsOf 9 = 1:=by kernel_rfl
theorem gd_sortsG {laid : List (String × DataW Unit)} {W : World} (hp : (laid.filter fun x => x.2.handleName?.isSome) = []) (h : laidMetH Tryd.prog laid W) (hm : ("duet/global.sorts", Rows.laid_duet_global_sorts) ∈ laid) :
 GD Tryd.prog (GW W) 0 22 (.slc (sortsL.map sD)):=by
 have h' : laidMet Tryd.prog laid W:=by
  unfold laidMetH at h
  rw [hp] at h
  exact h
 obtain ⟨g,t,cs,fuel,p,hg,ht,hvar,hd⟩:=Lib.laidMet.reads h' hm
 obtain rfl := Option.some.inj ((show Tryd.prog.globalNamed "duet/global.sorts" = some 0 by kernel_rfl).symm.trans hg)
 obtain rfl:=Option.some.inj ((show (Tryd.prog.globals[0]?).map (·.type) = some 22 by kernel_rfl).symm.trans ht)
 rcases DataW.trod_slice un22 hd with ⟨h1,h2⟩ | ⟨a,len,cap,elems,rest,n,hf,hcs,hx, -,hcap, -,hlen,hel, -, -⟩
 · simp [Rows.laid_duet_global_sorts] at h2
 simp only [Rows.laid_duet_global_sorts,Prod.mk.injEq,DataW.slice.injEq] at hx
 obtain ⟨⟨he, -⟩, -⟩:=hx
 have hl4 : len = 4:=by
  have:=congrArg List.length he
  simp only [List.length_map,List.length_cons,List.length_nil] at this
  omega
 subst hl4
 -- the cells, one by one
 have cell : ∀ j (x : ByteArray),sortsL[j]? = some x → W.cell? ⟨a.block,a.off + j,none⟩ = some (.string x):=by
  intro j x hj
  have hj4 : j < 4:=(List.getElem?_eq_some_iff.1 hj).1
  have:=hel j hj4
  rw [cells22,Nat.mul_one] at this
  obtain ⟨y,hy⟩ : ∃ y,elems[j]? = some y:=⟨elems[j]'(by omega),by simp⟩
  rw [hy] at this
  cases hc : W.cells? 0 (a.add j) 1 with
  | none=>rw [hc] at this;cases this
  | some us =>
   rw [hc] at this
   simp only [Option.bind_some] at this
   obtain ⟨b,rfl,rfl, -⟩:=DataW.trod_string un9 this
   obtain ⟨-,c2⟩:=cells_get hc
   have c3:=c2 0 (.string b) rfl
   rw [(add_block a j).1,(add_block a j).2,Nat.add_zero] at c3
   have e1 : (elems.map (·.1))[j]? = some (.lit (.string b.data.toList)):=by rw [List.getElem?_map,hy];rfl
   rw [← he] at e1
   have e2 : b.data.toList = x.data.toList:=by
    rcases (show j = 0 ∨ j = 1 ∨ j = 2 ∨ j = 3 by omega) with rfl | rfl | rfl | rfl
    all_goals
     simp only [sortsL,List.getElem?_cons_zero,List.getElem?_cons_succ,Option.some.injEq,DataW.lit.injEq,Lit.string.injEq] at e1 hj
     subst hj
     exact e1.symm
   rw [c3,data_back e2]
 have hlt : a.block < W.heap.size:=show (⟨a.block,a.off + 0,none⟩ : Addr).block < W.heap.size from World.block_lt_of_cell? _ _ (cell 0 noB rfl)
 have hsp : a.spot = none:=by
  have h0:=hel 0 (by omega)
  rw [cells22,Nat.zero_mul] at h0
  cases hc : W.cells? 0 (a.add 0) 1 with
  | none =>
   rw [hc] at h0
   obtain ⟨y,hy⟩ : ∃ y,elems[0]? = some y:=⟨elems[0]'(by omega),by simp⟩
   rw [hy] at h0;cases h0
  | some us =>
   obtain ⟨c1, -⟩:=cells_get hc
   unfold World.cells? at hc
   split at hc
   · have hg:=mapM_some_get hc 0 0 (by simp)
     cases hu0 : us[0]? with
     | none =>
      have hus : us = []:=by simpa using hu0
      rw [hus] at c1
      cases c1
     | some v0 =>
      rw [hu0] at hg
      have:=cell_spot hg
      simpa [Addr.add] using this
   · cases hc
 have hrp : RpD W (fun b=>W.heap.size ≤ b) (.d (.slc (sortsL.map sD)) (.slice (some a) 4 cap)):=by
  obtain ⟨ab,ao,asp⟩:=a
  simp only at hsp cell hlt
  subst hsp
  exact .slc rfl hcap (es_of sortsL ab ao cell (fun _=>by omega))
 intro w hw
 have hcell : w.cell? ⟨0,0,none⟩ = some (.slice (some a) 4 cap):=by
  have h0:=World.var?_cell hg hvar 0
  have h1 : cs[0]? = some (.slice (some a) 4 cap):=by
   have : cs.toList[0]? = some (.slice (some a) 4 cap):=by rw [hcs];rfl
   simpa using this
  rw [h1] at h0
  have hb : (0 : Nat) < W.heap.size:=World.block_lt_of_cell? _ _ h0
  rw [World.cell?_of_block (w:=W) (hw 0 hb)]
  exact h0
 have hld : loadC Tryd.prog 22 [.d (.slc (sortsL.map sD))] = some (True,.d (.slc (sortsL.map sD))):=by
  simp only [loadC,ag22,sz22]
 obtain ⟨v,h5,h6⟩:=loadC_ok (F:=fun b=>W.heap.size ≤ b) (β := fun _=>undef) (s:=[]) (w:=w) hld trivial (us:=[.slice (some a) 4 cap])
  (.ssc (.d (hrp.keep (fun b hb hm=>hw b (by omega)) (fun b hb hm=>by
   rcases hm with hm | ⟨i,bx,hl, -⟩
   · exact hm
   · cases hl))) .ssn) 0 0 (fun j u hj=>by
  cases j with
  | zero=>simp at hj;subst hj;exact hcell
  | succ j=>simp at hj)
 refine ⟨v,by simp [Instr.loadAt,Instr.sureAddr,h5],?_⟩
 cases h6 with
 | d h7=>exact h7.keep (fun _ _ _=>rfl) (fun b _ hm=>.inl hm)

end Go.Proofs.YtlnmkdbcdcknjaaDoor.GG
