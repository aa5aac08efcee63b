/- The table of powers, where it is laid. -/
import Derived.Test.YtdcplkefmpjppaaGreatDoorH17
import Derived.Test.YtdcplkefmpjppaaGreatDoorU7
import Derived.Lib.LaidTab
import Derived.Test.YtdcplkefmpjppaaGreatDoorHP5
import Derived.Test.YtdcplkefmpjppaaGreatDoorHQ4
import Derived.Test.YtdcplkefmpjppaaGreatDoorH14
set_option linter.unusedVariables false
set_option linter.unusedSimpArgs false
namespace Go.Proofs.YtdcplkefmpjppaaGreatDoor
open Go.RowKit Go.Sw

theorem pow10_at : Tryz.prog.globalNamed "internal/strconv.uint64pow10" = some 1 := by kernel_rfl
theorem pow_of {laid : List (String × DataW Unit)} {W : World} (hp : (laid.filter fun x=>x.2.handleName?.isSome) = []) (h : laidMetH Tryz.prog laid W)
 (h3 : ("internal/strconv.uint64pow10", Rows.laid_internal_strconv_uint64pow10) ∈ laid) : Lib.TabIs Tryz.prog W "internal/strconv.uint64pow10" .u64 Lib.pow10Tab := by
 have h' : laidMet Tryz.prog laid W:=by
  unfold laidMetH at h
  rw [hp] at h
  exact h
 obtain ⟨g',t',cs,fuel,p,hg',ht',hvar,hd⟩:=Lib.laidMet.reads h' h3
 obtain rfl:=Option.some.inj (pow10_at.symm.trans hg')
 have e : (Rows.laid_internal_strconv_uint64pow10 : DataW Unit) = Lib.tabData .u64 Lib.pow10Tab:=by kernel_rfl
 rw [e] at hd
 unfold Lib.TabIs
 have ht2 : (Tryz.prog.globals[1]?).map (·.type) = some 248:=by kernel_rfl
 obtain rfl:=Option.some.inj (ht2.symm.trans ht')
 have hc:=Lib.cells_of_tab (n:=20) (e:=203) (by kernel_rfl) (by kernel_rfl) (by kernel_rfl) (by kernel_rfl) hd
 rw [hvar, ← hc]
theorem pow_GW {W : World} (h : Lib.TabIs Tryz.prog W "internal/strconv.uint64pow10" .u64 Lib.pow10Tab) : PowT (GW W) := by
 intro w hw
 have hlt : 1 < W.heap.size:=by
  unfold Lib.TabIs World.var? at h
  rw [pow10_at] at h
  simp only [Option.bind_some] at h
  cases hb : W.heap[1]? with
  | none=>rw [hb] at h;cases h
  | some b=>exact (Array.getElem?_eq_some_iff.1 hb).1
 unfold Lib.TabIs World.var? at h ⊢
 rw [pow10_at] at h ⊢
 simp only [Option.bind_some] at h ⊢
 rw [hw 1 hlt]
 exact h
end Go.Proofs.YtdcplkefmpjppaaGreatDoor
/- Graphs that are right. -/
namespace Go.Proofs.YtdcplkefmpjppaaGreatDoor
open Go.RowKit Go.Sw

def endT : Tp:=.mk 1 0 noB [] []
theorem least_sh {g : List Nd} (hg : ∀ n ∈ g,NdG g.length n) (h0 : 0 < g.length) (hs : ShG g) : ShG (leastP g):=by
 obtain ⟨o,a1,a2,a3,a4⟩:=lstF_made (cl:=partedP g) hg (g.length + 1) 0 [0] [] (ord_one h0 _) (by simp) rfl (by omega) (by intro p x v hp;simp at hp)
 intro x hx
 obtain ⟨p,hp,rfl⟩:=List.mem_iff_getElem.1 hx
 have hp' : p < o.length:=by rw [a2];exact hp
 obtain ⟨e1,e2,e3,e4, -⟩:=a4 p _ o[p] (List.getElem?_eq_getElem hp) (List.getElem?_eq_getElem hp')
 have hr:=a1.r o[p] (List.getElem_mem hp')
 have:=hs _ (gAt_mem hr.1 hr.2)
 rw [e1,e2,e3,e4]
 exact this
theorem ofP_sh {x : Tp} (h : tCheck x = 0) : ShG (ofP x):=by
 obtain ⟨-, -, -,h4,h5,h6⟩:=raw_good h
 unfold ofP
 rw [if_pos h]
 exact least_sh (g:=rawP x) h6 h4 (raw_sh h)
structure Gd (g : List Nd) : Prop where
 pos : 0 < g.length
 le : g.length ≤ 200
 ok : ∀ n ∈ g,NdG g.length n
 sh : ShG g
end Go.Proofs.YtdcplkefmpjppaaGreatDoor
/- The law BelowOrder; a symbolic walk. -/
-- TYPESA
namespace Go.Proofs.YtdcplkefmpjppaaGreatDoor
open Go.RowKit Go.Sw

end Go.Proofs.YtdcplkefmpjppaaGreatDoor
/- dual.Of, below.Graphs, the law BelowDual; a symbolic walk. -/
-- TYPESA
namespace Go.Proofs.YtdcplkefmpjppaaGreatDoor
open Go.RowKit Go.Sw

def dG (x : Tp) : List Nd:=if tCheck x = 0 then leastP (dualRaw (ofP x)) else []
set_option maxHeartbeats 8000000 in
set_option maxRecDepth 100000 in
theorem dOf_fn (Γ : Gl) (hΓ : PowT Γ) (x : Tp) : DFn Tryz.prog Γ 42 [x.d] (.tup [.slc ((dG x).map Nd.d),iD (tCheck x)]):=by
 have ho:=of_fn Γ x
 unfold OfFn at ho
 have hd : tCheck x = 0 → DFn Tryz.prog Γ 72 [.slc ((ofP x).map Nd.d)] (.tup [.slc ((dG x).map Nd.d),iD 0]):=fun h=>by
  obtain ⟨a1,a2,a3⟩:=ofP_good h
  have:=dual_fn Γ hΓ (ofP x) a1 (by omega) a3 (ofP_sh h)
  unfold dG
  rw [if_pos h]
  exact this
 have hz : tCheck x ≠ 0 → (dG x).map Nd.d = []:=fun h=>by unfold dG;rw [if_neg h];rfl
 generalize (dG x).map Nd.d = B at *
 generalize (ofP x).map Nd.d = A at *
 generalize tCheck x = c at *
 obtain ⟨k,so,nm,ls,l⟩:=x
 simp only [Tp.d] at ho ⊢
 by_cases hc : c = 0
 · have hd':=hd hc
   clear hd
   subst hc
   refine fn_of_swp (N:=18) Tryz.func42 rfl (by decide) rfl rfl (by simp) (fun C h0=>?_)
   simp only [argE]
   repeat' (first|(with_reducible apply zz1)|((with_reducible apply zz2);rfl;intro K' hK';simp only [WA,simprocAttr];(repeat (constructor;focus (clear hK';intros;simp_all;done)));(try (apply hK';clear hK' K')))|((with_reducible apply zz3);rfl;all_goals (intro h;try exact absurd h (by decide))))
   refine stop_call h0 rfl (by simp only [WA,simprocAttr]) rfl (by simp only [keepS,Option.isSome_some,WA,simprocAttr]) (ho) ?_
   simp only [WA,simprocAttr,inX,dropS, ]
   (repeat (constructor;focus (clear hK';intros;simp_all;done)))
   (try (apply hK';clear hK' K'))
   repeat' (first|(with_reducible apply zz1)|((with_reducible apply zz2);rfl;intro K' hK';simp only [WA,simprocAttr,bne_self_eq_false];(repeat (constructor;focus (clear hK';intros;simp_all;done)));(try (apply hK';clear hK' K')))|((with_reducible apply zz3);rfl;all_goals (intro h;try exact absurd h (by decide))))
   refine stop_call h0 rfl (by simp only [WA,simprocAttr]) rfl (by simp only [keepS,Option.isSome_some,WA,simprocAttr]) (hd') ?_
   simp only [WA,simprocAttr,inX,dropS, ]
   (repeat (constructor;focus (clear hK';intros;simp_all;done)))
   (try (apply hK';clear hK' K'))
   repeat' (first|(with_reducible apply zz1)|((with_reducible apply zz2);rfl;intro K' hK';simp only [WA,simprocAttr];(repeat (constructor;focus (clear hK';intros;simp_all;done)));(try (apply hK';clear hK' K')))|((with_reducible apply zz3);rfl;all_goals (intro h;try exact absurd h (by decide))))
   simp only [Kret,retL,retOne,oneV,WA,simprocAttr]
 · have g1 : (c != 0) = true:=by simpa using hc
   rw [hz hc]
   refine fn_of_swp (N:=18) Tryz.func42 rfl (by decide) rfl rfl (by simp) (fun C h0=>?_)
   simp only [argE]
   repeat' (first|(with_reducible apply zz1)|((with_reducible apply zz2);rfl;intro K' hK';simp only [WA,simprocAttr];(repeat (constructor;focus (clear hK';intros;simp_all;done)));(try (apply hK';clear hK' K')))|((with_reducible apply zz3);rfl;all_goals (intro h;try exact absurd h (by decide))))
   refine stop_call h0 rfl (by simp only [WA,simprocAttr]) rfl (by simp only [keepS,Option.isSome_some,WA,simprocAttr]) (ho) ?_
   simp only [WA,simprocAttr,inX,dropS, ]
   (repeat (constructor;focus (clear hK';intros;simp_all;done)))
   (try (apply hK';clear hK' K'))
   repeat' (first|(with_reducible apply zz1)|((with_reducible apply zz2);rfl;intro K' hK';simp only [WA,simprocAttr,g1];(repeat (constructor;focus (clear hK';intros;simp_all;done)));(try (apply hK';clear hK' K')))|((with_reducible apply zz3);rfl;all_goals (intro h;try exact absurd h (by decide))))
   simp only [Kret,retL,retOne,oneV,WA,simprocAttr]
end Go.Proofs.YtdcplkefmpjppaaGreatDoor
