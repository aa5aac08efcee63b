/- The law BelowDuals; a symbolic walk. -/
import Derived.Test.YtgecnlcbdbaneaaDoorKB3
import Derived.Test.YtgecnlcbdbaneaaDoorH17
import Derived.Test.YtgecnlcbdbaneaaDoorU6
import Derived.Lib.LaidTab
-- TYPESD
set_option linter.unusedVariables false
set_option linter.unusedSimpArgs false
namespace Go.Proofs.YtgecnlcbdbaneaaDoor
open Go.RowKit Go.Sw

theorem first_meet : bdE endT endT 0 = 0 ∧ (bdR endT endT 0).length = 1:=by decide +kernel
theorem eqG_refl (g : List Nd) : eqG g g = true:=eqG_iff.2 rfl
set_option maxHeartbeats 16000000 in
set_option maxRecDepth 100000 in
theorem dualsLaw (Γ : Gl) (hΓ : PowT Γ) (x y : Tp) : DFn Tryd.prog Γ 7 [x.d,y.d] (.v (.bool true)):=by
 have hF:=meet_fn Γ hΓ endT endT
 have hl1:=first_meet.2
 rw [first_meet.1] at hF
 simp only [endT,Tp.d,Tp.ds,List.map_nil] at hF
 obtain ⟨F,hFe⟩ : ∃ F,(bdR (.mk 1 0 noB [] []) (.mk 1 0 noB [] []) 0).map Nd.d = F:=⟨_,rfl⟩
 have hFl : F.length = 1:=by rw [← hFe,List.length_map];exact hl1
 rw [hFe] at hF
 have hFl2 : ((F.length : Int) != 1) = false:=by rw [hFl];rfl
 clear hFe hl1 hFl
 have hJ:=join_fn Γ hΓ x y
 have hD1:=dOf_fn Γ hΓ x
 have hD2:=dOf_fn Γ hΓ y
 obtain ⟨P,v,hK1,hp⟩:=back_any Γ (x:=x)
 obtain ⟨Q,w,hK2,hq⟩:=back_any Γ (x:=y)
 have hM:=meet_fn Γ hΓ P Q
 have hkey : v = true → w = true → bdE x y 1 ≠ 2 → bdE P Q 0 ≠ 2 → (bdE x y 1 = 8 ∧ bdE P Q 0 = 8) ∨ (bdE x y 1 = 0 ∧ bdE P Q 0 = 0 ∧
  (((bdR x y 1).map Nd.d).length ≤ 100 → DFn Tryd.prog Γ 27 [.slc ((bdR x y 1).map Nd.d)] (.tup [.slc ((bdR P Q 0).map Nd.d),iD 0])) ∧
  DFn Tryd.prog Γ 16 [.slc ((bdR P Q 0).map Nd.d),.slc ((bdR P Q 0).map Nd.d)] (bD true)):=fun h1 h2 h3 h4=>by
  obtain ⟨tx,tP,oP⟩:=hp h1
  obtain ⟨ty,tQ,oQ⟩:=hq h2
  have c1:=bErr_of tx ty
  have c2:=bErr_of tP tQ
  unfold bdE at h3 h4 ⊢
  unfold bdR
  rw [if_pos c1] at h3 ⊢
  rw [if_pos c2] at h4 ⊢
  rw [if_pos c1,if_pos c2]
  have A:=ofP_gd tx
  have B:=ofP_gd ty
  have A':=ofP_gd tP
  have B':=ofP_gd tQ
  rcases bndE_val (ofP x) (ofP y) 1 with e | e | e
  · rcases bndE_val (ofP P) (ofP Q) 0 with f | f | f
    · refine .inr ⟨e,f,fun hl=>?_,?_⟩
      · obtain ⟨-, -,HJ, -, -⟩:=bnd_both A B (.inr rfl) e
        have:=dual_fn Γ hΓ (bndG (ofP x) (ofP y) 1) HJ.pos (by simpa using hl) HJ.ok HJ.sh
        rwa [dual_eq A B A' B' oP oQ e f] at this
      · obtain ⟨-, -,HM, -, -⟩:=bnd_both A' B' (.inl rfl) f
        have:=equalG_fn Γ (bndG (ofP P) (ofP Q) 0) (bndG (ofP P) (ofP Q) 0) (by have:=HM.le;omega) fun n hn=>by
         have:=(HM.ok n hn).ok
         have h1:=this.ls
         have h2:=this.to
         omega
        rwa [eqG_refl] at this
    · exact absurd f h4
    · exact absurd f (dual_lo A B A' B' oP oQ e).1
  · exact absurd e h3
  · rcases bndE_val (ofP P) (ofP Q) 0 with f | f | f
    · exact absurd e (dual_hi A B A' B' oP oQ f).1
    · exact absurd f h4
    · exact .inl ⟨e,f⟩
 clear hp hq
 generalize bdE x y 1 = e at *
 generalize bdE P Q 0 = f at *
 generalize (bdR x y 1).map Nd.d = J' at *
 generalize (bdR P Q 0).map Nd.d = M' at *
 generalize (dG x).map Nd.d = D1 at *
 generalize (dG y).map Nd.d = D2 at *
 generalize tCheck x = cx at *
 generalize tCheck y = cy at *
 obtain ⟨k,so,nm,ls,l⟩:=x
 obtain ⟨k',so',nm',ls',l'⟩:=y
 obtain ⟨k2,so2,nm2,ls2,l2⟩:=P
 obtain ⟨k3,so3,nm3,ls3,l3⟩:=Q
 simp only [Tp.d] at hJ hM hD1 hD2 hK1 hK2 ⊢
 refine fn_of_swp (N:=93) Tryd.func7 rfl (by decide) rfl rfl (by simp) (fun C h0=>?_)
 simp only [argE]
 repeat' (first|(with_reducible apply zz1)|((with_reducible refine zz4 ?_ ?_);rfl)|((with_reducible refine zz2 ?_ (fun K' hK'=>?_));rfl;simp only [WD,simprocAttr];(repeat (refine And.intro ?_ ?_;focus (clear hK';intros;simp_all;done)));(try (refine hK' _ _ ?_;clear hK' K')))|((with_reducible refine zz3 ?_ ?_);rfl;refine ⟨_,rfl,fun h=>?_,fun h=>?_⟩ <;> try exact absurd h (by decide)))
 refine stop_call h0 rfl (by simp only [WD,simprocAttr]) rfl (by simp only [keepS,Option.isSome_some,WD,simprocAttr]) (hF) ?_
 simp only [WD,simprocAttr,inX,dropS, ]
 (repeat (refine And.intro ?_ ?_;focus (clear hK';intros;simp_all;done)))
 (try (refine hK' _ _ ?_;clear hK' K'))
 repeat' (first|(with_reducible apply zz1)|((with_reducible refine zz4 ?_ ?_);rfl)|((with_reducible refine zz2 ?_ (fun K' hK'=>?_));rfl;simp only [WD,simprocAttr,hFl2,Bool.not_true,Bool.not_false,cond_true,cond_false,bne_self_eq_false,beq_self_eq_true];(repeat (refine And.intro ?_ ?_;focus (clear hK';intros;simp_all;done)));(try (refine hK' _ _ ?_;clear hK' K')))|((with_reducible refine zz3 ?_ ?_);rfl;refine ⟨_,rfl,fun h=>?_,fun h=>?_⟩ <;> try exact absurd h (by decide)))
 refine stop_call h0 rfl (by simp only [WD,simprocAttr]) rfl (by simp only [keepS,Option.isSome_some,WD,simprocAttr]) (hJ) ?_
 simp only [WD,simprocAttr,inX,dropS, ]
 (repeat (refine And.intro ?_ ?_;focus (clear hK';intros;simp_all;done)))
 (try (refine hK' _ _ ?_;clear hK' K'))
 by_cases he2 : e = 2
 · have g1 : (e == 2) = true:=by simpa using he2
   repeat' (first|(with_reducible apply zz1)|((with_reducible refine zz4 ?_ ?_);rfl)|((with_reducible refine zz2 ?_ (fun K' hK'=>?_));rfl;simp only [WD,simprocAttr,g1,Bool.not_true,Bool.not_false,cond_true,cond_false,bne_self_eq_false,beq_self_eq_true];(repeat (refine And.intro ?_ ?_;focus (clear hK';intros;simp_all;done)));(try (refine hK' _ _ ?_;clear hK' K')))|((with_reducible refine zz3 ?_ ?_);rfl;refine ⟨_,rfl,fun h=>?_,fun h=>?_⟩ <;> try exact absurd h (by decide)))
   simp only [Kret,retL,retOne,oneV,WD,simprocAttr]
 have g1 : (e == 2) = false:=by simpa using he2
 by_cases hl : 100 < (J'.length : Int)
 · repeat' (first|(with_reducible apply zz1)|((with_reducible refine zz4 ?_ ?_);rfl)|((with_reducible refine zz2 ?_ (fun K' hK'=>?_));rfl;simp only [WD,simprocAttr,g1,hl,Bool.not_true,Bool.not_false,cond_true,cond_false,bne_self_eq_false,beq_self_eq_true];(repeat (refine And.intro ?_ ?_;focus (clear hK';intros;simp_all;done)));(try (refine hK' _ _ ?_;clear hK' K')))|((with_reducible refine zz3 ?_ ?_);rfl;refine ⟨_,rfl,fun h=>?_,fun h=>?_⟩ <;> try exact absurd h (by decide)))
   simp only [Kret,retL,retOne,oneV,WD,simprocAttr]
 have hl2 : J'.length ≤ 100:=by omega
 repeat' (first|(with_reducible apply zz1)|((with_reducible refine zz4 ?_ ?_);rfl)|((with_reducible refine zz2 ?_ (fun K' hK'=>?_));rfl;simp only [WD,simprocAttr,g1,hl,Bool.not_true,Bool.not_false,cond_true,cond_false,bne_self_eq_false,beq_self_eq_true];(repeat (refine And.intro ?_ ?_;focus (clear hK';intros;simp_all;done)));(try (refine hK' _ _ ?_;clear hK' K')))|((with_reducible refine zz3 ?_ ?_);rfl;refine ⟨_,rfl,fun h=>?_,fun h=>?_⟩ <;> try exact absurd h (by decide)))
 refine stop_call h0 rfl (by simp only [WD,simprocAttr]) rfl (by simp only [keepS,Option.isSome_some,WD,simprocAttr]) (hD1) ?_
 simp only [WD,simprocAttr,inX,dropS, ]
 (repeat (refine And.intro ?_ ?_;focus (clear hK';intros;simp_all;done)))
 (try (refine hK' _ _ ?_;clear hK' K'))
 refine stop_call h0 rfl (by simp only [WD,simprocAttr]) rfl (by simp only [keepS,Option.isSome_some,WD,simprocAttr]) (hK1) ?_
 simp only [WD,simprocAttr,inX,dropS, ]
 (repeat (refine And.intro ?_ ?_;focus (clear hK';intros;simp_all;done)))
 (try (refine hK' _ _ ?_;clear hK' K'))
 repeat' (first|(with_reducible apply zz1)|((with_reducible refine zz4 ?_ ?_);rfl)|((with_reducible refine zz2 ?_ (fun K' hK'=>?_));rfl;simp only [WD,simprocAttr];(repeat (refine And.intro ?_ ?_;focus (clear hK';intros;simp_all;done)));(try (refine hK' _ _ ?_;clear hK' K')))|((with_reducible refine zz3 ?_ ?_);rfl;refine ⟨_,rfl,fun h=>?_,fun h=>?_⟩ <;> try exact absurd h (by decide)))
 refine stop_call h0 rfl (by simp only [WD,simprocAttr]) rfl (by simp only [keepS,Option.isSome_some,WD,simprocAttr]) (hD2) ?_
 simp only [WD,simprocAttr,inX,dropS, ]
 (repeat (refine And.intro ?_ ?_;focus (clear hK';intros;simp_all;done)))
 (try (refine hK' _ _ ?_;clear hK' K'))
 refine stop_call h0 rfl (by simp only [WD,simprocAttr]) rfl (by simp only [keepS,Option.isSome_some,WD,simprocAttr]) (hK2) ?_
 simp only [WD,simprocAttr,inX,dropS, ]
 (repeat (refine And.intro ?_ ?_;focus (clear hK';intros;simp_all;done)))
 (try (refine hK' _ _ ?_;clear hK' K'))
 cases v with
 | false =>
  repeat' (first|(with_reducible apply zz1)|((with_reducible refine zz4 ?_ ?_);rfl)|((with_reducible refine zz2 ?_ (fun K' hK'=>?_));rfl;simp only [WD,simprocAttr,Bool.not_true,Bool.not_false,cond_true,cond_false,bne_self_eq_false,beq_self_eq_true];(repeat (refine And.intro ?_ ?_;focus (clear hK';intros;simp_all;done)));(try (refine hK' _ _ ?_;clear hK' K')))|((with_reducible refine zz3 ?_ ?_);rfl;refine ⟨_,rfl,fun h=>?_,fun h=>?_⟩ <;> try exact absurd h (by decide)))
  simp only [Kret,retL,retOne,oneV,WD,simprocAttr]
 | true =>
 cases w with
 | false =>
  repeat' (first|(with_reducible apply zz1)|((with_reducible refine zz4 ?_ ?_);rfl)|((with_reducible refine zz2 ?_ (fun K' hK'=>?_));rfl;simp only [WD,simprocAttr,Bool.not_true,Bool.not_false,cond_true,cond_false,bne_self_eq_false,beq_self_eq_true];(repeat (refine And.intro ?_ ?_;focus (clear hK';intros;simp_all;done)));(try (refine hK' _ _ ?_;clear hK' K')))|((with_reducible refine zz3 ?_ ?_);rfl;refine ⟨_,rfl,fun h=>?_,fun h=>?_⟩ <;> try exact absurd h (by decide)))
  simp only [Kret,retL,retOne,oneV,WD,simprocAttr]
 | true =>
 repeat' (first|(with_reducible apply zz1)|((with_reducible refine zz4 ?_ ?_);rfl)|((with_reducible refine zz2 ?_ (fun K' hK'=>?_));rfl;simp only [WD,simprocAttr,Bool.not_true,Bool.not_false,cond_true,cond_false,bne_self_eq_false,beq_self_eq_true];(repeat (refine And.intro ?_ ?_;focus (clear hK';intros;simp_all;done)));(try (refine hK' _ _ ?_;clear hK' K')))|((with_reducible refine zz3 ?_ ?_);rfl;refine ⟨_,rfl,fun h=>?_,fun h=>?_⟩ <;> try exact absurd h (by decide)))
 refine stop_call h0 rfl (by simp only [WD,simprocAttr]) rfl (by simp only [keepS,Option.isSome_some,WD,simprocAttr]) (hM) ?_
 simp only [WD,simprocAttr,inX,dropS, ]
 (repeat (refine And.intro ?_ ?_;focus (clear hK';intros;simp_all;done)))
 (try (refine hK' _ _ ?_;clear hK' K'))
 by_cases hf2 : f = 2
 · have g2 : (f == 2) = true:=by simpa using hf2
   repeat' (first|(with_reducible apply zz1)|((with_reducible refine zz4 ?_ ?_);rfl)|((with_reducible refine zz2 ?_ (fun K' hK'=>?_));rfl;simp only [WD,simprocAttr,g2,Bool.not_true,Bool.not_false,cond_true,cond_false,bne_self_eq_false,beq_self_eq_true];(repeat (refine And.intro ?_ ?_;focus (clear hK';intros;simp_all;done)));(try (refine hK' _ _ ?_;clear hK' K')))|((with_reducible refine zz3 ?_ ?_);rfl;refine ⟨_,rfl,fun h=>?_,fun h=>?_⟩ <;> try exact absurd h (by decide)))
   simp only [Kret,retL,retOne,oneV,WD,simprocAttr]
 have g2 : (f == 2) = false:=by simpa using hf2
 rcases hkey rfl rfl he2 hf2 with ⟨rfl,rfl⟩ | ⟨rfl,rfl,hG,hE⟩
 · clear hkey
   repeat' (first|(with_reducible apply zz1)|((with_reducible refine zz4 ?_ ?_);rfl)|((with_reducible refine zz2 ?_ (fun K' hK'=>?_));rfl;simp only [WD,simprocAttr,Bool.not_true,Bool.not_false,cond_true,cond_false,bne_self_eq_false,beq_self_eq_true];(repeat (refine And.intro ?_ ?_;focus (clear hK';intros;simp_all;done)));(try (refine hK' _ _ ?_;clear hK' K')))|((with_reducible refine zz3 ?_ ?_);rfl;refine ⟨_,rfl,fun h=>?_,fun h=>?_⟩ <;> try exact absurd h (by decide)))
   simp only [Kret,retL,retOne,oneV,WD,simprocAttr]
 have hG:=hG hl2
 clear hkey
 repeat' (first|(with_reducible apply zz1)|((with_reducible refine zz4 ?_ ?_);rfl)|((with_reducible refine zz2 ?_ (fun K' hK'=>?_));rfl;simp only [WD,simprocAttr,Bool.not_true,Bool.not_false,cond_true,cond_false,bne_self_eq_false,beq_self_eq_true];(repeat (refine And.intro ?_ ?_;focus (clear hK';intros;simp_all;done)));(try (refine hK' _ _ ?_;clear hK' K')))|((with_reducible refine zz3 ?_ ?_);rfl;refine ⟨_,rfl,fun h=>?_,fun h=>?_⟩ <;> try exact absurd h (by decide)))
 refine stop_call h0 rfl (by simp only [WD,simprocAttr]) rfl (by simp only [keepS,Option.isSome_some,WD,simprocAttr]) (hG) ?_
 simp only [WD,simprocAttr,inX,dropS, ]
 (repeat (refine And.intro ?_ ?_;focus (clear hK';intros;simp_all;done)))
 (try (refine hK' _ _ ?_;clear hK' K'))
 refine kseq_n ?_
 repeat (with_reducible refine swp_seq ?_)
 (with_reducible refine swp_regionA ?_ ( [(5,bD true)]) (fun K' hK'=>?_)
  · rfl
  simp only [WD,simprocAttr,UG,hE,Bool.not_true,Bool.not_false,cond_true,cond_false,bne_self_eq_false,beq_self_eq_true ]
  (repeat (refine And.intro ?_ ?_;focus (clear hK';intros;simp_all;done)))
  (try (refine hK' _ _ ?_;clear hK' K')))
 repeat' (first|(with_reducible apply zz1)|((with_reducible refine zz4 ?_ ?_);rfl)|((with_reducible refine zz2 ?_ (fun K' hK'=>?_));rfl;simp only [WD,simprocAttr,Bool.not_true,Bool.not_false,cond_true,cond_false,bne_self_eq_false,beq_self_eq_true];(repeat (refine And.intro ?_ ?_;focus (clear hK';intros;simp_all;done)));(try (refine hK' _ _ ?_;clear hK' K')))|((with_reducible refine zz3 ?_ ?_);rfl;refine ⟨_,rfl,fun h=>?_,fun h=>?_⟩ <;> try exact absurd h (by decide)))
 simp only [Kret,retL,retOne,oneV,WD,simprocAttr]
end Go.Proofs.YtgecnlcbdbaneaaDoor
/- The table of powers, where it is laid. -/
namespace Go.Proofs.YtgecnlcbdbaneaaDoor
open Go.RowKit Go.Sw

theorem pow10_at : Tryd.prog.globalNamed "internal/strconv.uint64pow10" = some 2 := by kernel_rfl
theorem pow_of {laid : List (String × DataW Unit)} {W : World} (hp : (laid.filter fun x=>x.2.handleName?.isSome) = []) (h : laidMetH Tryd.prog laid W)
 (h3 : ("internal/strconv.uint64pow10", Rows.laid_internal_strconv_uint64pow10) ∈ laid) : Lib.TabIs Tryd.prog W "internal/strconv.uint64pow10" .u64 Lib.pow10Tab := by
 have h' : laidMet Tryd.prog laid W:=by
  unfold laidMetH at h
  rw [hp] at h
  exact h
 obtain ⟨g',t',cs,fuel,p,hg',ht',hvar,hd⟩:=Lib.laidMet.reads h' h3
 obtain rfl:=Option.some.inj (pow10_at.symm.trans hg')
 have e : (Rows.laid_internal_strconv_uint64pow10 : DataW Unit) = Lib.tabData .u64 Lib.pow10Tab:=by kernel_rfl
 rw [e] at hd
 unfold Lib.TabIs
 have ht2 : (Tryd.prog.globals[2]?).map (·.type) = some 186:=by kernel_rfl
 obtain rfl:=Option.some.inj (ht2.symm.trans ht')
 have hc:=Lib.cells_of_tab (n:=20) (e:=161) (by kernel_rfl) (by kernel_rfl) (by kernel_rfl) (by kernel_rfl) hd
 rw [hvar, ← hc]
theorem pow_GW {W : World} (h : Lib.TabIs Tryd.prog W "internal/strconv.uint64pow10" .u64 Lib.pow10Tab) : PowT (GW W) := by
 intro w hw
 have hlt : 2 < W.heap.size:=by
  unfold Lib.TabIs World.var? at h
  rw [pow10_at] at h
  simp only [Option.bind_some] at h
  cases hb : W.heap[2]? with
  | none=>rw [hb] at h;cases h
  | some b=>exact (Array.getElem?_eq_some_iff.1 hb).1
 unfold Lib.TabIs World.var? at h ⊢
 rw [pow10_at] at h ⊢
 simp only [Option.bind_some] at h ⊢
 rw [hw 2 hlt]
 exact h
end Go.Proofs.YtgecnlcbdbaneaaDoor
