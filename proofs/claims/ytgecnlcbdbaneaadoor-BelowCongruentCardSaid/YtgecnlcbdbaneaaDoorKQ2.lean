/- The law BelowCongruent; a symbolic walk. -/
-- TYPESC
import Derived.Test.YtgecnlcbdbaneaaDoorKQ1
import Derived.Test.YtgecnlcbdbaneaaDoorH17
set_option linter.unusedVariables false
set_option linter.unusedSimpArgs false
namespace Go.Proofs.YtgecnlcbdbaneaaDoor
open Go.RowKit Go.Sw
open Nat renaming reduceAdd → zn2
open Go.Sw renaming swp_seq → zw0, kseq_n → zw6, swp_region → zw17

theorem sl69 : Tryd.prog.underlying 69 = some (.slice 56):=by kernel_rfl
theorem info56 : ∃ i z,Tryd.prog.info? 56 = some i ∧ i.zero = some z ∧ i.size = 1:=by
 cases h : Tryd.prog.info? 56 with
 | none=>exact absurd (show (Tryd.prog.info? 56).isSome = true by kernel_rfl) (by rw [h];decide)
 | some i =>
  have h1 : ((Tryd.prog.info? 56).bind (·.zero)).isSome = true:=by kernel_rfl
  have h2 : (Tryd.prog.info? 56).map (·.size) = some 1:=by kernel_rfl
  rw [h] at h1 h2
  obtain ⟨z,hz⟩:=Option.isSome_iff_exists.1 h1
  exact ⟨i,z,rfl,hz,by simpa using h2⟩
def FamOK (Γ : Gl) (x y : Tp) (p : Bool) (f : FuncId) (caps : List SV) (u v : Tp) : Prop :=
 SFn Tryd.prog Γ f (.d x.d :: caps) [] (.d u.d) [] ∧ SFn Tryd.prog Γ f (.d y.d :: caps) [] (.d v.d) [] ∧ (tCheck u = 0 → tCheck v = 0 → isP u v = p) ∧ szT u ∧ szT v
theorem sz_c1 {k so : Int} {x : Tp} (hx : szT x) : szT (.mk k so noB [] [x]):=⟨⟨by decide,by simp,by simp,by simp⟩,hx,trivial⟩
theorem sz_e : szT endT:=⟨⟨by decide,by simp,by simp,by simp⟩,trivial⟩
theorem sz_c2 {k so : Int} {ls : List ByteArray} {x y : Tp} (hl : ls = [] ∨ ls = [aS,bS]) (hx : szT x) (hy : szT y) : szT (.mk k so noB ls [x,y]):=by
 refine ⟨⟨by decide,?_,?_,by simp⟩,hx,hy,trivial⟩
 · rcases hl with rfl | rfl <;> simp
 · rcases hl with rfl | rfl
   · simp
   · intro s hs
     rcases List.mem_cons.1 hs with rfl | hs
     · decide
     · rw [List.mem_singleton] at hs;subst hs;decide
theorem sz_q {x : Tp} (hx : szT x) : szT (c7T x):=⟨⟨by decide,by simp,by simp,by simp⟩,hx,trivial⟩
set_option maxHeartbeats 16000000 in
set_option maxRecDepth 100000 in
theorem congLaw (Γ : Gl) (x y : Tp) (hsx : szT x) (hsy : szT y) : DFn Tryd.prog Γ 11 [x.d,y.d] (.v (.bool true)):=by
 have hF:=isT_fn Γ endT endT
 rw [first_is.1,first_is.2] at hF
 simp only [endT,Tp.d,Tp.ds,List.map_nil] at hF
 have hI:=isT_fn Γ x y
 by_cases hc : bErr x y = 0
 rotate_left
 · rw [isP_bad hc] at hI
   have g1 : (bErr x y != 0) = true:=by simpa using hc
   generalize bErr x y = c at *
   obtain ⟨k,so,nm,ls,l⟩:=x
   obtain ⟨k',so',nm',ls',l'⟩:=y
   simp only [Tp.d] at hI ⊢
   refine fn_of_swp (N:=111) Tryd.func11 rfl (by decide) rfl rfl (by simp) (fun C h0=>?_)
   simp only [argE]
   repeat' (first|(with_reducible apply zz1)|((with_reducible refine zz4 ?_ ?_);rfl)|((with_reducible refine zz2 ?_ (fun K' hK'=>?_));rfl;simp only [WC,simprocAttr];(repeat (refine And.intro ?_ ?_;focus (clear hK';intros;simp_all;done)));(try (refine hK' _ _ ?_;clear hK' K')))|((with_reducible refine zz3 ?_ ?_);rfl;refine ⟨_,rfl,fun h=>?_,fun h=>?_⟩ <;> try exact absurd h (by decide)))
   refine stop_call h0 rfl (by simp only [WC,simprocAttr]) rfl (by simp only [keepS,Option.isSome_some,WC,simprocAttr]) (hF) ?_
   simp only [WC,simprocAttr,inX,dropS, ]
   (repeat (refine And.intro ?_ ?_;focus (clear hK';intros;simp_all;done)))
   (try (refine hK' _ _ ?_;clear hK' K'))
   repeat' (first|(with_reducible apply zz1)|((with_reducible refine zz4 ?_ ?_);rfl)|((with_reducible refine zz2 ?_ (fun K' hK'=>?_));rfl;simp only [WC,simprocAttr,Bool.not_true,Bool.not_false,cond_true,cond_false,bne_self_eq_false,beq_self_eq_true];(repeat (refine And.intro ?_ ?_;focus (clear hK';intros;simp_all;done)));(try (refine hK' _ _ ?_;clear hK' K')))|((with_reducible refine zz3 ?_ ?_);rfl;refine ⟨_,rfl,fun h=>?_,fun h=>?_⟩ <;> try exact absurd h (by decide)))
   refine stop_call h0 rfl (by simp only [WC,simprocAttr]) rfl (by simp only [keepS,Option.isSome_some,WC,simprocAttr]) (hI) ?_
   simp only [WC,simprocAttr,inX,dropS, ]
   (repeat (refine And.intro ?_ ?_;focus (clear hK';intros;simp_all;done)))
   (try (refine hK' _ _ ?_;clear hK' K'))
   repeat' (first|(with_reducible apply zz1)|((with_reducible refine zz4 ?_ ?_);rfl)|((with_reducible refine zz2 ?_ (fun K' hK'=>?_));rfl;simp only [WC,simprocAttr,g1,Bool.not_true,Bool.not_false,cond_true,cond_false,bne_self_eq_false,beq_self_eq_true];(repeat (refine And.intro ?_ ?_;focus (clear hK';intros;simp_all;done)));(try (refine hK' _ _ ?_;clear hK' K')))|((with_reducible refine zz3 ?_ ?_);rfl;refine ⟨_,rfl,fun h=>?_,fun h=>?_⟩ <;> try exact absurd h (by decide)))
   simp only [Kret,retL,retOne,oneV,WC,simprocAttr,Bool.not_true,Bool.not_false,cond_true,cond_false,bne_self_eq_false,beq_self_eq_true]
 rw [hc] at hI
 obtain ⟨tx,ty⟩:=bErr_zero hc
 have F0 : FamOK Γ x y (isP x y) 38 [] (c1T x) (c1T y):=⟨clo1 Γ x,clo1 Γ y,fun h1 h2=>cong1 tx ty h1 h2,(sz_c1 hsx),(sz_c1 hsy)⟩
 have F1 : FamOK Γ x y (isP x y) 39 [] (c2T x) (c2T y):=⟨clo2 Γ x,clo2 Γ y,fun h1 h2=>cong2 tx ty h1 h2,(sz_c1 hsx),(sz_c1 hsy)⟩
 have F2 : FamOK Γ x y (isP x y) 40 [.fptr (.agg [iD 1,iD 0,sD noB,.slc [],.slc []]) 0] (c3T x) (c3T y):=⟨clo3 Γ x,clo3 Γ y,fun h1 h2=>cong3 tx ty h1 h2,(sz_c2 (.inl rfl) sz_e hsx),(sz_c2 (.inl rfl) sz_e hsy)⟩
 have F3 : FamOK Γ x y (isP x y) 41 [.fptr (.agg [iD 1,iD 0,sD noB,.slc [],.slc []]) 0] (c4T x) (c4T y):=⟨clo4 Γ x,clo4 Γ y,fun h1 h2=>cong4 tx ty h1 h2,(sz_c2 (.inl rfl) hsx sz_e),(sz_c2 (.inl rfl) hsy sz_e)⟩
 have F4 : FamOK Γ x y (isP x y) 42 [.fptr (.agg [iD 1,iD 0,sD noB,.slc [],.slc []]) 0] (c5T x) (c5T y):=⟨clo5 Γ x,clo5 Γ y,fun h1 h2=>cong5 tx ty h1 h2,(sz_c2 (.inr rfl) hsx sz_e),(sz_c2 (.inr rfl) hsy sz_e)⟩
 have F5 : FamOK Γ x y (isP x y) 43 [.fptr (.agg [iD 1,iD 0,sD noB,.slc [],.slc []]) 0] (c6T x) (c6T y):=⟨clo6 Γ x,clo6 Γ y,fun h1 h2=>cong6 tx ty h1 h2,(sz_c2 (.inr rfl) sz_e hsx),(sz_c2 (.inr rfl) sz_e hsy)⟩
 have F6 : FamOK Γ x y (isP x y) 44 [] (c7T x) (c7T y):=⟨clo7 Γ x,clo7 Γ y,fun h1 h2=>cong7 tx ty h1 h2,(sz_q hsx),(sz_q hsy)⟩
 have hG1:=rType_fn Γ (gvT y) (sz_c2 (.inl rfl) hsy sz_e)
 have hG2:=rType_fn Γ (gvT x) (sz_c2 (.inl rfl) hsx sz_e)
 have hG3:=isT_fn Γ (gvT y) (gvT x)
 have hG4 : tCheck (gvT y) = 0 → tCheck (gvT x) = 0 → isP (gvT y) (gvT x) = isP x y ∧ bErr (gvT y) (gvT x) = 0:=fun h1 h2=>⟨cong8 tx ty h1 h2,bErr_of h1 h2⟩
 generalize tCheck (gvT y) = d1 at *
 generalize tCheck (gvT x) = d2 at *
 generalize isP (gvT y) (gvT x) = p2 at *
 generalize bErr (gvT y) (gvT x) = d3 at *
 obtain ⟨i69,z69,j69,k69,l69⟩:=info56
 generalize isP x y = p at *
 obtain ⟨k,so,nm,ls,l⟩:=x
 obtain ⟨k',so',nm',ls',l'⟩:=y
 simp only [gvT,endT,Tp.d,Tp.ds,List.map_nil] at hI hG1 hG2 hG3 ⊢
 refine fn_of_swp (N:=111) Tryd.func11 rfl (by decide) rfl rfl (by simp) (fun C h0=>?_)
 simp only [argE]
 repeat' (first|(with_reducible apply zz1)|((with_reducible refine zz4 ?_ ?_);rfl)|((with_reducible refine zz2 ?_ (fun K' hK'=>?_));rfl;simp only [WC,simprocAttr];(repeat (refine And.intro ?_ ?_;focus (clear hK';intros;simp_all;done)));(try (refine hK' _ _ ?_;clear hK' K')))|((with_reducible refine zz3 ?_ ?_);rfl;refine ⟨_,rfl,fun h=>?_,fun h=>?_⟩ <;> try exact absurd h (by decide)))
 refine stop_call h0 rfl (by simp only [WC,simprocAttr]) rfl (by simp only [keepS,Option.isSome_some,WC,simprocAttr]) (hF) ?_
 simp only [WC,simprocAttr,inX,dropS, ]
 (repeat (refine And.intro ?_ ?_;focus (clear hK';intros;simp_all;done)))
 (try (refine hK' _ _ ?_;clear hK' K'))
 repeat' (first|(with_reducible apply zz1)|((with_reducible refine zz4 ?_ ?_);rfl)|((with_reducible refine zz2 ?_ (fun K' hK'=>?_));rfl;simp only [WC,simprocAttr,Bool.not_true,Bool.not_false,cond_true,cond_false,bne_self_eq_false,beq_self_eq_true];(repeat (refine And.intro ?_ ?_;focus (clear hK';intros;simp_all;done)));(try (refine hK' _ _ ?_;clear hK' K')))|((with_reducible refine zz3 ?_ ?_);rfl;refine ⟨_,rfl,fun h=>?_,fun h=>?_⟩ <;> try exact absurd h (by decide)))
 refine stop_call h0 rfl (by simp only [WC,simprocAttr]) rfl (by simp only [keepS,Option.isSome_some,WC,simprocAttr]) (hI) ?_
 simp only [WC,simprocAttr,inX,dropS, ]
 (repeat (refine And.intro ?_ ?_;focus (clear hK';intros;simp_all;done)))
 (try (refine hK' _ _ ?_;clear hK' K'))
 refine zw6 ?_
 refine zw0 ?_
 refine zw0 ?_
 (with_reducible refine zw17 ?_ (fun K' hK'=>?_)
  · rfl
  simp only [WC,simprocAttr,Bool.not_true,Bool.not_false,cond_true,cond_false,bne_self_eq_false,beq_self_eq_true]
  (repeat (refine And.intro ?_ ?_;focus (clear hK';intros;simp_all;done))))
 refine hK' _ _ ?_
 clear hK' K'
 -- TRACE
 refine zw6 ?_
 refine swp_cond ?_ ?_
 · rfl
 refine ⟨_,rfl,fun h=>absurd h (by decide),fun h=>?_⟩
 clear h
 refine swp_skip ?_
 refine zw6 ?_
 refine zw0 ?_
 (with_reducible refine zw17 ?_ (fun K' hK'=>?_)
  · rfl
  simp only [WC,simprocAttr]
  (repeat (refine And.intro ?_ ?_;focus (clear hK';intros;simp_all;done))))
 refine hK' _ _ ?_
 clear hK' K'
 refine zw6 ?_
 refine zw0 ?_
 (with_reducible refine swp_regionS (fun K' hK'=>?_))
 refine vcTo_ok 4 rfl ?_
 simp only [WC,simprocAttr,vcTo]
 (repeat (refine And.intro ?_ ?_;focus (clear hK';intros;simp_all;done)))
 refine stop_bslS rfl sl69 j69 k69 l69 rfl (by decide) rfl ?_ rfl ?_
 · simp only [WC,simprocAttr]
 simp only [WC,simprocAttr]
 refine hK' _ _ ?_
 clear hK' K'
 refine zw6 ?_
 refine zw0 ?_
 refine zw0 ?_
 (with_reducible refine swp_regionS (fun K' hK'=>?_))
 refine vcTo_ok 1 rfl ?_
 simp only [WC,simprocAttr,vcTo]
 (repeat (refine And.intro ?_ ?_;focus (clear hK';intros;simp_all;done)))
 refine stop_lenS rfl sl69 rfl ?_
 simp only [WC,simprocAttr]
 refine hK' _ _ ?_
 clear hK' K'
 refine zw6 ?_
 refine swp_block ?_
 refine swp_loop (α := Nat) (fun q=>[(2,.ref 0 0),(3,.ref 1 0),(7,.d (bD p)),(9,.fptr (.agg [iD 1,iD 0,sD noB,.slc [],.slc []]) 0),(48,.sref 3 7),(49,.d (iD 7)),(50,.d (iD q))]) (fun _=>[(0,.cells [.d (iD k),.d (iD so),.d (sD nm),.d (.slc (ls.map sD)),.d (.slc (Tp.ds l))]),(1,.cells [.d (iD k'),.d (iD so'),.d (sD nm'),.d (.slc (ls'.map sD)),.d (.slc (Tp.ds l'))]),(3,.cells [.clo 38 [],.clo 39 [],.clo 40 [.fptr (.agg [iD 1,iD 0,sD noB,.slc [],.slc []]) 0],.clo 41 [.fptr (.agg [iD 1,iD 0,sD noB,.slc [],.slc []]) 0],.clo 42 [.fptr (.agg [iD 1,iD 0,sD noB,.slc [],.slc []]) 0],.clo 43 [.fptr (.agg [iD 1,iD 0,sD noB,.slc [],.slc []]) 0],.clo 44 []])]) (fun q=>q ≤ 7) (fun q=>7 - q) 0 (Nat.zero_le _) (by refine sub_of h0 ?_ ?_ ?_ <;> simp only [US,WC,simprocAttr]) (fun q hq=>?_)
 have hq : q ≤ 7:=hq
 by_cases hq7 : q < 7
 rotate_left
 · have g1 : ¬ ((q : Int) < 7):=by omega
   repeat' (first|(with_reducible apply zz1)|((with_reducible refine zz4 ?_ ?_);rfl)|((with_reducible refine zz2 ?_ (fun K' hK'=>?_));rfl;simp only [WC,simprocAttr,g1];(repeat (refine And.intro ?_ ?_;focus (clear hK';intros;simp_all;done)));(try (refine hK' _ _ ?_;clear hK' K')))|((with_reducible refine zz3 ?_ ?_);rfl;refine ⟨_,rfl,fun h=>?_,fun h=>?_⟩ <;> try exact absurd h (by decide)))
   (with_reducible refine swp_drawX ?_ ?_ ?_ (⟨⟨[],[]⟩,[],[],[],[]⟩) _ rfl (fun K' hK' gops fin hgops hfin=>?_)
    · kernel_rfl
    · rfl
    · rfl
    repeat' first
     | (refine vcX_dead rfl trivial (by simp only [WC,simprocAttr,UX,UA];rfl) (by simp only [List.nil_append,List.cons_append];rfl) (by simp only [zn2];rfl) ?_)
     | (refine vcX_step rfl rfl trivial (by simp only [WC,simprocAttr,UX,UA, ];rfl) ?_ (by simp only [WC,simprocAttr,UX,UA];rfl) (by simp only [WC,simprocAttr,UX,UA];rfl) (by simp only [List.nil_append,List.cons_append];rfl) (by simp only [zn2];rfl) ?_;focus (first | trivial | ((repeat' (refine And.intro ?_ ?_)) <;> first | trivial | assumption | (clear hK' hfin hgops;intros;simp_all;done))))
    (refine vcX_nil (by subst hfin;kernel_rfl) ?_)
    clear hfin hgops fin gops
    (try (refine hK' _ _ ?_;clear hK' K')))
   refine zw6 ?_
   -- TRACE
   refine swp_frz [4,5] h0 (by simp only [Option.isSome_some,UF,WC,simprocAttr]) ?_
   simp only [WC,simprocAttr,UF]
   refine zw0 ?_
   refine zw0 ?_
   by_cases h1 : d1 = 0
   rotate_left
   · have g2 : (d1 != 0) = true:=by simpa using h1
     (with_reducible refine swp_regionA ?_ ( [(1,iD d1),(5,iD d2)]) (fun K' hK'=>?_)
      · rfl
      simp only [WC,simprocAttr,UG,hG1,hG2,g2,Bool.not_true,Bool.not_false,cond_true,cond_false,bne_self_eq_false,beq_self_eq_true ]
      (repeat (refine And.intro ?_ ?_;focus (clear hK';intros;simp_all;done)))
      (try (refine hK' _ _ ?_;clear hK' K')))
     repeat' (first|(with_reducible apply zz1)|((with_reducible refine zz4 ?_ ?_);rfl)|((with_reducible refine zz2 ?_ (fun K' hK'=>?_));rfl;simp only [WC,simprocAttr,Bool.not_true,Bool.not_false,cond_true,cond_false,bne_self_eq_false,beq_self_eq_true];(repeat (refine And.intro ?_ ?_;focus (clear hK';intros;simp_all;done)));(try (refine hK' _ _ ?_;clear hK' K')))|((with_reducible refine zz3 ?_ ?_);rfl;refine ⟨_,rfl,fun h=>?_,fun h=>?_⟩ <;> try exact absurd h (by decide)))
     simp only [Kret,retL,retOne,oneV,WC,simprocAttr]
   subst h1
   by_cases h2 : d2 = 0
   rotate_left
   · have g2 : (d2 != 0) = true:=by simpa using h2
     (with_reducible refine swp_regionA ?_ ( [(1,iD 0),(5,iD d2)]) (fun K' hK'=>?_)
      · rfl
      simp only [WC,simprocAttr,UG,hG1,hG2,g2,Bool.not_true,Bool.not_false,cond_true,cond_false,bne_self_eq_false,beq_self_eq_true ]
      (repeat (refine And.intro ?_ ?_;focus (clear hK';intros;simp_all;done)))
      (try (refine hK' _ _ ?_;clear hK' K')))
     repeat' (first|(with_reducible apply zz1)|((with_reducible refine zz4 ?_ ?_);rfl)|((with_reducible refine zz2 ?_ (fun K' hK'=>?_));rfl;simp only [WC,simprocAttr,Bool.not_true,Bool.not_false,cond_true,cond_false,bne_self_eq_false,beq_self_eq_true];(repeat (refine And.intro ?_ ?_;focus (clear hK';intros;simp_all;done)));(try (refine hK' _ _ ?_;clear hK' K')))|((with_reducible refine zz3 ?_ ?_);rfl;refine ⟨_,rfl,fun h=>?_,fun h=>?_⟩ <;> try exact absurd h (by decide)))
     simp only [Kret,retL,retOne,oneV,WC,simprocAttr]
   subst h2
   obtain ⟨rfl,rfl⟩:=hG4 rfl rfl
   (with_reducible refine swp_regionA ?_ ( [(1,iD 0),(5,iD 0)]) (fun K' hK'=>?_)
    · rfl
    simp only [WC,simprocAttr,UG,hG1,hG2,Bool.not_true,Bool.not_false,cond_true,cond_false,bne_self_eq_false,beq_self_eq_true ]
    (repeat (refine And.intro ?_ ?_;focus (clear hK';intros;simp_all;done)))
    (try (refine hK' _ _ ?_;clear hK' K')))
   repeat' (first|(with_reducible apply zz1)|((with_reducible refine zz4 ?_ ?_);rfl)|((with_reducible refine zz2 ?_ (fun K' hK'=>?_));rfl;simp only [WC,simprocAttr,Bool.not_true,Bool.not_false,cond_true,cond_false,bne_self_eq_false,beq_self_eq_true];(repeat (refine And.intro ?_ ?_;focus (clear hK';intros;simp_all;done)));(try (refine hK' _ _ ?_;clear hK' K')))|((with_reducible refine zz3 ?_ ?_);rfl;refine ⟨_,rfl,fun h=>?_,fun h=>?_⟩ <;> try exact absurd h (by decide)))
   refine stop_call h0 rfl (by simp only [WC,simprocAttr]) rfl (by simp only [keepS,Option.isSome_some,WC,simprocAttr]) (hG3) ?_
   simp only [WC,simprocAttr,inX,dropS, ]
   (repeat (refine And.intro ?_ ?_;focus (clear hK';intros;simp_all;done)))
   (try (refine hK' _ _ ?_;clear hK' K'))
   repeat' (first|(with_reducible apply zz1)|((with_reducible refine zz4 ?_ ?_);rfl)|((with_reducible refine zz2 ?_ (fun K' hK'=>?_));rfl;simp only [WC,simprocAttr,Bool.not_true,Bool.not_false,cond_true,cond_false,bne_self_eq_false,beq_self_eq_true];(repeat (refine And.intro ?_ ?_;focus (clear hK';intros;simp_all;done)));(try (refine hK' _ _ ?_;clear hK' K')))|((with_reducible refine zz3 ?_ ?_);rfl;refine ⟨_,rfl,fun h=>?_,fun h=>?_⟩ <;> try exact absurd h (by decide)))
   simp only [Kret,retL,retOne,oneV,WC,simprocAttr]
 have g1 : (q : Int) < 7:=by omega
 have hw : IntKind.i64.wrap ((q : Int) + 1) = ((q + 1 : Nat) : Int):=by rw [wrap_in (by omega) (by omega)];omega
 refine zw0 ?_
 (with_reducible refine zw17 ?_ (fun K' hK'=>?_)
  · rfl
  simp only [WC,simprocAttr,g1]
  (repeat (refine And.intro ?_ ?_;focus (clear hK';intros;simp_all;done))))
 refine hK' _ _ ?_
 clear hK' K'
 refine zw6 ?_
 refine zw0 ?_
 refine swp_cond ?_ ?_
 · rfl
 refine ⟨_,rfl,fun h=>?_,fun h=>absurd h (by decide)⟩
 clear h
 refine swp_skip ?_
 refine zw6 ?_
 refine zw0 ?_
 refine swp_block ?_
 refine zw0 ?_
 by_cases hq0 : q = 0 ∨ q = 1 ∨ q = 6
 · refine swp_midF (ι := FuncId × Tp × Tp) (fun r=>[(2,.ref 0 0),(3,.ref 1 0),(7,.d (bD p)),(9,.fptr (.agg [iD 1,iD 0,sD noB,.slc [],.slc []]) 0),(48,.sref 3 7),(49,.d (iD 7)),(50,.d (iD q)),(12,.clo r.1 [])]) (fun _=>[(0,.cells [.d (iD k),.d (iD so),.d (sD nm),.d (.slc (ls.map sD)),.d (.slc (Tp.ds l))]),(1,.cells [.d (iD k'),.d (iD so'),.d (sD nm'),.d (.slc (ls'.map sD)),.d (.slc (Tp.ds l'))]),(3,.cells [.clo 38 [],.clo 39 [],.clo 40 [.fptr (.agg [iD 1,iD 0,sD noB,.slc [],.slc []]) 0],.clo 41 [.fptr (.agg [iD 1,iD 0,sD noB,.slc [],.slc []]) 0],.clo 42 [.fptr (.agg [iD 1,iD 0,sD noB,.slc [],.slc []]) 0],.clo 43 [.fptr (.agg [iD 1,iD 0,sD noB,.slc [],.slc []]) 0],.clo 44 []])]) (fun r=>FamOK Γ (.mk k so nm ls l) (.mk k' so' nm' ls' l') p r.1 [] r.2.1 r.2.2) ?_ (fun r hr=>?_)
   · rcases hq0 with rfl | rfl | rfl
     · repeat' (first|(with_reducible apply zz1)|((with_reducible refine zz4 ?_ ?_);rfl)|((with_reducible refine zz2 ?_ (fun K' hK'=>?_));rfl;simp only [WC,simprocAttr];(repeat (refine And.intro ?_ ?_;focus (clear hK';intros;simp_all;done)));(try (refine hK' _ _ ?_;clear hK' K')))|((with_reducible refine zz3 ?_ ?_);rfl;refine ⟨_,rfl,fun h=>?_,fun h=>?_⟩ <;> try exact absurd h (by decide)))
       refine kfam_n (38,c1T (.mk k so nm ls l),c1T (.mk k' so' nm' ls' l')) F0 ?_
       refine sub_of h0 ?_ ?_ ?_ <;> simp only [US,WC,simprocAttr]
     · repeat' (first|(with_reducible apply zz1)|((with_reducible refine zz4 ?_ ?_);rfl)|((with_reducible refine zz2 ?_ (fun K' hK'=>?_));rfl;simp only [WC,simprocAttr];(repeat (refine And.intro ?_ ?_;focus (clear hK';intros;simp_all;done)));(try (refine hK' _ _ ?_;clear hK' K')))|((with_reducible refine zz3 ?_ ?_);rfl;refine ⟨_,rfl,fun h=>?_,fun h=>?_⟩ <;> try exact absurd h (by decide)))
       refine kfam_n (39,c2T (.mk k so nm ls l),c2T (.mk k' so' nm' ls' l')) F1 ?_
       refine sub_of h0 ?_ ?_ ?_ <;> simp only [US,WC,simprocAttr]
     · repeat' (first|(with_reducible apply zz1)|((with_reducible refine zz4 ?_ ?_);rfl)|((with_reducible refine zz2 ?_ (fun K' hK'=>?_));rfl;simp only [WC,simprocAttr];(repeat (refine And.intro ?_ ?_;focus (clear hK';intros;simp_all;done)));(try (refine hK' _ _ ?_;clear hK' K')))|((with_reducible refine zz3 ?_ ?_);rfl;refine ⟨_,rfl,fun h=>?_,fun h=>?_⟩ <;> try exact absurd h (by decide)))
       refine kfam_n (44,c7T (.mk k so nm ls l),c7T (.mk k' so' nm' ls' l')) F6 ?_
       refine sub_of h0 ?_ ?_ ?_ <;> simp only [US,WC,simprocAttr]
   obtain ⟨f,u,v⟩:=r
   obtain ⟨hu,hv,hpq,su,sv⟩:=hr
   simp only at hu hv hpq su sv
   have hR1:=rType_fn Γ u su
   have hR2:=rType_fn Γ v sv
   have hI2:=isT_fn Γ u v
   have hbe : tCheck u = 0 → tCheck v = 0 → bErr u v = 0:=fun h1 h2=>bErr_of h1 h2
   generalize tCheck u = cu at *
   generalize tCheck v = cv at *
   generalize isP u v = p3 at *
   generalize bErr u v = ce at *
   obtain ⟨uk,uso,unm,uls,ul⟩:=u
   obtain ⟨vk,vso,vnm,vls,vl⟩:=v
   simp only [Tp.d] at hu hv hR1 hR2 hI2
   clear hG1 hG2 hG3 hG4 F0 F1 F2 F3 F4 F5 F6 hF hI
   refine zw0 ?_
   -- TRACE
   (with_reducible refine swp_drawX ?_ ?_ ?_ (⟨⟨[],[]⟩,[],[(2,.agg [iD uk,iD uso,sD unm,.slc (uls.map sD),.slc (Tp.ds ul)]),(5,.agg [iD vk,iD vso,sD vnm,.slc (vls.map sD),.slc (Tp.ds vl)])],[],[]⟩) _ rfl (fun K' hK' gops fin hgops hfin=>?_)
    · kernel_rfl
    · rfl
    · rfl
    repeat' first
     | (refine vcX_dead rfl trivial (by simp only [WC,simprocAttr,UX,UA];rfl) (by simp only [List.nil_append,List.cons_append];rfl) (by simp only [zn2];rfl) ?_)
     | (refine vcX_step rfl rfl trivial (by simp only [WC,simprocAttr,UX,UA,hu,hv ];rfl) ?_ (by simp only [WC,simprocAttr,UX,UA];rfl) (by simp only [WC,simprocAttr,UX,UA];rfl) (by simp only [List.nil_append,List.cons_append];rfl) (by simp only [zn2];rfl) ?_;focus (first | trivial | ((repeat' (refine And.intro ?_ ?_)) <;> first | trivial | assumption | (clear hK' hfin hgops;intros;simp_all;done))))
    (refine vcX_nil (by subst hfin;kernel_rfl) ?_)
    clear hfin hgops fin gops
    (try (refine hK' _ _ ?_;clear hK' K')))
   refine zw6 ?_
   refine zw0 ?_
   refine zw0 ?_
   by_cases h1 : cu = 0
   rotate_left
   · have g2 : (cu != 0) = true:=by simpa using h1
     (with_reducible refine swp_regionA ?_ ( [(1,iD cu),(5,iD cv)]) (fun K' hK'=>?_)
      · rfl
      simp only [WC,simprocAttr,UG,hR1,hR2,g2,Bool.not_true,Bool.not_false,cond_true,cond_false,bne_self_eq_false,beq_self_eq_true ]
      (repeat (refine And.intro ?_ ?_;focus (clear hK';intros;simp_all;done)))
      (try (refine hK' _ _ ?_;clear hK' K')))
     repeat' (first|(with_reducible apply zz1)|((with_reducible refine zz4 ?_ ?_);rfl)|((with_reducible refine zz2 ?_ (fun K' hK'=>?_));rfl;simp only [WC,simprocAttr,hw,Bool.not_true,Bool.not_false,cond_true,cond_false,bne_self_eq_false,beq_self_eq_true];(repeat (refine And.intro ?_ ?_;focus (clear hK';intros;simp_all;done)));(try (refine hK' _ _ ?_;clear hK' K')))|((with_reducible refine zz3 ?_ ?_);rfl;refine ⟨_,rfl,fun h=>?_,fun h=>?_⟩ <;> try exact absurd h (by decide)))
     refine ⟨q + 1,(by show q + 1 ≤ 7;omega),(by show 7 - (q + 1) < 7 - q;omega),by refine sub_of h0 ?_ ?_ ?_ <;> simp only [US,WC,simprocAttr]⟩
   subst h1
   by_cases h2 : cv = 0
   rotate_left
   · have g2 : (cv != 0) = true:=by simpa using h2
     (with_reducible refine swp_regionA ?_ ( [(1,iD 0),(5,iD cv)]) (fun K' hK'=>?_)
      · rfl
      simp only [WC,simprocAttr,UG,hR1,hR2,g2,Bool.not_true,Bool.not_false,cond_true,cond_false,bne_self_eq_false,beq_self_eq_true ]
      (repeat (refine And.intro ?_ ?_;focus (clear hK';intros;simp_all;done)))
      (try (refine hK' _ _ ?_;clear hK' K')))
     repeat' (first|(with_reducible apply zz1)|((with_reducible refine zz4 ?_ ?_);rfl)|((with_reducible refine zz2 ?_ (fun K' hK'=>?_));rfl;simp only [WC,simprocAttr,hw,Bool.not_true,Bool.not_false,cond_true,cond_false,bne_self_eq_false,beq_self_eq_true];(repeat (refine And.intro ?_ ?_;focus (clear hK';intros;simp_all;done)));(try (refine hK' _ _ ?_;clear hK' K')))|((with_reducible refine zz3 ?_ ?_);rfl;refine ⟨_,rfl,fun h=>?_,fun h=>?_⟩ <;> try exact absurd h (by decide)))
     refine ⟨q + 1,(by show q + 1 ≤ 7;omega),(by show 7 - (q + 1) < 7 - q;omega),by refine sub_of h0 ?_ ?_ ?_ <;> simp only [US,WC,simprocAttr]⟩
   subst h2
   obtain rfl:=hpq rfl rfl
   obtain rfl:=hbe rfl rfl
   (with_reducible refine swp_regionA ?_ ( [(1,iD 0),(5,iD 0)]) (fun K' hK'=>?_)
    · rfl
    simp only [WC,simprocAttr,UG,hR1,hR2,Bool.not_true,Bool.not_false,cond_true,cond_false,bne_self_eq_false,beq_self_eq_true ]
    (repeat (refine And.intro ?_ ?_;focus (clear hK';intros;simp_all;done)))
    (try (refine hK' _ _ ?_;clear hK' K')))
   repeat' (first|(with_reducible apply zz1)|((with_reducible refine zz4 ?_ ?_);rfl)|((with_reducible refine zz2 ?_ (fun K' hK'=>?_));rfl;simp only [WC,simprocAttr,Bool.not_true,Bool.not_false,cond_true,cond_false,bne_self_eq_false,beq_self_eq_true];(repeat (refine And.intro ?_ ?_;focus (clear hK';intros;simp_all;done)));(try (refine hK' _ _ ?_;clear hK' K')))|((with_reducible refine zz3 ?_ ?_);rfl;refine ⟨_,rfl,fun h=>?_,fun h=>?_⟩ <;> try exact absurd h (by decide)))
   refine stop_call h0 rfl (by simp only [WC,simprocAttr]) rfl (by simp only [keepS,Option.isSome_some,WC,simprocAttr]) (hI2) ?_
   simp only [WC,simprocAttr,inX,dropS, ]
   (repeat (refine And.intro ?_ ?_;focus (clear hK';intros;simp_all;done)))
   (try (refine hK' _ _ ?_;clear hK' K'))
   repeat' (first|(with_reducible apply zz1)|((with_reducible refine zz4 ?_ ?_);rfl)|((with_reducible refine zz2 ?_ (fun K' hK'=>?_));rfl;simp only [WC,simprocAttr,hw,Bool.not_true,Bool.not_false,cond_true,cond_false,bne_self_eq_false,beq_self_eq_true];(repeat (refine And.intro ?_ ?_;focus (clear hK';intros;simp_all;done)));(try (refine hK' _ _ ?_;clear hK' K')))|((with_reducible refine zz3 ?_ ?_);rfl;refine ⟨_,rfl,fun h=>?_,fun h=>?_⟩ <;> try exact absurd h (by decide)))
   refine ⟨q + 1,(by show q + 1 ≤ 7;omega),(by show 7 - (q + 1) < 7 - q;omega),by refine sub_of h0 ?_ ?_ ?_ <;> simp only [US,WC,simprocAttr]⟩
 · have hq0 : q = 2 ∨ q = 3 ∨ q = 4 ∨ q = 5:=by omega
   refine swp_midF (ι := FuncId × Tp × Tp) (fun r=>[(2,.ref 0 0),(3,.ref 1 0),(7,.d (bD p)),(9,.fptr (.agg [iD 1,iD 0,sD noB,.slc [],.slc []]) 0),(48,.sref 3 7),(49,.d (iD 7)),(50,.d (iD q)),(12,.clo r.1 [.fptr (.agg [iD 1,iD 0,sD noB,.slc [],.slc []]) 0])]) (fun _=>[(0,.cells [.d (iD k),.d (iD so),.d (sD nm),.d (.slc (ls.map sD)),.d (.slc (Tp.ds l))]),(1,.cells [.d (iD k'),.d (iD so'),.d (sD nm'),.d (.slc (ls'.map sD)),.d (.slc (Tp.ds l'))]),(3,.cells [.clo 38 [],.clo 39 [],.clo 40 [.fptr (.agg [iD 1,iD 0,sD noB,.slc [],.slc []]) 0],.clo 41 [.fptr (.agg [iD 1,iD 0,sD noB,.slc [],.slc []]) 0],.clo 42 [.fptr (.agg [iD 1,iD 0,sD noB,.slc [],.slc []]) 0],.clo 43 [.fptr (.agg [iD 1,iD 0,sD noB,.slc [],.slc []]) 0],.clo 44 []])]) (fun r=>FamOK Γ (.mk k so nm ls l) (.mk k' so' nm' ls' l') p r.1 [.fptr (.agg [iD 1,iD 0,sD noB,.slc [],.slc []]) 0] r.2.1 r.2.2) ?_ (fun r hr=>?_)
   · rcases hq0 with rfl | rfl | rfl | rfl
     · repeat' (first|(with_reducible apply zz1)|((with_reducible refine zz4 ?_ ?_);rfl)|((with_reducible refine zz2 ?_ (fun K' hK'=>?_));rfl;simp only [WC,simprocAttr];(repeat (refine And.intro ?_ ?_;focus (clear hK';intros;simp_all;done)));(try (refine hK' _ _ ?_;clear hK' K')))|((with_reducible refine zz3 ?_ ?_);rfl;refine ⟨_,rfl,fun h=>?_,fun h=>?_⟩ <;> try exact absurd h (by decide)))
       refine kfam_n (40,c3T (.mk k so nm ls l),c3T (.mk k' so' nm' ls' l')) F2 ?_
       refine sub_of h0 ?_ ?_ ?_ <;> simp only [US,WC,simprocAttr]
     · repeat' (first|(with_reducible apply zz1)|((with_reducible refine zz4 ?_ ?_);rfl)|((with_reducible refine zz2 ?_ (fun K' hK'=>?_));rfl;simp only [WC,simprocAttr];(repeat (refine And.intro ?_ ?_;focus (clear hK';intros;simp_all;done)));(try (refine hK' _ _ ?_;clear hK' K')))|((with_reducible refine zz3 ?_ ?_);rfl;refine ⟨_,rfl,fun h=>?_,fun h=>?_⟩ <;> try exact absurd h (by decide)))
       refine kfam_n (41,c4T (.mk k so nm ls l),c4T (.mk k' so' nm' ls' l')) F3 ?_
       refine sub_of h0 ?_ ?_ ?_ <;> simp only [US,WC,simprocAttr]
     · repeat' (first|(with_reducible apply zz1)|((with_reducible refine zz4 ?_ ?_);rfl)|((with_reducible refine zz2 ?_ (fun K' hK'=>?_));rfl;simp only [WC,simprocAttr];(repeat (refine And.intro ?_ ?_;focus (clear hK';intros;simp_all;done)));(try (refine hK' _ _ ?_;clear hK' K')))|((with_reducible refine zz3 ?_ ?_);rfl;refine ⟨_,rfl,fun h=>?_,fun h=>?_⟩ <;> try exact absurd h (by decide)))
       refine kfam_n (42,c5T (.mk k so nm ls l),c5T (.mk k' so' nm' ls' l')) F4 ?_
       refine sub_of h0 ?_ ?_ ?_ <;> simp only [US,WC,simprocAttr]
     · repeat' (first|(with_reducible apply zz1)|((with_reducible refine zz4 ?_ ?_);rfl)|((with_reducible refine zz2 ?_ (fun K' hK'=>?_));rfl;simp only [WC,simprocAttr];(repeat (refine And.intro ?_ ?_;focus (clear hK';intros;simp_all;done)));(try (refine hK' _ _ ?_;clear hK' K')))|((with_reducible refine zz3 ?_ ?_);rfl;refine ⟨_,rfl,fun h=>?_,fun h=>?_⟩ <;> try exact absurd h (by decide)))
       refine kfam_n (43,c6T (.mk k so nm ls l),c6T (.mk k' so' nm' ls' l')) F5 ?_
       refine sub_of h0 ?_ ?_ ?_ <;> simp only [US,WC,simprocAttr]
   obtain ⟨f,u,v⟩:=r
   obtain ⟨hu,hv,hpq,su,sv⟩:=hr
   simp only at hu hv hpq su sv
   have hR1:=rType_fn Γ u su
   have hR2:=rType_fn Γ v sv
   have hI2:=isT_fn Γ u v
   have hbe : tCheck u = 0 → tCheck v = 0 → bErr u v = 0:=fun h1 h2=>bErr_of h1 h2
   generalize tCheck u = cu at *
   generalize tCheck v = cv at *
   generalize isP u v = p3 at *
   generalize bErr u v = ce at *
   obtain ⟨uk,uso,unm,uls,ul⟩:=u
   obtain ⟨vk,vso,vnm,vls,vl⟩:=v
   simp only [Tp.d] at hu hv hR1 hR2 hI2
   clear hG1 hG2 hG3 hG4 F0 F1 F2 F3 F4 F5 F6 hF hI
   refine zw0 ?_
   -- TRACE
   (with_reducible refine swp_drawX ?_ ?_ ?_ (⟨⟨[],[]⟩,[],[(2,.agg [iD uk,iD uso,sD unm,.slc (uls.map sD),.slc (Tp.ds ul)]),(5,.agg [iD vk,iD vso,sD vnm,.slc (vls.map sD),.slc (Tp.ds vl)])],[],[]⟩) _ rfl (fun K' hK' gops fin hgops hfin=>?_)
    · kernel_rfl
    · rfl
    · rfl
    repeat' first
     | (refine vcX_dead rfl trivial (by simp only [WC,simprocAttr,UX,UA];rfl) (by simp only [List.nil_append,List.cons_append];rfl) (by simp only [zn2];rfl) ?_)
     | (refine vcX_step rfl rfl trivial (by simp only [WC,simprocAttr,UX,UA,hu,hv ];rfl) ?_ (by simp only [WC,simprocAttr,UX,UA];rfl) (by simp only [WC,simprocAttr,UX,UA];rfl) (by simp only [List.nil_append,List.cons_append];rfl) (by simp only [zn2];rfl) ?_;focus (first | trivial | ((repeat' (refine And.intro ?_ ?_)) <;> first | trivial | assumption | (clear hK' hfin hgops;intros;simp_all;done))))
    (refine vcX_nil (by subst hfin;kernel_rfl) ?_)
    clear hfin hgops fin gops
    (try (refine hK' _ _ ?_;clear hK' K')))
   refine zw6 ?_
   refine zw0 ?_
   refine zw0 ?_
   by_cases h1 : cu = 0
   rotate_left
   · have g2 : (cu != 0) = true:=by simpa using h1
     (with_reducible refine swp_regionA ?_ ( [(1,iD cu),(5,iD cv)]) (fun K' hK'=>?_)
      · rfl
      simp only [WC,simprocAttr,UG,hR1,hR2,g2,Bool.not_true,Bool.not_false,cond_true,cond_false,bne_self_eq_false,beq_self_eq_true ]
      (repeat (refine And.intro ?_ ?_;focus (clear hK';intros;simp_all;done)))
      (try (refine hK' _ _ ?_;clear hK' K')))
     repeat' (first|(with_reducible apply zz1)|((with_reducible refine zz4 ?_ ?_);rfl)|((with_reducible refine zz2 ?_ (fun K' hK'=>?_));rfl;simp only [WC,simprocAttr,hw,Bool.not_true,Bool.not_false,cond_true,cond_false,bne_self_eq_false,beq_self_eq_true];(repeat (refine And.intro ?_ ?_;focus (clear hK';intros;simp_all;done)));(try (refine hK' _ _ ?_;clear hK' K')))|((with_reducible refine zz3 ?_ ?_);rfl;refine ⟨_,rfl,fun h=>?_,fun h=>?_⟩ <;> try exact absurd h (by decide)))
     refine ⟨q + 1,(by show q + 1 ≤ 7;omega),(by show 7 - (q + 1) < 7 - q;omega),by refine sub_of h0 ?_ ?_ ?_ <;> simp only [US,WC,simprocAttr]⟩
   subst h1
   by_cases h2 : cv = 0
   rotate_left
   · have g2 : (cv != 0) = true:=by simpa using h2
     (with_reducible refine swp_regionA ?_ ( [(1,iD 0),(5,iD cv)]) (fun K' hK'=>?_)
      · rfl
      simp only [WC,simprocAttr,UG,hR1,hR2,g2,Bool.not_true,Bool.not_false,cond_true,cond_false,bne_self_eq_false,beq_self_eq_true ]
      (repeat (refine And.intro ?_ ?_;focus (clear hK';intros;simp_all;done)))
      (try (refine hK' _ _ ?_;clear hK' K')))
     repeat' (first|(with_reducible apply zz1)|((with_reducible refine zz4 ?_ ?_);rfl)|((with_reducible refine zz2 ?_ (fun K' hK'=>?_));rfl;simp only [WC,simprocAttr,hw,Bool.not_true,Bool.not_false,cond_true,cond_false,bne_self_eq_false,beq_self_eq_true];(repeat (refine And.intro ?_ ?_;focus (clear hK';intros;simp_all;done)));(try (refine hK' _ _ ?_;clear hK' K')))|((with_reducible refine zz3 ?_ ?_);rfl;refine ⟨_,rfl,fun h=>?_,fun h=>?_⟩ <;> try exact absurd h (by decide)))
     refine ⟨q + 1,(by show q + 1 ≤ 7;omega),(by show 7 - (q + 1) < 7 - q;omega),by refine sub_of h0 ?_ ?_ ?_ <;> simp only [US,WC,simprocAttr]⟩
   subst h2
   obtain rfl:=hpq rfl rfl
   obtain rfl:=hbe rfl rfl
   (with_reducible refine swp_regionA ?_ ( [(1,iD 0),(5,iD 0)]) (fun K' hK'=>?_)
    · rfl
    simp only [WC,simprocAttr,UG,hR1,hR2,Bool.not_true,Bool.not_false,cond_true,cond_false,bne_self_eq_false,beq_self_eq_true ]
    (repeat (refine And.intro ?_ ?_;focus (clear hK';intros;simp_all;done)))
    (try (refine hK' _ _ ?_;clear hK' K')))
   repeat' (first|(with_reducible apply zz1)|((with_reducible refine zz4 ?_ ?_);rfl)|((with_reducible refine zz2 ?_ (fun K' hK'=>?_));rfl;simp only [WC,simprocAttr,Bool.not_true,Bool.not_false,cond_true,cond_false,bne_self_eq_false,beq_self_eq_true];(repeat (refine And.intro ?_ ?_;focus (clear hK';intros;simp_all;done)));(try (refine hK' _ _ ?_;clear hK' K')))|((with_reducible refine zz3 ?_ ?_);rfl;refine ⟨_,rfl,fun h=>?_,fun h=>?_⟩ <;> try exact absurd h (by decide)))
   refine stop_call h0 rfl (by simp only [WC,simprocAttr]) rfl (by simp only [keepS,Option.isSome_some,WC,simprocAttr]) (hI2) ?_
   simp only [WC,simprocAttr,inX,dropS, ]
   (repeat (refine And.intro ?_ ?_;focus (clear hK';intros;simp_all;done)))
   (try (refine hK' _ _ ?_;clear hK' K'))
   repeat' (first|(with_reducible apply zz1)|((with_reducible refine zz4 ?_ ?_);rfl)|((with_reducible refine zz2 ?_ (fun K' hK'=>?_));rfl;simp only [WC,simprocAttr,hw,Bool.not_true,Bool.not_false,cond_true,cond_false,bne_self_eq_false,beq_self_eq_true];(repeat (refine And.intro ?_ ?_;focus (clear hK';intros;simp_all;done)));(try (refine hK' _ _ ?_;clear hK' K')))|((with_reducible refine zz3 ?_ ?_);rfl;refine ⟨_,rfl,fun h=>?_,fun h=>?_⟩ <;> try exact absurd h (by decide)))
   refine ⟨q + 1,(by show q + 1 ≤ 7;omega),(by show 7 - (q + 1) < 7 - q;omega),by refine sub_of h0 ?_ ?_ ?_ <;> simp only [US,WC,simprocAttr]⟩
end Go.Proofs.YtgecnlcbdbaneaaDoor
