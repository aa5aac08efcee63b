/- comply.meets; a symbolic walk. -/
-- TYPESB
import Derived.Test.YtgecnlcbdbaneaaDoorH26a
set_option linter.unusedVariables false
set_option linter.unusedSimpArgs false
namespace Go.Proofs.YtgecnlcbdbaneaaDoor
open Go.RowKit Go.Sw
open Nat renaming reduceBEq → zn0, reduceLeDiff → zn1, reduceAdd → zn2, reduceSub → zn3, reduceMul → zn4
open Int renaming reduceLE → zi0, reduceLT → zi1, reduceToNat → zi2
open Go.Sw renaming swp_seq → zw0, swp_block → zw1, swp_skip → zw2, swp_ret → zw3, swp_exit → zw4, swp_label → zw5, kseq_n → zw6, kseq_x → zw7, kseq_r → zw8, kblk_n → zw9, kblk_r → zw10, kblk_xs → zw11, kblk_xn → zw12, kloop_x → zw13, kloop_r → zw14, swp_cond → zw15, swp_regionP → zw16

set_option maxHeartbeats 16000000 in
set_option maxRecDepth 100000 in
theorem meets_fn (Γ : Gl) (g h : List Nd) (p : Pc) (ha0 : 0 ≤ p.a) (ha1 : p.a < (g.length : Int)) (hb0 : 0 ≤ p.b) (hb1 : p.b < (h.length : Int)) (Hg : Gd g) (Hh : Gd h) :
    DFn Tryd.prog Γ 58 [.slc (g.map Nd.d),.slc (h.map Nd.d),p.d] (meetA (meetsP g h p)):=by
  have hga:=gAt_d ha0 ha1
  have hgb:=gAt_d hb0 hb1
  obtain ⟨R,hR⟩ : ∃ R,meetsP g h p = R:=⟨_,rfl⟩
  rw [hR]
  unfold meetsP at hR
  have hk:=kind_fn Γ (gAt g p.a).k
  have okX:=Hg.ok _ (gAt_mem ha0 ha1)
  have okY:=Hh.ok _ (gAt_mem hb0 hb1)
  have hX:=okX.sh
  have hY:=okY.sh
  have rX:=okX.ok.r
  have rY:=okY.ok.r
  have shX:=Hg.sh _ (gAt_mem ha0 ha1)
  clear okX okY
  generalize hXe : gAt g p.a = X at *
  generalize hYe : gAt h p.b = Y at *
  obtain ⟨xk,xso,xls,xto⟩:=X
  obtain ⟨yk,yso,yls,yto⟩:=Y
  obtain ⟨a,b⟩:=p
  obtain ⟨hX1,hX2,hX3,hX6⟩:=hX
  obtain ⟨hY1,hY2,hY3,hY6⟩:=hY
  simp only [Nd.d] at hga hgb
  simp only at hX1 hX2 hX3 hX6 hY1 hY2 hY3 hY6 hk hR ha0 ha1 hb0 hb1 rX rY shX
  have q0 : ∀ (l : List Int) (i : Nat),i < l.length → (l.map iD).getD i default = iD (l.getD i 0):=fun l i hi=>by simp [List.getD,hi]
  simp only [Pc.d]
  by_cases hcc : (xk = 6 ∨ xk = 7) ∧ yk = dKind xk ∧ xso = yso
  · obtain ⟨h67,hkk,hss⟩:=hcc
    rw [if_neg (by simpa using hkk),if_neg (by simpa using hss),if_neg (by omega),if_neg (by omega),if_pos h67] at hR
    exact meets67_fn Γ g h a b ha0 ha1 hb0 hb1 xk xso xls xto yk yso yls yto hXe hYe hX3 hY3 hX6 hY6 hkk hss h67 R hR
  refine fn_of_swp (N:=152) Tryd.func58 rfl (by decide) rfl rfl (by simp) (fun C h0=>?_)
  simp only [argE]
  repeat' (first|(with_reducible first|apply zw0|apply zw1|apply zw2|apply zw3|apply zw4|apply zw5|apply zw6|apply zw7|apply zw8|apply zw9|apply zw10|apply zw11|apply zw13|apply zw14)|((with_reducible refine zw12 ?_ ?_);rfl)|((with_reducible refine zw16 ?_ ?_ (fun K' hK'=>?_));rfl;rfl;simp only [UN,LM,zn0,zn1,zi0,zi1,zi2,zn2,zn3,zn4,reduceCtorEq,TAS,TBS];(repeat (refine And.intro ?_ ?_;focus (clear hK';intros;simp_all;done)));(try (refine hK' _ _ ?_;clear hK' K')))|((with_reducible refine zw15 ?_ ?_);rfl;refine ⟨_,rfl,fun h=>?_,fun h=>?_⟩ <;> try exact absurd h (by decide)))
  (with_reducible refine swp_drawX ?_ ?_ ?_ (⟨⟨[],[]⟩,[],[],[],[]⟩) _ rfl (fun K' hK' gops fin hgops hfin=>?_)
   · kernel_rfl
   · rfl
   · rfl
   repeat' first
     | (refine vcX_dead rfl trivial (by simp only [UN,LM,zn0,zn1,zi0,zi1,zi2,zn2,zn3,zn4,reduceCtorEq,TAS,TBS,Eff.env,Eff.st,jkE,jkS,UA,LM];rfl) (by simp only [List.nil_append,List.cons_append];rfl) (by simp only [zn2];rfl) ?_)
     | (refine vcX_step rfl rfl trivial (by simp only [UN,LM,zn0,zn1,zi0,zi1,zi2,zn2,zn3,zn4,reduceCtorEq,TAS,TBS,stepX,stepX1,frzR,stepX0,callN,storeE,dAll,setE,callM,mArgs,SV.calm,SV.calms,callB,callP,bArgs,hasR,hins,hin,yes,inX,stepW,callR,effO,srcE,Eff.env,Eff.st,writeOp,callA,pureOp,Bool.or_true,Bool.true_or,Bool.or_self,Bool.or_false,Bool.false_or,Bool.not_true,Bool.not_false,D.flat,D.flats,true_or,or_true,forall_const,UA,ha0,ha1,hb0,hb1,hga,hgb,List.length_map ];rfl) ?_ (by simp only [UN,LM,zn0,zn1,zi0,zi1,zi2,zn2,zn3,zn4,reduceCtorEq,TAS,TBS,Eff.env,Eff.st,jkE,jkS,UA,LM];rfl) (by simp only [UN,LM,zn0,zn1,zi0,zi1,zi2,zn2,zn3,zn4,reduceCtorEq,TAS,TBS,Eff.env,Eff.st,jkE,jkS,UA,LM];rfl) (by simp only [List.nil_append,List.cons_append];rfl) (by simp only [zn2];rfl) ?_;focus (first | trivial | ((repeat' (refine And.intro ?_ ?_)) <;> first | trivial | assumption | (clear hK' hfin hgops;intros;simp_all;done))))
   (refine vcX_nil (by subst hfin;kernel_rfl) ?_)
   clear hfin hgops fin gops
   (try (refine hK' _ _ ?_;clear hK' K')))
  repeat' (first|(with_reducible first|apply zw0|apply zw1|apply zw2|apply zw3|apply zw4|apply zw5|apply zw6|apply zw7|apply zw8|apply zw9|apply zw10|apply zw11|apply zw13|apply zw14)|((with_reducible refine zw12 ?_ ?_);rfl)|((with_reducible refine zw16 ?_ ?_ (fun K' hK'=>?_));rfl;rfl;simp only [UN,LM,zn0,zn1,zi0,zi1,zi2,zn2,zn3,zn4,reduceCtorEq,TAS,TBS];(repeat (refine And.intro ?_ ?_;focus (clear hK';intros;simp_all;done)));(try (refine hK' _ _ ?_;clear hK' K')))|((with_reducible refine zw15 ?_ ?_);rfl;refine ⟨_,rfl,fun h=>?_,fun h=>?_⟩ <;> try exact absurd h (by decide)))
  by_cases hkk : yk = dKind xk
  · rw [if_neg (by simpa using hkk)] at hR
    have gk : (yk != dKind xk) = false:=by simpa using hkk
    by_cases hss : xso = yso
    · rw [if_neg (by simpa using hss)] at hR
      have gs : (xso != yso) = false:=by simpa using hss
      (with_reducible refine swp_draw ?_ ?_ ?_ ( [(4,iD (dKind xk))]) (fun K' hK'=>?_)
       · kernel_rfl
       · rfl
       · rfl
       simp only [UN,LM,zn0,zn1,zi0,zi1,zi2,zn2,zn3,zn4,reduceCtorEq,TAS,TBS,vcA,stepA,callA,rst,lksA,Oper.looksAt,Op.operands,pureOp,Call.operands,List.filterMap_cons,List.filterMap_nil,Option.toList_none,Option.toList_some,Option.bind_some,Option.bind_none,List.getElem?_toArray,Array.toList_append,List.append_nil,D.flat,D.flats,true_or,or_true,forall_const,hk,gk,gs,Bool.not_true,Bool.not_false,Bool.true_and,Bool.false_and,false_implies,cond_true,cond_false ]
       (try (refine hK' _ _ ?_;clear hK' K')))
      by_cases h23 : xk = 2 ∨ xk = 3
      · rw [if_pos h23] at hR
        subst hR
        have x0 : (0 : Int) < (xto.length : Int):=by have:=hX1 h23;omega
        have y0 : (0 : Int) < (yto.length : Int):=by have:=hY1 (by rw [hkk];rcases h23 with rfl | rfl <;> decide);omega
        have qx:=q0 xto 0 (by omega)
        have qy:=q0 yto 0 (by omega)
        rcases h23 with rfl | rfl
        all_goals
          repeat' (first|(with_reducible first|apply zw0|apply zw1|apply zw2|apply zw3|apply zw4|apply zw5|apply zw6|apply zw7|apply zw8|apply zw9|apply zw10|apply zw11|apply zw13|apply zw14)|((with_reducible refine zw12 ?_ ?_);rfl)|((with_reducible refine zw16 ?_ ?_ (fun K' hK'=>?_));rfl;rfl;simp only [UN,LM,zn0,zn1,zi0,zi1,zi2,zn2,zn3,zn4,reduceCtorEq,TAS,TBS,Int.reduceBEq];(repeat (refine And.intro ?_ ?_;focus (clear hK';intros;simp_all;done)));(try (refine hK' _ _ ?_;clear hK' K')))|((with_reducible refine zw15 ?_ ?_);rfl;refine ⟨_,rfl,fun h=>?_,fun h=>?_⟩ <;> try exact absurd h (by decide)))
          (with_reducible refine swp_drawX ?_ ?_ ?_ (⟨⟨[],[]⟩,[],[],[],[]⟩) _ rfl (fun K' hK' gops fin hgops hfin=>?_)
           · kernel_rfl
           · rfl
           · rfl
           repeat' first
             | (refine vcX_dead rfl trivial (by simp only [UN,LM,zn0,zn1,zi0,zi1,zi2,zn2,zn3,zn4,reduceCtorEq,TAS,TBS,Eff.env,Eff.st,jkE,jkS,UA,LM];rfl) (by simp only [List.nil_append,List.cons_append];rfl) (by simp only [zn2];rfl) ?_)
             | (refine vcX_step rfl rfl trivial (by simp only [UN,LM,zn0,zn1,zi0,zi1,zi2,zn2,zn3,zn4,reduceCtorEq,TAS,TBS,stepX,stepX1,frzR,stepX0,callN,storeE,dAll,setE,callM,mArgs,SV.calm,SV.calms,callB,callP,bArgs,hasR,hins,hin,yes,inX,stepW,callR,effO,srcE,Eff.env,Eff.st,writeOp,callA,pureOp,Bool.or_true,Bool.true_or,Bool.or_self,Bool.or_false,Bool.false_or,Bool.not_true,Bool.not_false,D.flat,D.flats,true_or,or_true,forall_const,UA,x0,y0,qx,qy,one_max,List.length_map ];rfl) ?_ (by simp only [UN,LM,zn0,zn1,zi0,zi1,zi2,zn2,zn3,zn4,reduceCtorEq,TAS,TBS,Eff.env,Eff.st,jkE,jkS,UA,LM];rfl) (by simp only [UN,LM,zn0,zn1,zi0,zi1,zi2,zn2,zn3,zn4,reduceCtorEq,TAS,TBS,Eff.env,Eff.st,jkE,jkS,UA,LM];rfl) (by simp only [List.nil_append,List.cons_append];rfl) (by simp only [zn2];rfl) ?_;focus (first | trivial | ((repeat' (refine And.intro ?_ ?_)) <;> first | trivial | assumption | (clear hK' hfin hgops;intros;simp_all;done))))
           (refine vcX_nil (by subst hfin;kernel_rfl) ?_)
           clear hfin hgops fin gops
           (try (refine hK' _ _ ?_;clear hK' K')))
          repeat' (first|(with_reducible first|apply zw0|apply zw1|apply zw2|apply zw3|apply zw4|apply zw5|apply zw6|apply zw7|apply zw8|apply zw9|apply zw10|apply zw11|apply zw13|apply zw14)|((with_reducible refine zw12 ?_ ?_);rfl)|((with_reducible refine zw16 ?_ ?_ (fun K' hK'=>?_));rfl;rfl;simp only [UN,LM,zn0,zn1,zi0,zi1,zi2,zn2,zn3,zn4,reduceCtorEq,TAS,TBS];(repeat (refine And.intro ?_ ?_;focus (clear hK';intros;simp_all;done)));(try (refine hK' _ _ ?_;clear hK' K')))|((with_reducible refine zw15 ?_ ?_);rfl;refine ⟨_,rfl,fun h=>?_,fun h=>?_⟩ <;> try exact absurd h (by decide)))
          simp only [Kret,retL,retOne,oneV,UN,LM,zn0,zn1,zi0,zi1,zi2,zn2,zn3,zn4,reduceCtorEq,TAS,TBS,meetA,List.map_cons,List.map_nil,Pc.d]
      rw [if_neg h23] at hR
      by_cases h45 : xk = 4 ∨ xk = 5
      · rw [if_pos h45] at hR
        have xl:=hX2 h45
        have yl:=hY2 (by rw [hkk];rcases h45 with rfl | rfl <;> decide)
        have x0 : (0 : Int) < (xto.length : Int):=by omega
        have y0 : (0 : Int) < (yto.length : Int):=by omega
        have x1 : (1 : Int) < (xto.length : Int):=by omega
        have y1 : (1 : Int) < (yto.length : Int):=by omega
        have qx0:=q0 xto 0 (by omega)
        have qy0:=q0 yto 0 (by omega)
        have qx1:=q0 xto 1 (by omega)
        have qy1:=q0 yto 1 (by omega)
        have rx0 : 0 ≤ xto.getD 0 0 ∧ xto.getD 0 0 < (g.length : Int):=rX _ (by rw [List.getD_eq_getElem?_getD,List.getElem?_eq_getElem (by omega),Option.getD_some];exact List.getElem_mem _)
        have ry0 : 0 ≤ yto.getD 0 0 ∧ yto.getD 0 0 < (h.length : Int):=rY _ (by rw [List.getD_eq_getElem?_getD,List.getElem?_eq_getElem (by omega),Option.getD_some];exact List.getElem_mem _)
        have hA:=atG_fn Γ Hg rx0
        have hB:=atG_fn Γ Hh ry0
        have hG1:=graphsG_fn Γ (Hg.at rx0) (Hh.at ry0)
        have hG2:=graphsG_fn Γ (Hh.at ry0) (Hg.at rx0)
        unfold carryB at hR
        simp only at hR
        generalize (atP g (xto.getD 0 0)) = AG at *
        generalize (atP h (yto.getD 0 0)) = AH at *
        generalize xto.getD 0 0 = X0 at *
        generalize yto.getD 0 0 = Y0 at *
        generalize xto.getD 1 0 = X1 at *
        generalize yto.getD 1 0 = Y1 at *
        rcases h45 with rfl | rfl
        · simp only [if_neg (show ¬ (4 : Int) = 5 by decide)] at hR
          generalize subG AG AH = cr at *
          repeat' (first|(with_reducible first|apply zw0|apply zw1|apply zw2|apply zw3|apply zw4|apply zw5|apply zw6|apply zw7|apply zw8|apply zw9|apply zw10|apply zw11|apply zw13|apply zw14)|((with_reducible refine zw12 ?_ ?_);rfl)|((with_reducible refine zw16 ?_ ?_ (fun K' hK'=>?_));rfl;rfl;simp only [UN,LM,zn0,zn1,zi0,zi1,zi2,zn2,zn3,zn4,reduceCtorEq,TAS,TBS,Int.reduceBEq];(repeat (refine And.intro ?_ ?_;focus (clear hK';intros;simp_all;done)));(try (refine hK' _ _ ?_;clear hK' K')))|((with_reducible refine zw15 ?_ ?_);rfl;refine ⟨_,rfl,fun h=>?_,fun h=>?_⟩ <;> try exact absurd h (by decide)))
          (with_reducible refine swp_drawX ?_ ?_ ?_ (⟨⟨[],[]⟩,[],[],[],[]⟩) _ rfl (fun K' hK' gops fin hgops hfin=>?_)
           · kernel_rfl
           · rfl
           · rfl
           repeat' first
             | (refine vcX_dead rfl trivial (by simp only [UN,LM,zn0,zn1,zi0,zi1,zi2,zn2,zn3,zn4,reduceCtorEq,TAS,TBS,Eff.env,Eff.st,jkE,jkS,UA,LM];rfl) (by simp only [List.nil_append,List.cons_append];rfl) (by simp only [zn2];rfl) ?_)
             | (refine vcX_step rfl rfl trivial (by simp only [UN,LM,zn0,zn1,zi0,zi1,zi2,zn2,zn3,zn4,reduceCtorEq,TAS,TBS,stepX,stepX1,frzR,stepX0,callN,storeE,dAll,setE,callM,mArgs,SV.calm,SV.calms,callB,callP,bArgs,hasR,hins,hin,yes,inX,stepW,callR,effO,srcE,Eff.env,Eff.st,writeOp,callA,pureOp,Bool.or_true,Bool.true_or,Bool.or_self,Bool.or_false,Bool.false_or,Bool.not_true,Bool.not_false,D.flat,D.flats,true_or,or_true,forall_const,UA,List.length_map ];rfl) ?_ (by simp only [UN,LM,zn0,zn1,zi0,zi1,zi2,zn2,zn3,zn4,reduceCtorEq,TAS,TBS,Eff.env,Eff.st,jkE,jkS,UA,LM];rfl) (by simp only [UN,LM,zn0,zn1,zi0,zi1,zi2,zn2,zn3,zn4,reduceCtorEq,TAS,TBS,Eff.env,Eff.st,jkE,jkS,UA,LM];rfl) (by simp only [List.nil_append,List.cons_append];rfl) (by simp only [zn2];rfl) ?_;focus (first | trivial | ((repeat' (refine And.intro ?_ ?_)) <;> first | trivial | assumption | (clear hK' hfin hgops;intros;simp_all;done))))
           (refine vcX_nil (by subst hfin;kernel_rfl) ?_)
           clear hfin hgops fin gops
           (try (refine hK' _ _ ?_;clear hK' K')))
          repeat' (first|(with_reducible first|apply zw0|apply zw1|apply zw2|apply zw3|apply zw4|apply zw5|apply zw6|apply zw7|apply zw8|apply zw9|apply zw10|apply zw11|apply zw13|apply zw14)|((with_reducible refine zw12 ?_ ?_);rfl)|((with_reducible refine zw16 ?_ ?_ (fun K' hK'=>?_));rfl;rfl;simp only [UN,LM,zn0,zn1,zi0,zi1,zi2,zn2,zn3,zn4,reduceCtorEq,TAS,TBS,Int.reduceBEq];(repeat (refine And.intro ?_ ?_;focus (clear hK';intros;simp_all;done)));(try (refine hK' _ _ ?_;clear hK' K')))|((with_reducible refine zw15 ?_ ?_);rfl;refine ⟨_,rfl,fun h=>?_,fun h=>?_⟩ <;> try exact absurd h (by decide)))
          (with_reducible refine swp_drawX ?_ ?_ ?_ (⟨⟨[(5,.slc (AG.map Nd.d)),(11,.slc (AH.map Nd.d)),(12,.tup [bD cr,iD 0])],[]⟩,[],[],[],[]⟩) _ rfl (fun K' hK' gops fin hgops hfin=>?_)
           · kernel_rfl
           · rfl
           · rfl
           repeat' first
             | (refine vcX_dead rfl trivial (by simp only [UN,LM,zn0,zn1,zi0,zi1,zi2,zn2,zn3,zn4,reduceCtorEq,TAS,TBS,Eff.env,Eff.st,jkE,jkS,UA,LM];rfl) (by simp only [List.nil_append,List.cons_append];rfl) (by simp only [zn2];rfl) ?_)
             | (refine vcX_step rfl rfl trivial (by simp only [UN,LM,zn0,zn1,zi0,zi1,zi2,zn2,zn3,zn4,reduceCtorEq,TAS,TBS,stepX,stepX1,frzR,stepX0,callN,storeE,dAll,setE,callM,mArgs,SV.calm,SV.calms,callB,callP,bArgs,hasR,hins,hin,yes,inX,stepW,callR,effO,srcE,Eff.env,Eff.st,writeOp,callA,pureOp,Bool.or_true,Bool.true_or,Bool.or_self,Bool.or_false,Bool.false_or,Bool.not_true,Bool.not_false,D.flat,D.flats,true_or,or_true,forall_const,UA,x0,y0,qx0,qy0,hA,hB,hG1,List.length_map ];rfl) ?_ (by simp only [UN,LM,zn0,zn1,zi0,zi1,zi2,zn2,zn3,zn4,reduceCtorEq,TAS,TBS,Eff.env,Eff.st,jkE,jkS,UA,LM];rfl) (by simp only [UN,LM,zn0,zn1,zi0,zi1,zi2,zn2,zn3,zn4,reduceCtorEq,TAS,TBS,Eff.env,Eff.st,jkE,jkS,UA,LM];rfl) (by simp only [List.nil_append,List.cons_append];rfl) (by simp only [zn2];rfl) ?_;focus (first | trivial | ((repeat' (refine And.intro ?_ ?_)) <;> first | trivial | assumption | (clear hK' hfin hgops;intros;simp_all;done))))
           (refine vcX_nil (by subst hfin;kernel_rfl) ?_)
           clear hfin hgops fin gops
           (try (refine hK' _ _ ?_;clear hK' K')))
          cases cr with
          | true =>
            rw [if_pos rfl] at hR
            subst hR
            repeat' (first|(with_reducible first|apply zw0|apply zw1|apply zw2|apply zw3|apply zw4|apply zw5|apply zw6|apply zw7|apply zw8|apply zw9|apply zw10|apply zw11|apply zw13|apply zw14)|((with_reducible refine zw12 ?_ ?_);rfl)|((with_reducible refine zw16 ?_ ?_ (fun K' hK'=>?_));rfl;rfl;simp only [UN,LM,zn0,zn1,zi0,zi1,zi2,zn2,zn3,zn4,reduceCtorEq,TAS,TBS,Bool.not_true];(repeat (refine And.intro ?_ ?_;focus (clear hK';intros;simp_all;done)));(try (refine hK' _ _ ?_;clear hK' K')))|((with_reducible refine zw15 ?_ ?_);rfl;refine ⟨_,rfl,fun h=>?_,fun h=>?_⟩ <;> try exact absurd h (by decide)))
            (with_reducible refine swp_drawX ?_ ?_ ?_ (⟨⟨[],[]⟩,[],[],[],[]⟩) _ rfl (fun K' hK' gops fin hgops hfin=>?_)
             · kernel_rfl
             · rfl
             · rfl
             repeat' first
               | (refine vcX_dead rfl trivial (by simp only [UN,LM,zn0,zn1,zi0,zi1,zi2,zn2,zn3,zn4,reduceCtorEq,TAS,TBS,Eff.env,Eff.st,jkE,jkS,UA,LM];rfl) (by simp only [List.nil_append,List.cons_append];rfl) (by simp only [zn2];rfl) ?_)
               | (refine vcX_step rfl rfl trivial (by simp only [UN,LM,zn0,zn1,zi0,zi1,zi2,zn2,zn3,zn4,reduceCtorEq,TAS,TBS,stepX,stepX1,frzR,stepX0,callN,storeE,dAll,setE,callM,mArgs,SV.calm,SV.calms,callB,callP,bArgs,hasR,hins,hin,yes,inX,stepW,callR,effO,srcE,Eff.env,Eff.st,writeOp,callA,pureOp,Bool.or_true,Bool.true_or,Bool.or_self,Bool.or_false,Bool.false_or,Bool.not_true,Bool.not_false,D.flat,D.flats,true_or,or_true,forall_const,UA,x1,y1,qx1,qy1,one_max,List.length_map ];rfl) ?_ (by simp only [UN,LM,zn0,zn1,zi0,zi1,zi2,zn2,zn3,zn4,reduceCtorEq,TAS,TBS,Eff.env,Eff.st,jkE,jkS,UA,LM];rfl) (by simp only [UN,LM,zn0,zn1,zi0,zi1,zi2,zn2,zn3,zn4,reduceCtorEq,TAS,TBS,Eff.env,Eff.st,jkE,jkS,UA,LM];rfl) (by simp only [List.nil_append,List.cons_append];rfl) (by simp only [zn2];rfl) ?_;focus (first | trivial | ((repeat' (refine And.intro ?_ ?_)) <;> first | trivial | assumption | (clear hK' hfin hgops;intros;simp_all;done))))
             (refine vcX_nil (by subst hfin;kernel_rfl) ?_)
             clear hfin hgops fin gops
             (try (refine hK' _ _ ?_;clear hK' K')))
            repeat' (first|(with_reducible first|apply zw0|apply zw1|apply zw2|apply zw3|apply zw4|apply zw5|apply zw6|apply zw7|apply zw8|apply zw9|apply zw10|apply zw11|apply zw13|apply zw14)|((with_reducible refine zw12 ?_ ?_);rfl)|((with_reducible refine zw16 ?_ ?_ (fun K' hK'=>?_));rfl;rfl;simp only [UN,LM,zn0,zn1,zi0,zi1,zi2,zn2,zn3,zn4,reduceCtorEq,TAS,TBS];(repeat (refine And.intro ?_ ?_;focus (clear hK';intros;simp_all;done)));(try (refine hK' _ _ ?_;clear hK' K')))|((with_reducible refine zw15 ?_ ?_);rfl;refine ⟨_,rfl,fun h=>?_,fun h=>?_⟩ <;> try exact absurd h (by decide)))
            simp only [Kret,retL,retOne,oneV,UN,LM,zn0,zn1,zi0,zi1,zi2,zn2,zn3,zn4,reduceCtorEq,TAS,TBS,meetA,List.map_cons,List.map_nil,Pc.d]
          | false =>
            rw [if_neg (by decide)] at hR
            subst hR
            repeat' (first|(with_reducible first|apply zw0|apply zw1|apply zw2|apply zw3|apply zw4|apply zw5|apply zw6|apply zw7|apply zw8|apply zw9|apply zw10|apply zw11|apply zw13|apply zw14)|((with_reducible refine zw12 ?_ ?_);rfl)|((with_reducible refine zw16 ?_ ?_ (fun K' hK'=>?_));rfl;rfl;simp only [UN,LM,zn0,zn1,zi0,zi1,zi2,zn2,zn3,zn4,reduceCtorEq,TAS,TBS,Bool.not_false];(repeat (refine And.intro ?_ ?_;focus (clear hK';intros;simp_all;done)));(try (refine hK' _ _ ?_;clear hK' K')))|((with_reducible refine zw15 ?_ ?_);rfl;refine ⟨_,rfl,fun h=>?_,fun h=>?_⟩ <;> try exact absurd h (by decide)))
            simp only [Kret,retL,retOne,oneV,UN,LM,zn0,zn1,zi0,zi1,zi2,zn2,zn3,zn4,reduceCtorEq,TAS,TBS,meetA]
        · simp only [if_true] at hR
          generalize subG AH AG = cr at *
          repeat' (first|(with_reducible first|apply zw0|apply zw1|apply zw2|apply zw3|apply zw4|apply zw5|apply zw6|apply zw7|apply zw8|apply zw9|apply zw10|apply zw11|apply zw13|apply zw14)|((with_reducible refine zw12 ?_ ?_);rfl)|((with_reducible refine zw16 ?_ ?_ (fun K' hK'=>?_));rfl;rfl;simp only [UN,LM,zn0,zn1,zi0,zi1,zi2,zn2,zn3,zn4,reduceCtorEq,TAS,TBS,Int.reduceBEq];(repeat (refine And.intro ?_ ?_;focus (clear hK';intros;simp_all;done)));(try (refine hK' _ _ ?_;clear hK' K')))|((with_reducible refine zw15 ?_ ?_);rfl;refine ⟨_,rfl,fun h=>?_,fun h=>?_⟩ <;> try exact absurd h (by decide)))
          (with_reducible refine swp_drawX ?_ ?_ ?_ (⟨⟨[],[]⟩,[],[],[],[]⟩) _ rfl (fun K' hK' gops fin hgops hfin=>?_)
           · kernel_rfl
           · rfl
           · rfl
           repeat' first
             | (refine vcX_dead rfl trivial (by simp only [UN,LM,zn0,zn1,zi0,zi1,zi2,zn2,zn3,zn4,reduceCtorEq,TAS,TBS,Eff.env,Eff.st,jkE,jkS,UA,LM];rfl) (by simp only [List.nil_append,List.cons_append];rfl) (by simp only [zn2];rfl) ?_)
             | (refine vcX_step rfl rfl trivial (by simp only [UN,LM,zn0,zn1,zi0,zi1,zi2,zn2,zn3,zn4,reduceCtorEq,TAS,TBS,stepX,stepX1,frzR,stepX0,callN,storeE,dAll,setE,callM,mArgs,SV.calm,SV.calms,callB,callP,bArgs,hasR,hins,hin,yes,inX,stepW,callR,effO,srcE,Eff.env,Eff.st,writeOp,callA,pureOp,Bool.or_true,Bool.true_or,Bool.or_self,Bool.or_false,Bool.false_or,Bool.not_true,Bool.not_false,D.flat,D.flats,true_or,or_true,forall_const,UA,List.length_map ];rfl) ?_ (by simp only [UN,LM,zn0,zn1,zi0,zi1,zi2,zn2,zn3,zn4,reduceCtorEq,TAS,TBS,Eff.env,Eff.st,jkE,jkS,UA,LM];rfl) (by simp only [UN,LM,zn0,zn1,zi0,zi1,zi2,zn2,zn3,zn4,reduceCtorEq,TAS,TBS,Eff.env,Eff.st,jkE,jkS,UA,LM];rfl) (by simp only [List.nil_append,List.cons_append];rfl) (by simp only [zn2];rfl) ?_;focus (first | trivial | ((repeat' (refine And.intro ?_ ?_)) <;> first | trivial | assumption | (clear hK' hfin hgops;intros;simp_all;done))))
           (refine vcX_nil (by subst hfin;kernel_rfl) ?_)
           clear hfin hgops fin gops
           (try (refine hK' _ _ ?_;clear hK' K')))
          repeat' (first|(with_reducible first|apply zw0|apply zw1|apply zw2|apply zw3|apply zw4|apply zw5|apply zw6|apply zw7|apply zw8|apply zw9|apply zw10|apply zw11|apply zw13|apply zw14)|((with_reducible refine zw12 ?_ ?_);rfl)|((with_reducible refine zw16 ?_ ?_ (fun K' hK'=>?_));rfl;rfl;simp only [UN,LM,zn0,zn1,zi0,zi1,zi2,zn2,zn3,zn4,reduceCtorEq,TAS,TBS,Int.reduceBEq];(repeat (refine And.intro ?_ ?_;focus (clear hK';intros;simp_all;done)));(try (refine hK' _ _ ?_;clear hK' K')))|((with_reducible refine zw15 ?_ ?_);rfl;refine ⟨_,rfl,fun h=>?_,fun h=>?_⟩ <;> try exact absurd h (by decide)))
          (with_reducible refine swp_drawX ?_ ?_ ?_ (⟨⟨[],[]⟩,[],[],[],[]⟩) _ rfl (fun K' hK' gops fin hgops hfin=>?_)
           · kernel_rfl
           · rfl
           · rfl
           repeat' first
             | (refine vcX_dead rfl trivial (by simp only [UN,LM,zn0,zn1,zi0,zi1,zi2,zn2,zn3,zn4,reduceCtorEq,TAS,TBS,Eff.env,Eff.st,jkE,jkS,UA,LM];rfl) (by simp only [List.nil_append,List.cons_append];rfl) (by simp only [zn2];rfl) ?_)
             | (refine vcX_step rfl rfl trivial (by simp only [UN,LM,zn0,zn1,zi0,zi1,zi2,zn2,zn3,zn4,reduceCtorEq,TAS,TBS,stepX,stepX1,frzR,stepX0,callN,storeE,dAll,setE,callM,mArgs,SV.calm,SV.calms,callB,callP,bArgs,hasR,hins,hin,yes,inX,stepW,callR,effO,srcE,Eff.env,Eff.st,writeOp,callA,pureOp,Bool.or_true,Bool.true_or,Bool.or_self,Bool.or_false,Bool.false_or,Bool.not_true,Bool.not_false,D.flat,D.flats,true_or,or_true,forall_const,UA,List.length_map ];rfl) ?_ (by simp only [UN,LM,zn0,zn1,zi0,zi1,zi2,zn2,zn3,zn4,reduceCtorEq,TAS,TBS,Eff.env,Eff.st,jkE,jkS,UA,LM];rfl) (by simp only [UN,LM,zn0,zn1,zi0,zi1,zi2,zn2,zn3,zn4,reduceCtorEq,TAS,TBS,Eff.env,Eff.st,jkE,jkS,UA,LM];rfl) (by simp only [List.nil_append,List.cons_append];rfl) (by simp only [zn2];rfl) ?_;focus (first | trivial | ((repeat' (refine And.intro ?_ ?_)) <;> first | trivial | assumption | (clear hK' hfin hgops;intros;simp_all;done))))
           (refine vcX_nil (by subst hfin;kernel_rfl) ?_)
           clear hfin hgops fin gops
           (try (refine hK' _ _ ?_;clear hK' K')))
          repeat' (first|(with_reducible first|apply zw0|apply zw1|apply zw2|apply zw3|apply zw4|apply zw5|apply zw6|apply zw7|apply zw8|apply zw9|apply zw10|apply zw11|apply zw13|apply zw14)|((with_reducible refine zw12 ?_ ?_);rfl)|((with_reducible refine zw16 ?_ ?_ (fun K' hK'=>?_));rfl;rfl;simp only [UN,LM,zn0,zn1,zi0,zi1,zi2,zn2,zn3,zn4,reduceCtorEq,TAS,TBS];(repeat (refine And.intro ?_ ?_;focus (clear hK';intros;simp_all;done)));(try (refine hK' _ _ ?_;clear hK' K')))|((with_reducible refine zw15 ?_ ?_);rfl;refine ⟨_,rfl,fun h=>?_,fun h=>?_⟩ <;> try exact absurd h (by decide)))
          (with_reducible refine swp_drawX ?_ ?_ ?_ (⟨⟨[(5,.slc (AH.map Nd.d)),(11,.slc (AG.map Nd.d)),(12,.tup [bD cr,iD 0])],[]⟩,[],[],[],[]⟩) _ rfl (fun K' hK' gops fin hgops hfin=>?_)
           · kernel_rfl
           · rfl
           · rfl
           repeat' first
             | (refine vcX_dead rfl trivial (by simp only [UN,LM,zn0,zn1,zi0,zi1,zi2,zn2,zn3,zn4,reduceCtorEq,TAS,TBS,Eff.env,Eff.st,jkE,jkS,UA,LM];rfl) (by simp only [List.nil_append,List.cons_append];rfl) (by simp only [zn2];rfl) ?_)
             | (refine vcX_step rfl rfl trivial (by simp only [UN,LM,zn0,zn1,zi0,zi1,zi2,zn2,zn3,zn4,reduceCtorEq,TAS,TBS,stepX,stepX1,frzR,stepX0,callN,storeE,dAll,setE,callM,mArgs,SV.calm,SV.calms,callB,callP,bArgs,hasR,hins,hin,yes,inX,stepW,callR,effO,srcE,Eff.env,Eff.st,writeOp,callA,pureOp,Bool.or_true,Bool.true_or,Bool.or_self,Bool.or_false,Bool.false_or,Bool.not_true,Bool.not_false,D.flat,D.flats,true_or,or_true,forall_const,UA,x0,y0,qx0,qy0,hA,hB,hG2,List.length_map ];rfl) ?_ (by simp only [UN,LM,zn0,zn1,zi0,zi1,zi2,zn2,zn3,zn4,reduceCtorEq,TAS,TBS,Eff.env,Eff.st,jkE,jkS,UA,LM];rfl) (by simp only [UN,LM,zn0,zn1,zi0,zi1,zi2,zn2,zn3,zn4,reduceCtorEq,TAS,TBS,Eff.env,Eff.st,jkE,jkS,UA,LM];rfl) (by simp only [List.nil_append,List.cons_append];rfl) (by simp only [zn2];rfl) ?_;focus (first | trivial | ((repeat' (refine And.intro ?_ ?_)) <;> first | trivial | assumption | (clear hK' hfin hgops;intros;simp_all;done))))
           (refine vcX_nil (by subst hfin;kernel_rfl) ?_)
           clear hfin hgops fin gops
           (try (refine hK' _ _ ?_;clear hK' K')))
          cases cr with
          | true =>
            rw [if_pos rfl] at hR
            subst hR
            repeat' (first|(with_reducible first|apply zw0|apply zw1|apply zw2|apply zw3|apply zw4|apply zw5|apply zw6|apply zw7|apply zw8|apply zw9|apply zw10|apply zw11|apply zw13|apply zw14)|((with_reducible refine zw12 ?_ ?_);rfl)|((with_reducible refine zw16 ?_ ?_ (fun K' hK'=>?_));rfl;rfl;simp only [UN,LM,zn0,zn1,zi0,zi1,zi2,zn2,zn3,zn4,reduceCtorEq,TAS,TBS,Bool.not_true];(repeat (refine And.intro ?_ ?_;focus (clear hK';intros;simp_all;done)));(try (refine hK' _ _ ?_;clear hK' K')))|((with_reducible refine zw15 ?_ ?_);rfl;refine ⟨_,rfl,fun h=>?_,fun h=>?_⟩ <;> try exact absurd h (by decide)))
            (with_reducible refine swp_drawX ?_ ?_ ?_ (⟨⟨[],[]⟩,[],[],[],[]⟩) _ rfl (fun K' hK' gops fin hgops hfin=>?_)
             · kernel_rfl
             · rfl
             · rfl
             repeat' first
               | (refine vcX_dead rfl trivial (by simp only [UN,LM,zn0,zn1,zi0,zi1,zi2,zn2,zn3,zn4,reduceCtorEq,TAS,TBS,Eff.env,Eff.st,jkE,jkS,UA,LM];rfl) (by simp only [List.nil_append,List.cons_append];rfl) (by simp only [zn2];rfl) ?_)
               | (refine vcX_step rfl rfl trivial (by simp only [UN,LM,zn0,zn1,zi0,zi1,zi2,zn2,zn3,zn4,reduceCtorEq,TAS,TBS,stepX,stepX1,frzR,stepX0,callN,storeE,dAll,setE,callM,mArgs,SV.calm,SV.calms,callB,callP,bArgs,hasR,hins,hin,yes,inX,stepW,callR,effO,srcE,Eff.env,Eff.st,writeOp,callA,pureOp,Bool.or_true,Bool.true_or,Bool.or_self,Bool.or_false,Bool.false_or,Bool.not_true,Bool.not_false,D.flat,D.flats,true_or,or_true,forall_const,UA,x1,y1,qx1,qy1,one_max,List.length_map ];rfl) ?_ (by simp only [UN,LM,zn0,zn1,zi0,zi1,zi2,zn2,zn3,zn4,reduceCtorEq,TAS,TBS,Eff.env,Eff.st,jkE,jkS,UA,LM];rfl) (by simp only [UN,LM,zn0,zn1,zi0,zi1,zi2,zn2,zn3,zn4,reduceCtorEq,TAS,TBS,Eff.env,Eff.st,jkE,jkS,UA,LM];rfl) (by simp only [List.nil_append,List.cons_append];rfl) (by simp only [zn2];rfl) ?_;focus (first | trivial | ((repeat' (refine And.intro ?_ ?_)) <;> first | trivial | assumption | (clear hK' hfin hgops;intros;simp_all;done))))
             (refine vcX_nil (by subst hfin;kernel_rfl) ?_)
             clear hfin hgops fin gops
             (try (refine hK' _ _ ?_;clear hK' K')))
            repeat' (first|(with_reducible first|apply zw0|apply zw1|apply zw2|apply zw3|apply zw4|apply zw5|apply zw6|apply zw7|apply zw8|apply zw9|apply zw10|apply zw11|apply zw13|apply zw14)|((with_reducible refine zw12 ?_ ?_);rfl)|((with_reducible refine zw16 ?_ ?_ (fun K' hK'=>?_));rfl;rfl;simp only [UN,LM,zn0,zn1,zi0,zi1,zi2,zn2,zn3,zn4,reduceCtorEq,TAS,TBS];(repeat (refine And.intro ?_ ?_;focus (clear hK';intros;simp_all;done)));(try (refine hK' _ _ ?_;clear hK' K')))|((with_reducible refine zw15 ?_ ?_);rfl;refine ⟨_,rfl,fun h=>?_,fun h=>?_⟩ <;> try exact absurd h (by decide)))
            simp only [Kret,retL,retOne,oneV,UN,LM,zn0,zn1,zi0,zi1,zi2,zn2,zn3,zn4,reduceCtorEq,TAS,TBS,meetA,List.map_cons,List.map_nil,Pc.d]
          | false =>
            rw [if_neg (by decide)] at hR
            subst hR
            repeat' (first|(with_reducible first|apply zw0|apply zw1|apply zw2|apply zw3|apply zw4|apply zw5|apply zw6|apply zw7|apply zw8|apply zw9|apply zw10|apply zw11|apply zw13|apply zw14)|((with_reducible refine zw12 ?_ ?_);rfl)|((with_reducible refine zw16 ?_ ?_ (fun K' hK'=>?_));rfl;rfl;simp only [UN,LM,zn0,zn1,zi0,zi1,zi2,zn2,zn3,zn4,reduceCtorEq,TAS,TBS,Bool.not_false];(repeat (refine And.intro ?_ ?_;focus (clear hK';intros;simp_all;done)));(try (refine hK' _ _ ?_;clear hK' K')))|((with_reducible refine zw15 ?_ ?_);rfl;refine ⟨_,rfl,fun h=>?_,fun h=>?_⟩ <;> try exact absurd h (by decide)))
            simp only [Kret,retL,retOne,oneV,UN,LM,zn0,zn1,zi0,zi1,zi2,zn2,zn3,zn4,reduceCtorEq,TAS,TBS,meetA]
      rw [if_neg h45] at hR
      by_cases h67 : xk = 6 ∨ xk = 7
      · exact absurd ⟨h67,hkk,hss⟩ hcc
      · rw [if_neg h67] at hR
        subst hR
        have h1 : xk = 1:=by
          rcases shX with ⟨e, -⟩ | ⟨e, -⟩ | ⟨e, -⟩ | ⟨e, -⟩ <;> omega
        subst h1
        repeat' (first|(with_reducible first|apply zw0|apply zw1|apply zw2|apply zw3|apply zw4|apply zw5|apply zw6|apply zw7|apply zw8|apply zw9|apply zw10|apply zw11|apply zw13|apply zw14)|((with_reducible refine zw12 ?_ ?_);rfl)|((with_reducible refine zw16 ?_ ?_ (fun K' hK'=>?_));rfl;rfl;simp only [UN,LM,zn0,zn1,zi0,zi1,zi2,zn2,zn3,zn4,reduceCtorEq,TAS,TBS,Int.reduceBEq];(repeat (refine And.intro ?_ ?_;focus (clear hK';intros;simp_all;done)));(try (refine hK' _ _ ?_;clear hK' K')))|((with_reducible refine zw15 ?_ ?_);rfl;refine ⟨_,rfl,fun h=>?_,fun h=>?_⟩ <;> try exact absurd h (by decide)))
        simp only [Kret,retL,retOne,oneV,UN,LM,zn0,zn1,zi0,zi1,zi2,zn2,zn3,zn4,reduceCtorEq,TAS,TBS,meetA,List.map_nil]
    · rw [if_pos hss] at hR
      subst hR
      have gs : (xso != yso) = true:=by simpa using hss
      (with_reducible refine swp_draw ?_ ?_ ?_ ( [(4,iD (dKind xk))]) (fun K' hK'=>?_)
       · kernel_rfl
       · rfl
       · rfl
       simp only [UN,LM,zn0,zn1,zi0,zi1,zi2,zn2,zn3,zn4,reduceCtorEq,TAS,TBS,vcA,stepA,callA,rst,lksA,Oper.looksAt,Op.operands,pureOp,Call.operands,List.filterMap_cons,List.filterMap_nil,Option.toList_none,Option.toList_some,Option.bind_some,Option.bind_none,List.getElem?_toArray,Array.toList_append,List.append_nil,D.flat,D.flats,true_or,or_true,forall_const,hk,gk,gs,Bool.not_true,Bool.not_false,Bool.true_and,Bool.false_and,false_implies,cond_true,cond_false ]
       (try (refine hK' _ _ ?_;clear hK' K')))
      repeat' (first|(with_reducible first|apply zw0|apply zw1|apply zw2|apply zw3|apply zw4|apply zw5|apply zw6|apply zw7|apply zw8|apply zw9|apply zw10|apply zw11|apply zw13|apply zw14)|((with_reducible refine zw12 ?_ ?_);rfl)|((with_reducible refine zw16 ?_ ?_ (fun K' hK'=>?_));rfl;rfl;simp only [UN,LM,zn0,zn1,zi0,zi1,zi2,zn2,zn3,zn4,reduceCtorEq,TAS,TBS];(repeat (refine And.intro ?_ ?_;focus (clear hK';intros;simp_all;done)));(try (refine hK' _ _ ?_;clear hK' K')))|((with_reducible refine zw15 ?_ ?_);rfl;refine ⟨_,rfl,fun h=>?_,fun h=>?_⟩ <;> try exact absurd h (by decide)))
      simp only [Kret,retL,retOne,oneV,UN,LM,zn0,zn1,zi0,zi1,zi2,zn2,zn3,zn4,reduceCtorEq,TAS,TBS,meetA]
  · rw [if_pos hkk] at hR
    subst hR
    have gk : (yk != dKind xk) = true:=by simpa using hkk
    (with_reducible refine swp_draw ?_ ?_ ?_ ( [(4,iD (dKind xk))]) (fun K' hK'=>?_)
     · kernel_rfl
     · rfl
     · rfl
     simp only [UN,LM,zn0,zn1,zi0,zi1,zi2,zn2,zn3,zn4,reduceCtorEq,TAS,TBS,vcA,stepA,callA,rst,lksA,Oper.looksAt,Op.operands,pureOp,Call.operands,List.filterMap_cons,List.filterMap_nil,Option.toList_none,Option.toList_some,Option.bind_some,Option.bind_none,List.getElem?_toArray,Array.toList_append,List.append_nil,D.flat,D.flats,true_or,or_true,forall_const,hk,gk,Bool.not_true,Bool.not_false,Bool.true_and,Bool.false_and,false_implies,cond_true,cond_false ]
     (try (refine hK' _ _ ?_;clear hK' K')))
    repeat' (first|(with_reducible first|apply zw0|apply zw1|apply zw2|apply zw3|apply zw4|apply zw5|apply zw6|apply zw7|apply zw8|apply zw9|apply zw10|apply zw11|apply zw13|apply zw14)|((with_reducible refine zw12 ?_ ?_);rfl)|((with_reducible refine zw16 ?_ ?_ (fun K' hK'=>?_));rfl;rfl;simp only [UN,LM,zn0,zn1,zi0,zi1,zi2,zn2,zn3,zn4,reduceCtorEq,TAS,TBS];(repeat (refine And.intro ?_ ?_;focus (clear hK';intros;simp_all;done)));(try (refine hK' _ _ ?_;clear hK' K')))|((with_reducible refine zw15 ?_ ?_);rfl;refine ⟨_,rfl,fun h=>?_,fun h=>?_⟩ <;> try exact absurd h (by decide)))
    simp only [Kret,retL,retOne,oneV,UN,LM,zn0,zn1,zi0,zi1,zi2,zn2,zn3,zn4,reduceCtorEq,TAS,TBS,meetA]
end Go.Proofs.YtgecnlcbdbaneaaDoor
