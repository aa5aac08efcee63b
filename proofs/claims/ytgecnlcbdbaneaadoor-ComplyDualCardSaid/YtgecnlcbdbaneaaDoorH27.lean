/- comply.stuck; a symbolic walk (turned from H8). -/
import Derived.Test.YtgecnlcbdbaneaaDoorHC1
import Derived.Test.YtgecnlcbdbaneaaDoorH18
-- TYPESB
set_option linter.unusedVariables false
set_option linter.unusedSimpArgs false
namespace Go.Proofs.YtgecnlcbdbaneaaDoor
open Go.RowKit Go.Sw
open Nat renaming reduceBEq → zn0, reduceLeDiff → zn1, reduceAdd → zn2, reduceSub → zn3, reduceMul → zn4
open Int renaming reduceLE → zi0, reduceLT → zi1, reduceToNat → zi2
open Go.Sw renaming swp_seq → zw0, swp_block → zw1, swp_skip → zw2, swp_ret → zw3, swp_exit → zw4, swp_label → zw5, kseq_n → zw6, kseq_x → zw7, kseq_r → zw8, kblk_n → zw9, kblk_r → zw10, kblk_xs → zw11, kblk_xn → zw12, kloop_x → zw13, kloop_r → zw14, swp_cond → zw15, swp_regionP → zw16

def plC (q : Pc × List ByteArray) : D:=.agg [iD q.1.a,iD q.1.b,.slc (q.2.map sD)]
def MeetsOK (g h : List Nd) : Prop := ∀ p : Pc,0 ≤ p.a → p.a < (g.length : Int) → 0 ≤ p.b → p.b < (h.length : Int) →
  ∀ l,meetsP g h p = some l → l.length ≤ 6 ∧ ∀ s ∈ l,(0 ≤ s.2.a ∧ s.2.a < (g.length : Int)) ∧ 0 ≤ s.2.b ∧ s.2.b < (h.length : Int)
theorem addsC_len (path : List ByteArray) : ∀ (l : List (ByteArray × Pc)) (qu : Quc),qu.length ≤ (l.foldl (addC path) qu).length ∧ ∀ j,j < qu.length → (l.foldl (addC path) qu)[j]? = qu[j]?
  | [],qu=>⟨Nat.le_refl _,fun _ _=>rfl⟩
  | s :: l,qu=>by
    have h1:=addC_len path qu s
    have h2:=addsC_len path l (addC path qu s)
    refine ⟨by simp only [List.foldl_cons];omega,fun j hj=>?_⟩
    simp only [List.foldl_cons]
    rw [h2.2 j (by omega)]
    unfold addC
    split
    · rfl
    · exact List.getElem?_append_left hj
set_option maxHeartbeats 16000000 in
set_option maxRecDepth 100000 in
theorem stuck_fn (Γ : Gl) (g f : List Nd) (Hg : Gd g) (Hf : Gd f) (hok : MeetsOK g f) :
    DFn Tryd.prog Γ 57 [.slc (g.map Nd.d),.slc (f.map Nd.d)] (whyA (stuckP g f)):=by
  obtain ⟨R,hR⟩ : ∃ R,stuckP g f = R:=⟨_,rfl⟩
  rw [hR]
  unfold stuckP at hR
  have hg0:=Hg.pos
  have hf0:=Hf.pos
  have hbnd : g.length * f.length ≤ 40000:=Nat.mul_le_mul Hg.le Hf.le
  have hko0:=keyOK_pc ⟨0,0⟩ [] (by simp)
  simp only [cV] at hko0
  have hset0 : setM (Value.agg [Value.int .i64 0,Value.int .i64 0].toArray) (.int .i64 1) [] = mC [(⟨0,0⟩,[])]:=rfl
  refine fn_of_swp (N:=79) Tryd.func57 rfl (by decide) rfl rfl (by simp) (fun C h0=>?_)
  simp only [argE]
  repeat' (first|(with_reducible first|apply zw0|apply zw1|apply zw2|apply zw3|apply zw4|apply zw5|apply zw6|apply zw7|apply zw8|apply zw9|apply zw10|apply zw11|apply zw13|apply zw14)|((with_reducible refine zw12 ?_ ?_);rfl)|((with_reducible refine zw16 ?_ ?_ (fun K' hK'=>?_));rfl;rfl;simp only [UN,LM,zn0,zn1,zi0,zi1,zi2,zn2,zn3,zn4,reduceCtorEq,TAS,TBS,valV_agg,hko0,hset0];(repeat (refine And.intro ?_ ?_;focus (clear hK';intros;simp_all;done)));(try (refine hK' _ _ ?_;clear hK' K')))|((with_reducible refine zw15 ?_ ?_);rfl;refine ⟨_,rfl,fun h=>?_,fun h=>?_⟩ <;> try exact absurd h (by decide)))
  -- TRACE
  refine swp_loop (α := Nat × Quc) (fun q=>[(0,.d (.slc (g.map Nd.d))),(1,.d (.slc (f.map Nd.d))),(6,.mp 0),(7,.own 1),(8,.d (iD q.1))]) (fun q=>[(0,.mp (mC q.2)),(1,.row 3 (q.2.map plC))])
    (fun q=>q.1 ≤ q.2.length ∧ QC g.length f.length q.2 ∧ ∃ u,g.length * f.length + 1 - q.1 ≤ u ∧ stuckF g f u q.1 q.2 = R) (fun q=>g.length * f.length + 1 - q.1)
    (0, [(⟨0,0⟩,[])]) ⟨by simp,⟨by simp,by simp;omega,fun i q h=>by
      cases i with
      | zero=>simp at h;subst h;simp
      | succ i=>simp at h⟩,_,Nat.le_refl _,hR⟩ (by simp only [List.map_cons,List.map_nil,plC];refine sub_of h0 ?_ ?_ ?_ <;> simp only [US,UN,LM,zn0,zn1,zi0,zi1,zi2,zn2,zn3,zn4,reduceCtorEq,TAS,TBS]) (fun q hq=>?_)
  obtain ⟨at',qu⟩:=q
  obtain ⟨hat,hqi,u,hu,hR⟩:=hq
  simp only at hat hqi hu hR
  have hql:=hqi.len
  have ha0 : (0 : Int) ≤ (at' : Int):=by omega
  by_cases hlt : at' < qu.length
  · obtain ⟨q, hq⟩ : ∃ q,qu[at']? = some q:=⟨qu[at'],by simp [hlt]⟩
    have hqr:=hqi.r q (List.mem_of_getElem? hq)
    have hqp:=hqi.p at' q hq
    have hqg : (qu.map plC).getD at' default = plC q:=by simp [List.getD,hq]
    obtain ⟨u,rfl⟩ : ∃ u',u = u' + 1:=⟨u - 1,by omega⟩
    unfold stuckF at hR
    obtain ⟨p,path⟩:=q
    simp only [hq] at hR
    simp only at hqr hqp
    obtain ⟨⟨r1,r2⟩,r3,r4⟩:=hqr
    have o3:=hok p r1 r2 r3 r4
    have hfit:=meets_fn Γ g f p r1 r2 r3 r4 Hg Hf
    have ha1 : (at' : Int) < (qu.length : Int):=by omega
    have hw1 : IntKind.i64.wrap ((at' : Int) + 1) = ((at' + 1 : Nat) : Int):=by rw [wrap_in (by omega) (by omega)];omega
    obtain ⟨pa,pb⟩:=p
    simp only [plC,Pc.d] at hqg hfit
    cases hF : meetsP g f ⟨pa,pb⟩ with
    | none =>
      rw [hF] at hfit hR
      simp only at hR
      subst hR
      simp only [meetA] at hfit
      repeat' (first|(with_reducible first|apply zw0|apply zw1|apply zw2|apply zw3|apply zw4|apply zw5|apply zw6|apply zw7|apply zw8|apply zw9|apply zw10|apply zw11|apply zw13|apply zw14)|((with_reducible refine zw12 ?_ ?_);rfl)|((with_reducible refine zw16 ?_ ?_ (fun K' hK'=>?_));rfl;rfl;simp only [UN,LM,zn0,zn1,zi0,zi1,zi2,zn2,zn3,zn4,reduceCtorEq,TAS,TBS,ha0,ha1,hqg,Int.toNat_natCast,List.length_map];(repeat (refine And.intro ?_ ?_;focus (clear hK';intros;simp_all;done)));(try (refine hK' _ _ ?_;clear hK' K')))|((with_reducible refine zw15 ?_ ?_);rfl;refine ⟨_,rfl,fun h=>?_,fun h=>?_⟩ <;> try exact absurd h (by decide)))
      refine stop_call h0 rfl (by simp only [UN,LM,zn0,zn1,zi0,zi1,zi2,zn2,zn3,zn4,reduceCtorEq]) rfl (by simp only [keepS,UN,LM,zn0,zn1,zi0,zi1,zi2,zn2,zn3,zn4,reduceCtorEq]) (hfit) ?_
      simp only [UN,LM,zn0,zn1,zi0,zi1,zi2,zn2,zn3,zn4,reduceCtorEq,TAS,TBS,inX,dropS, ]
      (repeat (refine And.intro ?_ ?_;focus (clear hK';intros;simp_all;done)))
      (try (refine hK' _ _ ?_;clear hK' K'))
      repeat' (first|(with_reducible first|apply zw0|apply zw1|apply zw2|apply zw3|apply zw4|apply zw5|apply zw6|apply zw7|apply zw8|apply zw9|apply zw10|apply zw11|apply zw13|apply zw14)|((with_reducible refine zw12 ?_ ?_);rfl)|((with_reducible refine zw16 ?_ ?_ (fun K' hK'=>?_));rfl;rfl;simp only [UN,LM,zn0,zn1,zi0,zi1,zi2,zn2,zn3,zn4,reduceCtorEq,TAS,TBS,ha0,ha1,hqg,Int.toNat_natCast,List.length_map,Bool.not_false];(repeat (refine And.intro ?_ ?_;focus (clear hK';intros;simp_all;done)));(try (refine hK' _ _ ?_;clear hK' K')))|((with_reducible refine zw15 ?_ ?_);rfl;refine ⟨_,rfl,fun h=>?_,fun h=>?_⟩ <;> try exact absurd h (by decide)))
      simp only [whyA]
      simp only [Kret,retL,retOne,oneV,UN,LM,zn0,zn1,zi0,zi1,zi2,zn2,zn3,zn4,reduceCtorEq,TAS,TBS]
    | some l =>
      rw [hF] at hfit hR
      simp only at hR
      simp only [meetA] at hfit
      have hll:=(o3 l hF).1
      have o3:=(o3 l hF).2
      repeat' (first|(with_reducible first|apply zw0|apply zw1|apply zw2|apply zw3|apply zw4|apply zw5|apply zw6|apply zw7|apply zw8|apply zw9|apply zw10|apply zw11|apply zw13|apply zw14)|((with_reducible refine zw12 ?_ ?_);rfl)|((with_reducible refine zw16 ?_ ?_ (fun K' hK'=>?_));rfl;rfl;simp only [UN,LM,zn0,zn1,zi0,zi1,zi2,zn2,zn3,zn4,reduceCtorEq,TAS,TBS,ha0,ha1,hqg,Int.toNat_natCast,List.length_map];(repeat (refine And.intro ?_ ?_;focus (clear hK';intros;simp_all;done)));(try (refine hK' _ _ ?_;clear hK' K')))|((with_reducible refine zw15 ?_ ?_);rfl;refine ⟨_,rfl,fun h=>?_,fun h=>?_⟩ <;> try exact absurd h (by decide)))
      refine stop_call h0 rfl (by simp only [UN,LM,zn0,zn1,zi0,zi1,zi2,zn2,zn3,zn4,reduceCtorEq]) rfl (by simp only [keepS,UN,LM,zn0,zn1,zi0,zi1,zi2,zn2,zn3,zn4,reduceCtorEq]) (hfit) ?_
      simp only [UN,LM,zn0,zn1,zi0,zi1,zi2,zn2,zn3,zn4,reduceCtorEq,TAS,TBS,inX,dropS, ]
      (repeat (refine And.intro ?_ ?_;focus (clear hK';intros;simp_all;done)))
      (try (refine hK' _ _ ?_;clear hK' K'))
      repeat' (first|(with_reducible first|apply zw0|apply zw1|apply zw2|apply zw3|apply zw4|apply zw5|apply zw6|apply zw7|apply zw8|apply zw9|apply zw10|apply zw11|apply zw13|apply zw14)|((with_reducible refine zw12 ?_ ?_);rfl)|((with_reducible refine zw16 ?_ ?_ (fun K' hK'=>?_));rfl;rfl;simp only [UN,LM,zn0,zn1,zi0,zi1,zi2,zn2,zn3,zn4,reduceCtorEq,TAS,TBS,List.length_map,Bool.not_true];(repeat (refine And.intro ?_ ?_;focus (clear hK';intros;simp_all;done)));(try (refine hK' _ _ ?_;clear hK' K')))|((with_reducible refine zw15 ?_ ?_);rfl;refine ⟨_,rfl,fun h=>?_,fun h=>?_⟩ <;> try exact absurd h (by decide)))
      -- TRACE
      refine swp_loop (α := Nat) (fun j=>[(0,.d (.slc (g.map Nd.d))),(1,.d (.slc (f.map Nd.d))),(6,.mp 0),(7,.own 1),(8,.d (iD at')),(9,.d (.slc (l.map fun q=>sD q.1))),(44,.d (.slc (l.map fun q=>q.2.d))),(45,.d (iD l.length)),(46,.d (iD j))]) (fun j=>[(0,.mp (mC ((l.take j).foldl (addC path) qu))),(1,.row 3 (((l.take j).foldl (addC path) qu).map plC))])
        (fun j=>j ≤ l.length) (fun j=>l.length - j) 0 (Nat.zero_le _) (by refine sub_of h0 ?_ ?_ ?_ <;> simp only [US,UN,LM,zn0,zn1,zi0,zi1,zi2,zn2,zn3,zn4,reduceCtorEq,TAS,TBS,List.take_zero,List.foldl_nil]) (fun j hj=>?_)
      have hj : j ≤ l.length:=hj
      have hj0 : (0 : Int) ≤ (j : Int):=by omega
      by_cases hjl : j < l.length
      · obtain ⟨x, hx⟩ : ∃ x,l[j]? = some x:=⟨l[j],by simp [hjl]⟩
        have htk : (l.take (j + 1)).foldl (addC path) qu = addC path ((l.take j).foldl (addC path) qu) x:=by rw [List.take_add_one,hx];simp
        have hqi2:=QC.adds hqp (l:=l.take j) hqi hlt (fun s hs=>o3 s (List.mem_of_mem_take hs))
        have hal:=addsC_len path (l.take j) qu
        generalize hqj : (l.take j).foldl (addC path) qu = qj at *
        have hqjl:=hqi2.len
        have hxm:=o3 x (List.mem_of_getElem? hx)
        have hxg : (l.map fun q=>q.2.d).getD j default = x.2.d:=by simp [List.getD,hx]
        have hng : (l.map fun q=>sD q.1).getD j default = sD x.1:=by simp [List.getD,hx]
        obtain ⟨name,sa,sb⟩:=x
        have hxg : (l.map fun q=>q.2.d).getD j default = .agg [iD sa,iD sb]:=hxg
        have hng : (l.map fun q=>sD q.1).getD j default = sD name:=hng
        have hj1 : (j : Int) < (l.length : Int):=by omega
        have hw2 : IntKind.i64.wrap ((j : Int) + 1) = ((j + 1 : Nat) : Int):=by rw [wrap_in (by omega) (by omega)];omega
        have hqg2 : (qj.map plC).getD at' default = .agg [iD pa,iD pb,.slc (path.map sD)]:=by
          have:=hal.2 at' hlt
          rw [hq] at this
          simp [List.getD,this,plC]
        have hko:=keyOK_pc ⟨sa,sb⟩ (mC qj) (mC_keys qj)
        have hfd:=find_mC ⟨sa,sb⟩ qj 0
        have e10 : ((1 : Int) == 0) = false:=by decide
        have e00 : ((0 : Int) == 0) = true:=by decide
        cases hh : hasC ⟨sa,sb⟩ qj with
        | true =>
          obtain ⟨i,hfind⟩:=hfd.2 hh
          have hadd : addC path qj (name,⟨sa,sb⟩) = qj:=by unfold addC;rw [if_pos hh]
          rw [hadd] at htk
          simp only [cV] at hko hfind
          repeat' (first|(with_reducible first|apply zw0|apply zw1|apply zw2|apply zw3|apply zw4|apply zw5|apply zw6|apply zw7|apply zw8|apply zw9|apply zw10|apply zw11|apply zw13|apply zw14)|((with_reducible refine zw12 ?_ ?_);rfl)|((with_reducible refine zw16 ?_ ?_ (fun K' hK'=>?_));rfl;rfl;simp only [UN,LM,zn0,zn1,zi0,zi1,zi2,zn2,zn3,zn4,reduceCtorEq,TAS,TBS,Int.toNat_natCast,hj0,hj1,hxg,List.length_map,valV_agg,hko,hfind,e10,hw2];(repeat (refine And.intro ?_ ?_;focus (clear hK';intros;simp_all;done)));(try (refine hK' _ _ ?_;clear hK' K')))|((with_reducible refine zw15 ?_ ?_);rfl;refine ⟨_,rfl,fun h=>?_,fun h=>?_⟩ <;> try exact absurd h (by decide)))
          refine ⟨j + 1,(by show j + 1 ≤ l.length;omega),(by show l.length - (j + 1) < l.length - j;omega),by simp only [htk];refine sub_of h0 ?_ ?_ ?_ <;> simp only [US,UN,LM,zn0,zn1,zi0,zi1,zi2,zn2,zn3,zn4,reduceCtorEq,TAS,TBS]⟩
        | false =>
          have hfind:=hfd.1 hh
          have hadd : addC path qj (name,⟨sa,sb⟩) = qj ++ [(⟨sa,sb⟩,path ++ [name])]:=by unfold addC;rw [if_neg (by simp [hh])]
          rw [hadd] at htk
          have hko1:=keyOK_pc ⟨sa,sb⟩ (mC qj ++ [(cV ⟨sa,sb⟩,.int .i64 0)]) (fun q hq=>by
            rcases List.mem_append.1 hq with hq | hq
            · exact mC_keys qj q hq
            · obtain rfl : q = (cV ⟨sa,sb⟩,.int .i64 0):=by simpa using hq
              exact ⟨_,rfl⟩)
          have hfind1:=find_mC2 ⟨sa,sb⟩ (.int .i64 0) qj 0 hh
          rw [Nat.zero_add] at hfind1
          have hml : (mC qj).length = qj.length:=by simp [mC]
          have hst : Go.Sw.stM qj.length (.int .i64 1) (mC qj ++ [(cV ⟨sa,sb⟩,.int .i64 0)]) = mC (qj ++ [(⟨sa,sb⟩,path ++ [name])]):=by
            unfold Go.Sw.stM
            rw [List.getElem?_append_right (by omega),hml,Nat.sub_self]
            simp only [List.getElem?_cons_zero]
            rw [List.set_append_right _ _ (by omega),hml,Nat.sub_self]
            simp [mC]
          have hm1l : (mC qj ++ [(cV ⟨sa,sb⟩,Value.int .i64 0)]).length = qj.length + 1:=by simp [mC]
          have hw01 : IntKind.i64.wrap (0 + 1) = 1:=by decide +kernel
          have hjj0 : (0 : Int) ≤ (qj.length : Int):=by omega
          have hjj1 : (qj.length : Int) < ((qj.length + 1 : Nat) : Int):=by omega
          simp only [cV] at hko hfind hko1 hfind1 hst hm1l
          repeat' (first|(with_reducible first|apply zw0|apply zw1|apply zw2|apply zw3|apply zw4|apply zw5|apply zw6|apply zw7|apply zw8|apply zw9|apply zw10|apply zw11|apply zw13|apply zw14)|((with_reducible refine zw12 ?_ ?_);rfl)|((with_reducible refine zw16 ?_ ?_ (fun K' hK'=>?_));rfl;rfl;simp only [UN,LM,zn0,zn1,zi0,zi1,zi2,zn2,zn3,zn4,reduceCtorEq,TAS,TBS,Int.toNat_natCast,hj0,hj1,hxg,List.length_map,valV_agg,hko,hfind,e00];(repeat (refine And.intro ?_ ?_;focus (clear hK';intros;simp_all;done)));(try (refine hK' _ _ ?_;clear hK' K')))|((with_reducible refine zw15 ?_ ?_);rfl;refine ⟨_,rfl,fun h=>?_,fun h=>?_⟩ <;> try exact absurd h (by decide)))
          refine swp_midK [(0,.d (.slc (g.map Nd.d))),(1,.d (.slc (f.map Nd.d))),(6,.mp 0),(7,.own 1),(8,.d (iD at')),(9,.d (.slc (l.map fun q=>sD q.1))),(44,.d (.slc (l.map fun q=>q.2.d))),(45,.d (iD l.length)),(46,.d (iD j)),(12,.d (iD j)),(13,.ref 2 0)] [(0,.mp (mC (qj ++ [(⟨sa,sb⟩,path ++ [name])]))),(1,.row 3 (qj.map plC)),(2,.cells [.d (iD sa),.d (iD sb)])] ?_ ?_
          · (with_reducible refine swp_drawL ?_ ?_ ?_ (⟨⟨[],[]⟩,[],[],[],[]⟩) _ rfl 2 [2,3,4,5,6] ([true,true,false,false,false,false,false]).toArray (by decide) ?_ (by decide) (by decide) ?_ (fun K' hK' gops fin hgops hfin=>?_)
             · kernel_rfl
             · rfl
             · rfl
             · kernel_rfl
             · kernel_rfl
             repeat' first
               | (refine vcX_dead rfl trivial (by simp only [UN,LM,zn0,zn1,zi0,zi1,zi2,zn2,zn3,zn4,reduceCtorEq,TAS,TBS,Eff.env,Eff.st,jkE,jkS,UA,LM];rfl) (by simp only [List.nil_append,List.cons_append];rfl) (by simp only [zn2];rfl) ?_)
               | (refine vcX_step rfl rfl trivial (by simp only [UN,LM,zn0,zn1,zi0,zi1,zi2,zn2,zn3,zn4,reduceCtorEq,TAS,TBS,stepX,stepX1,frzR,stepX0,callN,storeE,dAll,setE,callM,mArgs,SV.calm,SV.calms,callB,callP,bArgs,hasR,hins,hin,yes,inX,stepW,callR,effO,srcE,Eff.env,Eff.st,writeOp,callA,pureOp,Bool.or_true,Bool.true_or,Bool.or_self,Bool.or_false,Bool.false_or,Bool.not_true,Bool.not_false,D.flat,D.flats,true_or,or_true,forall_const,UA,valV_agg];rfl) ?_ (by simp only [UN,LM,zn0,zn1,zi0,zi1,zi2,zn2,zn3,zn4,reduceCtorEq,TAS,TBS,Eff.env,Eff.st,jkE,jkS,UA,LM];rfl) (by simp only [UN,LM,zn0,zn1,zi0,zi1,zi2,zn2,zn3,zn4,reduceCtorEq,TAS,TBS,Eff.env,Eff.st,jkE,jkS,UA,LM];rfl) (by simp only [List.nil_append,List.cons_append];rfl) (by simp only [zn2];rfl) ?_;focus (first | trivial | ((repeat' (refine And.intro ?_ ?_)) <;> first | trivial | assumption | (clear hK' hfin hgops;intros;simp_all;done))))
             (refine vcX_nil (by subst hfin;kernel_rfl) ?_)
             subst hgops
             clear hfin fin)
            -- STEPS
            refine any_all (rs:=[2,4]) (by kernel_rfl) (by simp) (fun i hi=>?_)
            simp only [List.mem_cons,List.not_mem_nil,or_false] at hi
            rcases hi with rfl | rfl
            · refine ⟨_,rfl,rfl,?_⟩
              refine aop_step rfl rfl (by simp only [UN,LM,zn0,zn1,zi0,zi1,zi2,zn2,zn3,zn4,reduceCtorEq,TAS,TBS,valV_agg,hko,hfind,hko1,hfind1,hml,hm1l,hst,hw01,Int.toNat_natCast,hjj0,hjj1];rfl) ?_ ?_
              · (repeat (refine And.intro ?_ ?_)) <;> first | trivial | (simp_all;done)
              simp only [UN,LM,zn0,zn1,zi0,zi1,zi2,zn2,zn3,zn4,reduceCtorEq,TAS,TBS,valV_agg,hko,hfind,hko1,hfind1,hml,hm1l,hst,hw01,Int.toNat_natCast,hjj0,hjj1]
              refine any_all (rs:=[3,4]) (by kernel_rfl) (by simp) (fun i hi=>?_)
              simp only [List.mem_cons,List.not_mem_nil,or_false] at hi
              rcases hi with rfl | rfl
              · refine ⟨_,rfl,rfl,?_⟩
                refine aop_step rfl rfl (by simp only [UN,LM,zn0,zn1,zi0,zi1,zi2,zn2,zn3,zn4,reduceCtorEq,TAS,TBS,valV_agg,hko,hfind,hko1,hfind1,hml,hm1l,hst,hw01,Int.toNat_natCast,hjj0,hjj1];rfl) ?_ ?_
                · (repeat (refine And.intro ?_ ?_)) <;> first | trivial | (simp_all;done)
                simp only [UN,LM,zn0,zn1,zi0,zi1,zi2,zn2,zn3,zn4,reduceCtorEq,TAS,TBS,valV_agg,hko,hfind,hko1,hfind1,hml,hm1l,hst,hw01,Int.toNat_natCast,hjj0,hjj1]
                refine any_all (rs:=[4]) (by kernel_rfl) (by simp) (fun i hi=>?_)
                simp only [List.mem_cons,List.not_mem_nil,or_false] at hi
                obtain rfl:=hi
                refine ⟨_,rfl,rfl,?_⟩
                refine aop_step rfl rfl (by simp only [UN,LM,zn0,zn1,zi0,zi1,zi2,zn2,zn3,zn4,reduceCtorEq,TAS,TBS,valV_agg,hko,hfind,hko1,hfind1,hml,hm1l,hst,hw01,Int.toNat_natCast,hjj0,hjj1];rfl) ?_ ?_
                · (repeat (refine And.intro ?_ ?_)) <;> first | trivial | (simp_all;done)
                simp only [UN,LM,zn0,zn1,zi0,zi1,zi2,zn2,zn3,zn4,reduceCtorEq,TAS,TBS,valV_agg,hko,hfind,hko1,hfind1,hml,hm1l,hst,hw01,Int.toNat_natCast,hjj0,hjj1]
                refine any_all (rs:=[5]) (by kernel_rfl) (by simp) (fun i hi=>?_)
                simp only [List.mem_cons,List.not_mem_nil,or_false] at hi
                obtain rfl:=hi
                refine ⟨_,rfl,rfl,?_⟩
                refine aop_step rfl rfl (by simp only [UN,LM,zn0,zn1,zi0,zi1,zi2,zn2,zn3,zn4,reduceCtorEq,TAS,TBS,valV_agg,hko,hfind,hko1,hfind1,hml,hm1l,hst,hw01,Int.toNat_natCast,hjj0,hjj1];rfl) ?_ ?_
                · (repeat (refine And.intro ?_ ?_)) <;> first | trivial | (simp_all;done)
                simp only [UN,LM,zn0,zn1,zi0,zi1,zi2,zn2,zn3,zn4,reduceCtorEq,TAS,TBS,valV_agg,hko,hfind,hko1,hfind1,hml,hm1l,hst,hw01,Int.toNat_natCast,hjj0,hjj1]
                refine any_all (rs:=[6]) (by kernel_rfl) (by simp) (fun i hi=>?_)
                simp only [List.mem_cons,List.not_mem_nil,or_false] at hi
                obtain rfl:=hi
                refine ⟨_,rfl,rfl,?_⟩
                refine aop_step rfl rfl (by simp only [UN,LM,zn0,zn1,zi0,zi1,zi2,zn2,zn3,zn4,reduceCtorEq,TAS,TBS,valV_agg,hko,hfind,hko1,hfind1,hml,hm1l,hst,hw01,Int.toNat_natCast,hjj0,hjj1];rfl) ?_ ?_
                · (repeat (refine And.intro ?_ ?_)) <;> first | trivial | (simp_all;done)
                simp only [UN,LM,zn0,zn1,zi0,zi1,zi2,zn2,zn3,zn4,reduceCtorEq,TAS,TBS,valV_agg,hko,hfind,hko1,hfind1,hml,hm1l,hst,hw01,Int.toNat_natCast,hjj0,hjj1]
                refine any_done (by kernel_rfl) ?_
                refine hK' _ _ ?_
                clear hK' K'
                refine ⟨rfl,?_⟩
                refine sub_of h0 ?_ ?_ ?_ <;> simp only [US,UN,LM,zn0,zn1,zi0,zi1,zi2,zn2,zn3,zn4,reduceCtorEq,TAS,TBS,hst]
              · refine ⟨_,rfl,rfl,?_⟩
                refine aop_step rfl rfl (by simp only [UN,LM,zn0,zn1,zi0,zi1,zi2,zn2,zn3,zn4,reduceCtorEq,TAS,TBS,valV_agg,hko,hfind,hko1,hfind1,hml,hm1l,hst,hw01,Int.toNat_natCast,hjj0,hjj1];rfl) ?_ ?_
                · (repeat (refine And.intro ?_ ?_)) <;> first | trivial | (simp_all;done)
                simp only [UN,LM,zn0,zn1,zi0,zi1,zi2,zn2,zn3,zn4,reduceCtorEq,TAS,TBS,valV_agg,hko,hfind,hko1,hfind1,hml,hm1l,hst,hw01,Int.toNat_natCast,hjj0,hjj1]
                refine any_all (rs:=[3,5]) (by kernel_rfl) (by simp) (fun i hi=>?_)
                simp only [List.mem_cons,List.not_mem_nil,or_false] at hi
                rcases hi with rfl | rfl
                · refine ⟨_,rfl,rfl,?_⟩
                  refine aop_step rfl rfl (by simp only [UN,LM,zn0,zn1,zi0,zi1,zi2,zn2,zn3,zn4,reduceCtorEq,TAS,TBS,valV_agg,hko,hfind,hko1,hfind1,hml,hm1l,hst,hw01,Int.toNat_natCast,hjj0,hjj1];rfl) ?_ ?_
                  · (repeat (refine And.intro ?_ ?_)) <;> first | trivial | (simp_all;done)
                  simp only [UN,LM,zn0,zn1,zi0,zi1,zi2,zn2,zn3,zn4,reduceCtorEq,TAS,TBS,valV_agg,hko,hfind,hko1,hfind1,hml,hm1l,hst,hw01,Int.toNat_natCast,hjj0,hjj1]
                  refine any_all (rs:=[5]) (by kernel_rfl) (by simp) (fun i hi=>?_)
                  simp only [List.mem_cons,List.not_mem_nil,or_false] at hi
                  obtain rfl:=hi
                  refine ⟨_,rfl,rfl,?_⟩
                  refine aop_step rfl rfl (by simp only [UN,LM,zn0,zn1,zi0,zi1,zi2,zn2,zn3,zn4,reduceCtorEq,TAS,TBS,valV_agg,hko,hfind,hko1,hfind1,hml,hm1l,hst,hw01,Int.toNat_natCast,hjj0,hjj1];rfl) ?_ ?_
                  · (repeat (refine And.intro ?_ ?_)) <;> first | trivial | (simp_all;done)
                  simp only [UN,LM,zn0,zn1,zi0,zi1,zi2,zn2,zn3,zn4,reduceCtorEq,TAS,TBS,valV_agg,hko,hfind,hko1,hfind1,hml,hm1l,hst,hw01,Int.toNat_natCast,hjj0,hjj1]
                  refine any_all (rs:=[6]) (by kernel_rfl) (by simp) (fun i hi=>?_)
                  simp only [List.mem_cons,List.not_mem_nil,or_false] at hi
                  obtain rfl:=hi
                  refine ⟨_,rfl,rfl,?_⟩
                  refine aop_step rfl rfl (by simp only [UN,LM,zn0,zn1,zi0,zi1,zi2,zn2,zn3,zn4,reduceCtorEq,TAS,TBS,valV_agg,hko,hfind,hko1,hfind1,hml,hm1l,hst,hw01,Int.toNat_natCast,hjj0,hjj1];rfl) ?_ ?_
                  · (repeat (refine And.intro ?_ ?_)) <;> first | trivial | (simp_all;done)
                  simp only [UN,LM,zn0,zn1,zi0,zi1,zi2,zn2,zn3,zn4,reduceCtorEq,TAS,TBS,valV_agg,hko,hfind,hko1,hfind1,hml,hm1l,hst,hw01,Int.toNat_natCast,hjj0,hjj1]
                  refine any_done (by kernel_rfl) ?_
                  refine hK' _ _ ?_
                  clear hK' K'
                  refine ⟨rfl,?_⟩
                  refine sub_of h0 ?_ ?_ ?_ <;> simp only [US,UN,LM,zn0,zn1,zi0,zi1,zi2,zn2,zn3,zn4,reduceCtorEq,TAS,TBS,hst]
                · refine ⟨_,rfl,rfl,?_⟩
                  refine aop_step rfl rfl (by simp only [UN,LM,zn0,zn1,zi0,zi1,zi2,zn2,zn3,zn4,reduceCtorEq,TAS,TBS,valV_agg,hko,hfind,hko1,hfind1,hml,hm1l,hst,hw01,Int.toNat_natCast,hjj0,hjj1];rfl) ?_ ?_
                  · (repeat (refine And.intro ?_ ?_)) <;> first | trivial | (simp_all;done)
                  simp only [UN,LM,zn0,zn1,zi0,zi1,zi2,zn2,zn3,zn4,reduceCtorEq,TAS,TBS,valV_agg,hko,hfind,hko1,hfind1,hml,hm1l,hst,hw01,Int.toNat_natCast,hjj0,hjj1]
                  refine any_all (rs:=[3]) (by kernel_rfl) (by simp) (fun i hi=>?_)
                  simp only [List.mem_cons,List.not_mem_nil,or_false] at hi
                  obtain rfl:=hi
                  refine ⟨_,rfl,rfl,?_⟩
                  refine aop_step rfl rfl (by simp only [UN,LM,zn0,zn1,zi0,zi1,zi2,zn2,zn3,zn4,reduceCtorEq,TAS,TBS,valV_agg,hko,hfind,hko1,hfind1,hml,hm1l,hst,hw01,Int.toNat_natCast,hjj0,hjj1];rfl) ?_ ?_
                  · (repeat (refine And.intro ?_ ?_)) <;> first | trivial | (simp_all;done)
                  simp only [UN,LM,zn0,zn1,zi0,zi1,zi2,zn2,zn3,zn4,reduceCtorEq,TAS,TBS,valV_agg,hko,hfind,hko1,hfind1,hml,hm1l,hst,hw01,Int.toNat_natCast,hjj0,hjj1]
                  refine any_all (rs:=[6]) (by kernel_rfl) (by simp) (fun i hi=>?_)
                  simp only [List.mem_cons,List.not_mem_nil,or_false] at hi
                  obtain rfl:=hi
                  refine ⟨_,rfl,rfl,?_⟩
                  refine aop_step rfl rfl (by simp only [UN,LM,zn0,zn1,zi0,zi1,zi2,zn2,zn3,zn4,reduceCtorEq,TAS,TBS,valV_agg,hko,hfind,hko1,hfind1,hml,hm1l,hst,hw01,Int.toNat_natCast,hjj0,hjj1];rfl) ?_ ?_
                  · (repeat (refine And.intro ?_ ?_)) <;> first | trivial | (simp_all;done)
                  simp only [UN,LM,zn0,zn1,zi0,zi1,zi2,zn2,zn3,zn4,reduceCtorEq,TAS,TBS,valV_agg,hko,hfind,hko1,hfind1,hml,hm1l,hst,hw01,Int.toNat_natCast,hjj0,hjj1]
                  refine any_done (by kernel_rfl) ?_
                  refine hK' _ _ ?_
                  clear hK' K'
                  refine ⟨rfl,?_⟩
                  refine sub_of h0 ?_ ?_ ?_ <;> simp only [US,UN,LM,zn0,zn1,zi0,zi1,zi2,zn2,zn3,zn4,reduceCtorEq,TAS,TBS,hst]
            · refine ⟨_,rfl,rfl,?_⟩
              refine aop_step rfl rfl (by simp only [UN,LM,zn0,zn1,zi0,zi1,zi2,zn2,zn3,zn4,reduceCtorEq,TAS,TBS,valV_agg,hko,hfind,hko1,hfind1,hml,hm1l,hst,hw01,Int.toNat_natCast,hjj0,hjj1];rfl) ?_ ?_
              · (repeat (refine And.intro ?_ ?_)) <;> first | trivial | (simp_all;done)
              simp only [UN,LM,zn0,zn1,zi0,zi1,zi2,zn2,zn3,zn4,reduceCtorEq,TAS,TBS,valV_agg,hko,hfind,hko1,hfind1,hml,hm1l,hst,hw01,Int.toNat_natCast,hjj0,hjj1]
              refine any_all (rs:=[2,5]) (by kernel_rfl) (by simp) (fun i hi=>?_)
              simp only [List.mem_cons,List.not_mem_nil,or_false] at hi
              rcases hi with rfl | rfl
              · refine ⟨_,rfl,rfl,?_⟩
                refine aop_step rfl rfl (by simp only [UN,LM,zn0,zn1,zi0,zi1,zi2,zn2,zn3,zn4,reduceCtorEq,TAS,TBS,valV_agg,hko,hfind,hko1,hfind1,hml,hm1l,hst,hw01,Int.toNat_natCast,hjj0,hjj1];rfl) ?_ ?_
                · (repeat (refine And.intro ?_ ?_)) <;> first | trivial | (simp_all;done)
                simp only [UN,LM,zn0,zn1,zi0,zi1,zi2,zn2,zn3,zn4,reduceCtorEq,TAS,TBS,valV_agg,hko,hfind,hko1,hfind1,hml,hm1l,hst,hw01,Int.toNat_natCast,hjj0,hjj1]
                refine any_all (rs:=[3,5]) (by kernel_rfl) (by simp) (fun i hi=>?_)
                simp only [List.mem_cons,List.not_mem_nil,or_false] at hi
                rcases hi with rfl | rfl
                · refine ⟨_,rfl,rfl,?_⟩
                  refine aop_step rfl rfl (by simp only [UN,LM,zn0,zn1,zi0,zi1,zi2,zn2,zn3,zn4,reduceCtorEq,TAS,TBS,valV_agg,hko,hfind,hko1,hfind1,hml,hm1l,hst,hw01,Int.toNat_natCast,hjj0,hjj1];rfl) ?_ ?_
                  · (repeat (refine And.intro ?_ ?_)) <;> first | trivial | (simp_all;done)
                  simp only [UN,LM,zn0,zn1,zi0,zi1,zi2,zn2,zn3,zn4,reduceCtorEq,TAS,TBS,valV_agg,hko,hfind,hko1,hfind1,hml,hm1l,hst,hw01,Int.toNat_natCast,hjj0,hjj1]
                  refine any_all (rs:=[5]) (by kernel_rfl) (by simp) (fun i hi=>?_)
                  simp only [List.mem_cons,List.not_mem_nil,or_false] at hi
                  obtain rfl:=hi
                  refine ⟨_,rfl,rfl,?_⟩
                  refine aop_step rfl rfl (by simp only [UN,LM,zn0,zn1,zi0,zi1,zi2,zn2,zn3,zn4,reduceCtorEq,TAS,TBS,valV_agg,hko,hfind,hko1,hfind1,hml,hm1l,hst,hw01,Int.toNat_natCast,hjj0,hjj1];rfl) ?_ ?_
                  · (repeat (refine And.intro ?_ ?_)) <;> first | trivial | (simp_all;done)
                  simp only [UN,LM,zn0,zn1,zi0,zi1,zi2,zn2,zn3,zn4,reduceCtorEq,TAS,TBS,valV_agg,hko,hfind,hko1,hfind1,hml,hm1l,hst,hw01,Int.toNat_natCast,hjj0,hjj1]
                  refine any_all (rs:=[6]) (by kernel_rfl) (by simp) (fun i hi=>?_)
                  simp only [List.mem_cons,List.not_mem_nil,or_false] at hi
                  obtain rfl:=hi
                  refine ⟨_,rfl,rfl,?_⟩
                  refine aop_step rfl rfl (by simp only [UN,LM,zn0,zn1,zi0,zi1,zi2,zn2,zn3,zn4,reduceCtorEq,TAS,TBS,valV_agg,hko,hfind,hko1,hfind1,hml,hm1l,hst,hw01,Int.toNat_natCast,hjj0,hjj1];rfl) ?_ ?_
                  · (repeat (refine And.intro ?_ ?_)) <;> first | trivial | (simp_all;done)
                  simp only [UN,LM,zn0,zn1,zi0,zi1,zi2,zn2,zn3,zn4,reduceCtorEq,TAS,TBS,valV_agg,hko,hfind,hko1,hfind1,hml,hm1l,hst,hw01,Int.toNat_natCast,hjj0,hjj1]
                  refine any_done (by kernel_rfl) ?_
                  refine hK' _ _ ?_
                  clear hK' K'
                  refine ⟨rfl,?_⟩
                  refine sub_of h0 ?_ ?_ ?_ <;> simp only [US,UN,LM,zn0,zn1,zi0,zi1,zi2,zn2,zn3,zn4,reduceCtorEq,TAS,TBS,hst]
                · refine ⟨_,rfl,rfl,?_⟩
                  refine aop_step rfl rfl (by simp only [UN,LM,zn0,zn1,zi0,zi1,zi2,zn2,zn3,zn4,reduceCtorEq,TAS,TBS,valV_agg,hko,hfind,hko1,hfind1,hml,hm1l,hst,hw01,Int.toNat_natCast,hjj0,hjj1];rfl) ?_ ?_
                  · (repeat (refine And.intro ?_ ?_)) <;> first | trivial | (simp_all;done)
                  simp only [UN,LM,zn0,zn1,zi0,zi1,zi2,zn2,zn3,zn4,reduceCtorEq,TAS,TBS,valV_agg,hko,hfind,hko1,hfind1,hml,hm1l,hst,hw01,Int.toNat_natCast,hjj0,hjj1]
                  refine any_all (rs:=[3]) (by kernel_rfl) (by simp) (fun i hi=>?_)
                  simp only [List.mem_cons,List.not_mem_nil,or_false] at hi
                  obtain rfl:=hi
                  refine ⟨_,rfl,rfl,?_⟩
                  refine aop_step rfl rfl (by simp only [UN,LM,zn0,zn1,zi0,zi1,zi2,zn2,zn3,zn4,reduceCtorEq,TAS,TBS,valV_agg,hko,hfind,hko1,hfind1,hml,hm1l,hst,hw01,Int.toNat_natCast,hjj0,hjj1];rfl) ?_ ?_
                  · (repeat (refine And.intro ?_ ?_)) <;> first | trivial | (simp_all;done)
                  simp only [UN,LM,zn0,zn1,zi0,zi1,zi2,zn2,zn3,zn4,reduceCtorEq,TAS,TBS,valV_agg,hko,hfind,hko1,hfind1,hml,hm1l,hst,hw01,Int.toNat_natCast,hjj0,hjj1]
                  refine any_all (rs:=[6]) (by kernel_rfl) (by simp) (fun i hi=>?_)
                  simp only [List.mem_cons,List.not_mem_nil,or_false] at hi
                  obtain rfl:=hi
                  refine ⟨_,rfl,rfl,?_⟩
                  refine aop_step rfl rfl (by simp only [UN,LM,zn0,zn1,zi0,zi1,zi2,zn2,zn3,zn4,reduceCtorEq,TAS,TBS,valV_agg,hko,hfind,hko1,hfind1,hml,hm1l,hst,hw01,Int.toNat_natCast,hjj0,hjj1];rfl) ?_ ?_
                  · (repeat (refine And.intro ?_ ?_)) <;> first | trivial | (simp_all;done)
                  simp only [UN,LM,zn0,zn1,zi0,zi1,zi2,zn2,zn3,zn4,reduceCtorEq,TAS,TBS,valV_agg,hko,hfind,hko1,hfind1,hml,hm1l,hst,hw01,Int.toNat_natCast,hjj0,hjj1]
                  refine any_done (by kernel_rfl) ?_
                  refine hK' _ _ ?_
                  clear hK' K'
                  refine ⟨rfl,?_⟩
                  refine sub_of h0 ?_ ?_ ?_ <;> simp only [US,UN,LM,zn0,zn1,zi0,zi1,zi2,zn2,zn3,zn4,reduceCtorEq,TAS,TBS,hst]
              · refine ⟨_,rfl,rfl,?_⟩
                refine aop_step rfl rfl (by simp only [UN,LM,zn0,zn1,zi0,zi1,zi2,zn2,zn3,zn4,reduceCtorEq,TAS,TBS,valV_agg,hko,hfind,hko1,hfind1,hml,hm1l,hst,hw01,Int.toNat_natCast,hjj0,hjj1];rfl) ?_ ?_
                · (repeat (refine And.intro ?_ ?_)) <;> first | trivial | (simp_all;done)
                simp only [UN,LM,zn0,zn1,zi0,zi1,zi2,zn2,zn3,zn4,reduceCtorEq,TAS,TBS,valV_agg,hko,hfind,hko1,hfind1,hml,hm1l,hst,hw01,Int.toNat_natCast,hjj0,hjj1]
                refine any_all (rs:=[2]) (by kernel_rfl) (by simp) (fun i hi=>?_)
                simp only [List.mem_cons,List.not_mem_nil,or_false] at hi
                obtain rfl:=hi
                refine ⟨_,rfl,rfl,?_⟩
                refine aop_step rfl rfl (by simp only [UN,LM,zn0,zn1,zi0,zi1,zi2,zn2,zn3,zn4,reduceCtorEq,TAS,TBS,valV_agg,hko,hfind,hko1,hfind1,hml,hm1l,hst,hw01,Int.toNat_natCast,hjj0,hjj1];rfl) ?_ ?_
                · (repeat (refine And.intro ?_ ?_)) <;> first | trivial | (simp_all;done)
                simp only [UN,LM,zn0,zn1,zi0,zi1,zi2,zn2,zn3,zn4,reduceCtorEq,TAS,TBS,valV_agg,hko,hfind,hko1,hfind1,hml,hm1l,hst,hw01,Int.toNat_natCast,hjj0,hjj1]
                refine any_all (rs:=[3]) (by kernel_rfl) (by simp) (fun i hi=>?_)
                simp only [List.mem_cons,List.not_mem_nil,or_false] at hi
                obtain rfl:=hi
                refine ⟨_,rfl,rfl,?_⟩
                refine aop_step rfl rfl (by simp only [UN,LM,zn0,zn1,zi0,zi1,zi2,zn2,zn3,zn4,reduceCtorEq,TAS,TBS,valV_agg,hko,hfind,hko1,hfind1,hml,hm1l,hst,hw01,Int.toNat_natCast,hjj0,hjj1];rfl) ?_ ?_
                · (repeat (refine And.intro ?_ ?_)) <;> first | trivial | (simp_all;done)
                simp only [UN,LM,zn0,zn1,zi0,zi1,zi2,zn2,zn3,zn4,reduceCtorEq,TAS,TBS,valV_agg,hko,hfind,hko1,hfind1,hml,hm1l,hst,hw01,Int.toNat_natCast,hjj0,hjj1]
                refine any_all (rs:=[6]) (by kernel_rfl) (by simp) (fun i hi=>?_)
                simp only [List.mem_cons,List.not_mem_nil,or_false] at hi
                obtain rfl:=hi
                refine ⟨_,rfl,rfl,?_⟩
                refine aop_step rfl rfl (by simp only [UN,LM,zn0,zn1,zi0,zi1,zi2,zn2,zn3,zn4,reduceCtorEq,TAS,TBS,valV_agg,hko,hfind,hko1,hfind1,hml,hm1l,hst,hw01,Int.toNat_natCast,hjj0,hjj1];rfl) ?_ ?_
                · (repeat (refine And.intro ?_ ?_)) <;> first | trivial | (simp_all;done)
                simp only [UN,LM,zn0,zn1,zi0,zi1,zi2,zn2,zn3,zn4,reduceCtorEq,TAS,TBS,valV_agg,hko,hfind,hko1,hfind1,hml,hm1l,hst,hw01,Int.toNat_natCast,hjj0,hjj1]
                refine any_done (by kernel_rfl) ?_
                refine hK' _ _ ?_
                clear hK' K'
                refine ⟨rfl,?_⟩
                refine sub_of h0 ?_ ?_ ?_ <;> simp only [US,UN,LM,zn0,zn1,zi0,zi1,zi2,zn2,zn3,zn4,reduceCtorEq,TAS,TBS,hst]
            -- END STEPS
          have hcS:=cloneS_fn Γ path (by omega)
          have hn1 : (path.length + 1) * 16 ≤ 140737488355328:=by omega
          have hn2 : path.length + 1 ≤ maxLen:=by unfold maxLen;omega
          have hn3 : (qj.length + 1) * 40 ≤ 140737488355328:=by omega
          have hn4 : qj.length + 1 ≤ maxLen:=by unfold maxLen;omega
          have ha1' : (at' : Int) < (qj.length : Int):=by omega
          have hm1 : path.map sD ++ [sD name] = (path ++ [name]).map sD:=by simp
          have hm2 : qj.map plC ++ [.agg [iD sa,iD sb,.slc ((path ++ [name]).map sD)]] = (qj ++ [((⟨sa,sb⟩ : Pc),path ++ [name])]).map plC:=by simp [plC]
          (with_reducible refine swp_drawX ?_ ?_ ?_ (⟨⟨[],[(7,(1,path.map sD))]⟩,[],[],[],[13]⟩) _ rfl (fun K' hK' gops fin hgops hfin=>?_)
           · kernel_rfl
           · rfl
           · rfl
           repeat' first
             | (refine vcX_dead rfl trivial (by simp only [UN,LM,zn0,zn1,zi0,zi1,zi2,zn2,zn3,zn4,reduceCtorEq,TAS,TBS,Eff.env,Eff.st,jkE,jkS,UA,LM];rfl) (by simp only [List.nil_append,List.cons_append];rfl) (by simp only [zn2];rfl) ?_)
             | (refine vcX_step rfl rfl trivial (by simp only [UN,LM,zn0,zn1,zi0,zi1,zi2,zn2,zn3,zn4,reduceCtorEq,TAS,TBS,stepX,stepX1,frzR,stepX0,callN,storeE,dAll,setE,callM,mArgs,SV.calm,SV.calms,callB,callP,bArgs,hasR,hins,hin,yes,inX,stepW,callR,effO,srcE,Eff.env,Eff.st,writeOp,callA,pureOp,Bool.or_true,Bool.true_or,Bool.or_self,Bool.or_false,Bool.false_or,Bool.not_true,Bool.not_false,D.flat,D.flats,true_or,or_true,forall_const,UA,hcS,hn1,hn2,hn3,hn4,ha0,ha1',hj0,hj1,hng,hqg2,hm1,hm2,Int.toNat_natCast,List.length_map ];rfl) ?_ (by simp only [UN,LM,zn0,zn1,zi0,zi1,zi2,zn2,zn3,zn4,reduceCtorEq,TAS,TBS,Eff.env,Eff.st,jkE,jkS,UA,LM];rfl) (by simp only [UN,LM,zn0,zn1,zi0,zi1,zi2,zn2,zn3,zn4,reduceCtorEq,TAS,TBS,Eff.env,Eff.st,jkE,jkS,UA,LM];rfl) (by simp only [List.nil_append,List.cons_append];rfl) (by simp only [zn2];rfl) ?_;focus (first | trivial | ((repeat' (refine And.intro ?_ ?_)) <;> first | trivial | assumption | (clear hK' hfin hgops;intros;simp_all;done))))
           (refine vcX_nil (by subst hfin;kernel_rfl) ?_)
           clear hfin hgops fin gops
           (try (refine hK' _ _ ?_;clear hK' K')))
          repeat' (first|(with_reducible first|apply zw0|apply zw1|apply zw2|apply zw3|apply zw4|apply zw5|apply zw6|apply zw7|apply zw8|apply zw9|apply zw10|apply zw11|apply zw13|apply zw14)|((with_reducible refine zw12 ?_ ?_);rfl)|((with_reducible refine zw16 ?_ ?_ (fun K' hK'=>?_));rfl;rfl;simp only [UN,LM,zn0,zn1,zi0,zi1,zi2,zn2,zn3,zn4,reduceCtorEq,TAS,TBS,hw2];(repeat (refine And.intro ?_ ?_;focus (clear hK';intros;simp_all;done)));(try (refine hK' _ _ ?_;clear hK' K')))|((with_reducible refine zw15 ?_ ?_);rfl;refine ⟨_,rfl,fun h=>?_,fun h=>?_⟩ <;> try exact absurd h (by decide)))
          refine ⟨j + 1,(by show j + 1 ≤ l.length;omega),(by show l.length - (j + 1) < l.length - j;omega),by simp only [htk];refine sub_of h0 ?_ ?_ ?_ <;> simp only [US,UN,LM,zn0,zn1,zi0,zi1,zi2,zn2,zn3,zn4,reduceCtorEq,TAS,TBS]⟩
      · have hj1 : ¬ (j : Int) < (l.length : Int):=by omega
        have hlj : l.take j = l:=List.take_of_length_le (by omega)
        have hqi2:=QC.adds hqp (l:=l) hqi hlt (fun s hs=>o3 s hs)
        have hal:=addsC_len path l qu
        rw [hlj]
        repeat' (first|(with_reducible first|apply zw0|apply zw1|apply zw2|apply zw3|apply zw4|apply zw5|apply zw6|apply zw7|apply zw8|apply zw9|apply zw10|apply zw11|apply zw13|apply zw14)|((with_reducible refine zw12 ?_ ?_);rfl)|((with_reducible refine zw16 ?_ ?_ (fun K' hK'=>?_));rfl;rfl;simp only [UN,LM,zn0,zn1,zi0,zi1,zi2,zn2,zn3,zn4,reduceCtorEq,TAS,TBS,hj1,hw1];(repeat (refine And.intro ?_ ?_;focus (clear hK';intros;simp_all;done)));(try (refine hK' _ _ ?_;clear hK' K')))|((with_reducible refine zw15 ?_ ?_);rfl;refine ⟨_,rfl,fun h=>?_,fun h=>?_⟩ <;> try exact absurd h (by decide)))
        refine ⟨(at' + 1,l.foldl (addC path) qu),⟨(by show at' + 1 ≤ (l.foldl (addC path) qu).length;omega),hqi2,u,(by show g.length * f.length + 1 - (at' + 1) ≤ u;omega),hR⟩,(by show g.length * f.length + 1 - (at' + 1) < g.length * f.length + 1 - at';omega),by refine sub_of h0 ?_ ?_ ?_ <;> simp only [US,UN,LM,zn0,zn1,zi0,zi1,zi2,zn2,zn3,zn4,reduceCtorEq,TAS,TBS]⟩
  · have ha1 : ¬ (at' : Int) < (qu.length : Int):=by omega
    have : R = none:=by
      rw [← hR]
      cases u with
      | zero=>rfl
      | succ u =>
        unfold stuckF
        rw [List.getElem?_eq_none (by omega)]
    rw [this]
    repeat' (first|(with_reducible first|apply zw0|apply zw1|apply zw2|apply zw3|apply zw4|apply zw5|apply zw6|apply zw7|apply zw8|apply zw9|apply zw10|apply zw11|apply zw13|apply zw14)|((with_reducible refine zw12 ?_ ?_);rfl)|((with_reducible refine zw16 ?_ ?_ (fun K' hK'=>?_));rfl;rfl;simp only [UN,LM,zn0,zn1,zi0,zi1,zi2,zn2,zn3,zn4,reduceCtorEq,TAS,TBS,ha1,List.length_map];(repeat (refine And.intro ?_ ?_;focus (clear hK';intros;simp_all;done)));(try (refine hK' _ _ ?_;clear hK' K')))|((with_reducible refine zw15 ?_ ?_);rfl;refine ⟨_,rfl,fun h=>?_,fun h=>?_⟩ <;> try exact absurd h (by decide)))
    simp only [whyA]
    simp only [Kret,retL,retOne,oneV,UN,LM,zn0,zn1,zi0,zi1,zi2,zn2,zn3,zn4,reduceCtorEq,TAS,TBS]
end Go.Proofs.YtgecnlcbdbaneaaDoor
/- comply.of, Do, the law ComplyBelow; a symbolic walk. -/
-- TYPESB
namespace Go.Proofs.YtgecnlcbdbaneaaDoor
open Go.RowKit Go.Sw
open Nat renaming reduceBEq → zn0, reduceLeDiff → zn1, reduceAdd → zn2, reduceSub → zn3, reduceMul → zn4
open Int renaming reduceLE → zi0, reduceLT → zi1, reduceToNat → zi2
open Go.Sw renaming swp_seq → zw0, swp_block → zw1, swp_skip → zw2, swp_ret → zw3, swp_exit → zw4, swp_label → zw5, kseq_n → zw6, kseq_x → zw7, kseq_r → zw8, kblk_n → zw9, kblk_r → zw10, kblk_xs → zw11, kblk_xn → zw12, kloop_x → zw13, kloop_r → zw14, swp_cond → zw15, swp_regionP → zw16

def cofD (x y : Tp) : D:=if tCheck x = 0 then .tup [.slc ((ofP x).map Nd.d),.slc ((ofP y).map Nd.d),iD (tCheck y)] else .tup [.slc [],.slc [],iD (tCheck x)]
set_option maxHeartbeats 8000000 in
set_option maxRecDepth 100000 in
theorem cof_fn (Γ : Gl) (x y : Tp) : DFn Tryd.prog Γ 56 [x.d,y.d] (cofD x y):=by
  have hx:=of_fn Γ x
  have hy:=of_fn Γ y
  unfold OfFn at hx hy
  unfold cofD
  generalize (ofP x).map Nd.d = A at hx ⊢
  generalize (ofP y).map Nd.d = B at hy ⊢
  generalize tCheck x = c at hx ⊢
  generalize tCheck y = d at hy ⊢
  obtain ⟨k,so,nm,ls,l⟩:=x
  obtain ⟨k',so',nm',ls',l'⟩:=y
  simp only [Tp.d] at hx hy ⊢
  by_cases hc : c = 0
  · rw [if_pos hc]
    have g1 : (c != 0) = false:=by simpa using hc
    refine fn_of_swp (N:=25) Tryd.func56 rfl (by decide) rfl rfl (by simp) (fun C h0=>?_)
    simp only [argE]
    repeat' (first|(with_reducible first|apply zw0|apply zw1|apply zw2|apply zw3|apply zw4|apply zw5|apply zw6|apply zw7|apply zw8|apply zw9|apply zw10|apply zw11|apply zw13|apply zw14)|((with_reducible refine zw12 ?_ ?_);rfl)|((with_reducible refine zw16 ?_ ?_ (fun K' hK'=>?_));rfl;rfl;simp only [UN,LM,zn0,zn1,zi0,zi1,zi2,zn2,zn3,zn4,reduceCtorEq,TAS,TBS];(repeat (refine And.intro ?_ ?_;focus (clear hK';intros;simp_all;done)));(try (refine hK' _ _ ?_;clear hK' K')))|((with_reducible refine zw15 ?_ ?_);rfl;refine ⟨_,rfl,fun h=>?_,fun h=>?_⟩ <;> try exact absurd h (by decide)))
    refine stop_call h0 rfl (by simp only [UN,LM,zn0,zn1,zi0,zi1,zi2,zn2,zn3,zn4,reduceCtorEq]) rfl (by simp only [keepS,UN,LM,zn0,zn1,zi0,zi1,zi2,zn2,zn3,zn4,reduceCtorEq]) (hx) ?_
    simp only [UN,LM,zn0,zn1,zi0,zi1,zi2,zn2,zn3,zn4,reduceCtorEq,TAS,TBS,inX,dropS, ]
    (repeat (refine And.intro ?_ ?_;focus (clear hK';intros;simp_all;done)))
    (try (refine hK' _ _ ?_;clear hK' K'))
    repeat' (first|(with_reducible first|apply zw0|apply zw1|apply zw2|apply zw3|apply zw4|apply zw5|apply zw6|apply zw7|apply zw8|apply zw9|apply zw10|apply zw11|apply zw13|apply zw14)|((with_reducible refine zw12 ?_ ?_);rfl)|((with_reducible refine zw16 ?_ ?_ (fun K' hK'=>?_));rfl;rfl;simp only [UN,LM,zn0,zn1,zi0,zi1,zi2,zn2,zn3,zn4,reduceCtorEq,TAS,TBS];(repeat (refine And.intro ?_ ?_;focus (clear hK';intros;simp_all;done)));(try (refine hK' _ _ ?_;clear hK' K')))|((with_reducible refine zw15 ?_ ?_);rfl;refine ⟨_,rfl,fun h=>?_,fun h=>?_⟩ <;> try exact absurd h (by decide)))
    refine stop_call h0 rfl (by simp only [UN,LM,zn0,zn1,zi0,zi1,zi2,zn2,zn3,zn4,reduceCtorEq]) rfl (by simp only [keepS,UN,LM,zn0,zn1,zi0,zi1,zi2,zn2,zn3,zn4,reduceCtorEq]) (hy) ?_
    simp only [UN,LM,zn0,zn1,zi0,zi1,zi2,zn2,zn3,zn4,reduceCtorEq,TAS,TBS,inX,dropS, ]
    (repeat (refine And.intro ?_ ?_;focus (clear hK';intros;simp_all;done)))
    (try (refine hK' _ _ ?_;clear hK' K'))
    repeat' (first|(with_reducible first|apply zw0|apply zw1|apply zw2|apply zw3|apply zw4|apply zw5|apply zw6|apply zw7|apply zw8|apply zw9|apply zw10|apply zw11|apply zw13|apply zw14)|((with_reducible refine zw12 ?_ ?_);rfl)|((with_reducible refine zw16 ?_ ?_ (fun K' hK'=>?_));rfl;rfl;simp only [UN,LM,zn0,zn1,zi0,zi1,zi2,zn2,zn3,zn4,reduceCtorEq,TAS,TBS,g1];(repeat (refine And.intro ?_ ?_;focus (clear hK';intros;simp_all;done)));(try (refine hK' _ _ ?_;clear hK' K')))|((with_reducible refine zw15 ?_ ?_);rfl;refine ⟨_,rfl,fun h=>?_,fun h=>?_⟩ <;> try exact absurd h (by decide)))
    simp only [Kret,retL,retOne,oneV,UN,LM,zn0,zn1,zi0,zi1,zi2,zn2,zn3,zn4,reduceCtorEq,TAS,TBS]
  · rw [if_neg hc]
    have g1 : (c != 0) = true:=by simpa using hc
    refine fn_of_swp (N:=25) Tryd.func56 rfl (by decide) rfl rfl (by simp) (fun C h0=>?_)
    simp only [argE]
    repeat' (first|(with_reducible first|apply zw0|apply zw1|apply zw2|apply zw3|apply zw4|apply zw5|apply zw6|apply zw7|apply zw8|apply zw9|apply zw10|apply zw11|apply zw13|apply zw14)|((with_reducible refine zw12 ?_ ?_);rfl)|((with_reducible refine zw16 ?_ ?_ (fun K' hK'=>?_));rfl;rfl;simp only [UN,LM,zn0,zn1,zi0,zi1,zi2,zn2,zn3,zn4,reduceCtorEq,TAS,TBS];(repeat (refine And.intro ?_ ?_;focus (clear hK';intros;simp_all;done)));(try (refine hK' _ _ ?_;clear hK' K')))|((with_reducible refine zw15 ?_ ?_);rfl;refine ⟨_,rfl,fun h=>?_,fun h=>?_⟩ <;> try exact absurd h (by decide)))
    refine stop_call h0 rfl (by simp only [UN,LM,zn0,zn1,zi0,zi1,zi2,zn2,zn3,zn4,reduceCtorEq]) rfl (by simp only [keepS,UN,LM,zn0,zn1,zi0,zi1,zi2,zn2,zn3,zn4,reduceCtorEq]) (hx) ?_
    simp only [UN,LM,zn0,zn1,zi0,zi1,zi2,zn2,zn3,zn4,reduceCtorEq,TAS,TBS,inX,dropS, ]
    (repeat (refine And.intro ?_ ?_;focus (clear hK';intros;simp_all;done)))
    (try (refine hK' _ _ ?_;clear hK' K'))
    repeat' (first|(with_reducible first|apply zw0|apply zw1|apply zw2|apply zw3|apply zw4|apply zw5|apply zw6|apply zw7|apply zw8|apply zw9|apply zw10|apply zw11|apply zw13|apply zw14)|((with_reducible refine zw12 ?_ ?_);rfl)|((with_reducible refine zw16 ?_ ?_ (fun K' hK'=>?_));rfl;rfl;simp only [UN,LM,zn0,zn1,zi0,zi1,zi2,zn2,zn3,zn4,reduceCtorEq,TAS,TBS];(repeat (refine And.intro ?_ ?_;focus (clear hK';intros;simp_all;done)));(try (refine hK' _ _ ?_;clear hK' K')))|((with_reducible refine zw15 ?_ ?_);rfl;refine ⟨_,rfl,fun h=>?_,fun h=>?_⟩ <;> try exact absurd h (by decide)))
    refine stop_call h0 rfl (by simp only [UN,LM,zn0,zn1,zi0,zi1,zi2,zn2,zn3,zn4,reduceCtorEq]) rfl (by simp only [keepS,UN,LM,zn0,zn1,zi0,zi1,zi2,zn2,zn3,zn4,reduceCtorEq]) (hy) ?_
    simp only [UN,LM,zn0,zn1,zi0,zi1,zi2,zn2,zn3,zn4,reduceCtorEq,TAS,TBS,inX,dropS, ]
    (repeat (refine And.intro ?_ ?_;focus (clear hK';intros;simp_all;done)))
    (try (refine hK' _ _ ?_;clear hK' K'))
    repeat' (first|(with_reducible first|apply zw0|apply zw1|apply zw2|apply zw3|apply zw4|apply zw5|apply zw6|apply zw7|apply zw8|apply zw9|apply zw10|apply zw11|apply zw13|apply zw14)|((with_reducible refine zw12 ?_ ?_);rfl)|((with_reducible refine zw16 ?_ ?_ (fun K' hK'=>?_));rfl;rfl;simp only [UN,LM,zn0,zn1,zi0,zi1,zi2,zn2,zn3,zn4,reduceCtorEq,TAS,TBS,g1];(repeat (refine And.intro ?_ ?_;focus (clear hK';intros;simp_all;done)));(try (refine hK' _ _ ?_;clear hK' K')))|((with_reducible refine zw15 ?_ ?_);rfl;refine ⟨_,rfl,fun h=>?_,fun h=>?_⟩ <;> try exact absurd h (by decide)))
    simp only [Kret,retL,retOne,oneV,UN,LM,zn0,zn1,zi0,zi1,zi2,zn2,zn3,zn4,reduceCtorEq,TAS,TBS]
def doP (x y : Tp) : Bool:=if bErr x y = 0 then (stuckP (ofP x) (ofP y)).isNone else false
theorem cof_shape (x y : Tp) : bErr x y ≠ 0 → ∃ A B,cofD x y = .tup [.slc A,.slc B,iD (bErr x y)]:=by
  unfold cofD bErr
  split
  · intro _;exact ⟨_,_,rfl⟩
  · intro _;exact ⟨_,_,rfl⟩
theorem dG_gd {x : Tp} (h : tCheck x = 0) : Gd (dG x):=⟨(dG_good h).1,by have:=(dG_good h).2.1;omega,(dG_good h).2.2.1,(dG_good h).2.2.2.1⟩
theorem meets_ok {g h : List Nd} (Hg : Gd g) (Hh : Gd h) : MeetsOK g h:=by
  intro p a0 a1 b0 b1 l hl
  have gx:=Hg.ok _ (gAt_mem a0 a1)
  have gy:=Hh.ok _ (gAt_mem b0 b1)
  have rx:=to_range Hg.pos gx
  have ry:=to_range Hh.pos gy
  unfold meetsP at hl
  split at hl
  · cases hl
  split at hl
  · cases hl
  split at hl
  · cases hl
    exact ⟨by simp,fun s hs=>by rw [List.mem_singleton] at hs;subst hs;exact ⟨rx 0,ry 0⟩⟩
  split at hl
  · split at hl
    · cases hl
      exact ⟨by simp,fun s hs=>by rw [List.mem_singleton] at hs;subst hs;exact ⟨rx 1,ry 1⟩⟩
    · cases hl
  split at hl
  · split at hl
    · cases hl
      refine ⟨?_,fun s hs=>?_⟩
      · rw [List.length_map]
        unfold outL
        have h1:=gx.ok.ls
        have h2:=gy.ok.ls
        split <;> assumption
      · obtain ⟨l, -,rfl⟩:=List.mem_map.1 hs
        exact ⟨rx _,ry _⟩
    · cases hl
  · cases hl
    exact ⟨by simp,fun s hs=>by cases hs⟩
set_option maxHeartbeats 8000000 in
set_option maxRecDepth 100000 in
theorem do_fn (Γ : Gl) (x y : Tp) : DFn Tryd.prog Γ 18 [x.d,y.d] (.tup [bD (doP x y),iD (bErr x y)]):=by
  have ho:=cof_fn Γ x y
  unfold doP
  by_cases hc : bErr x y = 0
  · obtain ⟨h1,h2⟩:=bErr_zero hc
    have hs:=stuck_fn Γ (ofP x) (ofP y) (ofP_gd h1) (ofP_gd h2) (meets_ok (ofP_gd h1) (ofP_gd h2))
    rw [if_pos hc,hc]
    unfold cofD at ho
    rw [if_pos h1,h2] at ho
    generalize stuckP (ofP x) (ofP y) = r at *
    generalize (ofP x).map Nd.d = A at *
    generalize (ofP y).map Nd.d = B at *
    obtain ⟨k,so,nm,ls,l⟩:=x
    obtain ⟨k',so',nm',ls',l'⟩:=y
    simp only [Tp.d] at ho ⊢
    cases r with
    | none =>
      simp only [whyA] at hs
      refine fn_of_swp (N:=29) Tryd.func18 rfl (by decide) rfl rfl (by simp) (fun C h0=>?_)
      simp only [argE]
      repeat' (first|(with_reducible first|apply zw0|apply zw1|apply zw2|apply zw3|apply zw4|apply zw5|apply zw6|apply zw7|apply zw8|apply zw9|apply zw10|apply zw11|apply zw13|apply zw14)|((with_reducible refine zw12 ?_ ?_);rfl)|((with_reducible refine zw16 ?_ ?_ (fun K' hK'=>?_));rfl;rfl;simp only [UN,LM,zn0,zn1,zi0,zi1,zi2,zn2,zn3,zn4,reduceCtorEq,TAS,TBS];(repeat (refine And.intro ?_ ?_;focus (clear hK';intros;simp_all;done)));(try (refine hK' _ _ ?_;clear hK' K')))|((with_reducible refine zw15 ?_ ?_);rfl;refine ⟨_,rfl,fun h=>?_,fun h=>?_⟩ <;> try exact absurd h (by decide)))
      refine stop_call h0 rfl (by simp only [UN,LM,zn0,zn1,zi0,zi1,zi2,zn2,zn3,zn4,reduceCtorEq]) rfl (by simp only [keepS,UN,LM,zn0,zn1,zi0,zi1,zi2,zn2,zn3,zn4,reduceCtorEq]) (ho) ?_
      simp only [UN,LM,zn0,zn1,zi0,zi1,zi2,zn2,zn3,zn4,reduceCtorEq,TAS,TBS,inX,dropS, ]
      (repeat (refine And.intro ?_ ?_;focus (clear hK';intros;simp_all;done)))
      (try (refine hK' _ _ ?_;clear hK' K'))
      repeat' (first|(with_reducible first|apply zw0|apply zw1|apply zw2|apply zw3|apply zw4|apply zw5|apply zw6|apply zw7|apply zw8|apply zw9|apply zw10|apply zw11|apply zw13|apply zw14)|((with_reducible refine zw12 ?_ ?_);rfl)|((with_reducible refine zw16 ?_ ?_ (fun K' hK'=>?_));rfl;rfl;simp only [UN,LM,zn0,zn1,zi0,zi1,zi2,zn2,zn3,zn4,reduceCtorEq,TAS,TBS,bne_self_eq_false];(repeat (refine And.intro ?_ ?_;focus (clear hK';intros;simp_all;done)));(try (refine hK' _ _ ?_;clear hK' K')))|((with_reducible refine zw15 ?_ ?_);rfl;refine ⟨_,rfl,fun h=>?_,fun h=>?_⟩ <;> try exact absurd h (by decide)))
      refine stop_call h0 rfl (by simp only [UN,LM,zn0,zn1,zi0,zi1,zi2,zn2,zn3,zn4,reduceCtorEq]) rfl (by simp only [keepS,UN,LM,zn0,zn1,zi0,zi1,zi2,zn2,zn3,zn4,reduceCtorEq]) (hs) ?_
      simp only [UN,LM,zn0,zn1,zi0,zi1,zi2,zn2,zn3,zn4,reduceCtorEq,TAS,TBS,inX,dropS, ]
      (repeat (refine And.intro ?_ ?_;focus (clear hK';intros;simp_all;done)))
      (try (refine hK' _ _ ?_;clear hK' K'))
      repeat' (first|(with_reducible first|apply zw0|apply zw1|apply zw2|apply zw3|apply zw4|apply zw5|apply zw6|apply zw7|apply zw8|apply zw9|apply zw10|apply zw11|apply zw13|apply zw14)|((with_reducible refine zw12 ?_ ?_);rfl)|((with_reducible refine zw16 ?_ ?_ (fun K' hK'=>?_));rfl;rfl;simp only [UN,LM,zn0,zn1,zi0,zi1,zi2,zn2,zn3,zn4,reduceCtorEq,TAS,TBS];(repeat (refine And.intro ?_ ?_;focus (clear hK';intros;simp_all;done)));(try (refine hK' _ _ ?_;clear hK' K')))|((with_reducible refine zw15 ?_ ?_);rfl;refine ⟨_,rfl,fun h=>?_,fun h=>?_⟩ <;> try exact absurd h (by decide)))
      simp only [Kret,retL,retOne,oneV,UN,LM,zn0,zn1,zi0,zi1,zi2,zn2,zn3,zn4,reduceCtorEq,TAS,TBS]
      rfl
    | some w =>
      simp only [whyA] at hs
      refine fn_of_swp (N:=29) Tryd.func18 rfl (by decide) rfl rfl (by simp) (fun C h0=>?_)
      simp only [argE]
      repeat' (first|(with_reducible first|apply zw0|apply zw1|apply zw2|apply zw3|apply zw4|apply zw5|apply zw6|apply zw7|apply zw8|apply zw9|apply zw10|apply zw11|apply zw13|apply zw14)|((with_reducible refine zw12 ?_ ?_);rfl)|((with_reducible refine zw16 ?_ ?_ (fun K' hK'=>?_));rfl;rfl;simp only [UN,LM,zn0,zn1,zi0,zi1,zi2,zn2,zn3,zn4,reduceCtorEq,TAS,TBS];(repeat (refine And.intro ?_ ?_;focus (clear hK';intros;simp_all;done)));(try (refine hK' _ _ ?_;clear hK' K')))|((with_reducible refine zw15 ?_ ?_);rfl;refine ⟨_,rfl,fun h=>?_,fun h=>?_⟩ <;> try exact absurd h (by decide)))
      refine stop_call h0 rfl (by simp only [UN,LM,zn0,zn1,zi0,zi1,zi2,zn2,zn3,zn4,reduceCtorEq]) rfl (by simp only [keepS,UN,LM,zn0,zn1,zi0,zi1,zi2,zn2,zn3,zn4,reduceCtorEq]) (ho) ?_
      simp only [UN,LM,zn0,zn1,zi0,zi1,zi2,zn2,zn3,zn4,reduceCtorEq,TAS,TBS,inX,dropS, ]
      (repeat (refine And.intro ?_ ?_;focus (clear hK';intros;simp_all;done)))
      (try (refine hK' _ _ ?_;clear hK' K'))
      repeat' (first|(with_reducible first|apply zw0|apply zw1|apply zw2|apply zw3|apply zw4|apply zw5|apply zw6|apply zw7|apply zw8|apply zw9|apply zw10|apply zw11|apply zw13|apply zw14)|((with_reducible refine zw12 ?_ ?_);rfl)|((with_reducible refine zw16 ?_ ?_ (fun K' hK'=>?_));rfl;rfl;simp only [UN,LM,zn0,zn1,zi0,zi1,zi2,zn2,zn3,zn4,reduceCtorEq,TAS,TBS,bne_self_eq_false];(repeat (refine And.intro ?_ ?_;focus (clear hK';intros;simp_all;done)));(try (refine hK' _ _ ?_;clear hK' K')))|((with_reducible refine zw15 ?_ ?_);rfl;refine ⟨_,rfl,fun h=>?_,fun h=>?_⟩ <;> try exact absurd h (by decide)))
      refine stop_call h0 rfl (by simp only [UN,LM,zn0,zn1,zi0,zi1,zi2,zn2,zn3,zn4,reduceCtorEq]) rfl (by simp only [keepS,UN,LM,zn0,zn1,zi0,zi1,zi2,zn2,zn3,zn4,reduceCtorEq]) (hs) ?_
      simp only [UN,LM,zn0,zn1,zi0,zi1,zi2,zn2,zn3,zn4,reduceCtorEq,TAS,TBS,inX,dropS, ]
      (repeat (refine And.intro ?_ ?_;focus (clear hK';intros;simp_all;done)))
      (try (refine hK' _ _ ?_;clear hK' K'))
      repeat' (first|(with_reducible first|apply zw0|apply zw1|apply zw2|apply zw3|apply zw4|apply zw5|apply zw6|apply zw7|apply zw8|apply zw9|apply zw10|apply zw11|apply zw13|apply zw14)|((with_reducible refine zw12 ?_ ?_);rfl)|((with_reducible refine zw16 ?_ ?_ (fun K' hK'=>?_));rfl;rfl;simp only [UN,LM,zn0,zn1,zi0,zi1,zi2,zn2,zn3,zn4,reduceCtorEq,TAS,TBS];(repeat (refine And.intro ?_ ?_;focus (clear hK';intros;simp_all;done)));(try (refine hK' _ _ ?_;clear hK' K')))|((with_reducible refine zw15 ?_ ?_);rfl;refine ⟨_,rfl,fun h=>?_,fun h=>?_⟩ <;> try exact absurd h (by decide)))
      simp only [Kret,retL,retOne,oneV,UN,LM,zn0,zn1,zi0,zi1,zi2,zn2,zn3,zn4,reduceCtorEq,TAS,TBS]
      rfl
  · rw [if_neg hc]
    obtain ⟨A,B,hb⟩:=cof_shape x y hc
    rw [hb] at ho
    have g1 : (bErr x y != 0) = true:=by simpa using hc
    generalize bErr x y = c at ho g1 ⊢
    obtain ⟨k,so,nm,ls,l⟩:=x
    obtain ⟨k',so',nm',ls',l'⟩:=y
    simp only [Tp.d] at ho ⊢
    refine fn_of_swp (N:=29) Tryd.func18 rfl (by decide) rfl rfl (by simp) (fun C h0=>?_)
    simp only [argE]
    repeat' (first|(with_reducible first|apply zw0|apply zw1|apply zw2|apply zw3|apply zw4|apply zw5|apply zw6|apply zw7|apply zw8|apply zw9|apply zw10|apply zw11|apply zw13|apply zw14)|((with_reducible refine zw12 ?_ ?_);rfl)|((with_reducible refine zw16 ?_ ?_ (fun K' hK'=>?_));rfl;rfl;simp only [UN,LM,zn0,zn1,zi0,zi1,zi2,zn2,zn3,zn4,reduceCtorEq,TAS,TBS];(repeat (refine And.intro ?_ ?_;focus (clear hK';intros;simp_all;done)));(try (refine hK' _ _ ?_;clear hK' K')))|((with_reducible refine zw15 ?_ ?_);rfl;refine ⟨_,rfl,fun h=>?_,fun h=>?_⟩ <;> try exact absurd h (by decide)))
    refine stop_call h0 rfl (by simp only [UN,LM,zn0,zn1,zi0,zi1,zi2,zn2,zn3,zn4,reduceCtorEq]) rfl (by simp only [keepS,UN,LM,zn0,zn1,zi0,zi1,zi2,zn2,zn3,zn4,reduceCtorEq]) (ho) ?_
    simp only [UN,LM,zn0,zn1,zi0,zi1,zi2,zn2,zn3,zn4,reduceCtorEq,TAS,TBS,inX,dropS, ]
    (repeat (refine And.intro ?_ ?_;focus (clear hK';intros;simp_all;done)))
    (try (refine hK' _ _ ?_;clear hK' K'))
    repeat' (first|(with_reducible first|apply zw0|apply zw1|apply zw2|apply zw3|apply zw4|apply zw5|apply zw6|apply zw7|apply zw8|apply zw9|apply zw10|apply zw11|apply zw13|apply zw14)|((with_reducible refine zw12 ?_ ?_);rfl)|((with_reducible refine zw16 ?_ ?_ (fun K' hK'=>?_));rfl;rfl;simp only [UN,LM,zn0,zn1,zi0,zi1,zi2,zn2,zn3,zn4,reduceCtorEq,TAS,TBS,g1];(repeat (refine And.intro ?_ ?_;focus (clear hK';intros;simp_all;done)));(try (refine hK' _ _ ?_;clear hK' K')))|((with_reducible refine zw15 ?_ ?_);rfl;refine ⟨_,rfl,fun h=>?_,fun h=>?_⟩ <;> try exact absurd h (by decide)))
    simp only [Kret,retL,retOne,oneV,UN,LM,zn0,zn1,zi0,zi1,zi2,zn2,zn3,zn4,reduceCtorEq,TAS,TBS]
end Go.Proofs.YtgecnlcbdbaneaaDoor
