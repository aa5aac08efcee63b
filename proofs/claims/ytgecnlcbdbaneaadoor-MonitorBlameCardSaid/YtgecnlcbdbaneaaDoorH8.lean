/- below.both's why; a symbolic walk. -/
-- TYPESA
import Derived.Test.YtgecnlcbdbaneaaDoorHP4
set_option linter.unusedVariables false
set_option linter.unusedSimpArgs false
namespace Go.Proofs.YtgecnlcbdbaneaaDoor
open Go.RowKit Go.Sw
open Nat renaming reduceAdd → zn2

def plD (q : Pr × List ByteArray) : D:=.agg [iD q.1.a,iD q.1.b,bD q.1.t,.slc (q.2.map sD)]
def whyA (r : Option (List ByteArray)) : D:=match r with | some l=>.tup [.slc (l.map sD),bD true] | none=>.tup [.slc [],bD false]
theorem valV_agg (cs : List SV) : valV (.agg cs) = (leavesV cs).map fun us=>.agg us.toArray:=rfl
def FitsOK (g h : List Nd) : Prop := ∀ p : Pr,0 ≤ p.a → p.a < (g.length : Int) → 0 ≤ p.b → p.b < (h.length : Int) →
 NdSh (ndX g h p) ∧ NdSh (ndY g h p) ∧ ∀ l,fitsP g h p = some l → ∀ s ∈ l,(0 ≤ s.2.a ∧ s.2.a < (g.length : Int)) ∧ 0 ≤ s.2.b ∧ s.2.b < (h.length : Int)
theorem adds_len (path : List ByteArray) : ∀ (l : List (ByteArray × Pr)) (qu : Qu),qu.length ≤ (l.foldl (addQ path) qu).length ∧ ∀ j,j < qu.length → (l.foldl (addQ path) qu)[j]? = qu[j]?
 | [],qu=>⟨Nat.le_refl _,fun _ _=>rfl⟩
 | s :: l,qu=>by
  have h1:=addQ_len path qu s
  have h2:=adds_len path l (addQ path qu s)
  refine ⟨by simp only [List.foldl_cons];omega,fun j hj=>?_⟩
  simp only [List.foldl_cons]
  rw [h2.2 j (by omega)]
  unfold addQ
  split
  · rfl
  · exact List.getElem?_append_left hj
theorem fitsP_len (g f : List Nd) (p : Pr) (o1 : NdSh (ndX g f p)) (o2 : NdSh (ndY g f p)) {l : List (ByteArray × Pr)} (h : fitsP g f p = some l) : l.length ≤ 60:=by
 have h1:=o1.l6
 have h2:=o2.l6
 unfold fitsP at h
 split at h
 · cases h
 split at h
 · cases h
 split at h
 · cases h;simp
 split at h
 · cases h;simp
 split at h
 · cases h
   rw [List.length_map]
   unfold fewL
   split <;> omega
 · cases h
set_option maxHeartbeats 16000000 in
set_option maxRecDepth 100000 in
theorem why_fn (Γ : Gl) (g f : List Nd) (hg : g.length ≤ 250) (hf : f.length ≤ 250) (hg0 : 0 < g.length) (hf0 : 0 < f.length) (hok : FitsOK g f) :
 DFn Tryd.prog Γ 60 [.agg [.slc (g.map Nd.d),.slc (f.map Nd.d)]] (whyA (whyP g f)):=by
 obtain ⟨R,hR⟩ : ∃ R,whyP g f = R:=⟨_,rfl⟩
 rw [hR]
 unfold whyP at hR
 have hbnd : 2 * g.length * f.length ≤ 125000:=by
  have:=Nat.mul_le_mul (show 2 * g.length ≤ 500 by omega) hf
  omega
 have hko0:=keyOK_pair ⟨0,0,false⟩ [] (by simp)
 simp only [pV] at hko0
 have hset0 : setM (Value.agg [Value.int .i64 0,Value.int .i64 0,Value.bool false].toArray) (.int .i64 1) [] = mQ [(⟨0,0,false⟩,[])]:=rfl
 refine fn_of_swp (N:=74) Tryd.func60 rfl (by decide) rfl rfl (by simp) (fun C h0=>?_)
 simp only [argE]
 repeat' (first|(with_reducible apply zz1)|((with_reducible apply zz2);rfl;intro K' hK';simp only [WA,simprocAttr,valV_agg,hko0,hset0];(repeat (constructor;focus (clear hK';intros;simp_all;done)));(try (apply hK';clear hK' K')))|((with_reducible apply zz3);rfl;all_goals (intro h;try exact absurd h (by decide))))
 refine swp_loop (α := Nat × Qu) (fun q=>[(1,.fptr (.agg [.slc (g.map Nd.d),.slc (f.map Nd.d)]) 0),(4,.mp 1),(5,.own 2),(6,.d (iD q.1))]) (fun q=>[(1,.mp (mQ q.2)),(2,.row 4 (q.2.map plD))])
  (fun q=>q.1 ≤ q.2.length ∧ QI g.length f.length q.2 ∧ ∃ u,2 * g.length * f.length + 1 - q.1 ≤ u ∧ whyF g f u q.1 q.2 = R) (fun q=>2 * g.length * f.length + 1 - q.1)
  (0, [(⟨0,0,false⟩,[])]) ⟨by simp,⟨by simp,by simp;omega,fun i q h=>by
   cases i with
   | zero=>simp at h;subst h;simp
   | succ i=>simp at h⟩,_,Nat.le_refl _,hR⟩ (by simp only [List.map_cons,List.map_nil,plD];refine sub_of h0 ?_ ?_ ?_ <;> simp only [US,WA,simprocAttr]) (fun q hq=>?_)
 obtain ⟨at',qu⟩:=q
 obtain ⟨hat,hqi,u,hu,hR⟩:=hq
 simp only at hat hqi hu hR
 have hql:=hqi.len
 have ha0 : (0 : Int) ≤ (at' : Int):=by omega
 by_cases hlt : at' < qu.length
 · obtain ⟨q, hq⟩ : ∃ q,qu[at']? = some q:=⟨qu[at'],by simp [hlt]⟩
   have hqr:=hqi.r q (List.mem_of_getElem? hq)
   have hqp:=hqi.p at' q hq
   have hqg : (qu.map plD).getD at' default = plD q:=by simp [List.getD,hq]
   obtain ⟨u,rfl⟩ : ∃ u',u = u' + 1:=⟨u - 1,by omega⟩
   unfold whyF at hR
   obtain ⟨p,path⟩:=q
   simp only [hq] at hR
   simp only at hqr hqp
   obtain ⟨⟨r1,r2⟩,r3,r4⟩:=hqr
   obtain ⟨o1,o2,o3⟩:=hok p r1 r2 r3 r4
   have hfit:=fits_fn Γ g f p r1 r2 r3 r4 o1 o2
   have ha1 : (at' : Int) < (qu.length : Int):=by omega
   have hw1 : IntKind.i64.wrap ((at' : Int) + 1) = ((at' + 1 : Nat) : Int):=by rw [wrap_in (by omega) (by omega)];omega
   obtain ⟨pa,pb,pt⟩:=p
   simp only [plD,Pr.d] at hqg hfit
   cases hF : fitsP g f ⟨pa,pb,pt⟩ with
   | none =>
    rw [hF] at hfit hR
    simp only at hR
    subst hR
    simp only [fitA] at hfit
    repeat' (first|(with_reducible apply zz1)|((with_reducible apply zz2);rfl;intro K' hK';simp only [WA,simprocAttr,ha0,ha1,List.length_map];(repeat (constructor;focus (clear hK';intros;simp_all;done)));(try (apply hK';clear hK' K')))|((with_reducible apply zz3);rfl;all_goals (intro h;try exact absurd h (by decide))))
    (with_reducible refine swp_drawX ?_ ?_ ?_ (⟨⟨[(6,.tup [.slc [],bD false])],[]⟩,[],[],[],[]⟩) _ rfl (fun K' hK' gops fin hgops hfin=>?_)
     · kernel_rfl
     · rfl
     · rfl
     repeat' first
      | (refine vcX_dead rfl trivial (by simp only [WA,simprocAttr,UX,UA];rfl) (by simp only [List.nil_append,List.cons_append];rfl) (by simp only [zn2];rfl) ?_)
      | (refine vcX_step rfl rfl trivial (by simp only [WA,simprocAttr,UX,UA,hfit,ha0,ha1,hqg,Int.toNat_natCast,List.length_map ];rfl) ?_ (by simp only [WA,simprocAttr,UX,UA];rfl) (by simp only [WA,simprocAttr,UX,UA];rfl) (by simp only [List.nil_append,List.cons_append];rfl) (by simp only [zn2];rfl) ?_;focus (first | trivial | ((repeat' apply And.intro) <;> first | trivial | assumption | (clear hK' hfin hgops;intros;simp_all;done))))
     (refine vcX_nil (by subst hfin;kernel_rfl) ?_)
     clear hfin hgops fin gops
     (try (apply hK';clear hK' K')))
    repeat' (first|(with_reducible apply zz1)|((with_reducible apply zz2);rfl;intro K' hK';simp only [WA,simprocAttr,ha0,ha1,hqg,Int.toNat_natCast,List.length_map];(repeat (constructor;focus (clear hK';intros;simp_all;done)));(try (apply hK';clear hK' K')))|((with_reducible apply zz3);rfl;all_goals (intro h;try exact absurd h (by decide))))
    simp only [whyA]
    simp only [Kret,retL,retOne,oneV,WA,simprocAttr]
   | some l =>
    rw [hF] at hfit hR
    simp only at hR
    simp only [fitA] at hfit
    have o3:=o3 l hF
    repeat' (first|(with_reducible apply zz1)|((with_reducible apply zz2);rfl;intro K' hK';simp only [WA,simprocAttr,ha0,ha1,List.length_map];(repeat (constructor;focus (clear hK';intros;simp_all;done)));(try (apply hK';clear hK' K')))|((with_reducible apply zz3);rfl;all_goals (intro h;try exact absurd h (by decide))))
    (with_reducible refine swp_drawX ?_ ?_ ?_ (⟨⟨[(6,.tup [.slc (l.map stD),bD true])],[]⟩,[],[],[],[]⟩) _ rfl (fun K' hK' gops fin hgops hfin=>?_)
     · kernel_rfl
     · rfl
     · rfl
     repeat' first
      | (refine vcX_dead rfl trivial (by simp only [WA,simprocAttr,UX,UA];rfl) (by simp only [List.nil_append,List.cons_append];rfl) (by simp only [zn2];rfl) ?_)
      | (refine vcX_step rfl rfl trivial (by simp only [WA,simprocAttr,UX,UA,hfit,ha0,ha1,hqg,Int.toNat_natCast,List.length_map ];rfl) ?_ (by simp only [WA,simprocAttr,UX,UA];rfl) (by simp only [WA,simprocAttr,UX,UA];rfl) (by simp only [List.nil_append,List.cons_append];rfl) (by simp only [zn2];rfl) ?_;focus (first | trivial | ((repeat' apply And.intro) <;> first | trivial | assumption | (clear hK' hfin hgops;intros;simp_all;done))))
     (refine vcX_nil (by subst hfin;kernel_rfl) ?_)
     clear hfin hgops fin gops
     (try (apply hK';clear hK' K')))
    repeat' (first|(with_reducible apply zz1)|((with_reducible apply zz2);rfl;intro K' hK';simp only [WA,simprocAttr,List.length_map];(repeat (constructor;focus (clear hK';intros;simp_all;done)));(try (apply hK';clear hK' K')))|((with_reducible apply zz3);rfl;all_goals (intro h;try exact absurd h (by decide))))
    refine swp_loop (α := Nat) (fun j=>[(1,.fptr (.agg [.slc (g.map Nd.d),.slc (f.map Nd.d)]) 0),(4,.mp 1),(5,.own 2),(6,.d (iD at')),(39,.d (.slc (l.map stD))),(40,.d (iD l.length)),(41,.d (iD j))]) (fun j=>[(1,.mp (mQ ((l.take j).foldl (addQ path) qu))),(2,.row 4 (((l.take j).foldl (addQ path) qu).map plD))])
     (fun j=>j ≤ l.length) (fun j=>l.length - j) 0 (Nat.zero_le _) (by refine sub_of h0 ?_ ?_ ?_ <;> simp only [US,WA,simprocAttr,List.take_zero,List.foldl_nil]) (fun j hj=>?_)
    have hj : j ≤ l.length:=hj
    have hj0 : (0 : Int) ≤ (j : Int):=by omega
    have hll : l.length ≤ 60:=fitsP_len g f ⟨pa,pb,pt⟩ o1 o2 hF
    by_cases hjl : j < l.length
    · obtain ⟨x, hx⟩ : ∃ x,l[j]? = some x:=⟨l[j],by simp [hjl]⟩
      have htk : (l.take (j + 1)).foldl (addQ path) qu = addQ path ((l.take j).foldl (addQ path) qu) x:=by rw [List.take_add_one,hx];simp
      have hqi2:=QI.adds hqp (l:=l.take j) hqi hlt (fun s hs=>o3 s (List.mem_of_mem_take hs))
      have hal:=adds_len path (l.take j) qu
      generalize hqj : (l.take j).foldl (addQ path) qu = qj at *
      have hqjl:=hqi2.len
      have hxm:=o3 x (List.mem_of_getElem? hx)
      have hxg : (l.map stD).getD j default = stD x:=by simp [List.getD,hx]
      obtain ⟨name,sa,sb,st⟩:=x
      simp only [stD] at hxg
      have hj1 : (j : Int) < (l.length : Int):=by omega
      have hw2 : IntKind.i64.wrap ((j : Int) + 1) = ((j + 1 : Nat) : Int):=by rw [wrap_in (by omega) (by omega)];omega
      have hqg2 : (qj.map plD).getD at' default = .agg [iD pa,iD pb,bD pt,.slc (path.map sD)]:=by
       have:=hal.2 at' hlt
       rw [hq] at this
       simp [List.getD,this,plD]
      have hko:=keyOK_pair ⟨sa,sb,st⟩ (mQ qj) (mQ_keys qj)
      have hfd:=find_mQ ⟨sa,sb,st⟩ qj 0
      have e10 : ((1 : Int) == 0) = false:=by decide
      have e00 : ((0 : Int) == 0) = true:=by decide
      cases hh : hasQ ⟨sa,sb,st⟩ qj with
      | true =>
       obtain ⟨i,hfind⟩:=hfd.2 hh
       have hadd : addQ path qj (name,⟨sa,sb,st⟩) = qj:=by unfold addQ;rw [if_pos hh]
       rw [hadd] at htk
       simp only [pV] at hko hfind
       repeat' (first|(with_reducible apply zz1)|((with_reducible apply zz2);rfl;intro K' hK';simp only [WA,simprocAttr,Int.toNat_natCast,hj0,hj1,hxg,List.length_map,valV_agg,hko,hfind,e10,hw2];(repeat (constructor;focus (clear hK';intros;simp_all;done)));(try (apply hK';clear hK' K')))|((with_reducible apply zz3);rfl;all_goals (intro h;try exact absurd h (by decide))))
       refine ⟨j + 1,(by show j + 1 ≤ l.length;omega),(by show l.length - (j + 1) < l.length - j;omega),by simp only [htk];refine sub_of h0 ?_ ?_ ?_ <;> simp only [US,WA,simprocAttr]⟩
      | false =>
       have hfind:=hfd.1 hh
       have hadd : addQ path qj (name,⟨sa,sb,st⟩) = qj ++ [(⟨sa,sb,st⟩,path ++ [name])]:=by unfold addQ;rw [if_neg (by simp [hh])]
       rw [hadd] at htk
       have hko1:=keyOK_pair ⟨sa,sb,st⟩ (mQ qj ++ [(pV ⟨sa,sb,st⟩,.int .i64 0)]) (fun q hq=>by
        rcases List.mem_append.1 hq with hq | hq
        · exact mQ_keys qj q hq
        · obtain rfl : q = (pV ⟨sa,sb,st⟩,.int .i64 0):=by simpa using hq
          exact ⟨_,rfl⟩)
       have hfind1:=find_mQ2 ⟨sa,sb,st⟩ (.int .i64 0) qj 0 hh
       rw [Nat.zero_add] at hfind1
       have hml : (mQ qj).length = qj.length:=by simp [mQ]
       have hst : Go.Sw.stM qj.length (.int .i64 1) (mQ qj ++ [(pV ⟨sa,sb,st⟩,.int .i64 0)]) = mQ (qj ++ [(⟨sa,sb,st⟩,path ++ [name])]):=by
        unfold Go.Sw.stM
        rw [List.getElem?_append_right (by omega),hml,Nat.sub_self]
        simp only [List.getElem?_cons_zero]
        rw [List.set_append_right _ _ (by omega),hml,Nat.sub_self]
        simp [mQ]
       have hm1l : (mQ qj ++ [(pV ⟨sa,sb,st⟩,Value.int .i64 0)]).length = qj.length + 1:=by simp [mQ]
       have hw01 : IntKind.i64.wrap (0 + 1) = 1:=by decide +kernel
       have hw02 : IntKind.i64.wrap 1 = 1:=by decide +kernel
       have hjj0 : (0 : Int) ≤ (qj.length : Int):=by omega
       have hjj1 : (qj.length : Int) < ((qj.length + 1 : Nat) : Int):=by omega
       simp only [pV] at hko hfind hko1 hfind1 hst hm1l
       repeat' (first|(with_reducible apply zz1)|((with_reducible apply zz2);rfl;intro K' hK';simp only [WA,simprocAttr,Int.toNat_natCast,hj0,hj1,hxg,List.length_map,valV_agg,hko,hfind,e00];(repeat (constructor;focus (clear hK';intros;simp_all;done)));(try (apply hK';clear hK' K')))|((with_reducible apply zz3);rfl;all_goals (intro h;try exact absurd h (by decide))))
       refine swp_midK [(1,.fptr (.agg [.slc (g.map Nd.d),.slc (f.map Nd.d)]) 0),(4,.mp 1),(5,.own 2),(6,.d (iD at')),(39,.d (.slc (l.map stD))),(40,.d (iD l.length)),(41,.d (iD j)),(10,.ref 3 0)] [(1,.mp (mQ (qj ++ [(⟨sa,sb,st⟩,path ++ [name])]))),(2,.row 4 (qj.map plD)),(3,.cells [.d (sD name),.d (iD sa),.d (iD sb),.d (bD st)])] ?_ ?_
       · (with_reducible refine swp_drawL ?_ ?_ ?_ (⟨⟨[],[]⟩,[],[],[],[]⟩) _ rfl 3 [3,4,5,6,7] ([true,true,true,false,false,false,false,false]).toArray (by decide) ?_ (by decide) (by decide) ?_ (fun K' hK' gops fin hgops hfin=>?_)
          · kernel_rfl
          · rfl
          · rfl
          · kernel_rfl
          · kernel_rfl
          repeat' first
           | (refine vcX_dead rfl trivial (by simp only [WA,simprocAttr,UX,UA];rfl) (by simp only [List.nil_append,List.cons_append];rfl) (by simp only [zn2];rfl) ?_)
           | (refine vcX_step rfl rfl trivial (by simp only [WA,simprocAttr,UX,UA,valV_agg];rfl) ?_ (by simp only [WA,simprocAttr,UX,UA];rfl) (by simp only [WA,simprocAttr,UX,UA];rfl) (by simp only [List.nil_append,List.cons_append];rfl) (by simp only [zn2];rfl) ?_;focus (first | trivial | ((repeat' apply And.intro) <;> first | trivial | assumption | (clear hK' hfin hgops;intros;simp_all;done))))
          (refine vcX_nil (by subst hfin;kernel_rfl) ?_)
          subst hgops
          clear hfin fin)
         -- STEPS
         refine any_all (rs:=[3,5]) (by kernel_rfl) (by simp) (fun i hi=>?_)
         simp only [List.mem_cons,List.not_mem_nil,or_false] at hi
         rcases hi with rfl | rfl
         · refine ⟨_,rfl,rfl,?_⟩
           refine aop_step rfl rfl (by simp only [WA,simprocAttr,valV_agg,hko,hfind,hko1,hfind1,hml,hm1l,hst,hw01,hw02,Int.toNat_natCast,hjj0,hjj1];rfl) ?_ ?_
           · (repeat (refine And.intro ?_ ?_)) <;> first | trivial | (simp_all;done)
           simp only [WA,simprocAttr,valV_agg,hko,hfind,hko1,hfind1,hml,hm1l,hst,hw01,hw02,Int.toNat_natCast,hjj0,hjj1]
           refine any_all (rs:=[4,5]) (by kernel_rfl) (by simp) (fun i hi=>?_)
           simp only [List.mem_cons,List.not_mem_nil,or_false] at hi
           rcases hi with rfl | rfl
           · refine ⟨_,rfl,rfl,?_⟩
             refine aop_step rfl rfl (by simp only [WA,simprocAttr,valV_agg,hko,hfind,hko1,hfind1,hml,hm1l,hst,hw01,hw02,Int.toNat_natCast,hjj0,hjj1];rfl) ?_ ?_
             · (repeat (refine And.intro ?_ ?_)) <;> first | trivial | (simp_all;done)
             simp only [WA,simprocAttr,valV_agg,hko,hfind,hko1,hfind1,hml,hm1l,hst,hw01,hw02,Int.toNat_natCast,hjj0,hjj1]
             refine any_all (rs:=[5]) (by kernel_rfl) (by simp) (fun i hi=>?_)
             simp only [List.mem_cons,List.not_mem_nil,or_false] at hi
             obtain rfl:=hi
             refine ⟨_,rfl,rfl,?_⟩
             refine aop_step rfl rfl (by simp only [WA,simprocAttr,valV_agg,hko,hfind,hko1,hfind1,hml,hm1l,hst,hw01,hw02,Int.toNat_natCast,hjj0,hjj1];rfl) ?_ ?_
             · (repeat (refine And.intro ?_ ?_)) <;> first | trivial | (simp_all;done)
             simp only [WA,simprocAttr,valV_agg,hko,hfind,hko1,hfind1,hml,hm1l,hst,hw01,hw02,Int.toNat_natCast,hjj0,hjj1]
             refine any_all (rs:=[6]) (by kernel_rfl) (by simp) (fun i hi=>?_)
             simp only [List.mem_cons,List.not_mem_nil,or_false] at hi
             obtain rfl:=hi
             refine ⟨_,rfl,rfl,?_⟩
             refine aop_step rfl rfl (by simp only [WA,simprocAttr,valV_agg,hko,hfind,hko1,hfind1,hml,hm1l,hst,hw01,hw02,Int.toNat_natCast,hjj0,hjj1];rfl) ?_ ?_
             · (repeat (refine And.intro ?_ ?_)) <;> first | trivial | (simp_all;done)
             simp only [WA,simprocAttr,valV_agg,hko,hfind,hko1,hfind1,hml,hm1l,hst,hw01,hw02,Int.toNat_natCast,hjj0,hjj1]
             refine any_all (rs:=[7]) (by kernel_rfl) (by simp) (fun i hi=>?_)
             simp only [List.mem_cons,List.not_mem_nil,or_false] at hi
             obtain rfl:=hi
             refine ⟨_,rfl,rfl,?_⟩
             refine aop_step rfl rfl (by simp only [WA,simprocAttr,valV_agg,hko,hfind,hko1,hfind1,hml,hm1l,hst,hw01,hw02,Int.toNat_natCast,hjj0,hjj1];rfl) ?_ ?_
             · (repeat (refine And.intro ?_ ?_)) <;> first | trivial | (simp_all;done)
             simp only [WA,simprocAttr,valV_agg,hko,hfind,hko1,hfind1,hml,hm1l,hst,hw01,hw02,Int.toNat_natCast,hjj0,hjj1]
             refine any_done (by kernel_rfl) ?_
             refine hK' _ _ ?_
             clear hK' K'
             refine ⟨rfl,?_⟩
             refine sub_of h0 ?_ ?_ ?_ <;> simp only [US,WA,simprocAttr,hst]
           · refine ⟨_,rfl,rfl,?_⟩
             refine aop_step rfl rfl (by simp only [WA,simprocAttr,valV_agg,hko,hfind,hko1,hfind1,hml,hm1l,hst,hw01,hw02,Int.toNat_natCast,hjj0,hjj1];rfl) ?_ ?_
             · (repeat (refine And.intro ?_ ?_)) <;> first | trivial | (simp_all;done)
             simp only [WA,simprocAttr,valV_agg,hko,hfind,hko1,hfind1,hml,hm1l,hst,hw01,hw02,Int.toNat_natCast,hjj0,hjj1]
             refine any_all (rs:=[4,6]) (by kernel_rfl) (by simp) (fun i hi=>?_)
             simp only [List.mem_cons,List.not_mem_nil,or_false] at hi
             rcases hi with rfl | rfl
             · refine ⟨_,rfl,rfl,?_⟩
               refine aop_step rfl rfl (by simp only [WA,simprocAttr,valV_agg,hko,hfind,hko1,hfind1,hml,hm1l,hst,hw01,hw02,Int.toNat_natCast,hjj0,hjj1];rfl) ?_ ?_
               · (repeat (refine And.intro ?_ ?_)) <;> first | trivial | (simp_all;done)
               simp only [WA,simprocAttr,valV_agg,hko,hfind,hko1,hfind1,hml,hm1l,hst,hw01,hw02,Int.toNat_natCast,hjj0,hjj1]
               refine any_all (rs:=[6]) (by kernel_rfl) (by simp) (fun i hi=>?_)
               simp only [List.mem_cons,List.not_mem_nil,or_false] at hi
               obtain rfl:=hi
               refine ⟨_,rfl,rfl,?_⟩
               refine aop_step rfl rfl (by simp only [WA,simprocAttr,valV_agg,hko,hfind,hko1,hfind1,hml,hm1l,hst,hw01,hw02,Int.toNat_natCast,hjj0,hjj1];rfl) ?_ ?_
               · (repeat (refine And.intro ?_ ?_)) <;> first | trivial | (simp_all;done)
               simp only [WA,simprocAttr,valV_agg,hko,hfind,hko1,hfind1,hml,hm1l,hst,hw01,hw02,Int.toNat_natCast,hjj0,hjj1]
               refine any_all (rs:=[7]) (by kernel_rfl) (by simp) (fun i hi=>?_)
               simp only [List.mem_cons,List.not_mem_nil,or_false] at hi
               obtain rfl:=hi
               refine ⟨_,rfl,rfl,?_⟩
               refine aop_step rfl rfl (by simp only [WA,simprocAttr,valV_agg,hko,hfind,hko1,hfind1,hml,hm1l,hst,hw01,hw02,Int.toNat_natCast,hjj0,hjj1];rfl) ?_ ?_
               · (repeat (refine And.intro ?_ ?_)) <;> first | trivial | (simp_all;done)
               simp only [WA,simprocAttr,valV_agg,hko,hfind,hko1,hfind1,hml,hm1l,hst,hw01,hw02,Int.toNat_natCast,hjj0,hjj1]
               refine any_done (by kernel_rfl) ?_
               refine hK' _ _ ?_
               clear hK' K'
               refine ⟨rfl,?_⟩
               refine sub_of h0 ?_ ?_ ?_ <;> simp only [US,WA,simprocAttr,hst]
             · refine ⟨_,rfl,rfl,?_⟩
               refine aop_step rfl rfl (by simp only [WA,simprocAttr,valV_agg,hko,hfind,hko1,hfind1,hml,hm1l,hst,hw01,hw02,Int.toNat_natCast,hjj0,hjj1];rfl) ?_ ?_
               · (repeat (refine And.intro ?_ ?_)) <;> first | trivial | (simp_all;done)
               simp only [WA,simprocAttr,valV_agg,hko,hfind,hko1,hfind1,hml,hm1l,hst,hw01,hw02,Int.toNat_natCast,hjj0,hjj1]
               refine any_all (rs:=[4]) (by kernel_rfl) (by simp) (fun i hi=>?_)
               simp only [List.mem_cons,List.not_mem_nil,or_false] at hi
               obtain rfl:=hi
               refine ⟨_,rfl,rfl,?_⟩
               refine aop_step rfl rfl (by simp only [WA,simprocAttr,valV_agg,hko,hfind,hko1,hfind1,hml,hm1l,hst,hw01,hw02,Int.toNat_natCast,hjj0,hjj1];rfl) ?_ ?_
               · (repeat (refine And.intro ?_ ?_)) <;> first | trivial | (simp_all;done)
               simp only [WA,simprocAttr,valV_agg,hko,hfind,hko1,hfind1,hml,hm1l,hst,hw01,hw02,Int.toNat_natCast,hjj0,hjj1]
               refine any_all (rs:=[7]) (by kernel_rfl) (by simp) (fun i hi=>?_)
               simp only [List.mem_cons,List.not_mem_nil,or_false] at hi
               obtain rfl:=hi
               refine ⟨_,rfl,rfl,?_⟩
               refine aop_step rfl rfl (by simp only [WA,simprocAttr,valV_agg,hko,hfind,hko1,hfind1,hml,hm1l,hst,hw01,hw02,Int.toNat_natCast,hjj0,hjj1];rfl) ?_ ?_
               · (repeat (refine And.intro ?_ ?_)) <;> first | trivial | (simp_all;done)
               simp only [WA,simprocAttr,valV_agg,hko,hfind,hko1,hfind1,hml,hm1l,hst,hw01,hw02,Int.toNat_natCast,hjj0,hjj1]
               refine any_done (by kernel_rfl) ?_
               refine hK' _ _ ?_
               clear hK' K'
               refine ⟨rfl,?_⟩
               refine sub_of h0 ?_ ?_ ?_ <;> simp only [US,WA,simprocAttr,hst]
         · refine ⟨_,rfl,rfl,?_⟩
           refine aop_step rfl rfl (by simp only [WA,simprocAttr,valV_agg,hko,hfind,hko1,hfind1,hml,hm1l,hst,hw01,hw02,Int.toNat_natCast,hjj0,hjj1];rfl) ?_ ?_
           · (repeat (refine And.intro ?_ ?_)) <;> first | trivial | (simp_all;done)
           simp only [WA,simprocAttr,valV_agg,hko,hfind,hko1,hfind1,hml,hm1l,hst,hw01,hw02,Int.toNat_natCast,hjj0,hjj1]
           refine any_all (rs:=[3,6]) (by kernel_rfl) (by simp) (fun i hi=>?_)
           simp only [List.mem_cons,List.not_mem_nil,or_false] at hi
           rcases hi with rfl | rfl
           · refine ⟨_,rfl,rfl,?_⟩
             refine aop_step rfl rfl (by simp only [WA,simprocAttr,valV_agg,hko,hfind,hko1,hfind1,hml,hm1l,hst,hw01,hw02,Int.toNat_natCast,hjj0,hjj1];rfl) ?_ ?_
             · (repeat (refine And.intro ?_ ?_)) <;> first | trivial | (simp_all;done)
             simp only [WA,simprocAttr,valV_agg,hko,hfind,hko1,hfind1,hml,hm1l,hst,hw01,hw02,Int.toNat_natCast,hjj0,hjj1]
             refine any_all (rs:=[4,6]) (by kernel_rfl) (by simp) (fun i hi=>?_)
             simp only [List.mem_cons,List.not_mem_nil,or_false] at hi
             rcases hi with rfl | rfl
             · refine ⟨_,rfl,rfl,?_⟩
               refine aop_step rfl rfl (by simp only [WA,simprocAttr,valV_agg,hko,hfind,hko1,hfind1,hml,hm1l,hst,hw01,hw02,Int.toNat_natCast,hjj0,hjj1];rfl) ?_ ?_
               · (repeat (refine And.intro ?_ ?_)) <;> first | trivial | (simp_all;done)
               simp only [WA,simprocAttr,valV_agg,hko,hfind,hko1,hfind1,hml,hm1l,hst,hw01,hw02,Int.toNat_natCast,hjj0,hjj1]
               refine any_all (rs:=[6]) (by kernel_rfl) (by simp) (fun i hi=>?_)
               simp only [List.mem_cons,List.not_mem_nil,or_false] at hi
               obtain rfl:=hi
               refine ⟨_,rfl,rfl,?_⟩
               refine aop_step rfl rfl (by simp only [WA,simprocAttr,valV_agg,hko,hfind,hko1,hfind1,hml,hm1l,hst,hw01,hw02,Int.toNat_natCast,hjj0,hjj1];rfl) ?_ ?_
               · (repeat (refine And.intro ?_ ?_)) <;> first | trivial | (simp_all;done)
               simp only [WA,simprocAttr,valV_agg,hko,hfind,hko1,hfind1,hml,hm1l,hst,hw01,hw02,Int.toNat_natCast,hjj0,hjj1]
               refine any_all (rs:=[7]) (by kernel_rfl) (by simp) (fun i hi=>?_)
               simp only [List.mem_cons,List.not_mem_nil,or_false] at hi
               obtain rfl:=hi
               refine ⟨_,rfl,rfl,?_⟩
               refine aop_step rfl rfl (by simp only [WA,simprocAttr,valV_agg,hko,hfind,hko1,hfind1,hml,hm1l,hst,hw01,hw02,Int.toNat_natCast,hjj0,hjj1];rfl) ?_ ?_
               · (repeat (refine And.intro ?_ ?_)) <;> first | trivial | (simp_all;done)
               simp only [WA,simprocAttr,valV_agg,hko,hfind,hko1,hfind1,hml,hm1l,hst,hw01,hw02,Int.toNat_natCast,hjj0,hjj1]
               refine any_done (by kernel_rfl) ?_
               refine hK' _ _ ?_
               clear hK' K'
               refine ⟨rfl,?_⟩
               refine sub_of h0 ?_ ?_ ?_ <;> simp only [US,WA,simprocAttr,hst]
             · refine ⟨_,rfl,rfl,?_⟩
               refine aop_step rfl rfl (by simp only [WA,simprocAttr,valV_agg,hko,hfind,hko1,hfind1,hml,hm1l,hst,hw01,hw02,Int.toNat_natCast,hjj0,hjj1];rfl) ?_ ?_
               · (repeat (refine And.intro ?_ ?_)) <;> first | trivial | (simp_all;done)
               simp only [WA,simprocAttr,valV_agg,hko,hfind,hko1,hfind1,hml,hm1l,hst,hw01,hw02,Int.toNat_natCast,hjj0,hjj1]
               refine any_all (rs:=[4]) (by kernel_rfl) (by simp) (fun i hi=>?_)
               simp only [List.mem_cons,List.not_mem_nil,or_false] at hi
               obtain rfl:=hi
               refine ⟨_,rfl,rfl,?_⟩
               refine aop_step rfl rfl (by simp only [WA,simprocAttr,valV_agg,hko,hfind,hko1,hfind1,hml,hm1l,hst,hw01,hw02,Int.toNat_natCast,hjj0,hjj1];rfl) ?_ ?_
               · (repeat (refine And.intro ?_ ?_)) <;> first | trivial | (simp_all;done)
               simp only [WA,simprocAttr,valV_agg,hko,hfind,hko1,hfind1,hml,hm1l,hst,hw01,hw02,Int.toNat_natCast,hjj0,hjj1]
               refine any_all (rs:=[7]) (by kernel_rfl) (by simp) (fun i hi=>?_)
               simp only [List.mem_cons,List.not_mem_nil,or_false] at hi
               obtain rfl:=hi
               refine ⟨_,rfl,rfl,?_⟩
               refine aop_step rfl rfl (by simp only [WA,simprocAttr,valV_agg,hko,hfind,hko1,hfind1,hml,hm1l,hst,hw01,hw02,Int.toNat_natCast,hjj0,hjj1];rfl) ?_ ?_
               · (repeat (refine And.intro ?_ ?_)) <;> first | trivial | (simp_all;done)
               simp only [WA,simprocAttr,valV_agg,hko,hfind,hko1,hfind1,hml,hm1l,hst,hw01,hw02,Int.toNat_natCast,hjj0,hjj1]
               refine any_done (by kernel_rfl) ?_
               refine hK' _ _ ?_
               clear hK' K'
               refine ⟨rfl,?_⟩
               refine sub_of h0 ?_ ?_ ?_ <;> simp only [US,WA,simprocAttr,hst]
           · refine ⟨_,rfl,rfl,?_⟩
             refine aop_step rfl rfl (by simp only [WA,simprocAttr,valV_agg,hko,hfind,hko1,hfind1,hml,hm1l,hst,hw01,hw02,Int.toNat_natCast,hjj0,hjj1];rfl) ?_ ?_
             · (repeat (refine And.intro ?_ ?_)) <;> first | trivial | (simp_all;done)
             simp only [WA,simprocAttr,valV_agg,hko,hfind,hko1,hfind1,hml,hm1l,hst,hw01,hw02,Int.toNat_natCast,hjj0,hjj1]
             refine any_all (rs:=[3]) (by kernel_rfl) (by simp) (fun i hi=>?_)
             simp only [List.mem_cons,List.not_mem_nil,or_false] at hi
             obtain rfl:=hi
             refine ⟨_,rfl,rfl,?_⟩
             refine aop_step rfl rfl (by simp only [WA,simprocAttr,valV_agg,hko,hfind,hko1,hfind1,hml,hm1l,hst,hw01,hw02,Int.toNat_natCast,hjj0,hjj1];rfl) ?_ ?_
             · (repeat (refine And.intro ?_ ?_)) <;> first | trivial | (simp_all;done)
             simp only [WA,simprocAttr,valV_agg,hko,hfind,hko1,hfind1,hml,hm1l,hst,hw01,hw02,Int.toNat_natCast,hjj0,hjj1]
             refine any_all (rs:=[4]) (by kernel_rfl) (by simp) (fun i hi=>?_)
             simp only [List.mem_cons,List.not_mem_nil,or_false] at hi
             obtain rfl:=hi
             refine ⟨_,rfl,rfl,?_⟩
             refine aop_step rfl rfl (by simp only [WA,simprocAttr,valV_agg,hko,hfind,hko1,hfind1,hml,hm1l,hst,hw01,hw02,Int.toNat_natCast,hjj0,hjj1];rfl) ?_ ?_
             · (repeat (refine And.intro ?_ ?_)) <;> first | trivial | (simp_all;done)
             simp only [WA,simprocAttr,valV_agg,hko,hfind,hko1,hfind1,hml,hm1l,hst,hw01,hw02,Int.toNat_natCast,hjj0,hjj1]
             refine any_all (rs:=[7]) (by kernel_rfl) (by simp) (fun i hi=>?_)
             simp only [List.mem_cons,List.not_mem_nil,or_false] at hi
             obtain rfl:=hi
             refine ⟨_,rfl,rfl,?_⟩
             refine aop_step rfl rfl (by simp only [WA,simprocAttr,valV_agg,hko,hfind,hko1,hfind1,hml,hm1l,hst,hw01,hw02,Int.toNat_natCast,hjj0,hjj1];rfl) ?_ ?_
             · (repeat (refine And.intro ?_ ?_)) <;> first | trivial | (simp_all;done)
             simp only [WA,simprocAttr,valV_agg,hko,hfind,hko1,hfind1,hml,hm1l,hst,hw01,hw02,Int.toNat_natCast,hjj0,hjj1]
             refine any_done (by kernel_rfl) ?_
             refine hK' _ _ ?_
             clear hK' K'
             refine ⟨rfl,?_⟩
             refine sub_of h0 ?_ ?_ ?_ <;> simp only [US,WA,simprocAttr,hst]
         -- END STEPS
       have hcS:=cloneS_fn Γ path (by omega)
       have hn1 : (path.length + 1) * 16 ≤ 140737488355328:=by omega
       have hn2 : path.length + 1 ≤ maxLen:=by unfold maxLen;omega
       have hn3 : (qj.length + 1) * 48 ≤ 140737488355328:=by omega
       have hn4 : qj.length + 1 ≤ maxLen:=by unfold maxLen;omega
       have ha1' : (at' : Int) < (qj.length : Int):=by omega
       have hm1 : path.map sD ++ [sD name] = (path ++ [name]).map sD:=by simp
       have hm2 : qj.map plD ++ [.agg [iD sa,iD sb,bD st,.slc ((path ++ [name]).map sD)]] = (qj ++ [((⟨sa,sb,st⟩ : Pr),path ++ [name])]).map plD:=by simp [plD]
       (with_reducible refine swp_drawX ?_ ?_ ?_ (⟨⟨[],[(8,(1,path.map sD))]⟩,[],[],[],[12]⟩) _ rfl (fun K' hK' gops fin hgops hfin=>?_)
        · kernel_rfl
        · rfl
        · rfl
        repeat' first
         | (refine vcX_dead rfl trivial (by simp only [WA,simprocAttr,UX,UA];rfl) (by simp only [List.nil_append,List.cons_append];rfl) (by simp only [zn2];rfl) ?_)
         | (refine vcX_step rfl rfl trivial (by simp only [WA,simprocAttr,UX,UA,hcS,hn1,hn2,hn3,hn4,ha0,ha1',hqg2,hm1,hm2,Int.toNat_natCast,List.length_map ];rfl) ?_ (by simp only [WA,simprocAttr,UX,UA];rfl) (by simp only [WA,simprocAttr,UX,UA];rfl) (by simp only [List.nil_append,List.cons_append];rfl) (by simp only [zn2];rfl) ?_;focus (first | trivial | ((repeat' apply And.intro) <;> first | trivial | assumption | (clear hK' hfin hgops;intros;simp_all;done))))
        (refine vcX_nil (by subst hfin;kernel_rfl) ?_)
        clear hfin hgops fin gops
        (try (apply hK';clear hK' K')))
       repeat' (first|(with_reducible apply zz1)|((with_reducible apply zz2);rfl;intro K' hK';simp only [WA,simprocAttr,hw2];(repeat (constructor;focus (clear hK';intros;simp_all;done)));(try (apply hK';clear hK' K')))|((with_reducible apply zz3);rfl;all_goals (intro h;try exact absurd h (by decide))))
       refine ⟨j + 1,(by show j + 1 ≤ l.length;omega),(by show l.length - (j + 1) < l.length - j;omega),by simp only [htk];refine sub_of h0 ?_ ?_ ?_ <;> simp only [US,WA,simprocAttr]⟩
    · have hj1 : ¬ (j : Int) < (l.length : Int):=by omega
      have hlj : l.take j = l:=List.take_of_length_le (by omega)
      have hqi2:=QI.adds hqp (l:=l) hqi hlt (fun s hs=>o3 s hs)
      have hal:=adds_len path l qu
      rw [hlj]
      repeat' (first|(with_reducible apply zz1)|((with_reducible apply zz2);rfl;intro K' hK';simp only [WA,simprocAttr,hj1,hw1];(repeat (constructor;focus (clear hK';intros;simp_all;done)));(try (apply hK';clear hK' K')))|((with_reducible apply zz3);rfl;all_goals (intro h;try exact absurd h (by decide))))
      refine ⟨(at' + 1,l.foldl (addQ path) qu),⟨(by show at' + 1 ≤ (l.foldl (addQ path) qu).length;omega),hqi2,u,(by show 2 * g.length * f.length + 1 - (at' + 1) ≤ u;omega),hR⟩,(by show 2 * g.length * f.length + 1 - (at' + 1) < 2 * g.length * f.length + 1 - at';omega),by refine sub_of h0 ?_ ?_ ?_ <;> simp only [US,WA,simprocAttr]⟩
 · have ha1 : ¬ (at' : Int) < (qu.length : Int):=by omega
   have : R = none:=by
    rw [← hR]
    cases u with
    | zero=>rfl
    | succ u =>
     unfold whyF
     rw [List.getElem?_eq_none (by omega)]
   rw [this]
   repeat' (first|(with_reducible apply zz1)|((with_reducible apply zz2);rfl;intro K' hK';simp only [WA,simprocAttr,ha1,List.length_map];(repeat (constructor;focus (clear hK';intros;simp_all;done)));(try (apply hK';clear hK' K')))|((with_reducible apply zz3);rfl;all_goals (intro h;try exact absurd h (by decide))))
   simp only [whyA]
   simp only [Kret,retL,retOne,oneV,WA,simprocAttr]
end Go.Proofs.YtgecnlcbdbaneaaDoor
