/- comply.stuck; a symbolic walk (turned from H8). -/
-- TYPESB
import Derived.Test.YtgecnlcbdbaneaaDoorHC1
set_option linter.unusedVariables false
set_option linter.unusedSimpArgs false
namespace Go.Proofs.YtgecnlcbdbaneaaDoor
open Go.RowKit Go.Sw
open _root_.Int renaming toNat_natCast → za
open _root_.And renaming intro → zb
open _root_.List renaming mem_cons → ze, not_mem_nil → zf, length_map → zh, getD → zi, nil_append → zm, cons_append → zn, foldl_cons → zq, mem_of_getElem? → zu
open Nat renaming reduceAdd → zn2

def plC (q : Pc × List ByteArray) : D:=.agg [iD q.1.a,iD q.1.b,.slc (q.2.map sD)]
def xj7 (g h : List Nd) : Prop := ∀ p : Pc,0 ≤ p.a → p.a < (g.length : Int) → 0 ≤ p.b → p.b < (h.length : Int) →
 ∀ l,qq0 g h p = some l → l.length ≤ 6 ∧ ∀ s ∈ l,(0 ≤ s.2.a ∧ s.2.a < (g.length : Int)) ∧ 0 ≤ s.2.b ∧ s.2.b < (h.length : Int)
theorem va2 (path : List ByteArray) : ∀ (l : List (ByteArray × Pc)) (qu : Quc),qu.length ≤ (l.foldl (qw7 path) qu).length ∧ ∀ j,j < qu.length → (l.foldl (qw7 path) qu)[j]? = qu[j]?
 | [],qu=>⟨Nat.le_refl _,fun _ _=>rfl⟩
 | s :: l,qu=>by
  have h1:=xr9 path qu s
  have h2:=va2 path l (qw7 path qu s)
  refine ⟨by simp only [zq];omega,fun j hj=>?_⟩
  simp only [zq]
  rw [h2.2 j (by omega)]
  unfold qw7
  split
  · rfl
  · exact List.getElem?_append_left hj
set_option maxHeartbeats 16000000 in
set_option maxRecDepth 100000 in
theorem yt2 (Γ : Gl) (g f : List Nd) (Hg : Gd g) (Hf : Gd f) (hok : xj7 g f) :
 DFn Tryd.prog Γ 57 [.slc (g.map Nd.d),.slc (f.map Nd.d)] (yn5 (vg4 g f)):=by
 obtain ⟨R,hR⟩ : ∃ R,vg4 g f = R:=⟨_,rfl⟩
 rw [hR]
 unfold vg4 at hR
 have hg0:=Hg.pos
 have hf0:=Hf.pos
 have hbnd : g.length * f.length ≤ 40000:=Nat.mul_le_mul Hg.le Hf.le
 have hko0:=vx3 ⟨0,0⟩ [] (by simp)
 simp only [cV] at hko0
 have hset0 : vn3 (Value.agg [Value.int .i64 0,Value.int .i64 0].toArray) (.int .i64 1) [] = mC [(⟨0,0⟩,[])]:=rfl
 refine qa4 (N:=79) Tryd.func57 rfl (by decide) rfl rfl (by simp) (fun C h0=>?_)
 simp only [qj1]
 repeat' (first|(with_reducible apply zz1)|((with_reducible apply zz2);rfl;intro K' hK';simp only [WB,simprocAttr,qa0,hko0,hset0];(repeat (constructor;focus (clear hK';intros;simp_all;done)));(try (apply hK';clear hK' K')))|((with_reducible apply zz3);rfl;all_goals (intro h;try exact absurd h (by decide))))
 -- TRACE
 refine qd3 (α := Nat × Quc) (fun q=>[(0,.d (.slc (g.map Nd.d))),(1,.d (.slc (f.map Nd.d))),(6,.mp 0),(7,.own 1),(8,.d (iD q.1))]) (fun q=>[(0,.mp (mC q.2)),(1,.row 3 (q.2.map plC))])
  (fun q=>q.1 ≤ q.2.length ∧ QC g.length f.length q.2 ∧ ∃ u,g.length * f.length + 1 - q.1 ≤ u ∧ qz1 g f u q.1 q.2 = R) (fun q=>g.length * f.length + 1 - q.1)
  (0, [(⟨0,0⟩,[])]) ⟨by simp,⟨by simp,by simp;omega,fun i q h=>by
   cases i with
   | zero=>simp at h;subst h;simp
   | succ i=>simp at h⟩,_,Nat.le_refl _,hR⟩ (by simp only [List.map_cons,List.map_nil,plC];refine qa3 h0 ?_ ?_ ?_ <;> simp only [US,WB,simprocAttr]) (fun q hq=>?_)
 obtain ⟨at',qu⟩:=q
 obtain ⟨hat,hqi,u,hu,hR⟩:=hq
 simp only at hat hqi hu hR
 have hql:=hqi.len
 have ha0 : (0 : Int) ≤ (at' : Int):=by omega
 by_cases hlt : at' < qu.length
 · obtain ⟨q, hq⟩ : ∃ q,qu[at']? = some q:=⟨qu[at'],by simp [hlt]⟩
   have hqr:=hqi.r q (zu hq)
   have hqp:=hqi.p at' q hq
   have hqg : (qu.map plC).getD at' default = plC q:=by simp [zi,hq]
   obtain ⟨u,rfl⟩ : ∃ u',u = u' + 1:=⟨u - 1,by omega⟩
   unfold qz1 at hR
   obtain ⟨p,path⟩:=q
   simp only [hq] at hR
   simp only at hqr hqp
   obtain ⟨⟨r1,r2⟩,r3,r4⟩:=hqr
   have o3:=hok p r1 r2 r3 r4
   have hfit:=yv1 Γ g f p r1 r2 r3 r4 Hg Hf
   have ha1 : (at' : Int) < (qu.length : Int):=by omega
   have hw1 : IntKind.i64.wrap ((at' : Int) + 1) = ((at' + 1 : Nat) : Int):=by rw [qd7 (by omega) (by omega)];omega
   obtain ⟨pa,pb⟩:=p
   simp only [plC,Pc.d] at hqg hfit
   cases hF : qq0 g f ⟨pa,pb⟩ with
   | none =>
    rw [hF] at hfit hR
    simp only at hR
    subst hR
    simp only [qs5] at hfit
    repeat' (first|(with_reducible apply zz1)|((with_reducible apply zz2);rfl;intro K' hK';simp only [WB,simprocAttr,ha0,ha1,hqg,za,zh];(repeat (constructor;focus (clear hK';intros;simp_all;done)));(try (apply hK';clear hK' K')))|((with_reducible apply zz3);rfl;all_goals (intro h;try exact absurd h (by decide))))
    refine qb4 h0 rfl (by simp only [WB,simprocAttr]) rfl (by simp only [qe6,Option.isSome_some,WB,simprocAttr]) (hfit) ?_
    simp only [WB,simprocAttr,inX,qc7, ]
    (repeat (constructor;focus (clear hK';intros;simp_all;done)))
    (try (apply hK';clear hK' K'))
    repeat' (first|(with_reducible apply zz1)|((with_reducible apply zz2);rfl;intro K' hK';simp only [WB,simprocAttr,ha0,ha1,hqg,za,zh,Bool.not_false];(repeat (constructor;focus (clear hK';intros;simp_all;done)));(try (apply hK';clear hK' K')))|((with_reducible apply zz3);rfl;all_goals (intro h;try exact absurd h (by decide))))
    simp only [yn5]
    simp only [qf7,qd5,qa2,qd6,WB,simprocAttr]
   | some l =>
    rw [hF] at hfit hR
    simp only at hR
    simp only [qs5] at hfit
    have hll:=(o3 l hF).1
    have o3:=(o3 l hF).2
    repeat' (first|(with_reducible apply zz1)|((with_reducible apply zz2);rfl;intro K' hK';simp only [WB,simprocAttr,ha0,ha1,hqg,za,zh];(repeat (constructor;focus (clear hK';intros;simp_all;done)));(try (apply hK';clear hK' K')))|((with_reducible apply zz3);rfl;all_goals (intro h;try exact absurd h (by decide))))
    refine qb4 h0 rfl (by simp only [WB,simprocAttr]) rfl (by simp only [qe6,Option.isSome_some,WB,simprocAttr]) (hfit) ?_
    simp only [WB,simprocAttr,inX,qc7, ]
    (repeat (constructor;focus (clear hK';intros;simp_all;done)))
    (try (apply hK';clear hK' K'))
    repeat' (first|(with_reducible apply zz1)|((with_reducible apply zz2);rfl;intro K' hK';simp only [WB,simprocAttr,zh,Bool.not_true];(repeat (constructor;focus (clear hK';intros;simp_all;done)));(try (apply hK';clear hK' K')))|((with_reducible apply zz3);rfl;all_goals (intro h;try exact absurd h (by decide))))
    -- TRACE
    refine qd3 (α := Nat) (fun j=>[(0,.d (.slc (g.map Nd.d))),(1,.d (.slc (f.map Nd.d))),(6,.mp 0),(7,.own 1),(8,.d (iD at')),(9,.d (.slc (l.map fun q=>sD q.1))),(44,.d (.slc (l.map fun q=>q.2.d))),(45,.d (iD l.length)),(46,.d (iD j))]) (fun j=>[(0,.mp (mC ((l.take j).foldl (qw7 path) qu))),(1,.row 3 (((l.take j).foldl (qw7 path) qu).map plC))])
     (fun j=>j ≤ l.length) (fun j=>l.length - j) 0 (Nat.zero_le _) (by refine qa3 h0 ?_ ?_ ?_ <;> simp only [US,WB,simprocAttr,List.take_zero,List.foldl_nil]) (fun j hj=>?_)
    have hj : j ≤ l.length:=hj
    have hj0 : (0 : Int) ≤ (j : Int):=by omega
    by_cases hjl : j < l.length
    · obtain ⟨x, hx⟩ : ∃ x,l[j]? = some x:=⟨l[j],by simp [hjl]⟩
      have htk : (l.take (j + 1)).foldl (qw7 path) qu = qw7 path ((l.take j).foldl (qw7 path) qu) x:=by rw [List.take_add_one,hx];simp
      have hqi2:=QC.adds hqp (l:=l.take j) hqi hlt (fun s hs=>o3 s (List.mem_of_mem_take hs))
      have hal:=va2 path (l.take j) qu
      generalize hqj : (l.take j).foldl (qw7 path) qu = qj at *
      have hqjl:=hqi2.len
      have hxm:=o3 x (zu hx)
      have hxg : (l.map fun q=>q.2.d).getD j default = x.2.d:=by simp [zi,hx]
      have hng : (l.map fun q=>sD q.1).getD j default = sD x.1:=by simp [zi,hx]
      obtain ⟨name,sa,sb⟩:=x
      have hxg : (l.map fun q=>q.2.d).getD j default = .agg [iD sa,iD sb]:=hxg
      have hng : (l.map fun q=>sD q.1).getD j default = sD name:=hng
      have hj1 : (j : Int) < (l.length : Int):=by omega
      have hw2 : IntKind.i64.wrap ((j : Int) + 1) = ((j + 1 : Nat) : Int):=by rw [qd7 (by omega) (by omega)];omega
      have hqg2 : (qj.map plC).getD at' default = .agg [iD pa,iD pb,.slc (path.map sD)]:=by
       have:=hal.2 at' hlt
       rw [hq] at this
       simp [zi,this,plC]
      have hko:=vx3 ⟨sa,sb⟩ (mC qj) (yd4 qj)
      have hfd:=yl8 ⟨sa,sb⟩ qj 0
      have e10 : ((1 : Int) == 0) = false:=by decide
      have e00 : ((0 : Int) == 0) = true:=by decide
      cases hh : vo1 ⟨sa,sb⟩ qj with
      | true =>
       obtain ⟨i,hfind⟩:=hfd.2 hh
       have hadd : qw7 path qj (name,⟨sa,sb⟩) = qj:=by unfold qw7;rw [if_pos hh]
       rw [hadd] at htk
       simp only [cV] at hko hfind
       repeat' (first|(with_reducible apply zz1)|((with_reducible apply zz2);rfl;intro K' hK';simp only [WB,simprocAttr,za,hj0,hj1,hxg,zh,qa0,hko,hfind,e10,hw2];(repeat (constructor;focus (clear hK';intros;simp_all;done)));(try (apply hK';clear hK' K')))|((with_reducible apply zz3);rfl;all_goals (intro h;try exact absurd h (by decide))))
       refine ⟨j + 1,(by show j + 1 ≤ l.length;omega),(by show l.length - (j + 1) < l.length - j;omega),by simp only [htk];refine qa3 h0 ?_ ?_ ?_ <;> simp only [US,WB,simprocAttr]⟩
      | false =>
       have hfind:=hfd.1 hh
       have hadd : qw7 path qj (name,⟨sa,sb⟩) = qj ++ [(⟨sa,sb⟩,path ++ [name])]:=by unfold qw7;rw [if_neg (by simp [hh])]
       rw [hadd] at htk
       have hko1:=vx3 ⟨sa,sb⟩ (mC qj ++ [(cV ⟨sa,sb⟩,.int .i64 0)]) (fun q hq=>by
        rcases List.mem_append.1 hq with hq | hq
        · exact yd4 qj q hq
        · obtain rfl : q = (cV ⟨sa,sb⟩,.int .i64 0):=by simpa using hq
          exact ⟨_,rfl⟩)
       have hfind1:=xo2 ⟨sa,sb⟩ (.int .i64 0) qj 0 hh
       rw [Nat.zero_add] at hfind1
       have hml : (mC qj).length = qj.length:=by simp [mC]
       have hst : Go.Sw.stM qj.length (.int .i64 1) (mC qj ++ [(cV ⟨sa,sb⟩,.int .i64 0)]) = mC (qj ++ [(⟨sa,sb⟩,path ++ [name])]):=by
        unfold Go.Sw.stM
        rw [List.getElem?_append_right (by omega),hml,Nat.sub_self]
        simp only [List.getElem?_cons_zero]
        rw [List.set_append_right _ _ (by omega),hml,Nat.sub_self]
        simp [mC]
       have hm1l : (mC qj ++ [(cV ⟨sa,sb⟩,Value.int .i64 0)]).length = qj.length + 1:=by simp [mC]
       have hw01 : IntKind.i64.wrap (0 + 1) = 1:=by decide +kernel
       have hw02 : IntKind.i64.wrap 1 = 1:=by decide +kernel
       have hjj0 : (0 : Int) ≤ (qj.length : Int):=by omega
       have hjj1 : (qj.length : Int) < ((qj.length + 1 : Nat) : Int):=by omega
       simp only [cV] at hko hfind hko1 hfind1 hst hm1l
       repeat' (first|(with_reducible apply zz1)|((with_reducible apply zz2);rfl;intro K' hK';simp only [WB,simprocAttr,za,hj0,hj1,hxg,zh,qa0,hko,hfind,e00];(repeat (constructor;focus (clear hK';intros;simp_all;done)));(try (apply hK';clear hK' K')))|((with_reducible apply zz3);rfl;all_goals (intro h;try exact absurd h (by decide))))
       refine qh2 [(0,.d (.slc (g.map Nd.d))),(1,.d (.slc (f.map Nd.d))),(6,.mp 0),(7,.own 1),(8,.d (iD at')),(9,.d (.slc (l.map fun q=>sD q.1))),(44,.d (.slc (l.map fun q=>q.2.d))),(45,.d (iD l.length)),(46,.d (iD j)),(12,.d (iD j)),(13,.ref 2 0)] [(0,.mp (mC (qj ++ [(⟨sa,sb⟩,path ++ [name])]))),(1,.row 3 (qj.map plC)),(2,.cells [.d (iD sa),.d (iD sb)])] ?_ ?_
       · (with_reducible refine qu2 ?_ ?_ ?_ (⟨⟨[],[]⟩,[],[],[],[]⟩) _ rfl 2 [2,3,4,5,6] ([true,true,false,false,false,false,false]).toArray (by decide) ?_ (by decide) (by decide) ?_ (fun K' hK' gops fin hgops hfin=>?_)
          · kernel_rfl
          · rfl
          · rfl
          · kernel_rfl
          · kernel_rfl
          repeat' first
           | (refine qa9 rfl trivial (by simp only [WB,simprocAttr,UX,UA];rfl) (by simp only [zm,zn];rfl) (by simp only [zn2];rfl) ?_)
           | (refine qa8 rfl rfl trivial (by simp only [WB,simprocAttr,UX,UA,qa0];rfl) ?_ (by simp only [WB,simprocAttr,UX,UA];rfl) (by simp only [WB,simprocAttr,UX,UA];rfl) (by simp only [zm,zn];rfl) (by simp only [zn2];rfl) ?_;focus (first | trivial | ((repeat' constructor) <;> first | trivial | assumption | (clear hK' hfin hgops;intros;simp_all;done))))
          (refine qb5 (by subst hfin;kernel_rfl) ?_)
          subst hgops
          clear hfin fin)
         -- STEPS
         refine qa5 (rs:=[2,4]) (by kernel_rfl) (by simp) (fun i hi=>?_)
         simp only [ze,zf,or_false] at hi
         rcases hi with rfl | rfl
         · refine ⟨_,rfl,rfl,?_⟩
           refine qa1 rfl rfl (by simp only [WB,simprocAttr,qa0,hko,hfind,hko1,hfind1,hml,hm1l,hst,hw01,hw02,za,hjj0,hjj1];rfl) ?_ ?_
           · (repeat (refine zb ?_ ?_)) <;> first | trivial | (simp_all;done)
           simp only [WB,simprocAttr,qa0,hko,hfind,hko1,hfind1,hml,hm1l,hst,hw01,hw02,za,hjj0,hjj1]
           refine qa5 (rs:=[3,4]) (by kernel_rfl) (by simp) (fun i hi=>?_)
           simp only [ze,zf,or_false] at hi
           rcases hi with rfl | rfl
           · refine ⟨_,rfl,rfl,?_⟩
             refine qa1 rfl rfl (by simp only [WB,simprocAttr,qa0,hko,hfind,hko1,hfind1,hml,hm1l,hst,hw01,hw02,za,hjj0,hjj1];rfl) ?_ ?_
             · (repeat (refine zb ?_ ?_)) <;> first | trivial | (simp_all;done)
             simp only [WB,simprocAttr,qa0,hko,hfind,hko1,hfind1,hml,hm1l,hst,hw01,hw02,za,hjj0,hjj1]
             refine qa5 (rs:=[4]) (by kernel_rfl) (by simp) (fun i hi=>?_)
             simp only [ze,zf,or_false] at hi
             obtain rfl:=hi
             refine ⟨_,rfl,rfl,?_⟩
             refine qa1 rfl rfl (by simp only [WB,simprocAttr,qa0,hko,hfind,hko1,hfind1,hml,hm1l,hst,hw01,hw02,za,hjj0,hjj1];rfl) ?_ ?_
             · (repeat (refine zb ?_ ?_)) <;> first | trivial | (simp_all;done)
             simp only [WB,simprocAttr,qa0,hko,hfind,hko1,hfind1,hml,hm1l,hst,hw01,hw02,za,hjj0,hjj1]
             refine qa5 (rs:=[5]) (by kernel_rfl) (by simp) (fun i hi=>?_)
             simp only [ze,zf,or_false] at hi
             obtain rfl:=hi
             refine ⟨_,rfl,rfl,?_⟩
             refine qa1 rfl rfl (by simp only [WB,simprocAttr,qa0,hko,hfind,hko1,hfind1,hml,hm1l,hst,hw01,hw02,za,hjj0,hjj1];rfl) ?_ ?_
             · (repeat (refine zb ?_ ?_)) <;> first | trivial | (simp_all;done)
             simp only [WB,simprocAttr,qa0,hko,hfind,hko1,hfind1,hml,hm1l,hst,hw01,hw02,za,hjj0,hjj1]
             refine qa5 (rs:=[6]) (by kernel_rfl) (by simp) (fun i hi=>?_)
             simp only [ze,zf,or_false] at hi
             obtain rfl:=hi
             refine ⟨_,rfl,rfl,?_⟩
             refine qa1 rfl rfl (by simp only [WB,simprocAttr,qa0,hko,hfind,hko1,hfind1,hml,hm1l,hst,hw01,hw02,za,hjj0,hjj1];rfl) ?_ ?_
             · (repeat (refine zb ?_ ?_)) <;> first | trivial | (simp_all;done)
             simp only [WB,simprocAttr,qa0,hko,hfind,hko1,hfind1,hml,hm1l,hst,hw01,hw02,za,hjj0,hjj1]
             refine qe3 (by kernel_rfl) ?_
             refine hK' _ _ ?_
             clear hK' K'
             refine ⟨rfl,?_⟩
             refine qa3 h0 ?_ ?_ ?_ <;> simp only [US,WB,simprocAttr,hst]
           · refine ⟨_,rfl,rfl,?_⟩
             refine qa1 rfl rfl (by simp only [WB,simprocAttr,qa0,hko,hfind,hko1,hfind1,hml,hm1l,hst,hw01,hw02,za,hjj0,hjj1];rfl) ?_ ?_
             · (repeat (refine zb ?_ ?_)) <;> first | trivial | (simp_all;done)
             simp only [WB,simprocAttr,qa0,hko,hfind,hko1,hfind1,hml,hm1l,hst,hw01,hw02,za,hjj0,hjj1]
             refine qa5 (rs:=[3,5]) (by kernel_rfl) (by simp) (fun i hi=>?_)
             simp only [ze,zf,or_false] at hi
             rcases hi with rfl | rfl
             · refine ⟨_,rfl,rfl,?_⟩
               refine qa1 rfl rfl (by simp only [WB,simprocAttr,qa0,hko,hfind,hko1,hfind1,hml,hm1l,hst,hw01,hw02,za,hjj0,hjj1];rfl) ?_ ?_
               · (repeat (refine zb ?_ ?_)) <;> first | trivial | (simp_all;done)
               simp only [WB,simprocAttr,qa0,hko,hfind,hko1,hfind1,hml,hm1l,hst,hw01,hw02,za,hjj0,hjj1]
               refine qa5 (rs:=[5]) (by kernel_rfl) (by simp) (fun i hi=>?_)
               simp only [ze,zf,or_false] at hi
               obtain rfl:=hi
               refine ⟨_,rfl,rfl,?_⟩
               refine qa1 rfl rfl (by simp only [WB,simprocAttr,qa0,hko,hfind,hko1,hfind1,hml,hm1l,hst,hw01,hw02,za,hjj0,hjj1];rfl) ?_ ?_
               · (repeat (refine zb ?_ ?_)) <;> first | trivial | (simp_all;done)
               simp only [WB,simprocAttr,qa0,hko,hfind,hko1,hfind1,hml,hm1l,hst,hw01,hw02,za,hjj0,hjj1]
               refine qa5 (rs:=[6]) (by kernel_rfl) (by simp) (fun i hi=>?_)
               simp only [ze,zf,or_false] at hi
               obtain rfl:=hi
               refine ⟨_,rfl,rfl,?_⟩
               refine qa1 rfl rfl (by simp only [WB,simprocAttr,qa0,hko,hfind,hko1,hfind1,hml,hm1l,hst,hw01,hw02,za,hjj0,hjj1];rfl) ?_ ?_
               · (repeat (refine zb ?_ ?_)) <;> first | trivial | (simp_all;done)
               simp only [WB,simprocAttr,qa0,hko,hfind,hko1,hfind1,hml,hm1l,hst,hw01,hw02,za,hjj0,hjj1]
               refine qe3 (by kernel_rfl) ?_
               refine hK' _ _ ?_
               clear hK' K'
               refine ⟨rfl,?_⟩
               refine qa3 h0 ?_ ?_ ?_ <;> simp only [US,WB,simprocAttr,hst]
             · refine ⟨_,rfl,rfl,?_⟩
               refine qa1 rfl rfl (by simp only [WB,simprocAttr,qa0,hko,hfind,hko1,hfind1,hml,hm1l,hst,hw01,hw02,za,hjj0,hjj1];rfl) ?_ ?_
               · (repeat (refine zb ?_ ?_)) <;> first | trivial | (simp_all;done)
               simp only [WB,simprocAttr,qa0,hko,hfind,hko1,hfind1,hml,hm1l,hst,hw01,hw02,za,hjj0,hjj1]
               refine qa5 (rs:=[3]) (by kernel_rfl) (by simp) (fun i hi=>?_)
               simp only [ze,zf,or_false] at hi
               obtain rfl:=hi
               refine ⟨_,rfl,rfl,?_⟩
               refine qa1 rfl rfl (by simp only [WB,simprocAttr,qa0,hko,hfind,hko1,hfind1,hml,hm1l,hst,hw01,hw02,za,hjj0,hjj1];rfl) ?_ ?_
               · (repeat (refine zb ?_ ?_)) <;> first | trivial | (simp_all;done)
               simp only [WB,simprocAttr,qa0,hko,hfind,hko1,hfind1,hml,hm1l,hst,hw01,hw02,za,hjj0,hjj1]
               refine qa5 (rs:=[6]) (by kernel_rfl) (by simp) (fun i hi=>?_)
               simp only [ze,zf,or_false] at hi
               obtain rfl:=hi
               refine ⟨_,rfl,rfl,?_⟩
               refine qa1 rfl rfl (by simp only [WB,simprocAttr,qa0,hko,hfind,hko1,hfind1,hml,hm1l,hst,hw01,hw02,za,hjj0,hjj1];rfl) ?_ ?_
               · (repeat (refine zb ?_ ?_)) <;> first | trivial | (simp_all;done)
               simp only [WB,simprocAttr,qa0,hko,hfind,hko1,hfind1,hml,hm1l,hst,hw01,hw02,za,hjj0,hjj1]
               refine qe3 (by kernel_rfl) ?_
               refine hK' _ _ ?_
               clear hK' K'
               refine ⟨rfl,?_⟩
               refine qa3 h0 ?_ ?_ ?_ <;> simp only [US,WB,simprocAttr,hst]
         · refine ⟨_,rfl,rfl,?_⟩
           refine qa1 rfl rfl (by simp only [WB,simprocAttr,qa0,hko,hfind,hko1,hfind1,hml,hm1l,hst,hw01,hw02,za,hjj0,hjj1];rfl) ?_ ?_
           · (repeat (refine zb ?_ ?_)) <;> first | trivial | (simp_all;done)
           simp only [WB,simprocAttr,qa0,hko,hfind,hko1,hfind1,hml,hm1l,hst,hw01,hw02,za,hjj0,hjj1]
           refine qa5 (rs:=[2,5]) (by kernel_rfl) (by simp) (fun i hi=>?_)
           simp only [ze,zf,or_false] at hi
           rcases hi with rfl | rfl
           · refine ⟨_,rfl,rfl,?_⟩
             refine qa1 rfl rfl (by simp only [WB,simprocAttr,qa0,hko,hfind,hko1,hfind1,hml,hm1l,hst,hw01,hw02,za,hjj0,hjj1];rfl) ?_ ?_
             · (repeat (refine zb ?_ ?_)) <;> first | trivial | (simp_all;done)
             simp only [WB,simprocAttr,qa0,hko,hfind,hko1,hfind1,hml,hm1l,hst,hw01,hw02,za,hjj0,hjj1]
             refine qa5 (rs:=[3,5]) (by kernel_rfl) (by simp) (fun i hi=>?_)
             simp only [ze,zf,or_false] at hi
             rcases hi with rfl | rfl
             · refine ⟨_,rfl,rfl,?_⟩
               refine qa1 rfl rfl (by simp only [WB,simprocAttr,qa0,hko,hfind,hko1,hfind1,hml,hm1l,hst,hw01,hw02,za,hjj0,hjj1];rfl) ?_ ?_
               · (repeat (refine zb ?_ ?_)) <;> first | trivial | (simp_all;done)
               simp only [WB,simprocAttr,qa0,hko,hfind,hko1,hfind1,hml,hm1l,hst,hw01,hw02,za,hjj0,hjj1]
               refine qa5 (rs:=[5]) (by kernel_rfl) (by simp) (fun i hi=>?_)
               simp only [ze,zf,or_false] at hi
               obtain rfl:=hi
               refine ⟨_,rfl,rfl,?_⟩
               refine qa1 rfl rfl (by simp only [WB,simprocAttr,qa0,hko,hfind,hko1,hfind1,hml,hm1l,hst,hw01,hw02,za,hjj0,hjj1];rfl) ?_ ?_
               · (repeat (refine zb ?_ ?_)) <;> first | trivial | (simp_all;done)
               simp only [WB,simprocAttr,qa0,hko,hfind,hko1,hfind1,hml,hm1l,hst,hw01,hw02,za,hjj0,hjj1]
               refine qa5 (rs:=[6]) (by kernel_rfl) (by simp) (fun i hi=>?_)
               simp only [ze,zf,or_false] at hi
               obtain rfl:=hi
               refine ⟨_,rfl,rfl,?_⟩
               refine qa1 rfl rfl (by simp only [WB,simprocAttr,qa0,hko,hfind,hko1,hfind1,hml,hm1l,hst,hw01,hw02,za,hjj0,hjj1];rfl) ?_ ?_
               · (repeat (refine zb ?_ ?_)) <;> first | trivial | (simp_all;done)
               simp only [WB,simprocAttr,qa0,hko,hfind,hko1,hfind1,hml,hm1l,hst,hw01,hw02,za,hjj0,hjj1]
               refine qe3 (by kernel_rfl) ?_
               refine hK' _ _ ?_
               clear hK' K'
               refine ⟨rfl,?_⟩
               refine qa3 h0 ?_ ?_ ?_ <;> simp only [US,WB,simprocAttr,hst]
             · refine ⟨_,rfl,rfl,?_⟩
               refine qa1 rfl rfl (by simp only [WB,simprocAttr,qa0,hko,hfind,hko1,hfind1,hml,hm1l,hst,hw01,hw02,za,hjj0,hjj1];rfl) ?_ ?_
               · (repeat (refine zb ?_ ?_)) <;> first | trivial | (simp_all;done)
               simp only [WB,simprocAttr,qa0,hko,hfind,hko1,hfind1,hml,hm1l,hst,hw01,hw02,za,hjj0,hjj1]
               refine qa5 (rs:=[3]) (by kernel_rfl) (by simp) (fun i hi=>?_)
               simp only [ze,zf,or_false] at hi
               obtain rfl:=hi
               refine ⟨_,rfl,rfl,?_⟩
               refine qa1 rfl rfl (by simp only [WB,simprocAttr,qa0,hko,hfind,hko1,hfind1,hml,hm1l,hst,hw01,hw02,za,hjj0,hjj1];rfl) ?_ ?_
               · (repeat (refine zb ?_ ?_)) <;> first | trivial | (simp_all;done)
               simp only [WB,simprocAttr,qa0,hko,hfind,hko1,hfind1,hml,hm1l,hst,hw01,hw02,za,hjj0,hjj1]
               refine qa5 (rs:=[6]) (by kernel_rfl) (by simp) (fun i hi=>?_)
               simp only [ze,zf,or_false] at hi
               obtain rfl:=hi
               refine ⟨_,rfl,rfl,?_⟩
               refine qa1 rfl rfl (by simp only [WB,simprocAttr,qa0,hko,hfind,hko1,hfind1,hml,hm1l,hst,hw01,hw02,za,hjj0,hjj1];rfl) ?_ ?_
               · (repeat (refine zb ?_ ?_)) <;> first | trivial | (simp_all;done)
               simp only [WB,simprocAttr,qa0,hko,hfind,hko1,hfind1,hml,hm1l,hst,hw01,hw02,za,hjj0,hjj1]
               refine qe3 (by kernel_rfl) ?_
               refine hK' _ _ ?_
               clear hK' K'
               refine ⟨rfl,?_⟩
               refine qa3 h0 ?_ ?_ ?_ <;> simp only [US,WB,simprocAttr,hst]
           · refine ⟨_,rfl,rfl,?_⟩
             refine qa1 rfl rfl (by simp only [WB,simprocAttr,qa0,hko,hfind,hko1,hfind1,hml,hm1l,hst,hw01,hw02,za,hjj0,hjj1];rfl) ?_ ?_
             · (repeat (refine zb ?_ ?_)) <;> first | trivial | (simp_all;done)
             simp only [WB,simprocAttr,qa0,hko,hfind,hko1,hfind1,hml,hm1l,hst,hw01,hw02,za,hjj0,hjj1]
             refine qa5 (rs:=[2]) (by kernel_rfl) (by simp) (fun i hi=>?_)
             simp only [ze,zf,or_false] at hi
             obtain rfl:=hi
             refine ⟨_,rfl,rfl,?_⟩
             refine qa1 rfl rfl (by simp only [WB,simprocAttr,qa0,hko,hfind,hko1,hfind1,hml,hm1l,hst,hw01,hw02,za,hjj0,hjj1];rfl) ?_ ?_
             · (repeat (refine zb ?_ ?_)) <;> first | trivial | (simp_all;done)
             simp only [WB,simprocAttr,qa0,hko,hfind,hko1,hfind1,hml,hm1l,hst,hw01,hw02,za,hjj0,hjj1]
             refine qa5 (rs:=[3]) (by kernel_rfl) (by simp) (fun i hi=>?_)
             simp only [ze,zf,or_false] at hi
             obtain rfl:=hi
             refine ⟨_,rfl,rfl,?_⟩
             refine qa1 rfl rfl (by simp only [WB,simprocAttr,qa0,hko,hfind,hko1,hfind1,hml,hm1l,hst,hw01,hw02,za,hjj0,hjj1];rfl) ?_ ?_
             · (repeat (refine zb ?_ ?_)) <;> first | trivial | (simp_all;done)
             simp only [WB,simprocAttr,qa0,hko,hfind,hko1,hfind1,hml,hm1l,hst,hw01,hw02,za,hjj0,hjj1]
             refine qa5 (rs:=[6]) (by kernel_rfl) (by simp) (fun i hi=>?_)
             simp only [ze,zf,or_false] at hi
             obtain rfl:=hi
             refine ⟨_,rfl,rfl,?_⟩
             refine qa1 rfl rfl (by simp only [WB,simprocAttr,qa0,hko,hfind,hko1,hfind1,hml,hm1l,hst,hw01,hw02,za,hjj0,hjj1];rfl) ?_ ?_
             · (repeat (refine zb ?_ ?_)) <;> first | trivial | (simp_all;done)
             simp only [WB,simprocAttr,qa0,hko,hfind,hko1,hfind1,hml,hm1l,hst,hw01,hw02,za,hjj0,hjj1]
             refine qe3 (by kernel_rfl) ?_
             refine hK' _ _ ?_
             clear hK' K'
             refine ⟨rfl,?_⟩
             refine qa3 h0 ?_ ?_ ?_ <;> simp only [US,WB,simprocAttr,hst]
         -- END STEPS
       have hcS:=qu1 Γ path (by omega)
       have hn1 : (path.length + 1) * 16 ≤ 140737488355328:=by omega
       have hn2 : path.length + 1 ≤ maxLen:=by unfold maxLen;omega
       have hn3 : (qj.length + 1) * 40 ≤ 140737488355328:=by omega
       have hn4 : qj.length + 1 ≤ maxLen:=by unfold maxLen;omega
       have ha1' : (at' : Int) < (qj.length : Int):=by omega
       have hm1 : path.map sD ++ [sD name] = (path ++ [name]).map sD:=by simp
       have hm2 : qj.map plC ++ [.agg [iD sa,iD sb,.slc ((path ++ [name]).map sD)]] = (qj ++ [((⟨sa,sb⟩ : Pc),path ++ [name])]).map plC:=by simp [plC]
       (with_reducible refine qa6 ?_ ?_ ?_ (⟨⟨[],[(7,(1,path.map sD))]⟩,[],[],[],[13]⟩) _ rfl (fun K' hK' gops fin hgops hfin=>?_)
        · kernel_rfl
        · rfl
        · rfl
        repeat' first
         | (refine qa9 rfl trivial (by simp only [WB,simprocAttr,UX,UA];rfl) (by simp only [zm,zn];rfl) (by simp only [zn2];rfl) ?_)
         | (refine qa8 rfl rfl trivial (by simp only [WB,simprocAttr,UX,UA,hcS,hn1,hn2,hn3,hn4,ha0,ha1',hj0,hj1,hng,hqg2,hm1,hm2,za,zh ];rfl) ?_ (by simp only [WB,simprocAttr,UX,UA];rfl) (by simp only [WB,simprocAttr,UX,UA];rfl) (by simp only [zm,zn];rfl) (by simp only [zn2];rfl) ?_;focus (first | trivial | ((repeat' constructor) <;> first | trivial | assumption | (clear hK' hfin hgops;intros;simp_all;done))))
        (refine qb5 (by subst hfin;kernel_rfl) ?_)
        clear hfin hgops fin gops
        (try (apply hK';clear hK' K')))
       repeat' (first|(with_reducible apply zz1)|((with_reducible apply zz2);rfl;intro K' hK';simp only [WB,simprocAttr,hw2];(repeat (constructor;focus (clear hK';intros;simp_all;done)));(try (apply hK';clear hK' K')))|((with_reducible apply zz3);rfl;all_goals (intro h;try exact absurd h (by decide))))
       refine ⟨j + 1,(by show j + 1 ≤ l.length;omega),(by show l.length - (j + 1) < l.length - j;omega),by simp only [htk];refine qa3 h0 ?_ ?_ ?_ <;> simp only [US,WB,simprocAttr]⟩
    · have hj1 : ¬ (j : Int) < (l.length : Int):=by omega
      have hlj : l.take j = l:=List.take_of_length_le (by omega)
      have hqi2:=QC.adds hqp (l:=l) hqi hlt (fun s hs=>o3 s hs)
      have hal:=va2 path l qu
      rw [hlj]
      repeat' (first|(with_reducible apply zz1)|((with_reducible apply zz2);rfl;intro K' hK';simp only [WB,simprocAttr,hj1,hw1];(repeat (constructor;focus (clear hK';intros;simp_all;done)));(try (apply hK';clear hK' K')))|((with_reducible apply zz3);rfl;all_goals (intro h;try exact absurd h (by decide))))
      refine ⟨(at' + 1,l.foldl (qw7 path) qu),⟨(by show at' + 1 ≤ (l.foldl (qw7 path) qu).length;omega),hqi2,u,(by show g.length * f.length + 1 - (at' + 1) ≤ u;omega),hR⟩,(by show g.length * f.length + 1 - (at' + 1) < g.length * f.length + 1 - at';omega),by refine qa3 h0 ?_ ?_ ?_ <;> simp only [US,WB,simprocAttr]⟩
 · have ha1 : ¬ (at' : Int) < (qu.length : Int):=by omega
   have : R = none:=by
    rw [← hR]
    cases u with
    | zero=>rfl
    | succ u =>
     unfold qz1
     rw [List.getElem?_eq_none (by omega)]
   rw [this]
   repeat' (first|(with_reducible apply zz1)|((with_reducible apply zz2);rfl;intro K' hK';simp only [WB,simprocAttr,ha1,zh];(repeat (constructor;focus (clear hK';intros;simp_all;done)));(try (apply hK';clear hK' K')))|((with_reducible apply zz3);rfl;all_goals (intro h;try exact absurd h (by decide))))
   simp only [yn5]
   simp only [qf7,qd5,qa2,qd6,WB,simprocAttr]
end Go.Proofs.YtgecnlcbdbaneaaDoor
