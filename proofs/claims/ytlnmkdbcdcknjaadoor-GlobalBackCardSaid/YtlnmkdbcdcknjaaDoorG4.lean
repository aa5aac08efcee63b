/- global.check, global.Check; a symbolic walk (printed by mkg4.py out of T5). -/
-- TYPESA
import Derived.Test.YtlnmkdbcdcknjaaDoorG3
import Derived.Test.YtlnmkdbcdcknjaaDoorU5
set_option linter.unusedVariables false
set_option linter.unusedSimpArgs false
namespace Go.Proofs.YtlnmkdbcdcknjaaDoor.GG
open Go.RowKit Go.Sw
open Go.Sw renaming swp_seq → zw0, kseq_n → zw6

mutual
def Gt.size : Gt → Nat
 | .mk _ _ _ _ _ _ l=>Gt.sizes l + 1
def Gt.sizes : List Gt → Nat
 | []=>0
 | x :: l=>x.size + Gt.sizes l
end
theorem Gt.size_pos : ∀ x : Gt,0 < x.size
 | .mk _ _ _ _ _ _ l=>by simp [Gt.size]
theorem Gt.size_mem : ∀ {l : List Gt} {x : Gt},x ∈ l → x.size ≤ Gt.sizes l
 | y :: l,x,h=>by
  unfold Gt.sizes
  rcases List.mem_cons.1 h with rfl | h
  · omega
  · have:=Gt.size_mem h;omega
mutual
def stripGK : Gt → Int
 | .mk k _ _ _ _ _ l=>if k = 8 then stripGL l k else k
def stripGL : List Gt → Int → Int
 | [],k=>k
 | x :: l,k=>match l with | []=>stripGK x | _=>k
end
def stripGF : List Gt → Int
 | []=>0
 | x :: _=>stripGK x
mutual
def gchk : Gt → List ByteArray → Int → Int × Int
 | .mk k fr to so nm ls l,b,left=>if left - 1 < 0 then (2,left - 1) else if shapedG (.mk k fr to so nm ls l) = false then (1,left - 1)
  else if k = 9 then (if inL b nm = false then (4,left - 1) else gchks l b (left - 1))
  else if k = 8 then (if stripGF l = 9 then (7,left - 1) else gchks l (b ++ [nm]) (left - 1))
  else gchks l b (left - 1)
def gchks : List Gt → List ByteArray → Int → Int × Int
 | [],_,left=>(0,left)
 | x :: l,b,left=>if (gchk x b left).1 ≠ 0 then gchk x b left else gchks l b (gchk x b left).2
end
mutual
theorem gchk_left : ∀ (x : Gt) (b : List ByteArray) (left : Int),0 ≤ left → (gchk x b left).2 < left ∧ ((gchk x b left).1 = 0 → 0 ≤ (gchk x b left).2)
 | .mk k fr to so nm ls l,b,left,h=>by
  unfold gchk
  (repeat' split) <;> first
   | (refine ⟨?_,fun q=>?_⟩ <;> simp at * <;> omega)
   | (rename_i h1 h2 h3 h4
      have:=gchks_left l b (left - 1) (by omega)
      exact ⟨by omega,this.2⟩)
   | (rename_i h1 h2 h3 h4
      have:=gchks_left l (b ++ [nm]) (left - 1) (by omega)
      exact ⟨by omega,this.2⟩)
   | (rename_i h1 h2 h3 h4 h5
      have:=gchks_left l (b ++ [nm]) (left - 1) (by omega)
      exact ⟨by omega,this.2⟩)
theorem gchks_left : ∀ (l : List Gt) (b : List ByteArray) (left : Int),0 ≤ left → (gchks l b left).2 ≤ left ∧ ((gchks l b left).1 = 0 → 0 ≤ (gchks l b left).2)
 | [],b,left,h=>by unfold gchks;exact ⟨Int.le_refl _,fun _=>h⟩
 | x :: l,b,left,h=>by
  unfold gchks
  have h1:=gchk_left x b left h
  split
  · rename_i he
    exact ⟨by omega,fun q=>absurd q he⟩
  · rename_i he
    have h2:=gchks_left l b _ (h1.2 (by omega))
    exact ⟨by omega,h2.2⟩
end
def Gt.cs : Gt → List SV
 | .mk k fr to so nm ls l=>[.d (iD k),.d (sD fr),.d (sD to),.d (iD so),.d (sD nm),.d (.slc (ls.map sD)),.d (.slc (Gt.ds l))]
def GchkS (Γ : Gl) (x : Gt) : Prop := ∀ (b : List ByteArray) (left : Int),0 ≤ left → b.length + left ≤ 60 → SFn Tryd.prog Γ 35 [.d x.d,.d (.slc (b.map sD)),.ref 0 0] [(0,.cells [.d (iD left)])] (.d (iD (gchk x b left).1)) [(0,.cells [.d (iD (gchk x b left).2)])]

theorem shapedG_kids {k : Int} {fr to : ByteArray} {so : Int} {nm : ByteArray} {ls : List ByteArray} {l : List Gt} (h : shapedG (.mk k fr to so nm ls l) = true) (hk : k = 8) : ∃ x,l = [x]:=by
 subst hk
 simp only [shapedG] at h
 have hk : kindG 8 ls.length = some (1,false,false,true,false):=by simp [kindG]
 rw [hk] at h
 simp only [shapeG] at h
 split at h
 · rename_i hl
   match l,hl with
   | [x],_=>exact ⟨x,rfl⟩
 · cases h
theorem shapedG_len {k : Int} {fr to : ByteArray} {so : Int} {nm : ByteArray} {ls : List ByteArray} {l : List Gt} (h : shapedG (.mk k fr to so nm ls l) = true) : l.length ≤ 6:=by
 simp only [shapedG] at h
 split at h
 · rename_i i hi
   simp only [shapeG] at h
   split at h
   · rename_i hn
     unfold kindG at hi
     (repeat' split at hi) <;> cases hi <;> first
      | (simp only at hn;omega)
      | (simp only at hn
         rw [hn]
         simp at h
         exact labels_len h.2.2.1)
   · cases h
 · cases h

set_option maxHeartbeats 16000000 in
set_option maxRecDepth 100000 in
theorem gcheck_step (Γ : Gl) (k : Int) (fr to : ByteArray) (so : Int) (nm : ByteArray) (ls : List ByteArray) (l : List Gt) (ih : ∀ x ∈ l,GchkS Γ x) : GchkS Γ (.mk k fr to so nm ls l):=by
 intro b left hl0 hl1
 have hll:=Gt.ds_len l
 have hw : IntKind.i64.wrap (left - 1) = left - 1:=wrap_in (by omega) (by omega)
 have hsh:=shapedG_fn Γ (.mk k fr to so nm ls l)
 have hct:=containsS_fn Γ b nm (by omega)
 have hcl:=cloneS_fn Γ b (by omega)
 obtain ⟨R,hR⟩ : ∃ R,gchk (.mk k fr to so nm ls l) b left = R:=⟨_,rfl⟩
 rw [hR]
 simp only [Gt.d] at hsh ⊢
 refine sfn_of_swp (N:=75) Tryd.func35 rfl (by decide) rfl rfl (by simp) (fun C h0=>?_)
 simp only [argS]
 by_cases hneg : left - 1 < 0
 · have hR : R = (2,left - 1):=by rw [← hR];unfold gchk;rw [if_pos hneg]
   subst hR
   repeat' (first|(with_reducible apply zz1)|((with_reducible apply zz2);rfl;intro K' hK';simp only [WA,simprocAttr,hw,hneg];(repeat (constructor;focus (clear hK';intros;simp_all;done)));(try (apply hK';clear hK' K')))|((with_reducible apply zz3);rfl;all_goals (intro h;try exact absurd h (by decide))))
   simp only [KretS,retL,retOne,oneV,US,WA,simprocAttr,h0]
 unfold gchk at hR
 rw [if_neg hneg] at hR
 by_cases hs : shapedG (.mk k fr to so nm ls l) = false
 · rw [if_pos hs] at hR
   subst hR
   rw [hs] at hsh
   repeat' (first|(with_reducible apply zz1)|((with_reducible apply zz2);rfl;intro K' hK';simp only [WA,simprocAttr,hw,hneg];(repeat (constructor;focus (clear hK';intros;simp_all;done)));(try (apply hK';clear hK' K')))|((with_reducible apply zz3);rfl;all_goals (intro h;try exact absurd h (by decide))))
   refine stop_callF rfl (by simp only [WA,simprocAttr]) rfl rfl (hsh) ?_
   simp only [WA,simprocAttr,inX,dropS,Bool.not_true,Bool.not_false,cond_true,cond_false]
   (repeat (constructor;focus (clear hK';intros;simp_all;done)))
   (try (apply hK';clear hK' K'))
   repeat' (first|(with_reducible apply zz1)|((with_reducible apply zz2);rfl;intro K' hK';simp only [WA,simprocAttr];(repeat (constructor;focus (clear hK';intros;simp_all;done)));(try (apply hK';clear hK' K')))|((with_reducible apply zz3);rfl;all_goals (intro h;try exact absurd h (by decide))))
   simp only [KretS,retL,retOne,oneV,US,WA,simprocAttr,h0]
 rw [if_neg hs] at hR
 have hs : shapedG (.mk k fr to so nm ls l) = true:=by simpa using hs
 rw [hs] at hsh
 have hk8:=shapedG_kids hs
 have hlen:=shapedG_len hs
 clear hs
 -- up to the switch
 refine zw0 ?_
 (with_reducible refine swp_region ?_ (fun K' hK'=>?_)
  · rfl
  simp only [WA,simprocAttr]
  (repeat (constructor;focus (clear hK';intros;simp_all;done))))
 refine hK' _ _ ?_
 clear hK' K'
 refine zw6 ?_
 repeat' (first|(with_reducible apply zz1)|((with_reducible apply zz2);rfl;intro K' hK';simp only [WA,simprocAttr,hw,hneg];(repeat (constructor;focus (clear hK';intros;simp_all;done)));(try (apply hK';clear hK' K')))|((with_reducible apply zz3);rfl;all_goals (intro h;try exact absurd h (by decide))))
 refine stop_callF rfl (by simp only [WA,simprocAttr]) rfl rfl (hsh) ?_
 simp only [WA,simprocAttr,inX,dropS,Bool.not_true,Bool.not_false,cond_true,cond_false]
 (repeat (constructor;focus (clear hK';intros;simp_all;done)))
 (try (apply hK';clear hK' K'))
 refine zw6 ?_
 ((with_reducible refine swp_cond ?_ ?_);rfl;refine ⟨_,rfl,fun h=>?_,fun h=>?_⟩ <;> try exact absurd h (by decide))
 refine swp_skip ?_
 refine zw6 ?_
 refine zw0 ?_
 refine zw0 ?_
 (with_reducible refine swp_region ?_ (fun K' hK'=>?_)
  · rfl
  simp only [WA,simprocAttr]
  (repeat (constructor;focus (clear hK';intros;simp_all;done))))
 refine hK' _ _ ?_
 clear hK' K' h
 refine zw6 ?_
 refine swp_midF (ι := List ByteArray) (fun b'=>[(1,.d (.slc (b'.map sD))),(2,.ref 0 0),(3,.ref 1 0)])
  (fun _=>[(0,.cells [.d (iD (left - 1))]),(1,.cells [.d (iD k),.d (sD fr),.d (sD to),.d (iD so),.d (sD nm),.d (.slc (ls.map sD)),.d (.slc (Gt.ds l))])]) (fun b'=>b'.length + (left - 1) ≤ 60 ∧ R = gchks l b' (left - 1)) ?_ (fun b' hb=>?_)
 · clear hsh ih
   by_cases k9 : k = 9
   · subst k9
     rw [if_pos rfl] at hR
     have hct : DFn Tryd.prog Γ 14 [.slc (b.map sD),sD nm] (.v (.bool (inL b nm))):=hct
     cases eI : inL b nm with
     | false =>
      rw [eI] at hct hR
      rw [if_pos rfl] at hR
      subst hR
      repeat' (first|(with_reducible apply zz1)|((with_reducible apply zz2);rfl;intro K' hK';simp only [WA,simprocAttr];(repeat (constructor;focus (clear hK';intros;simp_all;done)));(try (apply hK';clear hK' K')))|((with_reducible apply zz3);rfl;all_goals (intro h;try exact absurd h (by decide))))
      refine stop_callF rfl (by simp only [WA,simprocAttr]) rfl rfl (hct) ?_
      simp only [WA,simprocAttr,inX,dropS,Bool.not_true,Bool.not_false,cond_true,cond_false]
      (repeat (constructor;focus (clear hK';intros;simp_all;done)))
      (try (apply hK';clear hK' K'))
      repeat' (first|(with_reducible apply zz1)|((with_reducible apply zz2);rfl;intro K' hK';simp only [WA,simprocAttr];(repeat (constructor;focus (clear hK';intros;simp_all;done)));(try (apply hK';clear hK' K')))|((with_reducible apply zz3);rfl;all_goals (intro h;try exact absurd h (by decide))))
      refine kfam_r ?_
      simp only [KretS,retL,retOne,oneV,US,WA,simprocAttr,h0]
     | true =>
      rw [eI] at hct hR
      rw [if_neg (by decide)] at hR
      repeat' (first|(with_reducible apply zz1)|((with_reducible apply zz2);rfl;intro K' hK';simp only [WA,simprocAttr];(repeat (constructor;focus (clear hK';intros;simp_all;done)));(try (apply hK';clear hK' K')))|((with_reducible apply zz3);rfl;all_goals (intro h;try exact absurd h (by decide))))
      refine stop_callF rfl (by simp only [WA,simprocAttr]) rfl rfl (hct) ?_
      simp only [WA,simprocAttr,inX,dropS,Bool.not_true,Bool.not_false,cond_true,cond_false]
      (repeat (constructor;focus (clear hK';intros;simp_all;done)))
      (try (apply hK';clear hK' K'))
      repeat' (first|(with_reducible apply zz1)|((with_reducible apply zz2);rfl;intro K' hK';simp only [WA,simprocAttr];(repeat (constructor;focus (clear hK';intros;simp_all;done)));(try (apply hK';clear hK' K')))|((with_reducible apply zz3);rfl;all_goals (intro h;try exact absurd h (by decide))))
      refine kfam_n b ⟨by omega,hR.symm⟩ ?_
      refine sub_of h0 ?_ ?_ ?_ <;> simp only [US,WA,simprocAttr]
   · have g9 : (k == 9) = false:=by simpa using k9
     rw [if_neg k9] at hR
     by_cases k8 : k = 8
     · subst k8
       rw [if_pos rfl] at hR
       obtain ⟨x,rfl⟩:=hk8 rfl
       have hR : (if stripGK x = 9 then ((7 : Int),left - 1) else gchks [x] (b ++ [nm]) (left - 1)) = R:=hR
       have hll1 : (Gt.ds [x]).length = 1:=rfl
       obtain ⟨xk,xfr,xto,xso,xnm,xls,xl⟩:=x
       have e0 : Gt.ds [.mk xk xfr xto xso xnm xls xl] = [.agg [iD xk,sD xfr,sD xto,iD xso,sD xnm,.slc (xls.map sD),.slc (Gt.ds xl)]]:=by simp only [Gt.ds,Gt.d]
       rw [e0]
       repeat' (first|(with_reducible apply zz1)|((with_reducible apply zz2);rfl;intro K' hK';simp only [WA,simprocAttr,g9,List.getD_cons_zero,List.length_cons,List.length_nil];(repeat (constructor;focus (clear hK';intros;simp_all;done)));(try (apply hK';clear hK' K')))|((with_reducible apply zz3);rfl;all_goals (intro h;try exact absurd h (by decide))))
       refine swp_loop (α := Gt) (fun y=>[(1,.d (.slc (b.map sD))),(2,.ref 0 0),(3,.ref 1 0),(7,.ref 2 0)]) (fun y=>[(0,.cells [.d (iD (left - 1))]),(1,.cells [.d (iD 8),.d (sD fr),.d (sD to),.d (iD so),.d (sD nm),.d (.slc (ls.map sD)),.d (.slc [.agg [iD xk,sD xfr,sD xto,iD xso,sD xnm,.slc (xls.map sD),.slc (Gt.ds xl)]])]),(2,.cells y.cs)])
        (fun y=>stripGK (.mk xk xfr xto xso xnm xls xl) = stripGK y) Gt.size (.mk xk xfr xto xso xnm xls xl) rfl (by simp only [Gt.cs];refine sub_of h0 ?_ ?_ ?_ <;> simp only [US,WA,simprocAttr]) (fun y hy=>?_)
       rw [hy] at hR
       obtain ⟨yk,yfr,yto,yso,ynm,yls,yl⟩:=y
       have hyl:=Gt.ds_len yl
       simp only [Gt.cs]
       have hbl : (b.length + 1) * 16 ≤ 140737488355328:=by omega
       have hbl2 : b.length + 1 ≤ maxLen:=by unfold maxLen;omega
       -- what comes behind
       by_cases y8 : yk = 8
       · subst y8
         by_cases y1 : yl.length = 1
         · obtain ⟨z,rfl⟩ : ∃ z,yl = [z]:=by
            match yl,y1 with
            | [z],_=>exact ⟨z,rfl⟩
           obtain ⟨zk,zfr,zto,zso,znm,zls,zl⟩:=z
           have e1 : Gt.ds [.mk zk zfr zto zso znm zls zl] = [.agg [iD zk,sD zfr,sD zto,iD zso,sD znm,.slc (zls.map sD),.slc (Gt.ds zl)]]:=by simp only [Gt.ds,Gt.d]
           rw [e1]
           repeat' (first|(with_reducible apply zz1)|((with_reducible apply zz2);rfl;intro K' hK';simp only [WA,simprocAttr,List.length_cons,List.length_nil,List.getD_cons_zero];(repeat (constructor;focus (clear hK';intros;simp_all;done)));(try (apply hK';clear hK' K')))|((with_reducible apply zz3);rfl;all_goals (intro h;try exact absurd h (by decide))))
           refine ⟨.mk zk zfr zto zso znm zls zl,?_,?_,by simp only [Gt.cs];refine sub_of h0 ?_ ?_ ?_ <;> simp only [US,WA,simprocAttr]⟩
           · rw [hy];rfl
           · simp only [Gt.size,Gt.sizes];omega
         · have g1 : ((yl.length : Int) == 1) = false:=by simpa using (by omega : (yl.length : Int) ≠ 1)
           have hs : stripGK (.mk 8 yfr yto yso ynm yls yl) = 8:=by
            match yl,y1 with
            | [],_=>rfl
            | _ :: _ :: _,_=>rfl
           rw [hs,if_neg (by decide)] at hR
           have g89 : ((8 : Int) == 9) = false:=by decide
           clear hy
           repeat' (first|(with_reducible apply zz1)|((with_reducible apply zz2);rfl;intro K' hK';simp only [WA,simprocAttr,hyl,g1,g89];(repeat (constructor;focus (clear hK';intros;simp_all;done)));(try (apply hK';clear hK' K')))|((with_reducible apply zz3);rfl;all_goals (intro h;try exact absurd h (by decide))))
           (with_reducible refine swp_drawW ?_ ?_ ?_ ( ⟨[],[(1,(1,b.map sD))]⟩) _ rfl (fun K' hK'=>?_)
            · kernel_rfl
            · rfl
            · rfl
            simp only [WA,simprocAttr,vcW,stepW,callR,effO,srcE,Eff.env,Eff.st,writeOp,callA,pureOp,Bool.or_true,Bool.true_or,Bool.or_self,Bool.or_false,Bool.false_or,D.flat,D.flats,true_or,or_true,forall_const,List.length_map,hcl,hbl,hbl2 ]
            (repeat (constructor;focus (first | (with_reducible assumption) | (clear hK';intros;simp_all;done))))
            (refine And.intro (by kernel_rfl) ?_)
            (try (apply hK';clear hK' K')))
           repeat' (first|(with_reducible apply zz1)|((with_reducible apply zz2);rfl;intro K' hK';simp only [WA,simprocAttr];(repeat (constructor;focus (clear hK';intros;simp_all;done)));(try (apply hK';clear hK' K')))|((with_reducible apply zz3);rfl;all_goals (intro h;try exact absurd h (by decide))))
           refine kfam_n (b ++ [nm]) ⟨by rw [List.length_append];simp only [List.length_cons,List.length_nil];omega,hR.symm⟩ ?_
           refine sub_of h0 ?_ ?_ ?_ <;> simp only [US,WA,simprocAttr,List.map_append]
       · have g8 : (yk == 8) = false:=by simpa using y8
         have hs : stripGK (.mk yk yfr yto yso ynm yls yl) = yk:=by simp only [stripGK,if_neg y8]
         rw [hs] at hR
         clear hy
         by_cases y9 : yk = 9
         · have g9 : (yk == 9) = true:=by simpa using y9
           rw [if_pos y9] at hR
           subst hR
           repeat' (first|(with_reducible apply zz1)|((with_reducible apply zz2);rfl;intro K' hK';simp only [WA,simprocAttr,g8,g9];(repeat (constructor;focus (clear hK';intros;simp_all;done)));(try (apply hK';clear hK' K')))|((with_reducible apply zz3);rfl;all_goals (intro h;try exact absurd h (by decide))))
           refine kfam_r ?_
           simp only [KretS,retL,retOne,oneV,US,WA,simprocAttr,h0]
         · have g9 : (yk == 9) = false:=by simpa using y9
           rw [if_neg y9] at hR
           repeat' (first|(with_reducible apply zz1)|((with_reducible apply zz2);rfl;intro K' hK';simp only [WA,simprocAttr,g8,g9];(repeat (constructor;focus (clear hK';intros;simp_all;done)));(try (apply hK';clear hK' K')))|((with_reducible apply zz3);rfl;all_goals (intro h;try exact absurd h (by decide))))
           -- TRACE
           (with_reducible refine swp_drawW ?_ ?_ ?_ ( ⟨[],[(1,(1,b.map sD))]⟩) _ rfl (fun K' hK'=>?_)
            · kernel_rfl
            · rfl
            · rfl
            simp only [WA,simprocAttr,vcW,stepW,callR,effO,srcE,Eff.env,Eff.st,writeOp,callA,pureOp,Bool.or_true,Bool.true_or,Bool.or_self,Bool.or_false,Bool.false_or,D.flat,D.flats,true_or,or_true,forall_const,List.length_map,hcl,hbl,hbl2 ]
            (repeat (constructor;focus (first | (with_reducible assumption) | (clear hK';intros;simp_all;done))))
            (refine And.intro (by kernel_rfl) ?_)
            (try (apply hK';clear hK' K')))
           repeat' (first|(with_reducible apply zz1)|((with_reducible apply zz2);rfl;intro K' hK';simp only [WA,simprocAttr];(repeat (constructor;focus (clear hK';intros;simp_all;done)));(try (apply hK';clear hK' K')))|((with_reducible apply zz3);rfl;all_goals (intro h;try exact absurd h (by decide))))
           refine kfam_n (b ++ [nm]) ⟨by rw [List.length_append];simp only [List.length_cons,List.length_nil];omega,hR.symm⟩ ?_
           refine sub_of h0 ?_ ?_ ?_ <;> simp only [US,WA,simprocAttr,List.map_append]
     · have g8 : (k == 8) = false:=by simpa using k8
       rw [if_neg k8] at hR
       repeat' (first|(with_reducible apply zz1)|((with_reducible apply zz2);rfl;intro K' hK';simp only [WA,simprocAttr,g9,g8];(repeat (constructor;focus (clear hK';intros;simp_all;done)));(try (apply hK';clear hK' K')))|((with_reducible apply zz3);rfl;all_goals (intro h;try exact absurd h (by decide))))
       refine kfam_n b ⟨by omega,hR.symm⟩ ?_
       refine sub_of h0 ?_ ?_ ?_ <;> simp only [US,WA,simprocAttr]
 · obtain ⟨hbl,hR⟩:=hb
   subst hR
   clear hR hct hcl hsh hk8
   repeat' (first|(with_reducible apply zz1)|((with_reducible apply zz2);rfl;intro K' hK';simp only [WA,simprocAttr,hll];(repeat (constructor;focus (clear hK';intros;simp_all;done)));(try (apply hK';clear hK' K')))|((with_reducible apply zz3);rfl;all_goals (intro h;try exact absurd h (by decide))))
   refine swp_loop (α := Nat × Int) (fun q=>[(1,.d (.slc (b'.map sD))),(2,.ref 0 0),(61,.d (.slc (Gt.ds l))),(62,.d (iD l.length)),(63,.d (iD q.1))]) (fun q=>[(0,.cells [.d (iD q.2)])])
    (fun q=>q.1 ≤ l.length ∧ 0 ≤ q.2 ∧ q.2 ≤ left - 1 ∧ gchks l b' (left - 1) = gchks (l.drop q.1) b' q.2) (fun q=>l.length - q.1) (0,left - 1) ⟨Nat.zero_le _,(by show 0 ≤ left - 1;omega),Int.le_refl _,by simp⟩ (by refine sub_of h0 ?_ ?_ ?_ <;> simp only [US,WA,simprocAttr,hll]) (fun q hq=>?_)
   obtain ⟨j,lf⟩:=q
   obtain ⟨hj,hf0,hf1,hch⟩:=hq
   simp only at hj hf0 hf1 hch
   have hb0 : (0 : Int) ≤ (j : Int):=by omega
   by_cases hlt : j < l.length
   · obtain ⟨x,hx⟩ : ∃ x,l[j]? = some x:=⟨l[j],by simp [hlt]⟩
     have hcall:=ih x (List.mem_of_getElem? hx) b' lf hf0 (by omega)
     have hget:=Gt.ds_get l j x hx
     have hb1 : (j : Int) < (l.length : Int):=by omega
     have hw3 : IntKind.i64.wrap ((j : Int) + 1) = ((j + 1 : Nat) : Int):=by rw [wrap_in (by omega) (by omega)];omega
     have hcl:=gchk_left x b' lf hf0
     obtain ⟨e1,l1,hse⟩ : ∃ e1 l1,gchk x b' lf = (e1,l1):=⟨_,_,rfl⟩
     have hd : l.drop j = x :: l.drop (j + 1):=by
      obtain ⟨h1,h2⟩:=List.getElem?_eq_some_iff.1 hx
      rw [List.drop_eq_getElem_cons h1,h2]
     rw [hse] at hcall hcl
     rw [hd] at hch
     simp only [gchks,hse] at hch
     simp only at hcall hcl
     obtain ⟨k',fr',to',so',nm',ls',l'⟩:=x
     simp only [Gt.d] at hget hcall
     repeat' (first|(with_reducible apply zz1)|((with_reducible apply zz2);rfl;intro K' hK';simp only [WA,simprocAttr,Int.toNat_natCast,hget,hll,hb0,hb1];(repeat (constructor;focus (clear hK';intros;simp_all;done)));(try (apply hK';clear hK' K')))|((with_reducible apply zz3);rfl;all_goals (intro h;try exact absurd h (by decide))))
     refine stop_cS rfl (by simp only [UA,WA,simprocAttr]) (hcall ) ?_
     simp only [WA,simprocAttr,UM,  Int.toNat_natCast]
     (try (apply hK';clear hK' K'))
     repeat' (first|(with_reducible apply zz1)|((with_reducible apply zz2);rfl;intro K' hK';simp only [WA,simprocAttr,hw3];(repeat (constructor;focus (clear hK';intros;simp_all;done)));(try (apply hK';clear hK' K')))|((with_reducible apply zz3);rfl;all_goals (intro h;try exact absurd h (by decide))))
     · simp only [KretS,retL,retOne,oneV,US,WA,simprocAttr,h0]
       have he : e1 ≠ 0:=by simpa using h
       rw [if_pos he] at hch
       simp only [hch,and_self]
     · have he : ¬ e1 ≠ 0:=by simpa using h
       rw [if_neg he] at hch
       refine ⟨(j + 1,l1),⟨(by show j + 1 ≤ l.length;omega),?_⟩,(by show l.length - (j + 1) < l.length - j;omega),by refine sub_of h0 ?_ ?_ ?_ <;> simp only [US,WA,simprocAttr]⟩
       exact ⟨hcl.2 (by omega),(by show l1 ≤ left - 1;omega),hch⟩
   · have hb1 : ¬ (j : Int) < (l.length : Int):=by omega
     repeat' (first|(with_reducible apply zz1)|((with_reducible apply zz2);rfl;intro K' hK';simp only [WA,simprocAttr,hb1];(repeat (constructor;focus (clear hK';intros;simp_all;done)));(try (apply hK';clear hK' K')))|((with_reducible apply zz3);rfl;all_goals (intro h;try exact absurd h (by decide))))
     simp only [KretS,retL,retOne,oneV,US,WA,simprocAttr,h0]
     rw [List.drop_of_length_le (by omega)] at hch
     simp only [hch,gchks,and_self]
theorem gcheckS_all (Γ : Gl) : ∀ (N : Nat) (x : Gt),x.size ≤ N → GchkS Γ x
 | 0,x,h=>by have:=x.size_pos;omega
 | N + 1,.mk k fr to so nm ls l,h=>gcheck_step Γ k fr to so nm ls l fun x hx=>gcheckS_all Γ N x (by have:=Gt.size_mem hx;simp only [Gt.size] at h;omega)
def gCheck (x : Gt) : Int:=(gchk x [] 60).1
set_option maxHeartbeats 4000000 in
set_option maxRecDepth 100000 in
theorem GCheck_fn (Γ : Gl) (x : Gt) : DFn Tryd.prog Γ 15 [x.d] (iD (gCheck x)):=by
 have hcall : SFn Tryd.prog Γ 35 [.d x.d,.d (.slc []),.ref 1 0] [(1,.cells [.d (iD 60)])] (.d (iD (gchk x [] 60).1)) [(1,.cells [.d (iD (gchk x [] 60).2)])]:=(gcheckS_all Γ x.size x (Nat.le_refl _) [] 60 (by omega) (by simp)).up 1
 unfold gCheck
 generalize gchk x [] 60 = R at *
 refine fn_of_swp (N:=6) Tryd.func15 rfl (by decide) rfl rfl (by simp) (fun C h0=>?_)
 simp only [argE]
 obtain ⟨k,fr,to,so,nm,ls,l⟩:=x
 simp only [Gt.d] at hcall ⊢
 repeat' (first|(with_reducible apply zz1)|((with_reducible apply zz2);rfl;intro K' hK';simp only [WA,simprocAttr];(repeat (constructor;focus (clear hK';intros;simp_all;done)));(try (apply hK';clear hK' K')))|((with_reducible apply zz3);rfl;all_goals (intro h;try exact absurd h (by decide))))
 refine stop_cS rfl (by simp only [UA,WA,simprocAttr]) (hcall) ?_
 simp only [WA,simprocAttr,UM, ]
 (try (apply hK';clear hK' K'))
 repeat' (first|(with_reducible apply zz1)|((with_reducible apply zz2);rfl;intro K' hK';simp only [WA,simprocAttr];(repeat (constructor;focus (clear hK';intros;simp_all;done)));(try (apply hK';clear hK' K')))|((with_reducible apply zz3);rfl;all_goals (intro h;try exact absurd h (by decide))))
 simp only [Kret,retL,retOne,oneV,WA,simprocAttr]
end Go.Proofs.YtlnmkdbcdcknjaaDoor.GG
