/- duetref.Type; a symbolic walk. -/
-- TYPESB
import Derived.Test.YtgecnlcbdbaneaaDoorH20
import Derived.Test.YtgecnlcbdbaneaaDoorTB
set_option linter.unusedVariables false
set_option linter.unusedSimpArgs false
namespace Go.Proofs.YtgecnlcbdbaneaaDoor
open Go.RowKit Go.Sw

mutual
def szT : Tp → Prop
 | .mk k so nm ls l=>SzN nm ls l ∧ szTs l
def szTs : List Tp → Prop
 | []=>True
 | x :: l=>szT x ∧ szTs l
end
theorem szTs_mem : ∀ {l : List Tp},szTs l → ∀ x ∈ l,szT x
 | x :: l,h,y,hy=>by
  unfold szTs at h
  rcases List.mem_cons.1 hy with rfl | hy
  · exact h.1
  · exact szTs_mem h.2 y hy
theorem szTs_of {l : List Tp} (h : ∀ x ∈ l,szT x) : szTs l:=by
 induction l with
 | nil=>trivial
 | cons x l ih=>exact ⟨h x (by simp),ih fun y hy=>h y (by simp [hy])⟩
abbrev Todo:=Tp × List ByteArray
def tdD (q : Todo) : D:=match q.1 with | .mk k so nm ls l=>.agg [iD k,iD so,sD nm,.slc (ls.map sD),.slc (Tp.ds l),.slc (q.2.map sD)]
def rGo : Nat → List Todo → Int
 | _,[]=>0
 | 0,_ :: _=>2
 | f + 1,(.mk k so nm ls l,b) :: rest=>if shapedB (.mk k so nm ls l) = false then 1 else if k = 9 ∧ inL b nm = false then 4 else if k = 8 ∧ stripF l = 9 then 7
  else rGo f (l.map (fun y=>(y,if k = 8 then b ++ [nm] else b)) ++ rest)
def seqC : List Todo → Int → Int × Int
 | [],left=>(0,left)
 | q :: rest,left=>if (tchk q.1 q.2 left).1 ≠ 0 then tchk q.1 q.2 left else seqC rest (tchk q.1 q.2 left).2
theorem seqC_kids (b : List ByteArray) (rest : List Todo) : ∀ (l : List Tp) (left : Int),seqC (l.map (fun y=>(y,b)) ++ rest) left = if (tchks l b left).1 ≠ 0 then tchks l b left else seqC rest (tchks l b left).2
 | [],left=>by simp [tchks]
 | x :: l,left=>by
  rw [List.map_cons,List.cons_append,seqC,seqC_kids b rest l,tchks]
  simp only
  by_cases h : (tchk x b left).1 = 0
  · simp [h]
  · simp [h]
theorem rGo_seq : ∀ (f : Nat) (L : List Todo),rGo f L = (seqC L (f : Int)).1
 | f,[]=>by cases f <;> rfl
 | 0, (x,b) :: rest=>by
  rw [rGo,seqC]
  have : tchk x b ((0 : Nat) : Int) = (2, -1):=by
   obtain ⟨k,so,nm,ls,l⟩:=x
   unfold tchk
   rw [if_pos (by decide)];rfl
  show _ = (if (tchk x b ((0 : Nat) : Int)).1 ≠ 0 then tchk x b ((0 : Nat) : Int) else seqC rest (tchk x b ((0 : Nat) : Int)).2).1
  rw [this];rfl
 | f + 1,(.mk k so nm ls l,b) :: rest=>by
  rw [rGo,seqC]
  have e1 : ((f + 1 : Nat) : Int) - 1 = (f : Int):=by omega
  have hk:=rGo_seq f
  simp only [tchk,e1]
  rw [if_neg (show ¬ (f : Int) < 0 by omega)]
  by_cases hs : shapedB (.mk k so nm ls l) = false
  · rw [if_pos hs,if_pos hs];rfl
  rw [if_neg hs,if_neg hs]
  by_cases h9 : k = 9
  · subst h9
    rw [if_pos rfl]
    by_cases hi : inL b nm = false
    · rw [if_pos ⟨rfl,hi⟩,if_pos hi];rfl
    · rw [if_neg (fun h=>hi h.2),if_neg hi,if_neg (fun h=>by omega),hk,if_neg (show ¬ (9 : Int) = 8 by decide),seqC_kids]
  · rw [if_neg (fun h=>h9 h.1),if_neg h9]
    by_cases h8 : k = 8
    · subst h8
      rw [if_pos rfl]
      by_cases hs : stripF l = 9
      · rw [if_pos ⟨rfl,hs⟩,if_pos hs];rfl
      · rw [if_neg (fun h=>hs h.2),if_neg hs,hk,if_pos rfl,seqC_kids]
    · rw [if_neg (fun h=>h8 h.1),if_neg h8,hk,if_neg h8,seqC_kids]
theorem rGo_check (x : Tp) : rGo 60 [(x,[])] = tCheck x:=by
 rw [rGo_seq,seqC]
 unfold tCheck
 show (if (tchk x [] 60).1 ≠ 0 then tchk x [] 60 else seqC [] (tchk x [] 60).2).1 = _
 split
 · rfl
 · rename_i h
   have : (tchk x [] 60).1 = 0:=by simpa using h
   rw [this];rfl
set_option maxHeartbeats 16000000 in
set_option maxRecDepth 100000 in
theorem rType_fn (Γ : Gl) (x : Tp) (hx : szT x) : DFn Tryd.prog Γ 26 [x.d] (iD (tCheck x)):=by
 obtain ⟨R,hR⟩ : ∃ R,tCheck x = R:=⟨_,rfl⟩
 rw [hR]
 rw [← rGo_check] at hR
 have h0l : [tdD (x,[])] = [((x,[]) : Todo)].map tdD:=rfl
 obtain ⟨k0,so0,nm0,ls0,l0⟩:=x
 simp only [tdD,List.map_nil] at h0l
 simp only [Tp.d]
 refine fn_of_swp (N:=94) Tryd.func26 rfl (by decide) rfl rfl (by simp) (fun C h0=>?_)
 simp only [argE]
 repeat' (first|(with_reducible apply zz1)|((with_reducible refine zz4 ?_ ?_);rfl)|((with_reducible refine zz2 ?_ (fun K' hK'=>?_));rfl;simp only [WB,simprocAttr];(repeat (refine And.intro ?_ ?_;focus (clear hK';intros;simp_all;done)));(try (refine hK' _ _ ?_;clear hK' K')))|((with_reducible refine zz3 ?_ ?_);rfl;refine ⟨_,rfl,fun h=>?_,fun h=>?_⟩ <;> try exact absurd h (by decide)))
 refine swp_frz [1] h0 (by simp only [Option.isSome_some,UF,WB,simprocAttr]) ?_
 simp only [WB,simprocAttr,UF]
 refine swp_loop (α := Nat × List Todo) (fun q=>[(3,.d (.slc (q.2.map tdD))),(4,.d (iD q.1))]) (fun _=>[])
  (fun q=>q.1 ≤ 60 ∧ rGo (60 - q.1) q.2 = R ∧ q.2.length ≤ 1 + 6 * q.1 ∧ ∀ y ∈ q.2,szT y.1 ∧ y.2.length ≤ q.1) (fun q=>61 - q.1) (0,[(.mk k0 so0 nm0 ls0 l0,[])]) ⟨Nat.zero_le _,hR,by simp,fun y hy=>by rw [List.mem_singleton] at hy;subst hy;exact ⟨hx,by simp⟩⟩ (by refine sub_of h0 ?_ ?_ ?_ <;> simp only [US,WB,simprocAttr,h0l]) (fun q hq=>?_)
 obtain ⟨n,L⟩:=q
 obtain ⟨hn,hq,hlen,hall⟩:=hq
 simp only at hn hq hlen hall
 cases L with
 | nil =>
  have hR0 : R = 0:=by rw [← hq];cases 60 - n <;> rfl
  subst hR0
  have g1 : ¬ (0 : Int) < (0 : Int):=by decide
  repeat' (first|(with_reducible apply zz1)|((with_reducible refine zz4 ?_ ?_);rfl)|((with_reducible refine zz2 ?_ (fun K' hK'=>?_));rfl;simp only [WB,simprocAttr,List.map_nil,List.length_nil,Int.natCast_zero,g1];(repeat (refine And.intro ?_ ?_;focus (clear hK';intros;simp_all;done)));(try (refine hK' _ _ ?_;clear hK' K')))|((with_reducible refine zz3 ?_ ?_);rfl;refine ⟨_,rfl,fun h=>?_,fun h=>?_⟩ <;> try exact absurd h (by decide)))
  simp only [Kret,retL,retOne,oneV,WB,simprocAttr]
 | cons x rest =>
  obtain ⟨⟨k,so,nm,ls,l⟩,b⟩:=x
  obtain ⟨hsz,hbl⟩:=hall _ (List.mem_cons_self ..)
  simp only at hsz hbl
  simp only [List.length_cons] at hlen
  have hp:=part_fn Γ k so nm ls l hsz.1
  have hll:=Tp.ds_len l
  simp only [Tp.d] at hp
  have g0 : (0 : Int) < ((rest.length + 1 : Nat) : Int):=by omega
  have g1 : (1 : Int) ≤ ((rest.length + 1 : Nat) : Int):=by omega
  simp only [List.map_cons,tdD]
  have hfit : ∀ d ∈ (D.agg [iD k,iD so,sD nm,.slc (ls.map sD),.slc (Tp.ds l),.slc (b.map sD)] :: rest.map tdD),d.cells.length = 6:=by
   intro d hd
   rcases List.mem_cons.1 hd with rfl | hd
   · rfl
   · obtain ⟨⟨⟨k',so',nm',ls',l'⟩,b'⟩, -,rfl⟩:=List.mem_map.1 hd
     rfl
  by_cases h60 : n = 60
  · subst h60
    have hR2 : R = 2:=by rw [← hq];rfl
    subst hR2
    have g60 : (((60 : Nat) : Int) == 60) = true:=by decide
    repeat' (first|(with_reducible apply zz1)|((with_reducible refine zz4 ?_ ?_);rfl)|((with_reducible refine zz2 ?_ (fun K' hK'=>?_));rfl;simp only [WB,simprocAttr,List.length_cons,List.length_map,g0,g1,List.getD_cons_zero];(repeat (refine And.intro ?_ ?_;focus (clear hK';intros;simp_all;done)));(try (refine hK' _ _ ?_;clear hK' K')))|((with_reducible refine zz3 ?_ ?_);rfl;refine ⟨_,rfl,fun h=>?_,fun h=>?_⟩ <;> try exact absurd h (by decide)))
    refine ⟨hfit,?_⟩
    refine hK' _ _ ?_
    clear hK' K'
    repeat' (first|(with_reducible apply zz1)|((with_reducible refine zz4 ?_ ?_);rfl)|((with_reducible refine zz2 ?_ (fun K' hK'=>?_));rfl;simp only [WB,simprocAttr,g60];(repeat (refine And.intro ?_ ?_;focus (clear hK';intros;simp_all;done)));(try (refine hK' _ _ ?_;clear hK' K')))|((with_reducible refine zz3 ?_ ?_);rfl;refine ⟨_,rfl,fun h=>?_,fun h=>?_⟩ <;> try exact absurd h (by decide)))
    simp only [Kret,retL,retOne,oneV,WB,simprocAttr]
  have g60 : ((n : Int) == 60) = false:=by rw [beq_eq_false_iff_ne];omega
  obtain ⟨f,hf⟩ : ∃ f,60 - n = f + 1:=⟨59 - n,by omega⟩
  rw [hf,rGo] at hq
  repeat' (first|(with_reducible apply zz1)|((with_reducible refine zz4 ?_ ?_);rfl)|((with_reducible refine zz2 ?_ (fun K' hK'=>?_));rfl;simp only [WB,simprocAttr,List.length_cons,List.length_map,g0,g1,List.getD_cons_zero];(repeat (refine And.intro ?_ ?_;focus (clear hK';intros;simp_all;done)));(try (refine hK' _ _ ?_;clear hK' K')))|((with_reducible refine zz3 ?_ ?_);rfl;refine ⟨_,rfl,fun h=>?_,fun h=>?_⟩ <;> try exact absurd h (by decide)))
  refine ⟨hfit,?_⟩
  refine hK' _ _ ?_
  clear hK' K'
  cases hs : shapedB (.mk k so nm ls l) with
  | false =>
   rw [hs] at hp
   rw [if_pos hs] at hq
   subst hq
   repeat' (first|(with_reducible apply zz1)|((with_reducible refine zz4 ?_ ?_);rfl)|((with_reducible refine zz2 ?_ (fun K' hK'=>?_));rfl;simp only [WB,simprocAttr,g60];(repeat (refine And.intro ?_ ?_;focus (clear hK';intros;simp_all;done)));(try (refine hK' _ _ ?_;clear hK' K')))|((with_reducible refine zz3 ?_ ?_);rfl;refine ⟨_,rfl,fun h=>?_,fun h=>?_⟩ <;> try exact absurd h (by decide)))
   refine stop_callF rfl (by simp only [WB,simprocAttr]) rfl rfl (hp) ?_
   simp only [WB,simprocAttr,inX,dropS,Bool.not_true,Bool.not_false,cond_true,cond_false]
   (repeat (refine And.intro ?_ ?_;focus (clear hK';intros;simp_all;done)))
   (try (refine hK' _ _ ?_;clear hK' K'))
   repeat' (first|(with_reducible apply zz1)|((with_reducible refine zz4 ?_ ?_);rfl)|((with_reducible refine zz2 ?_ (fun K' hK'=>?_));rfl;simp only [WB,simprocAttr];(repeat (refine And.intro ?_ ?_;focus (clear hK';intros;simp_all;done)));(try (refine hK' _ _ ?_;clear hK' K')))|((with_reducible refine zz3 ?_ ?_);rfl;refine ⟨_,rfl,fun h=>?_,fun h=>?_⟩ <;> try exact absurd h (by decide)))
   simp only [Kret,retL,retOne,oneV,WB,simprocAttr]
  | true =>
   rw [hs] at hp
   rw [if_neg (by rw [hs];decide)] at hq
   repeat' (first|(with_reducible apply zz1)|((with_reducible refine zz4 ?_ ?_);rfl)|((with_reducible refine zz2 ?_ (fun K' hK'=>?_));rfl;simp only [WB,simprocAttr,g60];(repeat (refine And.intro ?_ ?_;focus (clear hK';intros;simp_all;done)));(try (refine hK' _ _ ?_;clear hK' K')))|((with_reducible refine zz3 ?_ ?_);rfl;refine ⟨_,rfl,fun h=>?_,fun h=>?_⟩ <;> try exact absurd h (by decide)))
   refine stop_callF rfl (by simp only [WB,simprocAttr]) rfl rfl (hp) ?_
   simp only [WB,simprocAttr,inX,dropS,Bool.not_true,Bool.not_false,cond_true,cond_false]
   (repeat (refine And.intro ?_ ?_;focus (clear hK';intros;simp_all;done)))
   (try (refine hK' _ _ ?_;clear hK' K'))
   have hct:=containsS_fn Γ b nm (by omega)
   have hct : DFn Tryd.prog Γ 62 [.slc (b.map sD),sD nm] (.v (.bool (inL b nm))):=hct
   repeat' (first|(with_reducible apply zz1)|((with_reducible refine zz4 ?_ ?_);rfl)|((with_reducible refine zz2 ?_ (fun K' hK'=>?_));rfl;simp only [WB,simprocAttr];(repeat (refine And.intro ?_ ?_;focus (clear hK';intros;simp_all;done)));(try (refine hK' _ _ ?_;clear hK' K')))|((with_reducible refine zz3 ?_ ?_);rfl;refine ⟨_,rfl,fun h=>?_,fun h=>?_⟩ <;> try exact absurd h (by decide)))
   (with_reducible refine swp_regionA ?_ ( [(9,.v (.bool (inL b nm)))]) (fun K' hK'=>?_)
    · rfl
    simp only [WB,simprocAttr,UG,hct ]
    (repeat (refine And.intro ?_ ?_;focus (clear hK';intros;simp_all;done)))
    (try (refine hK' _ _ ?_;clear hK' K')))
   refine kseq_n ?_
   ((with_reducible refine swp_cond ?_ ?_);rfl;refine ⟨_,rfl,fun h=>?_,fun h=>?_⟩)
   · have hb : k = 9 ∧ inL b nm = false:=by
      cases h9 : k == 9 with
      | false=>rw [h9] at h;cases h
      | true=>rw [h9] at h;exact ⟨by simpa using h9,by simpa using h⟩
     rw [if_pos hb] at hq
     subst hq
     repeat' (first|(with_reducible apply zz1)|((with_reducible refine zz4 ?_ ?_);rfl)|((with_reducible refine zz2 ?_ (fun K' hK'=>?_));rfl;simp only [WB,simprocAttr];(repeat (refine And.intro ?_ ?_;focus (clear hK';intros;simp_all;done)));(try (refine hK' _ _ ?_;clear hK' K')))|((with_reducible refine zz3 ?_ ?_);rfl;refine ⟨_,rfl,fun h=>?_,fun h=>?_⟩ <;> try exact absurd h (by decide)))
     simp only [Kret,retL,retOne,oneV,WB,simprocAttr]
   have hb : ¬ (k = 9 ∧ inL b nm = false):=fun ⟨h1,h2⟩=>by subst h1;rw [h2] at h;cases h
   rw [if_neg hb] at hq
   clear h hb hct
   refine swp_skip ?_
   refine kseq_n ?_
   refine swp_seq ?_
   refine swp_midF (ι := List ByteArray) (fun b'=>[(3,.d (.slc (rest.map tdD))),(4,.d (iD n)),(5,.ref 0 0),(6,.d (.slc (b'.map sD)))])
    (fun _=>[(0,.cells [.d (iD k),.d (iD so),.d (sD nm),.d (.slc (ls.map sD)),.d (.slc (Tp.ds l)),.d (.slc (b.map sD))])]) (fun b'=>b'.length ≤ n + 1 ∧ rGo f (l.map (fun y=>(y,b')) ++ rest) = R) ?_ (fun b' hb=>?_)
   · by_cases h8 : k = 8
     · subst h8
       obtain ⟨x,rfl⟩:=shaped_kids hs rfl
       rw [if_pos rfl] at hq
       have hst : stripF [x] = stripK (.mk 8 so nm ls [x]):=by simp only [stripF,stripK,stripL,if_true]
       rw [hst] at hq
       repeat' (first|(with_reducible apply zz1)|((with_reducible refine zz4 ?_ ?_);rfl)|((with_reducible refine zz2 ?_ (fun K' hK'=>?_));rfl;simp only [WB,simprocAttr];(repeat (refine And.intro ?_ ?_;focus (clear hK';intros;simp_all;done)));(try (refine hK' _ _ ?_;clear hK' K')))|((with_reducible refine zz3 ?_ ?_);rfl;refine ⟨_,rfl,fun h=>?_,fun h=>?_⟩ <;> try exact absurd h (by decide)))
       refine swp_loop (α := Tp) (fun y=>[(3,.d (.slc (rest.map tdD))),(4,.d (iD n)),(5,.ref 0 0),(6,.d (.slc (b.map sD))),(7,.ref 1 0)]) (fun y=>[(0,.cells [.d (iD 8),.d (iD so),.d (sD nm),.d (.slc (ls.map sD)),.d (.slc (Tp.ds [x])),.d (.slc (b.map sD))]),(1,.cells y.cs)])
        (fun y=>stripK (.mk 8 so nm ls [x]) = stripK y) Tp.size (.mk 8 so nm ls [x]) rfl (by simp only [Tp.cs];refine sub_of h0 ?_ ?_ ?_ <;> simp only [US,WB,simprocAttr]) (fun y hy=>?_)
       rw [hy] at hq
       obtain ⟨yk,yso,ynm,yls,yl⟩:=y
       have hyl:=Tp.ds_len yl
       simp only [Tp.cs]
       have hb1 : (b.length + 1) * 16 ≤ 140737488355328:=by omega
       have hb2 : b.length + 1 ≤ maxLen:=by unfold maxLen;omega
       have hb3 : b.length * 16 ≤ 140737488355328:=by omega
       have hb4 : b.length ≤ maxLen:=by unfold maxLen;omega
       by_cases y8 : yk = 8
       · subst y8
         by_cases y1 : yl.length = 1
         · obtain ⟨z,rfl⟩:=len1 y1
           obtain ⟨zk,zso,znm,zls,zl⟩:=z
           have e1 : Tp.ds [.mk zk zso znm zls zl] = [.agg [iD zk,iD zso,sD znm,.slc (zls.map sD),.slc (Tp.ds zl)]]:=by simp only [Tp.ds,Tp.d]
           rw [e1]
           repeat' (first|(with_reducible apply zz1)|((with_reducible refine zz4 ?_ ?_);rfl)|((with_reducible refine zz2 ?_ (fun K' hK'=>?_));rfl;simp only [WB,simprocAttr,List.length_cons,List.length_nil,List.getD_cons_zero];(repeat (refine And.intro ?_ ?_;focus (clear hK';intros;simp_all;done)));(try (refine hK' _ _ ?_;clear hK' K')))|((with_reducible refine zz3 ?_ ?_);rfl;refine ⟨_,rfl,fun h=>?_,fun h=>?_⟩ <;> try exact absurd h (by decide)))
           refine ⟨.mk zk zso znm zls zl,?_,?_,by simp only [Tp.cs];refine sub_of h0 ?_ ?_ ?_ <;> simp only [US,WB,simprocAttr]⟩
           · rw [hy];rfl
           · simp only [Tp.size,Tp.sizes];omega
         · have g1 : ((yl.length : Int) == 1) = false:=by simpa using (by omega : (yl.length : Int) ≠ 1)
           have hs8 : stripK (.mk 8 yso ynm yls yl) = 8:=by
            match yl,y1 with
            | [],_=>rfl
            | _ :: _ :: _,_=>rfl
           rw [hs8,if_neg (by decide)] at hq
           have g89 : ((8 : Int) == 9) = false:=by decide
           clear hy
           repeat' (first|(with_reducible apply zz1)|((with_reducible refine zz4 ?_ ?_);rfl)|((with_reducible refine zz2 ?_ (fun K' hK'=>?_));rfl;simp only [WB,simprocAttr,hyl,g1,g89];(repeat (refine And.intro ?_ ?_;focus (clear hK';intros;simp_all;done)));(try (refine hK' _ _ ?_;clear hK' K')))|((with_reducible refine zz3 ?_ ?_);rfl;refine ⟨_,rfl,fun h=>?_,fun h=>?_⟩ <;> try exact absurd h (by decide)))
           cases b with
           | nil =>
            simp only [List.map_nil]
            (with_reducible refine swp_drawW ?_ ?_ ?_ ( ⟨[],[]⟩) _ rfl (fun K' hK'=>?_)
             · kernel_rfl
             · rfl
             · rfl
             simp only [WB,simprocAttr,vcW,stepW,callR,effO,srcE,Eff.env,Eff.st,writeOp,callA,pureOp,Bool.or_true,Bool.true_or,Bool.or_self,Bool.or_false,Bool.false_or,D.flat,D.flats,true_or,or_true,forall_const,List.length_cons,List.length_nil,one_max ]
             (repeat (refine And.intro ?_ ?_;focus (first | (with_reducible assumption) | (clear hK';intros;simp_all;done))))
             (refine And.intro (by kernel_rfl) ?_)
             (try (refine hK' _ _ ?_;clear hK' K')))
            repeat' (first|(with_reducible apply zz1)|((with_reducible refine zz4 ?_ ?_);rfl)|((with_reducible refine zz2 ?_ (fun K' hK'=>?_));rfl;simp only [WB,simprocAttr];(repeat (refine And.intro ?_ ?_;focus (clear hK';intros;simp_all;done)));(try (refine hK' _ _ ?_;clear hK' K')))|((with_reducible refine zz3 ?_ ?_);rfl;refine ⟨_,rfl,fun h=>?_,fun h=>?_⟩ <;> try exact absurd h (by decide)))
            refine kfam_n [nm] ⟨by simp,hq⟩ ?_
            refine sub_of h0 ?_ ?_ ?_ <;> simp only [US,WB,simprocAttr,List.map_cons,List.map_nil]
           | cons b0 b =>
            simp only [List.length_cons] at hb1 hb2 hb3 hb4 hbl
            have hft : ∀ d ∈ (sD b0 :: b.map sD),d.cells.length = 1 ∧ dscs d.cells:=by
             intro d hd
             rcases List.mem_cons.1 hd with rfl | hd
             · exact ⟨rfl,trivial⟩
             · obtain ⟨y, -,rfl⟩:=List.mem_map.1 hd
               exact ⟨rfl,trivial⟩
            simp only [List.map_cons]
            (with_reducible refine swp_drawW ?_ ?_ ?_ ( ⟨[],[]⟩) _ rfl (fun K' hK'=>?_)
             · kernel_rfl
             · rfl
             · rfl
             simp only [WB,simprocAttr,vcW,stepW,callR,effO,srcE,Eff.env,Eff.st,writeOp,callA,pureOp,Bool.or_true,Bool.true_or,Bool.or_self,Bool.or_false,Bool.false_or,D.flat,D.flats,true_or,or_true,forall_const,List.length_map,hb1,hb2,hb3,hb4,List.length_cons ]
             (repeat (refine And.intro ?_ ?_;focus (first | (with_reducible assumption) | (clear hK';intros;simp_all;done))))
             (refine And.intro (by kernel_rfl) ?_)
             (try (refine hK' _ _ ?_;clear hK' K')))
            repeat' (first|(with_reducible apply zz1)|((with_reducible refine zz4 ?_ ?_);rfl)|((with_reducible refine zz2 ?_ (fun K' hK'=>?_));rfl;simp only [WB,simprocAttr];(repeat (refine And.intro ?_ ?_;focus (clear hK';intros;simp_all;done)));(try (refine hK' _ _ ?_;clear hK' K')))|((with_reducible refine zz3 ?_ ?_);rfl;refine ⟨_,rfl,fun h=>?_,fun h=>?_⟩ <;> try exact absurd h (by decide)))
            refine kfam_n (b0 :: b ++ [nm]) ⟨by simp;omega,hq⟩ ?_
            refine sub_of h0 ?_ ?_ ?_ <;> simp only [US,WB,simprocAttr,List.map_cons,List.map_append,List.map_nil]
       · have g8 : (yk == 8) = false:=by simpa using y8
         have hs8 : stripK (.mk yk yso ynm yls yl) = yk:=by simp only [stripK,if_neg y8]
         rw [hs8] at hq
         clear hy
         by_cases y9 : yk = 9
         · have g9 : (yk == 9) = true:=by simpa using y9
           rw [if_pos ⟨rfl,y9⟩] at hq
           subst hq
           repeat' (first|(with_reducible apply zz1)|((with_reducible refine zz4 ?_ ?_);rfl)|((with_reducible refine zz2 ?_ (fun K' hK'=>?_));rfl;simp only [WB,simprocAttr,g8,g9];(repeat (refine And.intro ?_ ?_;focus (clear hK';intros;simp_all;done)));(try (refine hK' _ _ ?_;clear hK' K')))|((with_reducible refine zz3 ?_ ?_);rfl;refine ⟨_,rfl,fun h=>?_,fun h=>?_⟩ <;> try exact absurd h (by decide)))
           refine kfam_r ?_
           repeat' (first|(with_reducible apply zz1)|((with_reducible refine zz4 ?_ ?_);rfl)|((with_reducible refine zz2 ?_ (fun K' hK'=>?_));rfl;simp only [WB,simprocAttr];(repeat (refine And.intro ?_ ?_;focus (clear hK';intros;simp_all;done)));(try (refine hK' _ _ ?_;clear hK' K')))|((with_reducible refine zz3 ?_ ?_);rfl;refine ⟨_,rfl,fun h=>?_,fun h=>?_⟩ <;> try exact absurd h (by decide)))
           simp only [Kret,retL,retOne,oneV,WB,simprocAttr]
         · have g9 : (yk == 9) = false:=by simpa using y9
           rw [if_neg (fun h=>y9 h.2)] at hq
           repeat' (first|(with_reducible apply zz1)|((with_reducible refine zz4 ?_ ?_);rfl)|((with_reducible refine zz2 ?_ (fun K' hK'=>?_));rfl;simp only [WB,simprocAttr,g8,g9];(repeat (refine And.intro ?_ ?_;focus (clear hK';intros;simp_all;done)));(try (refine hK' _ _ ?_;clear hK' K')))|((with_reducible refine zz3 ?_ ?_);rfl;refine ⟨_,rfl,fun h=>?_,fun h=>?_⟩ <;> try exact absurd h (by decide)))
           cases b with
           | nil =>
            simp only [List.map_nil]
            (with_reducible refine swp_drawW ?_ ?_ ?_ ( ⟨[],[]⟩) _ rfl (fun K' hK'=>?_)
             · kernel_rfl
             · rfl
             · rfl
             simp only [WB,simprocAttr,vcW,stepW,callR,effO,srcE,Eff.env,Eff.st,writeOp,callA,pureOp,Bool.or_true,Bool.true_or,Bool.or_self,Bool.or_false,Bool.false_or,D.flat,D.flats,true_or,or_true,forall_const,List.length_cons,List.length_nil,one_max ]
             (repeat (refine And.intro ?_ ?_;focus (first | (with_reducible assumption) | (clear hK';intros;simp_all;done))))
             (refine And.intro (by kernel_rfl) ?_)
             (try (refine hK' _ _ ?_;clear hK' K')))
            repeat' (first|(with_reducible apply zz1)|((with_reducible refine zz4 ?_ ?_);rfl)|((with_reducible refine zz2 ?_ (fun K' hK'=>?_));rfl;simp only [WB,simprocAttr];(repeat (refine And.intro ?_ ?_;focus (clear hK';intros;simp_all;done)));(try (refine hK' _ _ ?_;clear hK' K')))|((with_reducible refine zz3 ?_ ?_);rfl;refine ⟨_,rfl,fun h=>?_,fun h=>?_⟩ <;> try exact absurd h (by decide)))
            refine kfam_n [nm] ⟨by simp,hq⟩ ?_
            refine sub_of h0 ?_ ?_ ?_ <;> simp only [US,WB,simprocAttr,List.map_cons,List.map_nil]
           | cons b0 b =>
            simp only [List.length_cons] at hb1 hb2 hb3 hb4 hbl
            have hft : ∀ d ∈ (sD b0 :: b.map sD),d.cells.length = 1 ∧ dscs d.cells:=by
             intro d hd
             rcases List.mem_cons.1 hd with rfl | hd
             · exact ⟨rfl,trivial⟩
             · obtain ⟨y, -,rfl⟩:=List.mem_map.1 hd
               exact ⟨rfl,trivial⟩
            simp only [List.map_cons]
            (with_reducible refine swp_drawW ?_ ?_ ?_ ( ⟨[],[]⟩) _ rfl (fun K' hK'=>?_)
             · kernel_rfl
             · rfl
             · rfl
             simp only [WB,simprocAttr,vcW,stepW,callR,effO,srcE,Eff.env,Eff.st,writeOp,callA,pureOp,Bool.or_true,Bool.true_or,Bool.or_self,Bool.or_false,Bool.false_or,D.flat,D.flats,true_or,or_true,forall_const,List.length_map,hb1,hb2,hb3,hb4,List.length_cons ]
             (repeat (refine And.intro ?_ ?_;focus (first | (with_reducible assumption) | (clear hK';intros;simp_all;done))))
             (refine And.intro (by kernel_rfl) ?_)
             (try (refine hK' _ _ ?_;clear hK' K')))
            repeat' (first|(with_reducible apply zz1)|((with_reducible refine zz4 ?_ ?_);rfl)|((with_reducible refine zz2 ?_ (fun K' hK'=>?_));rfl;simp only [WB,simprocAttr];(repeat (refine And.intro ?_ ?_;focus (clear hK';intros;simp_all;done)));(try (refine hK' _ _ ?_;clear hK' K')))|((with_reducible refine zz3 ?_ ?_);rfl;refine ⟨_,rfl,fun h=>?_,fun h=>?_⟩ <;> try exact absurd h (by decide)))
            refine kfam_n (b0 :: b ++ [nm]) ⟨by simp;omega,hq⟩ ?_
            refine sub_of h0 ?_ ?_ ?_ <;> simp only [US,WB,simprocAttr,List.map_cons,List.map_append,List.map_nil]
     · have g8 : (k == 8) = false:=by simpa using h8
       rw [if_neg h8] at hq
       rw [if_neg (fun h=>h8 h.1)] at hq
       repeat' (first|(with_reducible apply zz1)|((with_reducible refine zz4 ?_ ?_);rfl)|((with_reducible refine zz2 ?_ (fun K' hK'=>?_));rfl;simp only [WB,simprocAttr,g8];(repeat (refine And.intro ?_ ?_;focus (clear hK';intros;simp_all;done)));(try (refine hK' _ _ ?_;clear hK' K')))|((with_reducible refine zz3 ?_ ?_);rfl;refine ⟨_,rfl,fun h=>?_,fun h=>?_⟩ <;> try exact absurd h (by decide)))
       refine kfam_n b ⟨by omega,hq⟩ ?_
       refine sub_of h0 ?_ ?_ ?_ <;> simp only [US,WB,simprocAttr]
   · obtain ⟨hb1,hq⟩:=hb
     clear hp
     have hl6:=shaped_len hs
     repeat' (first|(with_reducible apply zz1)|((with_reducible refine zz4 ?_ ?_);rfl)|((with_reducible refine zz2 ?_ (fun K' hK'=>?_));rfl;simp only [WB,simprocAttr];(repeat (refine And.intro ?_ ?_;focus (clear hK';intros;simp_all;done)));(try (refine hK' _ _ ?_;clear hK' K')))|((with_reducible refine zz3 ?_ ?_);rfl;refine ⟨_,rfl,fun h=>?_,fun h=>?_⟩ <;> try exact absurd h (by decide)))
     refine swp_nil 8 1 6 rfl rfl (by decide) ?_
     simp only [WB,simprocAttr]
     refine swp_loop (α := Nat) (fun j=>[(3,.d (.slc (rest.map tdD))),(4,.d (iD n)),(5,.ref 0 0),(6,.d (.slc (b'.map sD))),(8,.own 1),(9,.d (iD j))]) (fun j=>[(0,.cells [.d (iD k),.d (iD so),.d (sD nm),.d (.slc (ls.map sD)),.d (.slc (Tp.ds l)),.d (.slc (b.map sD))]),(1,.row 6 ((l.take j).map fun y=>tdD (y,b')))])
      (fun j=>j ≤ l.length) (fun j=>l.length - j) 0 (Nat.zero_le _) (by refine sub_of h0 ?_ ?_ ?_ <;> simp only [US,WB,simprocAttr,List.take_zero,List.map_nil]) (fun j hj=>?_)
     have hj : j ≤ l.length:=hj
     have hj0 : (0 : Int) ≤ (j : Int):=by omega
     by_cases hjl : j < l.length
     · obtain ⟨y,hy⟩ : ∃ y,l[j]? = some y:=⟨l[j],by simp [hjl]⟩
       have hget:=Tp.ds_get l j y hy
       have hj1 : (j : Int) < (l.length : Int):=by omega
       have hw2 : IntKind.i64.wrap ((j : Int) + 1) = ((j + 1 : Nat) : Int):=by rw [wrap_in (by omega) (by omega)];omega
       have hm : ((l.take j).map fun y=>tdD (y,b')) ++ [tdD (y,b')] = (l.take (j + 1)).map fun y=>tdD (y,b'):=by
        rw [List.take_add_one,hy];simp
       have hml : ((l.take j).map fun y=>tdD (y,b')).length = j:=by simp;omega
       obtain ⟨A,hA⟩ : ∃ A,((l.take j).map fun y=>tdD (y,b')) = A:=⟨_,rfl⟩
       rw [hA] at hm hml ⊢
       have hn5 : (j + 1) * 104 ≤ 140737488355328:=by omega
       have hn6 : j + 1 ≤ maxLen:=by unfold maxLen;omega
       obtain ⟨yk,yso,ynm,yls,yl⟩:=y
       simp only [Tp.d] at hget
       have hm' : A ++ [D.agg [iD yk,iD yso,sD ynm,.slc (yls.map sD),.slc (Tp.ds yl),.slc (b'.map sD)]] = (l.take (j + 1)).map fun y=>tdD (y,b'):=hm
       clear hm
       repeat' (first|(with_reducible apply zz1)|((with_reducible refine zz4 ?_ ?_);rfl)|((with_reducible refine zz2 ?_ (fun K' hK'=>?_));rfl;simp only [WB,simprocAttr,Int.toNat_natCast,hll,hget,hj0,hj1,hml,hn5,hn6,hm',hw2,List.length_map];(repeat (refine And.intro ?_ ?_;focus (clear hK';intros;simp_all;done)));(try (refine hK' _ _ ?_;clear hK' K')))|((with_reducible refine zz3 ?_ ?_);rfl;refine ⟨_,rfl,fun h=>?_,fun h=>?_⟩ <;> try exact absurd h (by decide)))
       refine ⟨j + 1,(by show j + 1 ≤ l.length;omega),(by show l.length - (j + 1) < l.length - j;omega),by refine sub_of h0 ?_ ?_ ?_ <;> simp only [US,WB,simprocAttr]⟩
     · have hj1 : ¬ (j : Int) < (l.length : Int):=by omega
       rw [List.take_of_length_le (by omega)]
       have hw4 : IntKind.i64.wrap ((n : Int) + 1) = ((n + 1 : Nat) : Int):=by rw [wrap_in (by omega) (by omega)];omega
       have hend : rGo (60 - (n + 1)) (l.map (fun y=>(y,b')) ++ rest) = R:=by rw [show 60 - (n + 1) = f by omega];exact hq
       have hall2 : ∀ y ∈ l.map (fun y=>(y,b')) ++ rest,szT y.1 ∧ y.2.length ≤ n + 1:=fun y hy=>by
        rcases List.mem_append.1 hy with hy | hy
        · obtain ⟨z,hz,rfl⟩:=List.mem_map.1 hy
          exact ⟨szTs_mem hsz.2 z hz,hb1⟩
        · have:=hall y (List.mem_cons_of_mem _ hy)
          exact ⟨this.1,by omega⟩
       cases rest with
       | nil =>
        simp only [List.map_nil,List.append_nil] at hend hall2 ⊢
        have hm : (l.map fun y=>tdD (y,b')) = (l.map fun y=>(y,b')).map tdD:=by simp
        rw [hm]
        repeat' (first|(with_reducible apply zz1)|((with_reducible refine zz4 ?_ ?_);rfl)|((with_reducible refine zz2 ?_ (fun K' hK'=>?_));rfl;simp only [WB,simprocAttr,hll,hj1,List.length_map,hw4];(repeat (refine And.intro ?_ ?_;focus (clear hK';intros;simp_all;done)));(try (refine hK' _ _ ?_;clear hK' K')))|((with_reducible refine zz3 ?_ ?_);rfl;refine ⟨_,rfl,fun h=>?_,fun h=>?_⟩ <;> try exact absurd h (by decide)))
        refine ⟨(n + 1,l.map fun y=>(y,b')),⟨(by show n + 1 ≤ 60;omega),hend,(by simp;omega),hall2⟩,(by show 61 - (n + 1) < 61 - n;omega),by refine sub_of h0 ?_ ?_ ?_ <;> simp only [US,WB,simprocAttr]⟩
       | cons r0 rest =>
        simp only [List.length_cons] at hlen
        have hft : ∀ d ∈ (tdD r0 :: rest.map tdD),d.cells.length = 6 ∧ dscs d.cells:=by
         intro d hd
         have : d ∈ (r0 :: rest).map tdD:=by simpa using hd
         obtain ⟨⟨⟨k',so',nm',ls',l'⟩,b2⟩, -,rfl⟩:=List.mem_map.1 this
         exact ⟨rfl,trivial⟩
        have hn5 : (l.length + (rest.length + 1)) * 104 ≤ 140737488355328:=by omega
        have hn6 : l.length + (rest.length + 1) ≤ maxLen:=by unfold maxLen;omega
        have hm : (l.map fun y=>tdD (y,b')) ++ (tdD r0 :: rest.map tdD) = (l.map (fun y=>(y,b')) ++ r0 :: rest).map tdD:=by simp
        simp only [List.map_cons]
        repeat' (first|(with_reducible apply zz1)|((with_reducible refine zz4 ?_ ?_);rfl)|((with_reducible refine zz2 ?_ (fun K' hK'=>?_));rfl;simp only [WB,simprocAttr,hll,hj1,List.length_map,List.length_cons,hn5,hn6,hm,hw4];(repeat (refine And.intro ?_ ?_;focus (clear hK';intros;simp_all;done)));(try (refine hK' _ _ ?_;clear hK' K')))|((with_reducible refine zz3 ?_ ?_);rfl;refine ⟨_,rfl,fun h=>?_,fun h=>?_⟩ <;> try exact absurd h (by decide)))
        refine ⟨hft,?_⟩
        refine hK' _ _ ?_
        clear hK' K'
        repeat' (first|(with_reducible apply zz1)|((with_reducible refine zz4 ?_ ?_);rfl)|((with_reducible refine zz2 ?_ (fun K' hK'=>?_));rfl;simp only [WB,simprocAttr,hw4];(repeat (refine And.intro ?_ ?_;focus (clear hK';intros;simp_all;done)));(try (refine hK' _ _ ?_;clear hK' K')))|((with_reducible refine zz3 ?_ ?_);rfl;refine ⟨_,rfl,fun h=>?_,fun h=>?_⟩ <;> try exact absurd h (by decide)))
        refine ⟨(n + 1,l.map (fun y=>(y,b')) ++ r0 :: rest),⟨(by show n + 1 ≤ 60;omega),hend,(by simp;omega),hall2⟩,(by show 61 - (n + 1) < 61 - n;omega),by refine sub_of h0 ?_ ?_ ?_ <;> simp only [US,WB,simprocAttr]⟩
end Go.Proofs.YtgecnlcbdbaneaaDoor
