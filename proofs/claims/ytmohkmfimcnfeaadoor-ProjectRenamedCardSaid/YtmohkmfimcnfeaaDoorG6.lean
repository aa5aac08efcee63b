/- global.renamed, Rename; a symbolic walk. -/
-- TYPESA
import Derived.Test.YtmohkmfimcnfeaaDoorGP
import Derived.Test.YtmohkmfimcnfeaaDoorSwD
set_option linter.unusedVariables false
set_option linter.unusedSimpArgs false
namespace Go.Proofs.YtmohkmfimcnfeaaDoor
open Go.RowKit Go.Sw
open Go.Sw renaming swp_seq → zw0

theorem idx_in (w : List UInt8) : ∀ (l : List ByteArray) (j : Nat), -1 ≤ idxS w l j ∧ idxS w l j < (j + l.length : Nat)
 | [],j=>by unfold idxS;simp only [List.length_nil];omega
 | b :: l,j=>by
  unfold idxS
  split
  · simp only [List.length_cons];omega
  · have:=idx_in w l (j + 1)
    simp only [List.length_cons];omega
def nmF (fr to : List ByteArray) (s : ByteArray) : ByteArray:=if 0 ≤ idxS s.toList fr 0 then to.getD (idxS s.toList fr 0).toNat noB else s

set_option maxHeartbeats 8000000 in
set_option maxRecDepth 100000 in
theorem nm_fn (Γ : Gl) (fr to : List ByteArray) (h : fr.length = to.length) (hl : fr.length ≤ 140737488355328) (s : ByteArray) : SFn Tryd.prog Γ 51 [.d (sD s),.fptr (.agg [.slc (fr.map sD)]) 0,.fptr (.agg [.slc (to.map sD)]) 0] [] (.d (sD (nmF fr to s))) []:=by
 have hx:=indexS_fn Γ fr s hl
 have hin:=idx_in s.toList fr 0
 unfold nmF
 generalize idxS s.toList fr 0 = i at *
 refine sfn_of_swp (N:=16) Tryd.func51 rfl (by decide) rfl rfl (by simp) (fun C h0=>?_)
 simp only [argS]
 by_cases hi : 0 ≤ i
 · rw [if_pos hi]
   have g2 : i < (to.length : Int):=by omega
   obtain ⟨b,hb⟩ : ∃ b,to[i.toNat]? = some b:=⟨to[i.toNat]'(by omega),by simp⟩
   have hget : (to.map sD).getD i.toNat default = sD b:=by simp [List.getD,hb]
   rw [show to.getD i.toNat noB = b from by simp [List.getD,hb]]
   repeat' (first|(with_reducible apply zz1)|((with_reducible apply zz2);rfl;intro K' hK';simp only [WA,simprocAttr];(repeat (constructor;focus (clear hK';intros;simp_all;done)));(try (apply hK';clear hK' K')))|((with_reducible apply zz3);rfl;all_goals (intro h;try exact absurd h (by decide))))
   refine stop_callF rfl (by simp only [WA,simprocAttr]) rfl rfl (hx) ?_
   simp only [WA,simprocAttr,inX,dropS, ]
   (repeat (constructor;focus (clear hK';intros;simp_all;done)))
   (try (apply hK';clear hK' K'))
   repeat' (first|(with_reducible apply zz1)|((with_reducible apply zz2);rfl;intro K' hK';simp only [WA,simprocAttr,hi,g2,hget,List.length_map];(repeat (constructor;focus (clear hK';intros;simp_all;done)));(try (apply hK';clear hK' K')))|((with_reducible apply zz3);rfl;all_goals (intro h;try exact absurd h (by decide))))
   simp only [KretS,retL,retOne,oneV,US,WA,simprocAttr,h0]
 · rw [if_neg hi]
   repeat' (first|(with_reducible apply zz1)|((with_reducible apply zz2);rfl;intro K' hK';simp only [WA,simprocAttr];(repeat (constructor;focus (clear hK';intros;simp_all;done)));(try (apply hK';clear hK' K')))|((with_reducible apply zz3);rfl;all_goals (intro h;try exact absurd h (by decide))))
   refine stop_callF rfl (by simp only [WA,simprocAttr]) rfl rfl (hx) ?_
   simp only [WA,simprocAttr,inX,dropS, ]
   (repeat (constructor;focus (clear hK';intros;simp_all;done)))
   (try (apply hK';clear hK' K'))
   repeat' (first|(with_reducible apply zz1)|((with_reducible apply zz2);rfl;intro K' hK';simp only [WA,simprocAttr,hi];(repeat (constructor;focus (clear hK';intros;simp_all;done)));(try (apply hK';clear hK' K')))|((with_reducible apply zz3);rfl;all_goals (intro h;try exact absurd h (by decide))))
   simp only [KretS,retL,retOne,oneV,US,WA,simprocAttr,h0]

theorem Gt.ds_map : ∀ l : List Gt,Gt.ds l = l.map Gt.d
 | []=>rfl
 | x :: l=>by simp [Gt.ds,Gt.ds_map l]
theorem rens_snoc {σ : ByteArray → ByteArray} {l : List Gt} {j : Nat} {x : Gt} (h : l[j]? = some x) : Gt.ds (rens σ (l.take (j + 1))) = Gt.ds (rens σ (l.take j)) ++ [(ren σ x).d]:=by
 rw [List.take_add_one,h,Gt.ds_map,Gt.ds_map,rens_map,rens_map]
 simp
theorem ren_shape (σ : ByteArray → ByteArray) (x : Gt) : ∃ k fr to so nm ls l,ren σ x = .mk k fr to so nm ls l:=by
 cases h : ren σ x
 exact ⟨_,_,_,_,_,_,_,rfl⟩
set_option maxHeartbeats 16000000 in
set_option maxRecDepth 100000 in
theorem ren_step (Γ : Gl) (F T : List ByteArray) (h : F.length = T.length) (hF : F.length ≤ 140737488355328) (k : Int) (fr to : ByteArray) (so : Int) (nm : ByteArray) (ls : List ByteArray) (l : List Gt) (hlen : l.length ≤ 1000) (hls : ls.length ≤ 1000) (ih : ∀ x ∈ l,DFn Tryd.prog Γ 33 [x.d,.slc (F.map sD),.slc (T.map sD)] (ren (nmF F T) x).d) :
 DFn Tryd.prog Γ 33 [(Gt.mk k fr to so nm ls l).d,.slc (F.map sD),.slc (T.map sD)] (ren (nmF F T) (Gt.mk k fr to so nm ls l)).d:=by
 have hll:=Gt.ds_len l
 have h1:=nm_fn Γ F T h hF fr
 have h2:=nm_fn Γ F T h hF to
 have hcl:=cloneS_fn Γ ls (by omega)
 simp only [ren,Gt.d]
 generalize hσ : nmF F T = σ at *
 generalize σ fr = fr2 at *
 generalize σ to = to2 at *
 refine fn_of_swp (N:=48) Tryd.func33 rfl (by decide) rfl rfl (by simp) (fun C h0=>?_)
 simp only [argE]
 refine zw0 ?_
 (with_reducible refine swp_region ?_ (fun K' hK'=>?_)
  · rfl
  simp only [WA,simprocAttr]
  (repeat (constructor;focus (clear hK';intros;simp_all;done))))
 refine hK' _ _ ?_
 clear hK' K'
 refine kseq_n ?_
 refine zw0 ?_
 refine swp_midK [(3,.ref 0 0),(4,.fptr (.agg [.slc (F.map sD)]) 0),(5,.fptr (.agg [.slc (T.map sD)]) 0),(6,.ref 3 0),(7,.clo 51 [.fptr (.agg [.slc (F.map sD)]) 0,.fptr (.agg [.slc (T.map sD)]) 0])]
  [(0,.cells [.d (iD k),.d (sD fr),.d (sD to),.d (iD so),.d (sD nm),.d (.slc (ls.map sD)),.d (.slc (Gt.ds l))]),(3,.cells [.d (iD 0),.d (sD ⟨#[]⟩),.d (sD ⟨#[]⟩),.d (iD 0),.d (sD ⟨#[]⟩),.nil,.nil])] ?_ ?_
 · repeat' (first|(with_reducible apply zz1)|((with_reducible apply zz2);rfl;intro K' hK';simp only [WA,simprocAttr];(repeat (constructor;focus (clear hK';intros;simp_all;done)));(try (apply hK';clear hK' K')))|((with_reducible apply zz3);rfl;all_goals (intro h;try exact absurd h (by decide))))
   refine ⟨rfl,?_⟩
   refine sub_of h0 ?_ ?_ ?_ <;> simp only [US,WA,simprocAttr]
 refine zw0 ?_
 (with_reducible refine swp_drawX ?_ ?_ ?_ (⟨⟨[],[(16,(1,ls.map sD))]⟩,[],[(5,sD fr2),(9,sD to2)],[],[]⟩) _ rfl (fun K' hK' gops fin hgops hfin=>?_)
  · kernel_rfl
  · rfl
  · rfl
  repeat' first
   | (refine vcX_dead rfl trivial (by simp only [WA,simprocAttr,UX,UA];rfl) (by simp only [List.nil_append,List.cons_append];rfl) (by simp only [Nat.reduceAdd];rfl) ?_)
   | (refine vcX_step rfl rfl trivial (by simp only [WA,simprocAttr,UX,UA,h1,h2,hcl,List.length_map ];rfl) ?_ (by simp only [WA,simprocAttr,UX,UA];rfl) (by simp only [WA,simprocAttr,UX,UA];rfl) (by simp only [List.nil_append,List.cons_append];rfl) (by simp only [Nat.reduceAdd];rfl) ?_;focus (first | trivial | ((repeat' apply And.intro) <;> first | trivial | assumption | (clear hK' hfin hgops;intros;simp_all;done))))
  (refine vcX_nil (by subst hfin;kernel_rfl) ?_)
  clear hfin hgops fin gops
  (try (apply hK';clear hK' K')))
 repeat' (first|(with_reducible apply zz1)|((with_reducible apply zz2);rfl;intro K' hK';simp only [WA,simprocAttr,hll];(repeat (constructor;focus (clear hK';intros;simp_all;done)));(try (apply hK';clear hK' K')))|((with_reducible apply zz3);rfl;all_goals (intro h;try exact absurd h (by decide))))
 refine swp_nilB 22 6 23 7 rfl rfl rfl (by decide) ?_
 simp only [WA,simprocAttr]
 refine swp_loop (α := Nat) (fun j=>[(4,.fptr (.agg [.slc (F.map sD)]) 0),(5,.fptr (.agg [.slc (T.map sD)]) 0),(6,.ref 3 0),(8,.ref 22 0),(31,.d (.slc (Gt.ds l))),(32,.d (iD l.length)),(33,.d (iD j))])
  (fun j=>[(3,.cells [.d (iD 0),.d (sD ⟨#[]⟩),.d (sD ⟨#[]⟩),.d (iD 0),.d (sD ⟨#[]⟩),.nil,.nil]),(20,.row 1 (ls.map sD)),(22,.cells [.d (iD k),.d (sD fr2),.d (sD to2),.d (iD so),.d (sD nm),.own 20,.own 23]),(23,.row 7 (Gt.ds (rens σ (l.take j))))])
  (fun j=>j ≤ l.length) (fun j=>l.length - j) 0 (Nat.zero_le _) (by simp only [List.take_zero,rens,Gt.ds];refine sub_of h0 ?_ ?_ ?_ <;> simp only [US,WA,simprocAttr,hll]) (fun j hj=>?_)
 have hj : j ≤ l.length:=hj
 have hb0 : (0 : Int) ≤ (j : Int):=by omega
 by_cases hlt : j < l.length
 · obtain ⟨x,hx⟩ : ∃ x,l[j]? = some x:=⟨l[j],by simp [hlt]⟩
   have hcall:=ih x (List.mem_of_getElem? hx)
   have hget:=Gt.ds_get l j x hx
   have hb1 : (j : Int) < (l.length : Int):=by omega
   have hw3 : IntKind.i64.wrap ((j : Int) + 1) = ((j + 1 : Nat) : Int):=by rw [wrap_in (by omega) (by omega)];omega
   have hsn:=rens_snoc (σ := σ) hx
   have hlen2 : (Gt.ds (rens σ (l.take j))).length = j:=by rw [Gt.ds_len,rens_map,List.length_map,List.length_take];omega
   obtain ⟨k2,f2,t2,so2,nm2,ls2,l2,hre⟩:=ren_shape σ x
   rw [hre] at hcall hsn
   obtain ⟨k',fr',to',so',nm',ls',l'⟩:=x
   simp only [Gt.d] at hget hcall hsn
   have m1 : (j + 1) * 112 ≤ 140737488355328:=by omega
   have m2 : j + 1 ≤ maxLen:=by unfold maxLen;omega
   repeat' (first|(with_reducible apply zz1)|((with_reducible apply zz2);rfl;intro K' hK';simp only [WA,simprocAttr,Int.toNat_natCast,hget,hll,hb0,hb1];(repeat (constructor;focus (clear hK';intros;simp_all;done)));(try (apply hK';clear hK' K')))|((with_reducible apply zz3);rfl;all_goals (intro h;try exact absurd h (by decide))))
   (with_reducible refine swp_drawW ?_ ?_ ?_ ( ⟨[(5,.agg [iD k2,sD f2,sD t2,iD so2,sD nm2,.slc (ls2.map sD),.slc (Gt.ds l2)])],[]⟩) _ rfl (fun K' hK'=>?_)
    · kernel_rfl
    · rfl
    · rfl
    simp only [WA,simprocAttr,vcW,stepW,callR,effO,srcE,Eff.env,Eff.st,writeOp,callA,pureOp,Bool.or_true,Bool.true_or,Bool.or_self,Bool.or_false,Bool.false_or,D.flat,D.flats,true_or,or_true,forall_const,hcall,hlen2,m1,m2,one_max ]
    (repeat (constructor;focus (first | (with_reducible assumption) | (clear hK';intros;simp_all;done))))
    (refine And.intro (by kernel_rfl) ?_)
    (try (apply hK';clear hK' K')))
   repeat' (first|(with_reducible apply zz1)|((with_reducible apply zz2);rfl;intro K' hK';simp only [WA,simprocAttr,hw3];(repeat (constructor;focus (clear hK';intros;simp_all;done)));(try (apply hK';clear hK' K')))|((with_reducible apply zz3);rfl;all_goals (intro h;try exact absurd h (by decide))))
   refine ⟨j + 1,(by show j + 1 ≤ l.length;omega),(by show l.length - (j + 1) < l.length - j;omega),by simp only [hsn];refine sub_of h0 ?_ ?_ ?_ <;> simp only [US,WA,simprocAttr]⟩
 · have hb1 : ¬ (j : Int) < (l.length : Int):=by omega
   rw [List.take_of_length_le (by omega)]
   repeat' (first|(with_reducible apply zz1)|((with_reducible apply zz2);rfl;intro K' hK';simp only [WA,simprocAttr,hb1];(repeat (constructor;focus (clear hK';intros;simp_all;done)));(try (apply hK';clear hK' K')))|((with_reducible apply zz3);rfl;all_goals (intro h;try exact absurd h (by decide))))
   simp only [Kret,retL,retOne,oneV,WA,simprocAttr]
theorem ren_all (Γ : Gl) (F T : List ByteArray) (h : F.length = T.length) (hF : F.length ≤ 140737488355328) {x : Gt} (ho : OkG x) : DFn Tryd.prog Γ 33 [x.d,.slc (F.map sD),.slc (T.map sD)] (ren (nmF F T) x).d:=by
 induction ho with
 | nil=>exact ren_step Γ F T h hF _ _ _ _ _ _ _ (by simp) (by simp) (fun x hx=>by cases hx)
 | send fr to so x hr h1 h3 hx ih=>exact ren_step Γ F T h hF _ _ _ _ _ _ _ (by simp) (by simp) (fun y hy=>by rw [show y = x by simpa using hy];exact ih)
 | pick fr to ls l hr hl hn h' ih =>
  have h6:=labels_len hl
  exact ren_step Γ F T h hF _ _ _ _ _ _ _ (by omega) (by omega) ih
 | bind nm x hn hx ih=>exact ren_step Γ F T h hF _ _ _ _ _ _ _ (by simp) (by simp) (fun y hy=>by rw [show y = x by simpa using hy];exact ih)
 | var nm hn=>exact ren_step Γ F T h hF _ _ _ _ _ _ _ (by simp) (by simp) (fun x hx=>by cases hx)
end Go.Proofs.YtmohkmfimcnfeaaDoor
