/- The law MonitorBlame; a symbolic walk. -/
-- TYPESE
import Derived.Test.YtgecnlcbdbaneaaDoorKV9
set_option linter.unusedVariables false
set_option linter.unusedSimpArgs false
namespace Go.Proofs.YtgecnlcbdbaneaaDoor
open Go.RowKit Go.Sw
open Nat renaming reduceAdd → zn2
open Int renaming reduceLT → zi1
open Go.Sw renaming swp_seq → zw0, kseq_n → zw6

theorem endT_ok : tCheck endT = 0 ∧ (gAt (ofP endT) 0).k = 1:=by decide +kernel
theorem labels_one {ls : List ByteArray} (h : labelsB ls = true) : 1 ≤ ls.length:=by
 unfold labelsB at h
 (repeat' split at h) <;> first | omega | cases h
theorem tp0_bad : tCheck tp0 = 1:=by decide +kernel
set_option maxHeartbeats 32000000 in
set_option maxRecDepth 100000 in
theorem blameLaw0 (Γ : Gl) {f : ByteArray → Bool} (hv : VSok Γ f) (hf : f noB = true) (x y : Tp) (l : List Int) (hll : l.length ≤ 140737488355328) (hrg : ∀ k ∈ l, -9223372036854775808 ≤ k ∧ k < 9223372036854775808) : DFn Tryd.prog Γ 9 [x.d,y.d,.slc (l.map iD)] (.v (.bool true)):=by
 have hN1 : SFn Tryd.prog Γ 28 [.d endT.d] [] (.tup [.ref 10 0,.d (iD 0)]) [(10,.cells (monC (ofP endT) 0 0 0))]:=(new_ok Γ endT_ok.1).up 9
 have hS1 : SFn Tryd.prog Γ 29 [.ref 10 0] [(10,.cells (monC (ofP endT) 0 0 0))] (.tup [.d (iD 0),.d (iD 0),.d (bD true)]) [(10,.cells (monC (ofP endT) 0 0 0))]:=by
  have:=(state_fn Γ (ofP_gd endT_ok.1) (mo0 endT_ok.1)).up 10
  rw [endT_ok.2] at this
  exact this
 have hIs0:=isT_fn Γ x y
 have e10 : ((1 : Int) != 0) = true:=by decide
 have hC0:=TCheck_fn Γ tp0
 rw [tp0_bad] at hC0
 simp only [endT,tp0,Tp.d,Tp.ds,List.map_nil,monC] at hN1 hS1 hC0
 obtain ⟨X,hX⟩ : ∃ X,x = X:=⟨x,rfl⟩
 obtain ⟨Y,hY⟩ : ∃ Y,y = Y:=⟨y,rfl⟩
 rw [hX,hY] at hIs0
 obtain ⟨k,so,nm,ls,l1⟩:=x
 obtain ⟨k',so',nm',ls',l2⟩:=y
 have hIs : DFn Tryd.prog Γ 30 [(Tp.mk k so nm ls l1).d,(Tp.mk k' so' nm' ls' l2).d] (.tup [bD (isP X Y),iD (bErr X Y)]):=by rw [hX,hY];exact hIs0
 clear hIs0
 simp only [Tp.d] at hIs ⊢
 refine fn_of_swp (N:=208) Tryd.func9 rfl (by decide) rfl rfl (by simp) (fun C h0=>?_)
 simp only [argE]
 refine zw0 ?_
 (with_reducible refine swp_region ?_ (fun K' hK'=>?_)
  · rfl
  simp only [WE,simprocAttr]
  (repeat (constructor;focus (clear hK';intros;simp_all;done))))
 refine hK' _ _ ?_
 clear hK' K'
 refine zw6 ?_
 refine zw0 ?_
 (with_reducible refine swp_region ?_ (fun K' hK'=>?_)
  · rfl
  simp only [WE,simprocAttr]
  (repeat (constructor;focus (clear hK';intros;simp_all;done))))
 refine stop_cS rfl (by simp only [UA,WE,simprocAttr]) (hN1) ?_
 simp only [WE,simprocAttr,UM, ]
 (try (apply hK';clear hK' K'))
 refine zw6 ?_
 refine zw0 ?_
 refine zw0 ?_
 (with_reducible refine swp_regionS (fun K' hK'=>?_))
 refine vcTo_ok 3 rfl ?_
 simp only [WE,simprocAttr,vcTo,  bne_self_eq_false]
 (repeat (constructor;focus (clear hK';intros;simp_all;done)))
 refine stop_guard rfl ?_
 refine vcTo_ok 1 rfl ?_
 simp only [WE,simprocAttr,vcTo]
 (repeat (constructor;focus (clear hK';intros;simp_all;done)))
 refine stop_guard rfl ?_
 refine stop_refnil ptr51 rfl rfl trivial ?_
 refine vcOps_ok rfl ?_
 simp only [WE,simprocAttr,bne_self_eq_false,cond_false]
 (repeat (constructor;focus (clear hK';intros;simp_all;done)))
 (try (apply hK';clear hK' K'))
 repeat' (first|(with_reducible apply zz1)|((with_reducible apply zz2);rfl;intro K' hK';simp only [WE,simprocAttr];(repeat (constructor;focus (clear hK';intros;simp_all;done)));(try (apply hK';clear hK' K')))|((with_reducible apply zz3);rfl;all_goals (intro h;try exact absurd h (by decide))))
 refine stop_cS rfl (by simp only [UA,WE,simprocAttr]) (hS1) ?_
 simp only [WE,simprocAttr,UM, ]
 (try (apply hK';clear hK' K'))
 repeat' (first|(with_reducible apply zz1)|((with_reducible apply zz2);rfl;intro K' hK';simp only [WE,simprocAttr,Bool.not_true];(repeat (constructor;focus (clear hK';intros;simp_all;done)));(try (apply hK';clear hK' K')))|((with_reducible apply zz3);rfl;all_goals (intro h;try exact absurd h (by decide))))
 refine stop_callF rfl (by simp only [WE,simprocAttr]) rfl rfl (hIs) ?_
 simp only [WE,simprocAttr,inX,dropS, ]
 (repeat (constructor;focus (clear hK';intros;simp_all;done)))
 (try (apply hK';clear hK' K'))
 by_cases he : bErr X Y = 0
 rotate_left
 · have g1 : (bErr X Y != 0) = true:=by simpa using he
   repeat' (first|(with_reducible apply zz1)|((with_reducible apply zz2);rfl;intro K' hK';simp only [WE,simprocAttr,g1,cond_true];(repeat (constructor;focus (clear hK';intros;simp_all;done)));(try (apply hK';clear hK' K')))|((with_reducible apply zz3);rfl;all_goals (intro h;try exact absurd h (by decide))))
   simp only [Kret,retL,retOne,oneV,WE,simprocAttr]
 cases hb : isP X Y with
 | false =>
  rw [he]
  repeat' (first|(with_reducible apply zz1)|((with_reducible apply zz2);rfl;intro K' hK';simp only [WE,simprocAttr,bne_self_eq_false,cond_false,Bool.not_false];(repeat (constructor;focus (clear hK';intros;simp_all;done)));(try (apply hK';clear hK' K')))|((with_reducible apply zz3);rfl;all_goals (intro h;try exact absurd h (by decide))))
  simp only [Kret,retL,retOne,oneV,WE,simprocAttr]
 | true =>
 rw [he]
 have I0:=inv_start he hb
 have hXc : tCheck X = 0:=(bErr_zero he).1
 have hN2 : SFn Tryd.prog Γ 28 [.d (Tp.mk k so nm ls l1).d] [] (.tup [.ref 20 0,.d (iD 0)]) [(20,.cells (monC (ofP X) 0 0 0))]:=by rw [hX];exact (new_ok Γ hXc).up 19
 have Hg:=ofP_gd hXc
 have lg : (ofP X).length ≤ 199:=by have:=(ofP_good hXc).2.1;omega
 generalize ofP X = g at *
 simp only [Tp.d,monC] at hN2
 clear hXc he hb hIs hN1 hS1
 repeat' (first|(with_reducible apply zz1)|((with_reducible apply zz2);rfl;intro K' hK';simp only [WE,simprocAttr,bne_self_eq_false,cond_false,Bool.not_true];(repeat (constructor;focus (clear hK';intros;simp_all;done)));(try (apply hK';clear hK' K')))|((with_reducible apply zz3);rfl;all_goals (intro h;try exact absurd h (by decide))))
 refine stop_cS rfl (by simp only [UA,WE,simprocAttr]) (hN2) ?_
 simp only [WE,simprocAttr,UM, ]
 (try (apply hK';clear hK' K'))
 refine zw6 ?_
 refine zw0 ?_
 (with_reducible refine swp_regionS (fun K' hK'=>?_))
 refine vcTo_ok 3 rfl ?_
 simp only [WE,simprocAttr,vcTo,  bne_self_eq_false]
 (repeat (constructor;focus (clear hK';intros;simp_all;done)))
 refine stop_guard rfl ?_
 refine vcTo_ok 1 rfl ?_
 simp only [WE,simprocAttr,vcTo]
 (repeat (constructor;focus (clear hK';intros;simp_all;done)))
 refine stop_guard rfl ?_
 refine stop_refnil ptr51 rfl rfl trivial ?_
 refine vcOps_ok rfl ?_
 simp only [WE,simprocAttr,bne_self_eq_false,cond_false]
 (repeat (constructor;focus (clear hK';intros;simp_all;done)))
 (try (apply hK';clear hK' K'))
 repeat' (first|(with_reducible apply zz1)|((with_reducible apply zz2);rfl;intro K' hK';simp only [WE,simprocAttr];(repeat (constructor;focus (clear hK';intros;simp_all;done)));(try (apply hK';clear hK' K')))|((with_reducible apply zz3);rfl;all_goals (intro h;try exact absurd h (by decide))))
 refine swp_loop (α := Nat × Int × Tp × Tp) (fun q=>[(3,.ref 0 0),(4,.ref 1 0),(7,.ref 20 0),(67,.d (.slc (l.map iD))),(68,.d (iD l.length)),(69,.d (iD q.1))])
  (fun q=>[(0,.cells q.2.2.1.cs),(1,.cells q.2.2.2.cs),(20,.cells (monC g q.2.1 0 q.1))])
  (fun q=>q.1 ≤ l.length ∧ Inv g q.2.1 q.2.2.1 q.2.2.2) (fun q=>l.length - q.1)
  (0,0,.mk k so nm ls l1,.mk k' so' nm' ls' l2) ⟨Nat.zero_le _,by rw [hX,hY];exact I0⟩ (by simp only [Tp.cs,monC];refine sub_of h0 ?_ ?_ ?_ <;> simp only [US,WE,simprocAttr,List.length_map]) (fun q hq=>?_)
 clear I0 hX hY hN2
 obtain ⟨j,a,s,t⟩:=q
 obtain ⟨hj,I⟩:=hq
 simp only at hj I
 clear k so nm ls l1 k' so' nm' ls' l2 X Y
 have hj0 : (0 : Int) ≤ (j : Int):=by omega
 by_cases hlt : j < l.length
 rotate_left
 · have hj1 : ¬ (j : Int) < (l.length : Int):=by omega
   obtain ⟨sk,sso,snm,sls,sl⟩:=s
   obtain ⟨tk,tso,tnm,tls,tl⟩:=t
   simp only [Tp.cs,monC]
   repeat' (first|(with_reducible apply zz1)|((with_reducible apply zz2);rfl;intro K' hK';simp only [WE,simprocAttr,hj1,List.length_map];(repeat (constructor;focus (clear hK';intros;simp_all;done)));(try (apply hK';clear hK' K')))|((with_reducible apply zz3);rfl;all_goals (intro h;try exact absurd h (by decide))))
   simp only [Kret,retL,retOne,oneV,WE,simprocAttr]
 obtain ⟨pk,hpk⟩ : ∃ pk,l[j]? = some pk:=⟨l[j],by simp [hlt]⟩
 have hxg : (l.map iD).getD j default = iD pk:=by simp [List.getD,hpk]
 have hpr:=hrg pk (List.mem_of_getElem? hpk)
 have hj1 : (j : Int) < (l.length : Int):=by omega
 have hw1 : IntKind.i64.wrap ((j : Int) + 1) = ((j + 1 : Nat) : Int):=by rw [wrap_in (by omega) (by omega)];omega
 have hj4 : (j : Int) < 4611686018427387904:=by omega
 have hHs:=head_fn Γ I.cs
 have hHt:=head_fn Γ I.ct
 have os:=I.cs.hd
 have ot:=I.ct.hd
 obtain ⟨S,hS⟩ : ∃ S,unfP s = S:=⟨_,rfl⟩
 obtain ⟨T,hT⟩ : ∃ T,unfP t = T:=⟨_,rfl⟩
 rw [hS] at hHs os
 rw [hT] at hHt ot
 obtain ⟨k,so,nm,ls,l1⟩:=S
 obtain ⟨k',so',nm',ls',l2⟩:=T
 have nd:=I.node hS
 obtain ⟨rfl,rfl⟩:=I.heads hS hT
 have hNx : SFn Tryd.prog Γ 32 [.ref 20 0] [(20,.cells (monC g a 0 j))] (.d (iD k)) [(20,.cells (monC g a 0 j))]:=by
  have:=(next_fnM Γ Hg (m:=⟨a,0,j⟩) ⟨I.rg,by simp only;omega,hj4⟩ rfl).up 20
  rw [nd.1] at this
  exact this
 have hSt : SFn Tryd.prog Γ 29 [.ref 20 0] [(20,.cells (monC g a 0 j))] (.tup [.d (iD j),.d (iD 0),.d (bD (k == 1))]) [(20,.cells (monC g a 0 j))]:=by
  have:=(state_fn Γ Hg (m:=⟨a,0,j⟩) ⟨I.rg,by simp only;omega,hj4⟩).up 20
  rw [nd.1] at this
  simp only [beq_self_eq_true,Bool.true_and] at this
  exact this
 obtain ⟨s2,hs2⟩ : ∃ s2,s = s2:=⟨_,rfl⟩
 obtain ⟨t2,ht2⟩ : ∃ t2,t = t2:=⟨_,rfl⟩
 rw [hs2,ht2] at I
 rw [hs2] at hS
 rw [ht2] at hT
 obtain ⟨sk,sso,snm,sls,sl⟩:=s
 obtain ⟨tk,tso,tnm,tls,tl⟩:=t
 simp only [Tp.d] at hHs hHt
 simp only [Tp.cs,monC] at hNx hSt ⊢
 repeat' (first|(with_reducible apply zz1)|((with_reducible apply zz2);rfl;intro K' hK';simp only [WE,simprocAttr,hj0,hj1,hxg,List.length_map,Int.toNat_natCast];(repeat (constructor;focus (clear hK';intros;simp_all;done)));(try (apply hK';clear hK' K')))|((with_reducible apply zz3);rfl;all_goals (intro h;try exact absurd h (by decide))))
 (with_reducible refine swp_drawX ?_ ?_ ?_ (⟨⟨[(1,.agg [iD k,iD so,sD nm,.slc (ls.map sD),.slc (Tp.ds l1)]),(3,.agg [iD k,iD so,sD nm',.slc (ls'.map sD),.slc (Tp.ds l2)])],[]⟩,[],[],[],[]⟩) _ rfl (fun K' hK' gops fin hgops hfin=>?_)
  · kernel_rfl
  · rfl
  · rfl
  repeat' first
   | (refine vcX_dead rfl trivial (by simp only [WE,simprocAttr,UX,UA];rfl) (by simp only [List.nil_append,List.cons_append];rfl) (by simp only [zn2];rfl) ?_)
   | (refine vcX_step rfl rfl trivial (by simp only [WE,simprocAttr,UX,UA,hHs,hHt ];rfl) ?_ (by simp only [WE,simprocAttr,UX,UA];rfl) (by simp only [WE,simprocAttr,UX,UA];rfl) (by simp only [List.nil_append,List.cons_append];rfl) (by simp only [zn2];rfl) ?_;focus (first | trivial | ((repeat' apply And.intro) <;> first | trivial | assumption | (clear hK' hfin hgops;intros;simp_all;done))))
  (refine vcX_nil (by subst hfin;kernel_rfl) ?_)
  clear hfin hgops fin gops
  (try (apply hK';clear hK' K')))
 repeat' (first|(with_reducible apply zz1)|((with_reducible apply zz2);rfl;intro K' hK';simp only [WE,simprocAttr];(repeat (constructor;focus (clear hK';intros;simp_all;done)));(try (apply hK';clear hK' K')))|((with_reducible apply zz3);rfl;all_goals (intro h;try exact absurd h (by decide))))
 (with_reducible refine swp_drawX ?_ ?_ ?_ (⟨⟨[],[]⟩,[(1,(20,([.d (.slc (g.map Nd.d)),.d (iD a),.d (iD 0),.d (iD j)],iD k)))],[],[],[]⟩) _ rfl (fun K' hK' gops fin hgops hfin=>?_)
  · kernel_rfl
  · rfl
  · rfl
  repeat' first
   | (refine vcX_dead rfl trivial (by simp only [WE,simprocAttr,UX,UA];rfl) (by simp only [List.nil_append,List.cons_append];rfl) (by simp only [zn2];rfl) ?_)
   | (refine vcX_step rfl rfl trivial (by simp only [WE,simprocAttr,UX,UA,hNx,bne_self_eq_false ];rfl) ?_ (by simp only [WE,simprocAttr,UX,UA];rfl) (by simp only [WE,simprocAttr,UX,UA];rfl) (by simp only [List.nil_append,List.cons_append];rfl) (by simp only [zn2];rfl) ?_;focus (first | trivial | ((repeat' apply And.intro) <;> first | trivial | assumption | (clear hK' hfin hgops;intros;simp_all;done))))
  (refine vcX_nil (by subst hfin;kernel_rfl) ?_)
  clear hfin hgops fin gops
  (try (apply hK';clear hK' K')))
 have okS:=os.1.ok
 have okT:=ot.1.ok
 clear hHs hHt hNx hxg hj1 hrg
 generalize hAt : gAt g a = nd0 at *
 cases okS with
 | nil =>
  repeat' (first|(with_reducible apply zz1)|((with_reducible apply zz2);rfl;intro K' hK';simp only [WE,simprocAttr,Int.reduceBEq];(repeat (constructor;focus (clear hK';intros;simp_all;done)));(try (apply hK';clear hK' K')))|((with_reducible apply zz3);rfl;all_goals (intro h;try exact absurd h (by decide))))
  refine stop_cS rfl (by simp only [UA,WE,simprocAttr]) (hSt) ?_
  simp only [WE,simprocAttr,UM, ]
  (try (apply hK';clear hK' K'))
  repeat' (first|(with_reducible apply zz1)|((with_reducible apply zz2);rfl;intro K' hK';simp only [WE,simprocAttr,beq_self_eq_true,Int.reduceBEq];(repeat (constructor;focus (clear hK';intros;simp_all;done)));(try (apply hK';clear hK' K')))|((with_reducible apply zz3);rfl;all_goals (intro h;try exact absurd h (by decide))))
  simp only [Kret,retL,retOne,oneV,WE,simprocAttr]
 | pass _ _ x hk h1 h3 hx =>
  obtain ⟨y,rfl⟩ : ∃ y,l2 = [y]:=by
   cases okT with
   | nil=>omega
   | pass _ _ y=>exact ⟨y,rfl⟩
   | give _ _ _ hk'=>omega
   | pick _ _ _ hk'=>omega
   | bind=>omega
   | var=>omega
  rcases hk with rfl | rfl
  · have hev:=ev_pass Γ hv hf (kd:=2) (.inl rfl) h1 h3
    have st:=I.pass Hg hS hT (.inl rfl) tp0 noB
    rw [hAt] at st
    obtain ⟨hn,I2⟩:=st
    have hTk:=take_fine Γ Hg lg I.rg hj4 hev (.inl rfl) (fun e=>by omega) (by rw [hAt];exact hn) I2.rg.1
    clear hev hn
    generalize nd0.to.getD 0 0 = v at *
    obtain ⟨xk,xso,xnm,xls,xl⟩:=x
    obtain ⟨yk,yso,ynm,yls,yl⟩:=y
    simp only [evD,tp0,Tp.ds,List.map_nil,monC] at hTk
    simp only [Tp.ds,Tp.d]
    repeat' (first|(with_reducible apply zz1)|((with_reducible apply zz2);rfl;intro K' hK';simp only [WE,simprocAttr,Int.reduceBEq];(repeat (constructor;focus (clear hK';intros;simp_all;done)));(try (apply hK';clear hK' K')))|((with_reducible apply zz3);rfl;all_goals (intro h;try exact absurd h (by decide))))
    refine stop_callF rfl (by simp only [WE,simprocAttr]) rfl rfl (hC0) ?_
    simp only [WE,simprocAttr,inX,dropS,e10,Int.reduceBEq,cond_true,cond_false]
    (repeat (constructor;focus (clear hK';intros;simp_all;done)))
    (try (apply hK';clear hK' K'))
    repeat' (first|(with_reducible apply zz1)|((with_reducible apply zz2);rfl;intro K' hK';simp only [WE,simprocAttr,Int.reduceBEq];(repeat (constructor;focus (clear hK';intros;simp_all;done)));(try (apply hK';clear hK' K')))|((with_reducible apply zz3);rfl;all_goals (intro h;try exact absurd h (by decide))))
    refine stop_cS rfl (by simp only [UA,WE,simprocAttr]) (hTk) ?_
    simp only [WE,simprocAttr,UM, ]
    (try (apply hK';clear hK' K'))
    repeat' (first|(with_reducible apply zz1)|((with_reducible apply zz2);rfl;intro K' hK';simp only [WE,simprocAttr,bne_self_eq_false,cond_false,zi1];(repeat (constructor;focus (clear hK';intros;simp_all;done)));(try (apply hK';clear hK' K')))|((with_reducible apply zz3);rfl;all_goals (intro h;try exact absurd h (by decide))))
    -- TRACE
    (with_reducible refine swp_drawX ?_ ?_ ?_ (⟨⟨[],[]⟩,[],[],[],[]⟩) _ rfl (fun K' hK' gops fin hgops hfin=>?_)
     · kernel_rfl
     · rfl
     · rfl
     repeat' first
      | (refine vcX_dead rfl trivial (by simp only [WE,simprocAttr,UX,UA];rfl) (by simp only [List.nil_append,List.cons_append];rfl) (by simp only [zn2];rfl) ?_)
      | (refine vcX_step rfl rfl trivial (by simp only [WE,simprocAttr,UX,UA,List.getD_cons_zero,List.length_cons,List.length_nil ];rfl) ?_ (by simp only [WE,simprocAttr,UX,UA];rfl) (by simp only [WE,simprocAttr,UX,UA];rfl) (by simp only [List.nil_append,List.cons_append];rfl) (by simp only [zn2];rfl) ?_;focus (first | trivial | ((repeat' apply And.intro) <;> first | trivial | assumption | (clear hK' hfin hgops;intros;simp_all;done))))
     (refine vcX_nil (by subst hfin;kernel_rfl) ?_)
     clear hfin hgops fin gops
     (try (apply hK';clear hK' K')))
    repeat' (first|(with_reducible apply zz1)|((with_reducible apply zz2);rfl;intro K' hK';simp only [WE,simprocAttr,hw1];(repeat (constructor;focus (clear hK';intros;simp_all;done)));(try (apply hK';clear hK' K')))|((with_reducible apply zz3);rfl;all_goals (intro h;try exact absurd h (by decide))))
    refine ⟨(j + 1,v,.mk xk xso xnm xls xl,.mk yk yso ynm yls yl),⟨(by show j + 1 ≤ l.length;omega),I2⟩,(by show l.length - (j + 1) < l.length - j;omega),by simp only [Tp.cs,monC];refine sub_of h0 ?_ ?_ ?_ <;> simp only [US,WE,simprocAttr]⟩
  · have hev:=ev_pass Γ hv hf (kd:=3) (.inr rfl) h1 h3
    have st:=I.pass Hg hS hT (.inr rfl) tp0 noB
    rw [hAt] at st
    obtain ⟨hn,I2⟩:=st
    have hTk:=take_fine Γ Hg lg I.rg hj4 hev (.inr (.inl rfl)) (fun e=>by omega) (by rw [hAt];exact hn) I2.rg.1
    clear hev hn
    generalize nd0.to.getD 0 0 = v at *
    obtain ⟨xk,xso,xnm,xls,xl⟩:=x
    obtain ⟨yk,yso,ynm,yls,yl⟩:=y
    simp only [evD,tp0,Tp.ds,List.map_nil,monC] at hTk
    simp only [Tp.ds,Tp.d]
    repeat' (first|(with_reducible apply zz1)|((with_reducible apply zz2);rfl;intro K' hK';simp only [WE,simprocAttr,Int.reduceBEq];(repeat (constructor;focus (clear hK';intros;simp_all;done)));(try (apply hK';clear hK' K')))|((with_reducible apply zz3);rfl;all_goals (intro h;try exact absurd h (by decide))))
    refine stop_callF rfl (by simp only [WE,simprocAttr]) rfl rfl (hC0) ?_
    simp only [WE,simprocAttr,inX,dropS,e10,Int.reduceBEq,cond_true,cond_false]
    (repeat (constructor;focus (clear hK';intros;simp_all;done)))
    (try (apply hK';clear hK' K'))
    repeat' (first|(with_reducible apply zz1)|((with_reducible apply zz2);rfl;intro K' hK';simp only [WE,simprocAttr,Int.reduceBEq];(repeat (constructor;focus (clear hK';intros;simp_all;done)));(try (apply hK';clear hK' K')))|((with_reducible apply zz3);rfl;all_goals (intro h;try exact absurd h (by decide))))
    refine stop_cS rfl (by simp only [UA,WE,simprocAttr]) (hTk) ?_
    simp only [WE,simprocAttr,UM, ]
    (try (apply hK';clear hK' K'))
    repeat' (first|(with_reducible apply zz1)|((with_reducible apply zz2);rfl;intro K' hK';simp only [WE,simprocAttr,bne_self_eq_false,cond_false,zi1];(repeat (constructor;focus (clear hK';intros;simp_all;done)));(try (apply hK';clear hK' K')))|((with_reducible apply zz3);rfl;all_goals (intro h;try exact absurd h (by decide))))
    -- TRACE
    (with_reducible refine swp_drawX ?_ ?_ ?_ (⟨⟨[],[]⟩,[],[],[],[]⟩) _ rfl (fun K' hK' gops fin hgops hfin=>?_)
     · kernel_rfl
     · rfl
     · rfl
     repeat' first
      | (refine vcX_dead rfl trivial (by simp only [WE,simprocAttr,UX,UA];rfl) (by simp only [List.nil_append,List.cons_append];rfl) (by simp only [zn2];rfl) ?_)
      | (refine vcX_step rfl rfl trivial (by simp only [WE,simprocAttr,UX,UA,List.getD_cons_zero,List.length_cons,List.length_nil ];rfl) ?_ (by simp only [WE,simprocAttr,UX,UA];rfl) (by simp only [WE,simprocAttr,UX,UA];rfl) (by simp only [List.nil_append,List.cons_append];rfl) (by simp only [zn2];rfl) ?_;focus (first | trivial | ((repeat' apply And.intro) <;> first | trivial | assumption | (clear hK' hfin hgops;intros;simp_all;done))))
     (refine vcX_nil (by subst hfin;kernel_rfl) ?_)
     clear hfin hgops fin gops
     (try (apply hK';clear hK' K')))
    repeat' (first|(with_reducible apply zz1)|((with_reducible apply zz2);rfl;intro K' hK';simp only [WE,simprocAttr,hw1];(repeat (constructor;focus (clear hK';intros;simp_all;done)));(try (apply hK';clear hK' K')))|((with_reducible apply zz3);rfl;all_goals (intro h;try exact absurd h (by decide))))
    refine ⟨(j + 1,v,.mk xk xso xnm xls xl,.mk yk yso ynm yls yl),⟨(by show j + 1 ≤ l.length;omega),I2⟩,(by show l.length - (j + 1) < l.length - j;omega),by simp only [Tp.cs,monC];refine sub_of h0 ?_ ?_ ?_ <;> simp only [US,WE,simprocAttr]⟩
 | give _ x y hk hx hy =>
  obtain ⟨x',y',rfl⟩ : ∃ x' y',l2 = [x',y']:=by
   cases okT with
   | nil=>omega
   | pass _ _ _ hk'=>omega
   | give _ x' y'=>exact ⟨x',y',rfl⟩
   | pick _ _ _ hk'=>omega
   | bind=>omega
   | var=>omega
  rcases hk with rfl | rfl
  · have hC:=TCheck_fn Γ x'
    by_cases hc : tCheck x' = 0
    rotate_left
    · have g1 : (tCheck x' != 0) = true:=by simpa using hc
      generalize tCheck x' = e at *
      obtain ⟨xk,xso,xnm,xls,xl⟩:=x
      obtain ⟨yk,yso,ynm,yls,yl⟩:=y
      obtain ⟨xk',xso',xnm',xls',xl'⟩:=x'
      obtain ⟨yk',yso',ynm',yls',yl'⟩:=y'
      simp only [Tp.d] at hC
      simp only [Tp.ds,Tp.d]
      repeat' (first|(with_reducible apply zz1)|((with_reducible apply zz2);rfl;intro K' hK';simp only [WE,simprocAttr,Int.reduceBEq,List.getD_cons_zero,List.length_cons,List.length_nil];(repeat (constructor;focus (clear hK';intros;simp_all;done)));(try (apply hK';clear hK' K')))|((with_reducible apply zz3);rfl;all_goals (intro h;try exact absurd h (by decide))))
      refine stop_callF rfl (by simp only [WE,simprocAttr]) rfl rfl (hC) ?_
      simp only [WE,simprocAttr,inX,dropS,g1,Int.reduceBEq,cond_true,cond_false]
      (repeat (constructor;focus (clear hK';intros;simp_all;done)))
      (try (apply hK';clear hK' K'))
      repeat' (first|(with_reducible apply zz1)|((with_reducible apply zz2);rfl;intro K' hK';simp only [WE,simprocAttr,Int.reduceBEq];(repeat (constructor;focus (clear hK';intros;simp_all;done)));(try (apply hK';clear hK' K')))|((with_reducible apply zz3);rfl;all_goals (intro h;try exact absurd h (by decide))))
      simp only [Kret,retL,retOne,oneV,WE,simprocAttr]
    have hev:=ev_carry Γ hv (kd:=4) (.inl rfl) hc
    have st:=I.give Hg lg hS hT hc 0 noB
    rw [hAt] at st
    obtain ⟨hn,I2⟩:=st
    have hTk:=take_fine Γ Hg lg I.rg hj4 hev (.inr (.inr (.inl rfl))) (fun _=>hc) (by rw [hAt];exact hn) I2.rg.1
    rw [hc] at hC
    clear hev hn hc
    generalize nd0.to.getD 1 0 = v at *
    obtain ⟨xk,xso,xnm,xls,xl⟩:=x
    obtain ⟨yk,yso,ynm,yls,yl⟩:=y
    obtain ⟨xk',xso',xnm',xls',xl'⟩:=x'
    obtain ⟨yk',yso',ynm',yls',yl'⟩:=y'
    simp only [evD,monC] at hTk
    simp only [Tp.d] at hC
    simp only [Tp.ds,Tp.d]
    repeat' (first|(with_reducible apply zz1)|((with_reducible apply zz2);rfl;intro K' hK';simp only [WE,simprocAttr,Int.reduceBEq,List.getD_cons_zero,List.length_cons,List.length_nil];(repeat (constructor;focus (clear hK';intros;simp_all;done)));(try (apply hK';clear hK' K')))|((with_reducible apply zz3);rfl;all_goals (intro h;try exact absurd h (by decide))))
    refine stop_callF rfl (by simp only [WE,simprocAttr]) rfl rfl (hC) ?_
    simp only [WE,simprocAttr,inX,dropS,bne_self_eq_false,Int.reduceBEq,cond_true,cond_false]
    (repeat (constructor;focus (clear hK';intros;simp_all;done)))
    (try (apply hK';clear hK' K'))
    repeat' (first|(with_reducible apply zz1)|((with_reducible apply zz2);rfl;intro K' hK';simp only [WE,simprocAttr,Int.reduceBEq];(repeat (constructor;focus (clear hK';intros;simp_all;done)));(try (apply hK';clear hK' K')))|((with_reducible apply zz3);rfl;all_goals (intro h;try exact absurd h (by decide))))
    refine stop_cS rfl (by simp only [UA,WE,simprocAttr]) (hTk) ?_
    simp only [WE,simprocAttr,UM, ]
    (try (apply hK';clear hK' K'))
    repeat' (first|(with_reducible apply zz1)|((with_reducible apply zz2);rfl;intro K' hK';simp only [WE,simprocAttr,bne_self_eq_false,cond_false,zi1];(repeat (constructor;focus (clear hK';intros;simp_all;done)));(try (apply hK';clear hK' K')))|((with_reducible apply zz3);rfl;all_goals (intro h;try exact absurd h (by decide))))
    -- TRACE
    (with_reducible refine swp_drawX ?_ ?_ ?_ (⟨⟨[],[]⟩,[],[],[],[]⟩) _ rfl (fun K' hK' gops fin hgops hfin=>?_)
     · kernel_rfl
     · rfl
     · rfl
     repeat' first
      | (refine vcX_dead rfl trivial (by simp only [WE,simprocAttr,UX,UA];rfl) (by simp only [List.nil_append,List.cons_append];rfl) (by simp only [zn2];rfl) ?_)
      | (refine vcX_step rfl rfl trivial (by simp only [WE,simprocAttr,UX,UA,List.getD_cons_zero,List.getD_cons_succ,List.length_cons,List.length_nil ];rfl) ?_ (by simp only [WE,simprocAttr,UX,UA];rfl) (by simp only [WE,simprocAttr,UX,UA];rfl) (by simp only [List.nil_append,List.cons_append];rfl) (by simp only [zn2];rfl) ?_;focus (first | trivial | ((repeat' apply And.intro) <;> first | trivial | assumption | (clear hK' hfin hgops;intros;simp_all;done))))
     (refine vcX_nil (by subst hfin;kernel_rfl) ?_)
     clear hfin hgops fin gops
     (try (apply hK';clear hK' K')))
    repeat' (first|(with_reducible apply zz1)|((with_reducible apply zz2);rfl;intro K' hK';simp only [WE,simprocAttr,hw1];(repeat (constructor;focus (clear hK';intros;simp_all;done)));(try (apply hK';clear hK' K')))|((with_reducible apply zz3);rfl;all_goals (intro h;try exact absurd h (by decide))))
    refine ⟨(j + 1,v,.mk yk yso ynm yls yl,.mk yk' yso' ynm' yls' yl'),⟨(by show j + 1 ≤ l.length;omega),I2⟩,(by show l.length - (j + 1) < l.length - j;omega),by simp only [Tp.cs,monC];refine sub_of h0 ?_ ?_ ?_ <;> simp only [US,WE,simprocAttr]⟩
  · have hC:=TCheck_fn Γ x
    by_cases hc : tCheck x = 0
    rotate_left
    · have g1 : (tCheck x != 0) = true:=by simpa using hc
      generalize tCheck x = e at *
      obtain ⟨xk,xso,xnm,xls,xl⟩:=x
      obtain ⟨yk,yso,ynm,yls,yl⟩:=y
      obtain ⟨xk',xso',xnm',xls',xl'⟩:=x'
      obtain ⟨yk',yso',ynm',yls',yl'⟩:=y'
      simp only [Tp.d] at hC
      simp only [Tp.ds,Tp.d]
      repeat' (first|(with_reducible apply zz1)|((with_reducible apply zz2);rfl;intro K' hK';simp only [WE,simprocAttr,Int.reduceBEq,List.getD_cons_zero,List.length_cons,List.length_nil];(repeat (constructor;focus (clear hK';intros;simp_all;done)));(try (apply hK';clear hK' K')))|((with_reducible apply zz3);rfl;all_goals (intro h;try exact absurd h (by decide))))
      refine stop_callF rfl (by simp only [WE,simprocAttr]) rfl rfl (hC) ?_
      simp only [WE,simprocAttr,inX,dropS,g1,Int.reduceBEq,cond_true,cond_false]
      (repeat (constructor;focus (clear hK';intros;simp_all;done)))
      (try (apply hK';clear hK' K'))
      repeat' (first|(with_reducible apply zz1)|((with_reducible apply zz2);rfl;intro K' hK';simp only [WE,simprocAttr,Int.reduceBEq];(repeat (constructor;focus (clear hK';intros;simp_all;done)));(try (apply hK';clear hK' K')))|((with_reducible apply zz3);rfl;all_goals (intro h;try exact absurd h (by decide))))
      simp only [Kret,retL,retOne,oneV,WE,simprocAttr]
    have hev:=ev_carry Γ hv (kd:=5) (.inr rfl) hc
    have st:=I.take Hg lg hS hT hc 0 noB
    rw [hAt] at st
    obtain ⟨hn,I2⟩:=st
    have hTk:=take_fine Γ Hg lg I.rg hj4 hev (.inr (.inr (.inr (.inl rfl)))) (fun _=>hc) (by rw [hAt];exact hn) I2.rg.1
    rw [hc] at hC
    clear hev hn hc
    generalize nd0.to.getD 1 0 = v at *
    obtain ⟨xk,xso,xnm,xls,xl⟩:=x
    obtain ⟨yk,yso,ynm,yls,yl⟩:=y
    obtain ⟨xk',xso',xnm',xls',xl'⟩:=x'
    obtain ⟨yk',yso',ynm',yls',yl'⟩:=y'
    simp only [evD,monC] at hTk
    simp only [Tp.d] at hC
    simp only [Tp.ds,Tp.d]
    repeat' (first|(with_reducible apply zz1)|((with_reducible apply zz2);rfl;intro K' hK';simp only [WE,simprocAttr,Int.reduceBEq,List.getD_cons_zero,List.length_cons,List.length_nil];(repeat (constructor;focus (clear hK';intros;simp_all;done)));(try (apply hK';clear hK' K')))|((with_reducible apply zz3);rfl;all_goals (intro h;try exact absurd h (by decide))))
    refine stop_callF rfl (by simp only [WE,simprocAttr]) rfl rfl (hC) ?_
    simp only [WE,simprocAttr,inX,dropS,bne_self_eq_false,Int.reduceBEq,cond_true,cond_false]
    (repeat (constructor;focus (clear hK';intros;simp_all;done)))
    (try (apply hK';clear hK' K'))
    repeat' (first|(with_reducible apply zz1)|((with_reducible apply zz2);rfl;intro K' hK';simp only [WE,simprocAttr,Int.reduceBEq];(repeat (constructor;focus (clear hK';intros;simp_all;done)));(try (apply hK';clear hK' K')))|((with_reducible apply zz3);rfl;all_goals (intro h;try exact absurd h (by decide))))
    refine stop_cS rfl (by simp only [UA,WE,simprocAttr]) (hTk) ?_
    simp only [WE,simprocAttr,UM, ]
    (try (apply hK';clear hK' K'))
    repeat' (first|(with_reducible apply zz1)|((with_reducible apply zz2);rfl;intro K' hK';simp only [WE,simprocAttr,bne_self_eq_false,cond_false,zi1];(repeat (constructor;focus (clear hK';intros;simp_all;done)));(try (apply hK';clear hK' K')))|((with_reducible apply zz3);rfl;all_goals (intro h;try exact absurd h (by decide))))
    -- TRACE
    (with_reducible refine swp_drawX ?_ ?_ ?_ (⟨⟨[],[]⟩,[],[],[],[]⟩) _ rfl (fun K' hK' gops fin hgops hfin=>?_)
     · kernel_rfl
     · rfl
     · rfl
     repeat' first
      | (refine vcX_dead rfl trivial (by simp only [WE,simprocAttr,UX,UA];rfl) (by simp only [List.nil_append,List.cons_append];rfl) (by simp only [zn2];rfl) ?_)
      | (refine vcX_step rfl rfl trivial (by simp only [WE,simprocAttr,UX,UA,List.getD_cons_zero,List.getD_cons_succ,List.length_cons,List.length_nil ];rfl) ?_ (by simp only [WE,simprocAttr,UX,UA];rfl) (by simp only [WE,simprocAttr,UX,UA];rfl) (by simp only [List.nil_append,List.cons_append];rfl) (by simp only [zn2];rfl) ?_;focus (first | trivial | ((repeat' apply And.intro) <;> first | trivial | assumption | (clear hK' hfin hgops;intros;simp_all;done))))
     (refine vcX_nil (by subst hfin;kernel_rfl) ?_)
     clear hfin hgops fin gops
     (try (apply hK';clear hK' K')))
    repeat' (first|(with_reducible apply zz1)|((with_reducible apply zz2);rfl;intro K' hK';simp only [WE,simprocAttr,hw1];(repeat (constructor;focus (clear hK';intros;simp_all;done)));(try (apply hK';clear hK' K')))|((with_reducible apply zz3);rfl;all_goals (intro h;try exact absurd h (by decide))))
    refine ⟨(j + 1,v,.mk yk yso ynm yls yl,.mk yk' yso' ynm' yls' yl'),⟨(by show j + 1 ≤ l.length;omega),I2⟩,(by show l.length - (j + 1) < l.length - j;omega),by simp only [Tp.cs,monC];refine sub_of h0 ?_ ?_ ?_ <;> simp only [US,WE,simprocAttr]⟩
 | pick _ _ _ hk hl hn0 hx =>
  obtain ⟨hl',hn',hnm'⟩ : labelsB ls' = true ∧ l2.length = ls'.length ∧ nm' = noB:=by
   cases okT with
   | nil=>omega
   | pass _ _ _ hk'=>omega
   | give _ _ _ hk'=>omega
   | pick _ _ _ _ hl' hn'=>exact ⟨hl',hn',rfl⟩
   | bind=>omega
   | var=>omega
  rcases hk with rfl | rfl
  · have hpos : 0 < ls'.length:=labels_one hl'
    have hPk:=pick_fn Γ pk (ls'.length : Nat) hpr.1 hpr.2 (by omega)
    have hpi:=pickI_rng (k:=pk) (n:=(ls'.length : Nat)) (by omega)
    obtain ⟨q,hqe⟩ : ∃ q : Nat,pickI pk (ls'.length : Nat) = (q : Int):=⟨(pickI pk (ls'.length : Nat)).toNat,by omega⟩
    rw [hqe] at hPk hpi
    have hq0 : (0 : Int) ≤ (q : Int):=hpi.1
    have hq1 : (q : Int) < (ls'.length : Int):=hpi.2
    obtain ⟨lab,hq⟩ : ∃ lab,ls'[q]? = some lab:=⟨ls'[q]'(by omega),by simp⟩
    have hgl : (ls'.map sD).getD q default = sD lab:=by simp [List.getD,hq]
    obtain ⟨p,X,Y,hix,hX,hY,hn,I2⟩:=I.pick Hg hS hT (sort_nodup (labels_sort hl)) (sort_nodup (labels_sort hl')) hn0 hn' 0 tp0 hq
    rw [hAt] at hn I2
    have hIx:=indexS_fn Γ ls lab (by have:=labels_len hl;omega)
    rw [hix] at hIx
    have hev:=ev_label Γ hv (kd:=6) (.inl rfl) lab
    have hTk:=take_fine Γ Hg lg I.rg hj4 hev (.inr (.inr (.inr (.inr (.inl rfl))))) (fun e=>by omega) (by rw [hAt];exact hn) I2.rg.1
    have hX1 : (p : Int) < (l1.length : Int):=by have:=(List.getElem?_eq_some_iff.1 hX).1;omega
    have hY1 : (q : Int) < (l2.length : Int):=by have:=(List.getElem?_eq_some_iff.1 hY).1;omega
    have hgX:=Tp.ds_get l1 p X hX
    have hgY:=Tp.ds_get l2 q Y hY
    have hp0 : (0 : Int) ≤ (p : Int):=by omega
    have hpn : ¬ (p : Int) < 0:=by omega
    have hqn : ¬ (q : Int) < 0:=by omega
    have hd1:=Tp.ds_len l1
    have hd2:=Tp.ds_len l2
    clear hev hn hqe hpi hix hq
    generalize nd0.to.getD p 0 = v at *
    obtain ⟨xk,xso,xnm,xls,xl⟩:=X
    obtain ⟨yk,yso,ynm,yls,yl⟩:=Y
    simp only [evD,tp0,Tp.ds,List.map_nil,monC] at hTk
    simp only [Tp.d] at hgX hgY
    repeat' (first|(with_reducible apply zz1)|((with_reducible apply zz2);rfl;intro K' hK';simp only [WE,simprocAttr,Int.reduceBEq,List.length_map];(repeat (constructor;focus (clear hK';intros;simp_all;done)));(try (apply hK';clear hK' K')))|((with_reducible apply zz3);rfl;all_goals (intro h;try exact absurd h (by decide))))
    refine stop_callF rfl (by simp only [WE,simprocAttr]) rfl rfl (hPk) ?_
    simp only [WE,simprocAttr,inX,dropS,List.length_map]
    (repeat (constructor;focus (clear hK';intros;simp_all;done)))
    (try (apply hK';clear hK' K'))
    repeat' (first|(with_reducible apply zz1)|((with_reducible apply zz2);rfl;intro K' hK';simp only [WE,simprocAttr,List.length_map,Int.toNat_natCast,hgl,hq0,hq1];(repeat (constructor;focus (clear hK';intros;simp_all;done)));(try (apply hK';clear hK' K')))|((with_reducible apply zz3);rfl;all_goals (intro h;try exact absurd h (by decide))))
    refine stop_callF rfl (by simp only [WE,simprocAttr]) rfl rfl (hIx) ?_
    simp only [WE,simprocAttr,inX,dropS,List.length_map]
    (repeat (constructor;focus (clear hK';intros;simp_all;done)))
    (try (apply hK';clear hK' K'))
    repeat' (first|(with_reducible apply zz1)|((with_reducible apply zz2);rfl;intro K' hK';simp only [WE,simprocAttr,Int.reduceBEq];(repeat (constructor;focus (clear hK';intros;simp_all;done)));(try (apply hK';clear hK' K')))|((with_reducible apply zz3);rfl;all_goals (intro h;try exact absurd h (by decide))))
    refine stop_callF rfl (by simp only [WE,simprocAttr]) rfl rfl (hC0) ?_
    simp only [WE,simprocAttr,inX,dropS,e10,Int.reduceBEq,cond_true,cond_false]
    (repeat (constructor;focus (clear hK';intros;simp_all;done)))
    (try (apply hK';clear hK' K'))
    repeat' (first|(with_reducible apply zz1)|((with_reducible apply zz2);rfl;intro K' hK';simp only [WE,simprocAttr,Int.reduceBEq];(repeat (constructor;focus (clear hK';intros;simp_all;done)));(try (apply hK';clear hK' K')))|((with_reducible apply zz3);rfl;all_goals (intro h;try exact absurd h (by decide))))
    refine stop_cS rfl (by simp only [UA,WE,simprocAttr]) (hTk) ?_
    simp only [WE,simprocAttr,UM, ]
    (try (apply hK';clear hK' K'))
    repeat' (first|(with_reducible apply zz1)|((with_reducible apply zz2);rfl;intro K' hK';simp only [WE,simprocAttr,bne_self_eq_false,cond_false,hpn,hqn,decide_false];(repeat (constructor;focus (clear hK';intros;simp_all;done)));(try (apply hK';clear hK' K')))|((with_reducible apply zz3);rfl;all_goals (intro h;try exact absurd h (by decide))))
    -- TRACE
    (with_reducible refine swp_drawX ?_ ?_ ?_ (⟨⟨[],[]⟩,[],[],[],[]⟩) _ rfl (fun K' hK' gops fin hgops hfin=>?_)
     · kernel_rfl
     · rfl
     · rfl
     repeat' first
      | (refine vcX_dead rfl trivial (by simp only [WE,simprocAttr,UX,UA];rfl) (by simp only [List.nil_append,List.cons_append];rfl) (by simp only [zn2];rfl) ?_)
      | (refine vcX_step rfl rfl trivial (by simp only [WE,simprocAttr,UX,UA,hgX,hgY,hX1,hY1,hp0,hq0,hd1,hd2,Int.toNat_natCast ];rfl) ?_ (by simp only [WE,simprocAttr,UX,UA];rfl) (by simp only [WE,simprocAttr,UX,UA];rfl) (by simp only [List.nil_append,List.cons_append];rfl) (by simp only [zn2];rfl) ?_;focus (first | trivial | ((repeat' apply And.intro) <;> first | trivial | assumption | (clear hK' hfin hgops;intros;simp_all;done))))
     (refine vcX_nil (by subst hfin;kernel_rfl) ?_)
     clear hfin hgops fin gops
     (try (apply hK';clear hK' K')))
    repeat' (first|(with_reducible apply zz1)|((with_reducible apply zz2);rfl;intro K' hK';simp only [WE,simprocAttr,hw1];(repeat (constructor;focus (clear hK';intros;simp_all;done)));(try (apply hK';clear hK' K')))|((with_reducible apply zz3);rfl;all_goals (intro h;try exact absurd h (by decide))))
    refine ⟨(j + 1,v,.mk xk xso xnm xls xl,.mk yk yso ynm yls yl),⟨(by show j + 1 ≤ l.length;omega),I2⟩,(by show l.length - (j + 1) < l.length - j;omega),by simp only [Tp.cs,monC];refine sub_of h0 ?_ ?_ ?_ <;> simp only [US,WE,simprocAttr]⟩
  · have hpos : 0 < ls.length:=labels_one hl
    have hPk:=pick_fn Γ pk (ls.length : Nat) hpr.1 hpr.2 (by omega)
    have hpi:=pickI_rng (k:=pk) (n:=(ls.length : Nat)) (by omega)
    obtain ⟨q,hqe⟩ : ∃ q : Nat,pickI pk (ls.length : Nat) = (q : Int):=⟨(pickI pk (ls.length : Nat)).toNat,by omega⟩
    rw [hqe] at hPk hpi
    have hq0 : (0 : Int) ≤ (q : Int):=hpi.1
    have hq1 : (q : Int) < (ls.length : Int):=hpi.2
    obtain ⟨lab,hq⟩ : ∃ lab,ls[q]? = some lab:=⟨ls[q]'(by omega),by simp⟩
    have hgl : (ls.map sD).getD q default = sD lab:=by simp [List.getD,hq]
    obtain ⟨p,X,Y,hix,hX,hY,hn,I2⟩:=I.offer Hg hS hT (sort_nodup (labels_sort hl)) (sort_nodup (labels_sort hl')) hn0 hn' 0 tp0 hq
    rw [hAt] at hn I2
    have hIx:=indexS_fn Γ ls' lab (by have:=labels_len hl';omega)
    rw [hix] at hIx
    have hev:=ev_label Γ hv (kd:=7) (.inr rfl) lab
    have hTk:=take_fine Γ Hg lg I.rg hj4 hev (.inr (.inr (.inr (.inr (.inr rfl))))) (fun e=>by omega) (by rw [hAt];exact hn) I2.rg.1
    have hX1 : (q : Int) < (l1.length : Int):=by have:=(List.getElem?_eq_some_iff.1 hX).1;omega
    have hY1 : (p : Int) < (l2.length : Int):=by have:=(List.getElem?_eq_some_iff.1 hY).1;omega
    have hgX:=Tp.ds_get l1 q X hX
    have hgY:=Tp.ds_get l2 p Y hY
    have hp0 : (0 : Int) ≤ (p : Int):=by omega
    have hpn : ¬ (p : Int) < 0:=by omega
    have hqn : ¬ (q : Int) < 0:=by omega
    have hd1:=Tp.ds_len l1
    have hd2:=Tp.ds_len l2
    clear hev hn hqe hpi hix hq
    generalize nd0.to.getD q 0 = v at *
    obtain ⟨xk,xso,xnm,xls,xl⟩:=X
    obtain ⟨yk,yso,ynm,yls,yl⟩:=Y
    simp only [evD,tp0,Tp.ds,List.map_nil,monC] at hTk
    simp only [Tp.d] at hgX hgY
    repeat' (first|(with_reducible apply zz1)|((with_reducible apply zz2);rfl;intro K' hK';simp only [WE,simprocAttr,Int.reduceBEq,List.length_map];(repeat (constructor;focus (clear hK';intros;simp_all;done)));(try (apply hK';clear hK' K')))|((with_reducible apply zz3);rfl;all_goals (intro h;try exact absurd h (by decide))))
    refine stop_callF rfl (by simp only [WE,simprocAttr]) rfl rfl (hPk) ?_
    simp only [WE,simprocAttr,inX,dropS,List.length_map]
    (repeat (constructor;focus (clear hK';intros;simp_all;done)))
    (try (apply hK';clear hK' K'))
    repeat' (first|(with_reducible apply zz1)|((with_reducible apply zz2);rfl;intro K' hK';simp only [WE,simprocAttr,List.length_map,Int.toNat_natCast,hgl,hq0,hq1];(repeat (constructor;focus (clear hK';intros;simp_all;done)));(try (apply hK';clear hK' K')))|((with_reducible apply zz3);rfl;all_goals (intro h;try exact absurd h (by decide))))
    refine stop_callF rfl (by simp only [WE,simprocAttr]) rfl rfl (hIx) ?_
    simp only [WE,simprocAttr,inX,dropS,List.length_map]
    (repeat (constructor;focus (clear hK';intros;simp_all;done)))
    (try (apply hK';clear hK' K'))
    repeat' (first|(with_reducible apply zz1)|((with_reducible apply zz2);rfl;intro K' hK';simp only [WE,simprocAttr,Int.reduceBEq];(repeat (constructor;focus (clear hK';intros;simp_all;done)));(try (apply hK';clear hK' K')))|((with_reducible apply zz3);rfl;all_goals (intro h;try exact absurd h (by decide))))
    refine stop_callF rfl (by simp only [WE,simprocAttr]) rfl rfl (hC0) ?_
    simp only [WE,simprocAttr,inX,dropS,e10,Int.reduceBEq,cond_true,cond_false]
    (repeat (constructor;focus (clear hK';intros;simp_all;done)))
    (try (apply hK';clear hK' K'))
    repeat' (first|(with_reducible apply zz1)|((with_reducible apply zz2);rfl;intro K' hK';simp only [WE,simprocAttr,Int.reduceBEq];(repeat (constructor;focus (clear hK';intros;simp_all;done)));(try (apply hK';clear hK' K')))|((with_reducible apply zz3);rfl;all_goals (intro h;try exact absurd h (by decide))))
    refine stop_cS rfl (by simp only [UA,WE,simprocAttr]) (hTk) ?_
    simp only [WE,simprocAttr,UM, ]
    (try (apply hK';clear hK' K'))
    repeat' (first|(with_reducible apply zz1)|((with_reducible apply zz2);rfl;intro K' hK';simp only [WE,simprocAttr,bne_self_eq_false,cond_false,hpn,hqn,decide_false];(repeat (constructor;focus (clear hK';intros;simp_all;done)));(try (apply hK';clear hK' K')))|((with_reducible apply zz3);rfl;all_goals (intro h;try exact absurd h (by decide))))
    -- TRACE
    (with_reducible refine swp_drawX ?_ ?_ ?_ (⟨⟨[],[]⟩,[],[],[],[]⟩) _ rfl (fun K' hK' gops fin hgops hfin=>?_)
     · kernel_rfl
     · rfl
     · rfl
     repeat' first
      | (refine vcX_dead rfl trivial (by simp only [WE,simprocAttr,UX,UA];rfl) (by simp only [List.nil_append,List.cons_append];rfl) (by simp only [zn2];rfl) ?_)
      | (refine vcX_step rfl rfl trivial (by simp only [WE,simprocAttr,UX,UA,hgX,hgY,hX1,hY1,hp0,hq0,hd1,hd2,Int.toNat_natCast ];rfl) ?_ (by simp only [WE,simprocAttr,UX,UA];rfl) (by simp only [WE,simprocAttr,UX,UA];rfl) (by simp only [List.nil_append,List.cons_append];rfl) (by simp only [zn2];rfl) ?_;focus (first | trivial | ((repeat' apply And.intro) <;> first | trivial | assumption | (clear hK' hfin hgops;intros;simp_all;done))))
     (refine vcX_nil (by subst hfin;kernel_rfl) ?_)
     clear hfin hgops fin gops
     (try (apply hK';clear hK' K')))
    repeat' (first|(with_reducible apply zz1)|((with_reducible apply zz2);rfl;intro K' hK';simp only [WE,simprocAttr,hw1];(repeat (constructor;focus (clear hK';intros;simp_all;done)));(try (apply hK';clear hK' K')))|((with_reducible apply zz3);rfl;all_goals (intro h;try exact absurd h (by decide))))
    refine ⟨(j + 1,v,.mk xk xso xnm xls xl,.mk yk yso ynm yls yl),⟨(by show j + 1 ≤ l.length;omega),I2⟩,(by show l.length - (j + 1) < l.length - j;omega),by simp only [Tp.cs,monC];refine sub_of h0 ?_ ?_ ?_ <;> simp only [US,WE,simprocAttr]⟩
 | bind=>exact absurd rfl os.2.1
 | var=>exact os.1.no9.elim
end Go.Proofs.YtgecnlcbdbaneaaDoor
