/- The law MonitorMirror; a symbolic walk. -/
-- TYPESE
import Derived.Test.YtgecnlcbdbaneaaDoorKV8
import Derived.Test.YtgecnlcbdbaneaaDoorKB3
import Derived.Test.YtgecnlcbdbaneaaDoorHG
set_option linter.unusedVariables false
set_option linter.unusedSimpArgs false
namespace Go.Proofs.YtgecnlcbdbaneaaDoor
open Go.RowKit Go.Sw
open Go.Sw renaming swp_seq → zw0, kseq_n → zw6

def siE : Tp:=.mk 2 1 noB [] [endT]
theorem siE_ok : tCheck siE = 0 ∧ (gAt (ofP siE) 0).k = 2:=by decide +kernel
theorem ptr51 : Tryd.prog.underlying 51 = some (.pointer (Tryd.prog.pointee 51)):=by kernel_rfl
def EvBoth (Γ : Gl) : Prop := ∀ (kd vs vn : Int) (vS : ByteArray) (c : Tp) (lab : ByteArray),szT c → ∃ r,EvFn Γ kd vs vn vS c lab r ∧ EvFn Γ (dKind kd) vs vn vS c lab r ∧ (r = 0 → kdOK kd ∧ (kd = 4 ∨ kd = 5 → tCheck c = 0))
theorem mo0 {x : Tp} (hx : tCheck x = 0) : MoOK (ofP x) ⟨0,0,0⟩:=⟨⟨by decide,by have:=(ofP_gd hx).pos;simp only;omega⟩,by simp only;omega⟩
theorem backM_any (Γ : Gl) {x : Tp} (h : tCheck x = 0) : ∃ (P : Tp) (v : Bool),DFn Tryd.prog Γ 21 [.slc ((dG x).map Nd.d),iD 0] (.tup [P.d,bD v]) ∧ (v = true → tCheck P = 0 ∧ ∀ n,obs (ofP P) n 0 = dT n (obs (ofP x) n 0)):=by
 have k:=keepback_fn Γ (dG_gd h)
 cases hv : (backG (dG x)).2 with
 | false =>
  rw [hv,if_neg (by decide)] at k
  exact ⟨tp0,false,k,fun e=>by cases e⟩
 | true =>
  rw [hv,if_pos rfl] at k
  refine ⟨_,true,k,fun _=>?_⟩
  have G:=dG_gd h
  obtain ⟨h1,h2⟩:=back_spec G.pos G.ok G.sh G.le hv
  exact ⟨h1,fun n=>by rw [ofP_obs h1,h2,(dG_good h).2.2.2.2 n,ofP_obs h]⟩
set_option maxHeartbeats 32000000 in
set_option maxRecDepth 100000 in
theorem mirrorLaw0 (Γ : Gl) (hΓ : PowT Γ) (hEv : EvBoth Γ) (x : Tp) (l : List Ev) (hll : l.length ≤ 140737488355328) (hsz : ∀ e ∈ l,szT e.c) : DFn Tryd.prog Γ 10 [x.d,.slc (l.map Ev.d)] (.v (.bool true)):=by
 have hN1 : SFn Tryd.prog Γ 28 [.d siE.d] [] (.tup [.ref 10 0,.d (iD 0)]) [(10,.cells (monC (ofP siE) 0 0 0))]:=(new_ok Γ siE_ok.1).up 9
 have hX1 : SFn Tryd.prog Γ 32 [.ref 10 0] [(10,.cells (monC (ofP siE) 0 0 0))] (.d (iD 2)) [(10,.cells (monC (ofP siE) 0 0 0))]:=by
  have:=(next_fnM Γ (ofP_gd siE_ok.1) (mo0 siE_ok.1) rfl).up 10
  rw [siE_ok.2] at this
  exact this
 simp only [siE,endT,Tp.d,Tp.ds,List.map_nil,monC] at hN1 hX1
 obtain ⟨k,so,nm,ls,l'⟩:=x
 simp only [Tp.d]
 refine fn_of_swp (N:=135) Tryd.func10 rfl (by decide) rfl rfl (by simp) (fun C h0=>?_)
 simp only [argE]
 refine zw0 ?_
 (with_reducible refine swp_region ?_ (fun K' hK'=>?_)
  · rfl
  simp only [WE,simprocAttr]
  (repeat (refine And.intro ?_ ?_;focus (clear hK';intros;simp_all;done))))
 refine hK' _ _ ?_
 clear hK' K'
 refine zw6 ?_
 refine zw0 ?_
 (with_reducible refine swp_regionS (fun K' hK'=>?_))
 refine vcTo_ok 3 rfl ?_
 simp only [WE,simprocAttr,vcTo]
 (repeat (refine And.intro ?_ ?_;focus (clear hK';intros;simp_all;done)))
 refine stop_frz [1] h0 (by simp only [Option.isSome_some,UF,WE,simprocAttr]) ?_
 simp only [WE,simprocAttr,UF]
 refine stop_cS rfl (by simp only [UA,WE,simprocAttr]) (hN1) ?_
 simp only [WE,simprocAttr,UM, ]
 (try (refine hK' _ _ ?_;clear hK' K'))
 refine zw6 ?_
 refine zw0 ?_
 refine zw0 ?_
 (with_reducible refine swp_regionS (fun K' hK'=>?_))
 refine vcTo_ok 3 rfl ?_
 simp only [WE,simprocAttr,vcTo,  bne_self_eq_false]
 (repeat (refine And.intro ?_ ?_;focus (clear hK';intros;simp_all;done)))
 refine stop_guard rfl ?_
 refine vcTo_ok 1 rfl ?_
 simp only [WE,simprocAttr,vcTo]
 (repeat (refine And.intro ?_ ?_;focus (clear hK';intros;simp_all;done)))
 refine stop_guard rfl ?_
 refine stop_refnil ptr51 rfl rfl trivial ?_
 refine vcTo_ok 2 rfl ?_
 simp only [WE,simprocAttr,vcTo,  bne_self_eq_false,cond_false,cond_true]
 (repeat (refine And.intro ?_ ?_;focus (clear hK';intros;simp_all;done)))
 refine stop_guard rfl ?_
 refine vcTo_ok 1 rfl ?_
 simp only [WE,simprocAttr,vcTo]
 (repeat (refine And.intro ?_ ?_;focus (clear hK';intros;simp_all;done)))
 refine stop_guard rfl ?_
 refine stop_cS rfl (by simp only [UA,WE,simprocAttr]) (hX1) ?_
 simp only [WE,simprocAttr,UM, ]
 (try (refine hK' _ _ ?_;clear hK' K'))
 (repeat (refine And.intro ?_ ?_;focus (clear hK';intros;simp_all;done)))
 refine hK' _ _ ?_
 clear hK' K'
 repeat' (first|(with_reducible first|apply zw0|refine swp_block ?_|refine swp_skip ?_|refine swp_ret ?_|refine swp_exit ?_|refine swp_label ?_|apply zw6|refine kseq_x ?_|refine kseq_r ?_|refine kblk_n ?_|refine kblk_r ?_|refine kblk_xs ?_|refine kloop_x ?_|refine kloop_r ?_)|((with_reducible refine kblk_xn ?_ ?_);rfl)|((with_reducible refine swp_regionP ?_ ?_ (fun K' hK'=>?_));rfl;rfl;simp only [WE,simprocAttr,bne_self_eq_false];(repeat (refine And.intro ?_ ?_;focus (clear hK';intros;simp_all;done)));(try (refine hK' _ _ ?_;clear hK' K')))|((with_reducible refine swp_cond ?_ ?_);rfl;first | refine ⟨_,rfl,fun h=>?_,fun h=>absurd h (by decide)⟩ | refine ⟨_,rfl,fun h=>absurd h (by decide),fun h=>?_⟩ | fail))
 by_cases hx : tCheck (.mk k so nm ls l') = 0
 rotate_left
 · have hN2:=new_bad Γ hx
   have g1 : (tCheck (.mk k so nm ls l') != 0) = true:=by simpa using hx
   generalize tCheck (.mk k so nm ls l') = c at *
   simp only [Tp.d] at hN2
   refine stop_callF rfl (by simp only [WE,simprocAttr]) rfl rfl (hN2) ?_
   simp only [WE,simprocAttr,inX,dropS,g1]
   (repeat (refine And.intro ?_ ?_;focus (clear hK';intros;simp_all;done)))
   (try (refine hK' _ _ ?_;clear hK' K'))
   repeat' (first|(with_reducible apply zz1)|((with_reducible refine zz4 ?_ ?_);rfl)|((with_reducible refine zz2 ?_ (fun K' hK'=>?_));rfl;simp only [WE,simprocAttr,g1];(repeat (refine And.intro ?_ ?_;focus (clear hK';intros;simp_all;done)));(try (refine hK' _ _ ?_;clear hK' K')))|((with_reducible refine zz3 ?_ ?_);rfl;refine ⟨_,rfl,fun h=>?_,fun h=>?_⟩ <;> try exact absurd h (by decide)))
   refine stop_val (.v (.bool true)) rfl rfl (fun a w h=>?_) ?_
   · have h1:=h (.tmp 49) (.v (.pointer none)) rfl rfl rfl
     have he : a.eval (.const (.pointer none)) = .pointer none:=rfl
     simp [execOp,h1,he,D.val,eqGuard,binOp,run_equal_pointer_nil w 51 none ptr51]
   simp only [WE,simprocAttr]
   (try (refine hK' _ _ ?_;clear hK' K'))
   repeat' (first|(with_reducible apply zz1)|((with_reducible refine zz4 ?_ ?_);rfl)|((with_reducible refine zz2 ?_ (fun K' hK'=>?_));rfl;simp only [WE,simprocAttr];(repeat (refine And.intro ?_ ?_;focus (clear hK';intros;simp_all;done)));(try (refine hK' _ _ ?_;clear hK' K')))|((with_reducible refine zz3 ?_ ?_);rfl;refine ⟨_,rfl,fun h=>?_,fun h=>?_⟩ <;> try exact absurd h (by decide)))
   simp only [Kret,retL,retOne,oneV,WE,simprocAttr]
 have hN2 : SFn Tryd.prog Γ 28 [.d (Tp.mk k so nm ls l').d] [] (.tup [.ref 20 0,.d (iD 0)]) [(20,.cells (monC (ofP (.mk k so nm ls l')) 0 0 0))]:=(new_ok Γ hx).up 19
 have hD:=dOf_fn Γ hΓ (.mk k so nm ls l')
 rw [hx] at hD
 obtain ⟨P,v,hB,hP⟩:=backM_any Γ hx
 simp only [Tp.d,monC] at hN2 hD
 refine stop_cS rfl (by simp only [UA,WE,simprocAttr]) (hN2) ?_
 simp only [WE,simprocAttr,UM, ]
 (try (refine hK' _ _ ?_;clear hK' K'))
 repeat' (first|(with_reducible apply zz1)|((with_reducible refine zz4 ?_ ?_);rfl)|((with_reducible refine zz2 ?_ (fun K' hK'=>?_));rfl;simp only [WE,simprocAttr,bne_self_eq_false];(repeat (refine And.intro ?_ ?_;focus (clear hK';intros;simp_all;done)));(try (refine hK' _ _ ?_;clear hK' K')))|((with_reducible refine zz3 ?_ ?_);rfl;refine ⟨_,rfl,fun h=>?_,fun h=>?_⟩ <;> try exact absurd h (by decide)))
 refine stop_call h0 rfl (by simp only [WE,simprocAttr]) rfl (by simp only [keepS,Option.isSome_some,WE,simprocAttr]) (hD) ?_
 simp only [WE,simprocAttr,inX,dropS, ]
 (repeat (refine And.intro ?_ ?_;focus (clear hK';intros;simp_all;done)))
 (try (refine hK' _ _ ?_;clear hK' K'))
 obtain ⟨pk,pso,pnm,pls,pl⟩:=P
 simp only [Tp.d] at hB
 refine stop_call h0 rfl (by simp only [WE,simprocAttr]) rfl (by simp only [keepS,Option.isSome_some,WE,simprocAttr]) (hB) ?_
 simp only [WE,simprocAttr,inX,dropS, ]
 (repeat (refine And.intro ?_ ?_;focus (clear hK';intros;simp_all;done)))
 (try (refine hK' _ _ ?_;clear hK' K'))
 cases v with
 | false =>
  repeat' (first|(with_reducible apply zz1)|((with_reducible refine zz4 ?_ ?_);rfl)|((with_reducible refine zz2 ?_ (fun K' hK'=>?_));rfl;simp only [WE,simprocAttr,Bool.not_false];(repeat (refine And.intro ?_ ?_;focus (clear hK';intros;simp_all;done)));(try (refine hK' _ _ ?_;clear hK' K')))|((with_reducible refine zz3 ?_ ?_);rfl;refine ⟨_,rfl,fun h=>?_,fun h=>?_⟩ <;> try exact absurd h (by decide)))
  simp only [Kret,retL,retOne,oneV,WE,simprocAttr]
 | true =>
 obtain ⟨hP1,hP2⟩:=hP rfl
 have hN3 : SFn Tryd.prog Γ 28 [.d (Tp.mk pk pso pnm pls pl).d] [] (.tup [.ref 30 0,.d (iD 0)]) [(30,.cells (monC (ofP (.mk pk pso pnm pls pl)) 0 0 0))]:=(new_ok Γ hP1).up 29
 simp only [Tp.d,monC] at hN3
 repeat' (first|(with_reducible apply zz1)|((with_reducible refine zz4 ?_ ?_);rfl)|((with_reducible refine zz2 ?_ (fun K' hK'=>?_));rfl;simp only [WE,simprocAttr,Bool.not_true];(repeat (refine And.intro ?_ ?_;focus (clear hK';intros;simp_all;done)));(try (refine hK' _ _ ?_;clear hK' K')))|((with_reducible refine zz3 ?_ ?_);rfl;refine ⟨_,rfl,fun h=>?_,fun h=>?_⟩ <;> try exact absurd h (by decide)))
 refine stop_cS rfl (by simp only [UA,WE,simprocAttr]) (hN3) ?_
 simp only [WE,simprocAttr,UM, ]
 (try (refine hK' _ _ ?_;clear hK' K'))
 refine zw6 ?_
 refine zw0 ?_
 refine zw0 ?_
 (with_reducible refine swp_regionS (fun K' hK'=>?_))
 refine vcTo_ok 3 rfl ?_
 simp only [WE,simprocAttr,vcTo,  bne_self_eq_false]
 (repeat (refine And.intro ?_ ?_;focus (clear hK';intros;simp_all;done)))
 refine stop_guard rfl ?_
 refine vcTo_ok 1 rfl ?_
 simp only [WE,simprocAttr,vcTo]
 (repeat (refine And.intro ?_ ?_;focus (clear hK';intros;simp_all;done)))
 refine stop_guard rfl ?_
 refine stop_refnil ptr51 rfl rfl trivial ?_
 refine vcTo_ok 2 rfl ?_
 simp only [WE,simprocAttr,vcTo,  bne_self_eq_false,cond_false,cond_true]
 (repeat (refine And.intro ?_ ?_;focus (clear hK';intros;simp_all;done)))
 refine stop_guard rfl ?_
 refine vcTo_ok 1 rfl ?_
 simp only [WE,simprocAttr,vcTo]
 (repeat (refine And.intro ?_ ?_;focus (clear hK';intros;simp_all;done)))
 refine stop_guard rfl ?_
 refine stop_refnil ptr51 rfl rfl trivial ?_
 refine vcOps_ok rfl ?_
 simp only [WE,simprocAttr]
 (repeat (refine And.intro ?_ ?_;focus (clear hK';intros;simp_all;done)))
 (try (refine hK' _ _ ?_;clear hK' K'))
 repeat' (first|(with_reducible apply zz1)|((with_reducible refine zz4 ?_ ?_);rfl)|((with_reducible refine zz2 ?_ (fun K' hK'=>?_));rfl;simp only [WE,simprocAttr];(repeat (refine And.intro ?_ ?_;focus (clear hK';intros;simp_all;done)));(try (refine hK' _ _ ?_;clear hK' K')))|((with_reducible refine zz3 ?_ ?_);rfl;refine ⟨_,rfl,fun h=>?_,fun h=>?_⟩ <;> try exact absurd h (by decide)))
 have hMir : Mir (ofP (.mk k so nm ls l')) (ofP (.mk pk pso pnm pls pl)) 0 0:=hP2
 have Hg:=ofP_gd hx
 have Hh:=ofP_gd hP1
 have lg : (ofP (.mk k so nm ls l')).length ≤ 199:=by have:=(ofP_good hx).2.1;omega
 have lh : (ofP (.mk pk pso pnm pls pl)).length ≤ 199:=by have:=(ofP_good hP1).2.1;omega
 clear hN2 hN3 hD hB hP2 hP hx hP1 hN1 hX1
 generalize ofP (.mk k so nm ls l') = g at *
 generalize ofP (.mk pk pso pnm pls pl) = h at *
 refine swp_loop (α := Nat × Mo × Mo) (fun q=>[(5,.ref 20 0),(9,.ref 30 0),(76,.d (.slc (l.map Ev.d))),(77,.d (iD l.length)),(78,.d (iD q.1))]) (fun q=>[(20,.cells (q.2.1.c g)),(30,.cells (q.2.2.c h))])
  (fun q=>q.1 ≤ l.length ∧ MirM g h q.1 q.2.1 q.2.2) (fun q=>l.length - q.1)
  (0,⟨0,0,0⟩,⟨0,0,0⟩) ⟨Nat.zero_le _,⟨⟨Int.le_refl _,by have:=Hg.pos;simp only;omega⟩,⟨Int.le_refl _,by have:=Hh.pos;simp only;omega⟩,⟨Int.le_refl _,Int.le_refl _⟩,rfl,.inl ⟨rfl,rfl,hMir⟩⟩⟩ (by simp only [Mo.c,monC];refine sub_of h0 ?_ ?_ ?_ <;> simp only [US,WE,simprocAttr,List.length_map]) (fun q hq=>?_)
 clear hMir
 obtain ⟨j,m,n⟩:=q
 obtain ⟨hj,hM⟩:=hq
 simp only at hj hM
 have hj0 : (0 : Int) ≤ (j : Int):=by omega
 by_cases hlt : j < l.length
 rotate_left
 · have hj1 : ¬ (j : Int) < (l.length : Int):=by omega
   repeat' (first|(with_reducible apply zz1)|((with_reducible refine zz4 ?_ ?_);rfl)|((with_reducible refine zz2 ?_ (fun K' hK'=>?_));rfl;simp only [WE,simprocAttr,hj1,List.length_map];(repeat (refine And.intro ?_ ?_;focus (clear hK';intros;simp_all;done)));(try (refine hK' _ _ ?_;clear hK' K')))|((with_reducible refine zz3 ?_ ?_);rfl;refine ⟨_,rfl,fun h=>?_,fun h=>?_⟩ <;> try exact absurd h (by decide)))
   simp only [Kret,retL,retOne,oneV,WE,simprocAttr]
 obtain ⟨ev,hev⟩ : ∃ ev,l[j]? = some ev:=⟨l[j],by simp [hlt]⟩
 have hxg : (l.map Ev.d).getD j default = ev.d:=by simp [List.getD,hev]
 have hsc:=hsz ev (List.mem_of_getElem? hev)
 obtain ⟨kd,vs,vn,vS,c,lab⟩:=ev
 simp only at hsc
 obtain ⟨r,hE1,hE2,hr⟩:=hEv kd vs vn vS c lab hsc
 have hj1 : (j : Int) < (l.length : Int):=by omega
 have hw1 : IntKind.i64.wrap ((j : Int) + 1) = ((j + 1 : Nat) : Int):=by rw [wrap_in (by omega) (by omega)];omega
 have hMo:=hM.ok (by omega)
 have hT:=take_mir Hg Hh lg lh hM hr vs lab
 have hMo2:=hT.ok (by omega)
 have hst:=state_mir hT
 have hr1 : r = 0 → (kd = 2 ∨ kd = 3 ∨ kd = 4 ∨ kd = 5 ∨ kd = 6 ∨ kd = 7) ∧ (kd = 4 ∨ kd = 5 → tCheck c = 0):=hr
 have hr2 : r = 0 → (dKind kd = 2 ∨ dKind kd = 3 ∨ dKind kd = 4 ∨ dKind kd = 5 ∨ dKind kd = 6 ∨ dKind kd = 7) ∧ (dKind kd = 4 ∨ dKind kd = 5 → tCheck c = 0):=fun e=>⟨kd_dual (hr e).1,fun h45=>(hr e).2 (by
  rcases h45 with h45 | h45 <;> have e2:=congrArg dKind h45 <;> rw [dKind_inv] at e2
  · exact .inr (by rw [e2];decide)
  · exact .inl (by rw [e2];decide))⟩
 have hT1 : SFn Tryd.prog Γ 36 [.ref 20 0,.d (evD kd vs vn vS c lab)] [(20,.cells (m.c g))] (.tup [.d (iD (if r ≠ 0 then 0 else (takeS g m r kd vs c lab).vd)),.d (iD r)]) [(20,.cells ((takeS g m r kd vs c lab).c g))]:=(take_fn Γ Hg lg hMo.1 kd vs vn vS c lab hE1 hr1).up 20
 have hT2 : SFn Tryd.prog Γ 36 [.ref 30 0,.d (evD (dKind kd) vs vn vS c lab)] [(30,.cells (n.c h))] (.tup [.d (iD (if r ≠ 0 then 0 else (takeS h n r (dKind kd) vs c lab).vd)),.d (iD r)]) [(30,.cells ((takeS h n r (dKind kd) vs c lab).c h))]:=(take_fn Γ Hh lh hMo.2 (dKind kd) vs vn vS c lab hE2 hr2).up 30
 have hK:=kind_fn Γ kd
 clear hE1 hE2 hr1 hr2 hr hsc hev
 generalize takeS g m r kd vs c lab = m2 at *
 generalize takeS h n r (dKind kd) vs c lab = n2 at *
 generalize dKind kd = kd2 at *
 have hS1 : SFn Tryd.prog Γ 29 [.ref 20 0] [(20,.cells (m2.c g))] (.tup [.d (iD m2.dn),.d (iD m2.vd),.d (bD (m2.vd == 0 && (gAt g m2.a).k == 1))]) [(20,.cells (m2.c g))]:=(state_fn Γ Hg hMo2.1).up 20
 have hS2 : SFn Tryd.prog Γ 29 [.ref 30 0] [(30,.cells (n2.c h))] (.tup [.d (iD n2.dn),.d (iD n2.vd),.d (bD (n2.vd == 0 && (gAt h n2.a).k == 1))]) [(30,.cells (n2.c h))]:=(state_fn Γ Hh hMo2.2).up 30
 rw [hst,hT.de] at hS2
 have hv : r ≠ 0 ∨ r = 0 ∧ ((m2.vd = 0 ∧ n2.vd = 0) ∨ (m2.vd = 1 ∧ n2.vd = 2) ∨ (m2.vd = 2 ∧ n2.vd = 1)):=by
  by_cases h0 : r = 0
  · refine .inr ⟨h0,?_⟩
    rcases hT.v with ⟨v1,v2, -⟩ | v | v
    · exact .inl ⟨v1,v2⟩
    · exact .inr (.inl v)
    · exact .inr (.inr v)
  · exact .inl h0
 obtain ⟨ck,cso,cnm,cls,cl⟩:=c
 obtain ⟨ma,mv,md⟩:=m
 obtain ⟨na,nv,nd⟩:=n
 have hde:=hT.de
 obtain ⟨ma2,mv2,md2⟩:=m2
 obtain ⟨na2,nv2,nd2⟩:=n2
 simp only at hde hv
 subst hde
 generalize hb : (mv2 == 0 && (gAt g ma2).k == 1) = b at *
 simp only [Ev.d,evD,Mo.c,monC] at hxg hT1 hT2 hS1 hS2 ⊢
 rcases hv with hr0 | ⟨hr0,hv⟩
 · have g1 : (r == 0) = false:=by simpa using hr0
   rw [if_pos hr0] at hT1 hT2
   repeat' (first|(with_reducible apply zz1)|((with_reducible refine zz4 ?_ ?_);rfl)|((with_reducible refine zz2 ?_ (fun K' hK'=>?_));rfl;simp only [WE,simprocAttr,hj0,hj1,hxg,List.length_map,Int.toNat_natCast];(repeat (refine And.intro ?_ ?_;focus (clear hK';intros;simp_all;done)));(try (refine hK' _ _ ?_;clear hK' K')))|((with_reducible refine zz3 ?_ ?_);rfl;refine ⟨_,rfl,fun h=>?_,fun h=>?_⟩ <;> try exact absurd h (by decide)))
   refine stop_callF rfl (by simp only [WE,simprocAttr]) rfl rfl (hK) ?_
   simp only [WE,simprocAttr,inX,dropS, ]
   (repeat (refine And.intro ?_ ?_;focus (clear hK';intros;simp_all;done)))
   (try (refine hK' _ _ ?_;clear hK' K'))
   repeat' (first|(with_reducible apply zz1)|((with_reducible refine zz4 ?_ ?_);rfl)|((with_reducible refine zz2 ?_ (fun K' hK'=>?_));rfl;simp only [WE,simprocAttr,hj0,hj1,hxg,List.length_map,Int.toNat_natCast];(repeat (refine And.intro ?_ ?_;focus (clear hK';intros;simp_all;done)));(try (refine hK' _ _ ?_;clear hK' K')))|((with_reducible refine zz3 ?_ ?_);rfl;refine ⟨_,rfl,fun h=>?_,fun h=>?_⟩ <;> try exact absurd h (by decide)))
   refine stop_cS rfl (by simp only [UA,WE,simprocAttr]) (hT1) ?_
   simp only [WE,simprocAttr,UM, ]
   (try (refine hK' _ _ ?_;clear hK' K'))
   repeat' (first|(with_reducible apply zz1)|((with_reducible refine zz4 ?_ ?_);rfl)|((with_reducible refine zz2 ?_ (fun K' hK'=>?_));rfl;simp only [WE,simprocAttr,hj0];(repeat (refine And.intro ?_ ?_;focus (clear hK';intros;simp_all;done)));(try (refine hK' _ _ ?_;clear hK' K')))|((with_reducible refine zz3 ?_ ?_);rfl;refine ⟨_,rfl,fun h=>?_,fun h=>?_⟩ <;> try exact absurd h (by decide)))
   refine stop_cS rfl (by simp only [UA,WE,simprocAttr]) (hT2) ?_
   simp only [WE,simprocAttr,UM, ]
   (try (refine hK' _ _ ?_;clear hK' K'))
   refine zw6 ?_
   refine zw0 ?_
   refine zw0 ?_
   (with_reducible refine swp_regionS (fun K' hK'=>?_))
   refine vcTo_ok 4 rfl ?_
   simp only [WE,simprocAttr,vcTo,  bne_self_eq_false]
   (repeat (refine And.intro ?_ ?_;focus (clear hK';intros;simp_all;done)))
   iterate 3 (refine stop_guard rfl ?_;refine vcTo_ok 1 rfl ?_;simp only [WE,simprocAttr,vcTo,g1];(repeat (refine And.intro ?_ ?_;focus (clear hK';intros;simp_all;done))))
   iterate 6 (refine stop_unmetS rfl rfl ?_;simp only [putO,UN,WE,simprocAttr,bne_self_eq_false,g1])
   refine stop_guard rfl ?_
   refine vcOps_ok rfl ?_
   simp only [WE,simprocAttr,bne_self_eq_false,g1]
   (repeat (refine And.intro ?_ ?_;focus (clear hK';intros;simp_all;done)))
   (try (refine hK' _ _ ?_;clear hK' K'))
   repeat' (first|(with_reducible apply zz1)|((with_reducible refine zz4 ?_ ?_);rfl)|((with_reducible refine zz2 ?_ (fun K' hK'=>?_));rfl;simp only [WE,simprocAttr,bne_self_eq_false];(repeat (refine And.intro ?_ ?_;focus (clear hK';intros;simp_all;done)));(try (refine hK' _ _ ?_;clear hK' K')))|((with_reducible refine zz3 ?_ ?_);rfl;refine ⟨_,rfl,fun h=>?_,fun h=>?_⟩ <;> try exact absurd h (by decide)))
   refine stop_cS rfl (by simp only [UA,WE,simprocAttr]) (hS1) ?_
   simp only [WE,simprocAttr,UM, ]
   (try (refine hK' _ _ ?_;clear hK' K'))
   repeat' (first|(with_reducible apply zz1)|((with_reducible refine zz4 ?_ ?_);rfl)|((with_reducible refine zz2 ?_ (fun K' hK'=>?_));rfl;simp only [WE,simprocAttr,bne_self_eq_false];(repeat (refine And.intro ?_ ?_;focus (clear hK';intros;simp_all;done)));(try (refine hK' _ _ ?_;clear hK' K')))|((with_reducible refine zz3 ?_ ?_);rfl;refine ⟨_,rfl,fun h=>?_,fun h=>?_⟩ <;> try exact absurd h (by decide)))
   refine stop_cS rfl (by simp only [UA,WE,simprocAttr]) (hS2) ?_
   simp only [WE,simprocAttr,UM, ]
   (try (refine hK' _ _ ?_;clear hK' K'))
   repeat' (first|(with_reducible apply zz1)|((with_reducible refine zz4 ?_ ?_);rfl)|((with_reducible refine zz2 ?_ (fun K' hK'=>?_));rfl;simp only [WE,simprocAttr,bne_self_eq_false,hw1];(repeat (refine And.intro ?_ ?_;focus (clear hK';intros;simp_all;done)));(try (refine hK' _ _ ?_;clear hK' K')))|((with_reducible refine zz3 ?_ ?_);rfl;refine ⟨_,rfl,fun h=>?_,fun h=>?_⟩ <;> try exact absurd h (by decide)))
   refine ⟨(j + 1,_,_),⟨(by show j + 1 ≤ l.length;omega),hT⟩,(by show l.length - (j + 1) < l.length - j;omega),by refine sub_of h0 ?_ ?_ ?_ <;> simp only [US,WE,simprocAttr]⟩
 subst hr0
 rw [if_neg (by decide)] at hT1 hT2
 clear hb
 rcases hv with ⟨rfl,rfl⟩ | ⟨rfl,rfl⟩ | ⟨rfl,rfl⟩
 all_goals
  repeat' (first|(with_reducible apply zz1)|((with_reducible refine zz4 ?_ ?_);rfl)|((with_reducible refine zz2 ?_ (fun K' hK'=>?_));rfl;simp only [WE,simprocAttr,hj0,hj1,hxg,List.length_map,Int.toNat_natCast];(repeat (refine And.intro ?_ ?_;focus (clear hK';intros;simp_all;done)));(try (refine hK' _ _ ?_;clear hK' K')))|((with_reducible refine zz3 ?_ ?_);rfl;refine ⟨_,rfl,fun h=>?_,fun h=>?_⟩ <;> try exact absurd h (by decide)))
  refine stop_callF rfl (by simp only [WE,simprocAttr]) rfl rfl (hK) ?_
  simp only [WE,simprocAttr,inX,dropS, ]
  (repeat (refine And.intro ?_ ?_;focus (clear hK';intros;simp_all;done)))
  (try (refine hK' _ _ ?_;clear hK' K'))
  repeat' (first|(with_reducible apply zz1)|((with_reducible refine zz4 ?_ ?_);rfl)|((with_reducible refine zz2 ?_ (fun K' hK'=>?_));rfl;simp only [WE,simprocAttr,hj0,hj1,hxg,List.length_map,Int.toNat_natCast];(repeat (refine And.intro ?_ ?_;focus (clear hK';intros;simp_all;done)));(try (refine hK' _ _ ?_;clear hK' K')))|((with_reducible refine zz3 ?_ ?_);rfl;refine ⟨_,rfl,fun h=>?_,fun h=>?_⟩ <;> try exact absurd h (by decide)))
  refine stop_cS rfl (by simp only [UA,WE,simprocAttr]) (hT1) ?_
  simp only [WE,simprocAttr,UM, ]
  (try (refine hK' _ _ ?_;clear hK' K'))
  repeat' (first|(with_reducible apply zz1)|((with_reducible refine zz4 ?_ ?_);rfl)|((with_reducible refine zz2 ?_ (fun K' hK'=>?_));rfl;simp only [WE,simprocAttr,hj0];(repeat (refine And.intro ?_ ?_;focus (clear hK';intros;simp_all;done)));(try (refine hK' _ _ ?_;clear hK' K')))|((with_reducible refine zz3 ?_ ?_);rfl;refine ⟨_,rfl,fun h=>?_,fun h=>?_⟩ <;> try exact absurd h (by decide)))
  refine stop_cS rfl (by simp only [UA,WE,simprocAttr]) (hT2) ?_
  simp only [WE,simprocAttr,UM, ]
  (try (refine hK' _ _ ?_;clear hK' K'))
  refine zw6 ?_
  refine zw0 ?_
  refine zw0 ?_
  (with_reducible refine swp_regionS (fun K' hK'=>?_))
  refine vcTo_ok 4 rfl ?_
  simp only [WE,simprocAttr,vcTo,  bne_self_eq_false]
  (repeat (refine And.intro ?_ ?_;focus (clear hK';intros;simp_all;done)))
  iterate 3 (refine stop_guard rfl ?_;refine vcTo_ok 1 rfl ?_;simp only [WE,simprocAttr,vcTo,bne_self_eq_false,beq_self_eq_true];(repeat (refine And.intro ?_ ?_;focus (clear hK';intros;simp_all;done))))
  iterate 6 (refine stop_guard rfl ?_;refine vcTo_ok 1 rfl ?_;simp only [WE,simprocAttr,vcTo,bne_self_eq_false,beq_self_eq_true];(repeat (refine And.intro ?_ ?_;focus (clear hK';intros;simp_all;done))))
  refine stop_guard rfl ?_
  refine vcOps_ok rfl ?_
  simp only [WE,simprocAttr,bne_self_eq_false,beq_self_eq_true]
  (repeat (refine And.intro ?_ ?_;focus (clear hK';intros;simp_all;done)))
  (try (refine hK' _ _ ?_;clear hK' K'))
  repeat' (first|(with_reducible apply zz1)|((with_reducible refine zz4 ?_ ?_);rfl)|((with_reducible refine zz2 ?_ (fun K' hK'=>?_));rfl;simp only [WE,simprocAttr,bne_self_eq_false];(repeat (refine And.intro ?_ ?_;focus (clear hK';intros;simp_all;done)));(try (refine hK' _ _ ?_;clear hK' K')))|((with_reducible refine zz3 ?_ ?_);rfl;refine ⟨_,rfl,fun h=>?_,fun h=>?_⟩ <;> try exact absurd h (by decide)))
  refine stop_cS rfl (by simp only [UA,WE,simprocAttr]) (hS1) ?_
  simp only [WE,simprocAttr,UM, ]
  (try (refine hK' _ _ ?_;clear hK' K'))
  repeat' (first|(with_reducible apply zz1)|((with_reducible refine zz4 ?_ ?_);rfl)|((with_reducible refine zz2 ?_ (fun K' hK'=>?_));rfl;simp only [WE,simprocAttr,bne_self_eq_false];(repeat (refine And.intro ?_ ?_;focus (clear hK';intros;simp_all;done)));(try (refine hK' _ _ ?_;clear hK' K')))|((with_reducible refine zz3 ?_ ?_);rfl;refine ⟨_,rfl,fun h=>?_,fun h=>?_⟩ <;> try exact absurd h (by decide)))
  refine stop_cS rfl (by simp only [UA,WE,simprocAttr]) (hS2) ?_
  simp only [WE,simprocAttr,UM, ]
  (try (refine hK' _ _ ?_;clear hK' K'))
  repeat' (first|(with_reducible apply zz1)|((with_reducible refine zz4 ?_ ?_);rfl)|((with_reducible refine zz2 ?_ (fun K' hK'=>?_));rfl;simp only [WE,simprocAttr,bne_self_eq_false,hw1];(repeat (refine And.intro ?_ ?_;focus (clear hK';intros;simp_all;done)));(try (refine hK' _ _ ?_;clear hK' K')))|((with_reducible refine zz3 ?_ ?_);rfl;refine ⟨_,rfl,fun h=>?_,fun h=>?_⟩ <;> try exact absurd h (by decide)))
  refine ⟨(j + 1,_,_),⟨(by show j + 1 ≤ l.length;omega),hT⟩,(by show l.length - (j + 1) < l.length - j;omega),by refine sub_of h0 ?_ ?_ ?_ <;> simp only [US,WE,simprocAttr]⟩
end Go.Proofs.YtgecnlcbdbaneaaDoor
