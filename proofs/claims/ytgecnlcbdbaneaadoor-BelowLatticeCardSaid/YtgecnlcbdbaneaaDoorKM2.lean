/- The law BelowLattice; a symbolic walk. -/
-- TYPESD
import Derived.Test.YtgecnlcbdbaneaaDoorKM1
import Derived.Test.YtgecnlcbdbaneaaDoorH21
set_option linter.unusedVariables false
set_option linter.unusedSimpArgs false
namespace Go.Proofs.YtgecnlcbdbaneaaDoor
open Go.RowKit Go.Sw
open _root_.Bool renaming not_true → za, not_false → zb
open _root_.Option renaming isSome_some → ze
open Go.Sw renaming swp_seq → zw0, kseq_n → zw6

theorem back_bnd (Γ : Gl) {a b : List Nd} (Ha : Gd a) (Hb : Gd b) {u : Int} (hu : u = 0 ∨ u = 1) : ∃ (X : Tp) (v : Bool),DFn Tryd.prog Γ 21 [.slc ((bndG a b u).map Nd.d),iD (bndE a b u)] (.tup [X.d,bD v]) ∧ (v = true → bndE a b u = 0 ∧ tCheck X = 0 ∧ ∀ n,obs (ofP X) n 0 = obs (bndG a b u) n 0):=by
 by_cases h : bndE a b u = 0
 · obtain ⟨-, -,G, -, -⟩:=bnd_both Ha Hb hu h
   have k:=keepback_fn Γ G
   rw [h]
   cases hv : (backG (bndG a b u)).2 with
   | false =>
    rw [hv,if_neg (by decide)] at k
    exact ⟨tp0,false,k,fun e=>by cases e⟩
   | true =>
    rw [hv,if_pos rfl] at k
    obtain ⟨h1,h2⟩:=back_spec G.pos G.ok G.sh G.le hv
    exact ⟨_,true,k,fun _=>⟨rfl,h1,fun n=>by rw [ofP_obs h1,h2]⟩⟩
 · exact ⟨tp0,false,keepback_bad Γ _ _ h,fun e=>by cases e⟩
theorem eq_gd (Γ : Gl) {g : List Nd} (H : g = [] ∨ Gd g) : DFn Tryd.prog Γ 16 [.slc (g.map Nd.d),.slc (g.map Nd.d)] (bD true):=by
 have hl : g.length ≤ 140737488355328:=by
  rcases H with rfl | H
  · simp
  · have:=H.le;omega
 have := equalG_fn Γ g g hl fun n hn=>by
  rcases H with rfl | H
  · cases hn
  · have:=(H.ok n hn).ok
    have h1:=this.ls
    have h2:=this.to
    omega
 rwa [eqG_refl] at this
theorem bndG_gd {a b : List Nd} (Ha : Gd a) (Hb : Gd b) {u : Int} (hu : u = 0 ∨ u = 1) : bndG a b u = [] ∨ Gd (bndG a b u):=by
 by_cases h : bndE a b u = 0
 · exact .inr (bnd_both Ha Hb hu h).2.2.1
 · exact .inl (by unfold bndG;rw [if_neg h])
set_option maxHeartbeats 16000000 in
set_option maxRecDepth 100000 in
theorem latticeLaw (Γ : Gl) (hΓ : PowT Γ) (x y : Tp) (hsz : szT y) : DFn Tryd.prog Γ 6 [x.d,y.d] (.v (.bool true)):=by
 have hF:=join_fn Γ hΓ endT endT
 have hl1:=first_join.2
 rw [first_join.1] at hF
 simp only [endT,Tp.d,Tp.ds,List.map_nil] at hF
 obtain ⟨F,hFe⟩ : ∃ F,(bdR (.mk 1 0 noB [] []) (.mk 1 0 noB [] []) 1).map Nd.d = F:=⟨_,rfl⟩
 have hFl : F.length = 1:=by rw [← hFe,List.length_map];exact hl1
 rw [hFe] at hF
 have hFl2 : ((F.length : Int) != 1) = false:=by rw [hFl];rfl
 clear hFe hl1 hFl
 have hO:=of_fn Γ x
 unfold OfFn at hO
 by_cases hx : tCheck x = 0
 rotate_left
 · have hA : ofP x = []:=by unfold ofP;rw [if_neg hx]
   rw [hA] at hO
   have g1 : (tCheck x != 0) = true:=by simpa using hx
   generalize tCheck x = cx at *
   clear hA
   obtain ⟨k,so,nm,ls,l⟩:=x
   obtain ⟨k',so',nm',ls',l'⟩:=y
   simp only [Tp.d,List.map_nil] at hO ⊢
   refine fn_of_swp (N:=188) Tryd.func6 rfl (by decide) rfl rfl (by simp) (fun C h0=>?_)
   simp only [argE]
   repeat' (first|(with_reducible apply zz1)|((with_reducible apply zz4);rfl)|((with_reducible apply zz2);rfl;intro K' hK';simp only [WD,simprocAttr];(repeat (constructor;focus (clear hK';intros;simp_all;done)));(try (apply hK';clear hK' K')))|((with_reducible apply zz3);rfl;refine ⟨_,rfl,fun h=>?_,fun h=>?_⟩ <;> try exact absurd h (by decide)))
   refine stop_call h0 rfl (by simp only [WD,simprocAttr]) rfl (by simp only [keepS,ze,WD,simprocAttr]) (hF) ?_
   simp only [WD,simprocAttr,inX,dropS, ]
   (repeat (constructor;focus (clear hK';intros;simp_all;done)))
   (try (apply hK';clear hK' K'))
   repeat' (first|(with_reducible apply zz1)|((with_reducible apply zz4);rfl)|((with_reducible apply zz2);rfl;intro K' hK';simp only [WD,simprocAttr,hFl2,za,zb,cond_true,cond_false,bne_self_eq_false,beq_self_eq_true];(repeat (constructor;focus (clear hK';intros;simp_all;done)));(try (apply hK';clear hK' K')))|((with_reducible apply zz3);rfl;refine ⟨_,rfl,fun h=>?_,fun h=>?_⟩ <;> try exact absurd h (by decide)))
   refine stop_call h0 rfl (by simp only [WD,simprocAttr]) rfl (by simp only [keepS,ze,WD,simprocAttr]) (hO) ?_
   simp only [WD,simprocAttr,inX,dropS, ]
   (repeat (constructor;focus (clear hK';intros;simp_all;done)))
   (try (apply hK';clear hK' K'))
   repeat' (first|(with_reducible apply zz1)|((with_reducible apply zz4);rfl)|((with_reducible apply zz2);rfl;intro K' hK';simp only [WD,simprocAttr,g1,za,zb,cond_true,cond_false,bne_self_eq_false,beq_self_eq_true];(repeat (constructor;focus (clear hK';intros;simp_all;done)));(try (apply hK';clear hK' K')))|((with_reducible apply zz3);rfl;refine ⟨_,rfl,fun h=>?_,fun h=>?_⟩ <;> try exact absurd h (by decide)))
   simp only [Kret,retL,retOne,oneV,WD,simprocAttr]
   try rfl
 rw [hx] at hO
 have Ha:=ofP_gd hx
 have hR:=rType_fn Γ y hsz
 have hJs:=join_fn Γ hΓ x x
 have hMs:=meet_fn Γ hΓ x x
 have hxx:=bErr_of hx hx
 have s1:=self_bnd hx (u:=1) (.inr rfl)
 have s0:=self_bnd hx (u:=0) (.inl rfl)
 have e1 : bdE x x 1 = 0:=by unfold bdE;rw [if_pos hxx];exact s1.1
 have e2 : bdR x x 1 = ofP x:=by unfold bdR;rw [if_pos hxx];exact s1.2
 have e3 : bdE x x 0 = 0:=by unfold bdE;rw [if_pos hxx];exact s0.1
 have e4 : bdR x x 0 = ofP x:=by unfold bdR;rw [if_pos hxx];exact s0.2
 rw [e1,e2] at hJs
 rw [e3,e4] at hMs
 have hEA:=eq_gd Γ (.inr Ha)
 have hJ1:=join_fn Γ hΓ x y
 have hJ2:=join_fn Γ hΓ y x
 have hM1:=meet_fn Γ hΓ x y
 have hM2:=meet_fn Γ hΓ y x
 by_cases hy : tCheck y = 0
 rotate_left
 · have hxy : bErr x y = tCheck y:=by unfold bErr;rw [if_pos hx]
   have hyx : bErr y x = tCheck y:=by unfold bErr;rw [if_neg hy]
   have n1 : bErr x y ≠ 0:=by rw [hxy];exact hy
   have n2 : bErr y x ≠ 0:=by rw [hyx];exact hy
   have d1 : ∀ u,bdE x y u = tCheck y:=fun u=>by unfold bdE;rw [if_neg n1];exact hxy
   have d2 : ∀ u,bdE y x u = tCheck y:=fun u=>by unfold bdE;rw [if_neg n2];exact hyx
   rw [d1] at hJ1 hM1
   rw [d2] at hJ2 hM2
   have g1 : (tCheck y != 0) = true:=by simpa using hy
   clear e1 e2 e3 e4 s1 s0 hxx hxy hyx n1 n2 d1 d2 Ha
   generalize (ofP x).map Nd.d = A' at *
   generalize (bdR x y 1).map Nd.d = J1 at *
   generalize (bdR y x 1).map Nd.d = J2 at *
   generalize (bdR x y 0).map Nd.d = M1 at *
   generalize (bdR y x 0).map Nd.d = M2 at *
   generalize tCheck y = cy at *
   obtain ⟨k,so,nm,ls,l⟩:=x
   obtain ⟨k',so',nm',ls',l'⟩:=y
   simp only [Tp.d] at hO hJs hMs hJ1 hJ2 hM1 hM2 hR ⊢
   refine fn_of_swp (N:=188) Tryd.func6 rfl (by decide) rfl rfl (by simp) (fun C h0=>?_)
   simp only [argE]
   repeat' (first|(with_reducible apply zz1)|((with_reducible apply zz4);rfl)|((with_reducible apply zz2);rfl;intro K' hK';simp only [WD,simprocAttr];(repeat (constructor;focus (clear hK';intros;simp_all;done)));(try (apply hK';clear hK' K')))|((with_reducible apply zz3);rfl;refine ⟨_,rfl,fun h=>?_,fun h=>?_⟩ <;> try exact absurd h (by decide)))
   refine stop_call h0 rfl (by simp only [WD,simprocAttr]) rfl (by simp only [keepS,ze,WD,simprocAttr]) (hF) ?_
   simp only [WD,simprocAttr,inX,dropS, ]
   (repeat (constructor;focus (clear hK';intros;simp_all;done)))
   (try (apply hK';clear hK' K'))
   repeat' (first|(with_reducible apply zz1)|((with_reducible apply zz4);rfl)|((with_reducible apply zz2);rfl;intro K' hK';simp only [WD,simprocAttr,hFl2,za,zb,cond_true,cond_false,bne_self_eq_false,beq_self_eq_true];(repeat (constructor;focus (clear hK';intros;simp_all;done)));(try (apply hK';clear hK' K')))|((with_reducible apply zz3);rfl;refine ⟨_,rfl,fun h=>?_,fun h=>?_⟩ <;> try exact absurd h (by decide)))
   refine stop_call h0 rfl (by simp only [WD,simprocAttr]) rfl (by simp only [keepS,ze,WD,simprocAttr]) (hO) ?_
   simp only [WD,simprocAttr,inX,dropS, ]
   (repeat (constructor;focus (clear hK';intros;simp_all;done)))
   (try (apply hK';clear hK' K'))
   repeat' (first|(with_reducible apply zz1)|((with_reducible apply zz4);rfl)|((with_reducible apply zz2);rfl;intro K' hK';simp only [WD,simprocAttr,za,zb,cond_true,cond_false,bne_self_eq_false,beq_self_eq_true];(repeat (constructor;focus (clear hK';intros;simp_all;done)));(try (apply hK';clear hK' K')))|((with_reducible apply zz3);rfl;refine ⟨_,rfl,fun h=>?_,fun h=>?_⟩ <;> try exact absurd h (by decide)))
   refine stop_call h0 rfl (by simp only [WD,simprocAttr]) rfl (by simp only [keepS,ze,WD,simprocAttr]) (hJs) ?_
   simp only [WD,simprocAttr,inX,dropS, ]
   (repeat (constructor;focus (clear hK';intros;simp_all;done)))
   (try (apply hK';clear hK' K'))
   repeat' (first|(with_reducible apply zz1)|((with_reducible apply zz4);rfl)|((with_reducible apply zz2);rfl;intro K' hK';simp only [WD,simprocAttr];(repeat (constructor;focus (clear hK';intros;simp_all;done)));(try (apply hK';clear hK' K')))|((with_reducible apply zz3);rfl;refine ⟨_,rfl,fun h=>?_,fun h=>?_⟩ <;> try exact absurd h (by decide)))
   refine stop_call h0 rfl (by simp only [WD,simprocAttr]) rfl (by simp only [keepS,ze,WD,simprocAttr]) (hMs) ?_
   simp only [WD,simprocAttr,inX,dropS, ]
   (repeat (constructor;focus (clear hK';intros;simp_all;done)))
   (try (apply hK';clear hK' K'))
   refine zw6 ?_
   repeat (with_reducible refine zw0 ?_)
   (with_reducible refine swp_regionA ?_ ( [(9,bD true),(15,bD true)]) (fun K' hK'=>?_)
    · rfl
    simp only [WD,simprocAttr,UG,hEA,za,zb,cond_true,cond_false,bne_self_eq_false,beq_self_eq_true ]
    (repeat (constructor;focus (clear hK';intros;simp_all;done)))
    (try (apply hK';clear hK' K')))
   repeat' (first|(with_reducible apply zz1)|((with_reducible apply zz4);rfl)|((with_reducible apply zz2);rfl;intro K' hK';simp only [WD,simprocAttr,za,zb,cond_true,cond_false,bne_self_eq_false,beq_self_eq_true];(repeat (constructor;focus (clear hK';intros;simp_all;done)));(try (apply hK';clear hK' K')))|((with_reducible apply zz3);rfl;refine ⟨_,rfl,fun h=>?_,fun h=>?_⟩ <;> try exact absurd h (by decide)))
   refine stop_call h0 rfl (by simp only [WD,simprocAttr]) rfl (by simp only [keepS,ze,WD,simprocAttr]) (hJ1) ?_
   simp only [WD,simprocAttr,inX,dropS, ]
   (repeat (constructor;focus (clear hK';intros;simp_all;done)))
   (try (apply hK';clear hK' K'))
   repeat' (first|(with_reducible apply zz1)|((with_reducible apply zz4);rfl)|((with_reducible apply zz2);rfl;intro K' hK';simp only [WD,simprocAttr];(repeat (constructor;focus (clear hK';intros;simp_all;done)));(try (apply hK';clear hK' K')))|((with_reducible apply zz3);rfl;refine ⟨_,rfl,fun h=>?_,fun h=>?_⟩ <;> try exact absurd h (by decide)))
   refine stop_call h0 rfl (by simp only [WD,simprocAttr]) rfl (by simp only [keepS,ze,WD,simprocAttr]) (hJ2) ?_
   simp only [WD,simprocAttr,inX,dropS, ]
   (repeat (constructor;focus (clear hK';intros;simp_all;done)))
   (try (apply hK';clear hK' K'))
   repeat' (first|(with_reducible apply zz1)|((with_reducible apply zz4);rfl)|((with_reducible apply zz2);rfl;intro K' hK';simp only [WD,simprocAttr];(repeat (constructor;focus (clear hK';intros;simp_all;done)));(try (apply hK';clear hK' K')))|((with_reducible apply zz3);rfl;refine ⟨_,rfl,fun h=>?_,fun h=>?_⟩ <;> try exact absurd h (by decide)))
   refine stop_call h0 rfl (by simp only [WD,simprocAttr]) rfl (by simp only [keepS,ze,WD,simprocAttr]) (hM1) ?_
   simp only [WD,simprocAttr,inX,dropS, ]
   (repeat (constructor;focus (clear hK';intros;simp_all;done)))
   (try (apply hK';clear hK' K'))
   repeat' (first|(with_reducible apply zz1)|((with_reducible apply zz4);rfl)|((with_reducible apply zz2);rfl;intro K' hK';simp only [WD,simprocAttr];(repeat (constructor;focus (clear hK';intros;simp_all;done)));(try (apply hK';clear hK' K')))|((with_reducible apply zz3);rfl;refine ⟨_,rfl,fun h=>?_,fun h=>?_⟩ <;> try exact absurd h (by decide)))
   refine stop_call h0 rfl (by simp only [WD,simprocAttr]) rfl (by simp only [keepS,ze,WD,simprocAttr]) (hM2) ?_
   simp only [WD,simprocAttr,inX,dropS, ]
   (repeat (constructor;focus (clear hK';intros;simp_all;done)))
   (try (apply hK';clear hK' K'))
   repeat' (first|(with_reducible apply zz1)|((with_reducible apply zz4);rfl)|((with_reducible apply zz2);rfl;intro K' hK';simp only [WD,simprocAttr];(repeat (constructor;focus (clear hK';intros;simp_all;done)));(try (apply hK';clear hK' K')))|((with_reducible apply zz3);rfl;refine ⟨_,rfl,fun h=>?_,fun h=>?_⟩ <;> try exact absurd h (by decide)))
   refine stop_callF rfl (by simp only [WD,simprocAttr]) rfl rfl (hR) ?_
   simp only [WD,simprocAttr,inX,dropS,g1,za,zb,cond_true,cond_false,bne_self_eq_false,beq_self_eq_true]
   (repeat (constructor;focus (clear hK';intros;simp_all;done)))
   (try (apply hK';clear hK' K'))
   repeat' (first|(with_reducible apply zz1)|((with_reducible apply zz4);rfl)|((with_reducible apply zz2);rfl;intro K' hK';simp only [WD,simprocAttr,g1,za,zb,cond_true,cond_false,bne_self_eq_false,beq_self_eq_true];(repeat (constructor;focus (clear hK';intros;simp_all;done)));(try (apply hK';clear hK' K')))|((with_reducible apply zz3);rfl;refine ⟨_,rfl,fun h=>?_,fun h=>?_⟩ <;> try exact absurd h (by decide)))
   simp only [Kret,retL,retOne,oneV,WD,simprocAttr]
 have hxy:=bErr_of hx hy
 have hyx:=bErr_of hy hx
 have Hb:=ofP_gd hy
 have w1:=bnd_sw Ha Hb (u:=1) (.inr rfl)
 have w0:=bnd_sw Ha Hb (u:=0) (.inl rfl)
 have d1 : ∀ u,bdE x y u = bndE (ofP x) (ofP y) u:=fun u=>by unfold bdE;rw [if_pos hxy]
 have d2 : ∀ u,bdE y x u = bndE (ofP y) (ofP x) u:=fun u=>by unfold bdE;rw [if_pos hyx]
 have d3 : ∀ u,bdR x y u = bndG (ofP x) (ofP y) u:=fun u=>by unfold bdR;rw [if_pos hxy]
 have d4 : ∀ u,bdR y x u = bndG (ofP y) (ofP x) u:=fun u=>by unfold bdR;rw [if_pos hyx]
 rw [d1,d3] at hJ1 hM1
 rw [d2,d4] at hJ2 hM2
 rw [w1.1,w1.2] at hJ2
 rw [w0.1,w0.2] at hM2
 rw [hy] at hR
 have hEJ:=eq_gd Γ (bndG_gd Ha Hb (u:=1) (.inr rfl))
 have hEM:=eq_gd Γ (bndG_gd Ha Hb (u:=0) (.inl rfl))
 obtain ⟨X,v,hB1,hv⟩:=back_bnd Γ Ha Hb (u:=0) (.inl rfl)
 obtain ⟨Y,w,hB2,hw⟩:=back_bnd Γ Ha Hb (u:=1) (.inr rfl)
 have hJ3:=join_fn Γ hΓ x X
 have hM3:=meet_fn Γ hΓ x Y
 have hv2 : v = true → bdE x X 1 = 2 ∨ (bdE x X 1 = 0 ∧ bdR x X 1 = ofP x):=fun h=>by
  obtain ⟨h1,h2,h3⟩:=hv h
  have hxX:=bErr_of hx h2
  have k:=absorb hx Hb h2 (u:=0) (.inl rfl) h1 h3
  rw [show (1 : Int) - 0 = 1 by decide] at k
  unfold bdE bdR
  rw [if_pos hxX,if_pos hxX]
  rcases bndE_val (ofP x) (ofP X) 1 with e | e | e
  · exact .inr ⟨e,k.2 e⟩
  · exact .inl e
  · exact absurd e k.1
 have hw2 : w = true → bdE x Y 0 = 2 ∨ (bdE x Y 0 = 0 ∧ bdR x Y 0 = ofP x):=fun h=>by
  obtain ⟨h1,h2,h3⟩:=hw h
  have hxY:=bErr_of hx h2
  have k:=absorb hx Hb h2 (u:=1) (.inr rfl) h1 h3
  rw [show (1 : Int) - 1 = 0 by decide] at k
  unfold bdE bdR
  rw [if_pos hxY,if_pos hxY]
  rcases bndE_val (ofP x) (ofP Y) 0 with e | e | e
  · exact .inr ⟨e,k.2 e⟩
  · exact .inl e
  · exact absurd e k.1
 clear e1 e2 e3 e4 s1 s0 hxx hxy hyx w1 w0 d1 d2 d3 d4 Ha Hb hsz hv hw
 generalize bndE (ofP x) (ofP y) 1 = e at *
 generalize bndE (ofP x) (ofP y) 0 = f at *
 generalize (bndG (ofP x) (ofP y) 1).map Nd.d = J' at *
 generalize (bndG (ofP x) (ofP y) 0).map Nd.d = M' at *
 generalize hR3 : bdR x X 1 = R3 at *
 generalize hR4 : bdR x Y 0 = R4 at *
 generalize bdE x X 1 = e3 at *
 generalize bdE x Y 0 = e4 at *
 clear hR3 hR4
 generalize ofP x = A at *
 obtain ⟨k,so,nm,ls,l⟩:=x
 obtain ⟨k',so',nm',ls',l'⟩:=y
 obtain ⟨k2,so2,nm2,ls2,l2⟩:=X
 obtain ⟨k3,so3,nm3,ls3,l3⟩:=Y
 simp only [Tp.d] at hO hJs hMs hJ1 hJ2 hM1 hM2 hR hB1 hB2 hJ3 hM3 ⊢
 refine fn_of_swp (N:=188) Tryd.func6 rfl (by decide) rfl rfl (by simp) (fun C h0=>?_)
 simp only [argE]
 repeat' (first|(with_reducible apply zz1)|((with_reducible apply zz4);rfl)|((with_reducible apply zz2);rfl;intro K' hK';simp only [WD,simprocAttr];(repeat (constructor;focus (clear hK';intros;simp_all;done)));(try (apply hK';clear hK' K')))|((with_reducible apply zz3);rfl;refine ⟨_,rfl,fun h=>?_,fun h=>?_⟩ <;> try exact absurd h (by decide)))
 refine stop_call h0 rfl (by simp only [WD,simprocAttr]) rfl (by simp only [keepS,ze,WD,simprocAttr]) (hF) ?_
 simp only [WD,simprocAttr,inX,dropS, ]
 (repeat (constructor;focus (clear hK';intros;simp_all;done)))
 (try (apply hK';clear hK' K'))
 repeat' (first|(with_reducible apply zz1)|((with_reducible apply zz4);rfl)|((with_reducible apply zz2);rfl;intro K' hK';simp only [WD,simprocAttr,hFl2,za,zb,cond_true,cond_false,bne_self_eq_false,beq_self_eq_true];(repeat (constructor;focus (clear hK';intros;simp_all;done)));(try (apply hK';clear hK' K')))|((with_reducible apply zz3);rfl;refine ⟨_,rfl,fun h=>?_,fun h=>?_⟩ <;> try exact absurd h (by decide)))
 refine stop_call h0 rfl (by simp only [WD,simprocAttr]) rfl (by simp only [keepS,ze,WD,simprocAttr]) (hO) ?_
 simp only [WD,simprocAttr,inX,dropS, ]
 (repeat (constructor;focus (clear hK';intros;simp_all;done)))
 (try (apply hK';clear hK' K'))
 repeat' (first|(with_reducible apply zz1)|((with_reducible apply zz4);rfl)|((with_reducible apply zz2);rfl;intro K' hK';simp only [WD,simprocAttr,za,zb,cond_true,cond_false,bne_self_eq_false,beq_self_eq_true];(repeat (constructor;focus (clear hK';intros;simp_all;done)));(try (apply hK';clear hK' K')))|((with_reducible apply zz3);rfl;refine ⟨_,rfl,fun h=>?_,fun h=>?_⟩ <;> try exact absurd h (by decide)))
 refine stop_call h0 rfl (by simp only [WD,simprocAttr]) rfl (by simp only [keepS,ze,WD,simprocAttr]) (hJs) ?_
 simp only [WD,simprocAttr,inX,dropS, ]
 (repeat (constructor;focus (clear hK';intros;simp_all;done)))
 (try (apply hK';clear hK' K'))
 repeat' (first|(with_reducible apply zz1)|((with_reducible apply zz4);rfl)|((with_reducible apply zz2);rfl;intro K' hK';simp only [WD,simprocAttr];(repeat (constructor;focus (clear hK';intros;simp_all;done)));(try (apply hK';clear hK' K')))|((with_reducible apply zz3);rfl;refine ⟨_,rfl,fun h=>?_,fun h=>?_⟩ <;> try exact absurd h (by decide)))
 refine stop_call h0 rfl (by simp only [WD,simprocAttr]) rfl (by simp only [keepS,ze,WD,simprocAttr]) (hMs) ?_
 simp only [WD,simprocAttr,inX,dropS, ]
 (repeat (constructor;focus (clear hK';intros;simp_all;done)))
 (try (apply hK';clear hK' K'))
 refine zw6 ?_
 repeat (with_reducible refine zw0 ?_)
 (with_reducible refine swp_regionA ?_ ( [(9,bD true),(15,bD true)]) (fun K' hK'=>?_)
  · rfl
  simp only [WD,simprocAttr,UG,hEA,za,zb,cond_true,cond_false,bne_self_eq_false,beq_self_eq_true ]
  (repeat (constructor;focus (clear hK';intros;simp_all;done)))
  (try (apply hK';clear hK' K')))
 repeat' (first|(with_reducible apply zz1)|((with_reducible apply zz4);rfl)|((with_reducible apply zz2);rfl;intro K' hK';simp only [WD,simprocAttr,za,zb,cond_true,cond_false,bne_self_eq_false,beq_self_eq_true];(repeat (constructor;focus (clear hK';intros;simp_all;done)));(try (apply hK';clear hK' K')))|((with_reducible apply zz3);rfl;refine ⟨_,rfl,fun h=>?_,fun h=>?_⟩ <;> try exact absurd h (by decide)))
 refine stop_call h0 rfl (by simp only [WD,simprocAttr]) rfl (by simp only [keepS,ze,WD,simprocAttr]) (hJ1) ?_
 simp only [WD,simprocAttr,inX,dropS, ]
 (repeat (constructor;focus (clear hK';intros;simp_all;done)))
 (try (apply hK';clear hK' K'))
 repeat' (first|(with_reducible apply zz1)|((with_reducible apply zz4);rfl)|((with_reducible apply zz2);rfl;intro K' hK';simp only [WD,simprocAttr];(repeat (constructor;focus (clear hK';intros;simp_all;done)));(try (apply hK';clear hK' K')))|((with_reducible apply zz3);rfl;refine ⟨_,rfl,fun h=>?_,fun h=>?_⟩ <;> try exact absurd h (by decide)))
 refine stop_call h0 rfl (by simp only [WD,simprocAttr]) rfl (by simp only [keepS,ze,WD,simprocAttr]) (hJ2) ?_
 simp only [WD,simprocAttr,inX,dropS, ]
 (repeat (constructor;focus (clear hK';intros;simp_all;done)))
 (try (apply hK';clear hK' K'))
 repeat' (first|(with_reducible apply zz1)|((with_reducible apply zz4);rfl)|((with_reducible apply zz2);rfl;intro K' hK';simp only [WD,simprocAttr];(repeat (constructor;focus (clear hK';intros;simp_all;done)));(try (apply hK';clear hK' K')))|((with_reducible apply zz3);rfl;refine ⟨_,rfl,fun h=>?_,fun h=>?_⟩ <;> try exact absurd h (by decide)))
 refine stop_call h0 rfl (by simp only [WD,simprocAttr]) rfl (by simp only [keepS,ze,WD,simprocAttr]) (hM1) ?_
 simp only [WD,simprocAttr,inX,dropS, ]
 (repeat (constructor;focus (clear hK';intros;simp_all;done)))
 (try (apply hK';clear hK' K'))
 repeat' (first|(with_reducible apply zz1)|((with_reducible apply zz4);rfl)|((with_reducible apply zz2);rfl;intro K' hK';simp only [WD,simprocAttr];(repeat (constructor;focus (clear hK';intros;simp_all;done)));(try (apply hK';clear hK' K')))|((with_reducible apply zz3);rfl;refine ⟨_,rfl,fun h=>?_,fun h=>?_⟩ <;> try exact absurd h (by decide)))
 refine stop_call h0 rfl (by simp only [WD,simprocAttr]) rfl (by simp only [keepS,ze,WD,simprocAttr]) (hM2) ?_
 simp only [WD,simprocAttr,inX,dropS, ]
 (repeat (constructor;focus (clear hK';intros;simp_all;done)))
 (try (apply hK';clear hK' K'))
 repeat' (first|(with_reducible apply zz1)|((with_reducible apply zz4);rfl)|((with_reducible apply zz2);rfl;intro K' hK';simp only [WD,simprocAttr];(repeat (constructor;focus (clear hK';intros;simp_all;done)));(try (apply hK';clear hK' K')))|((with_reducible apply zz3);rfl;refine ⟨_,rfl,fun h=>?_,fun h=>?_⟩ <;> try exact absurd h (by decide)))
 refine stop_callF rfl (by simp only [WD,simprocAttr]) rfl rfl (hR) ?_
 simp only [WD,simprocAttr,inX,dropS,za,zb,cond_true,cond_false,bne_self_eq_false,beq_self_eq_true]
 (repeat (constructor;focus (clear hK';intros;simp_all;done)))
 (try (apply hK';clear hK' K'))
 refine zw6 ?_
 refine swp_cond ?_ ?_
 · rfl
 refine ⟨_,rfl,fun h=>absurd h (by decide),fun h=>?_⟩
 clear h
 refine swp_skip ?_
 refine zw6 ?_
 repeat (with_reducible refine zw0 ?_)
 -- TRACE
 (with_reducible refine swp_regionA ?_ ( [(11,bD true),(17,bD true)]) (fun K' hK'=>?_)
  · rfl
  simp only [WD,simprocAttr,UG,hEJ,hEM,za,zb,cond_true,cond_false,bne_self_eq_false,beq_self_eq_true ]
  (repeat (constructor;focus (clear hK';intros;simp_all;done)))
  (try (apply hK';clear hK' K')))
 refine zw6 ?_
 refine swp_cond ?_ ?_
 · rfl
 refine ⟨_,rfl,fun h=>absurd h (by decide),fun h=>?_⟩
 clear h
 refine swp_skip ?_
 refine zw6 ?_
 refine zw0 ?_
 -- TRACE
 refine swp_midK [(2,.ref 0 0),(7,.d (.slc (A.map Nd.d))),(8,.d (iD e)),(9,.d (.slc J'))] [(0,.cells [.d (iD k),.d (iD so),.d (sD nm),.d (.slc (ls.map sD)),.d (.slc (Tp.ds l))])] ?_ ?_
 · repeat' (first|(with_reducible apply zz1)|((with_reducible apply zz4);rfl)|((with_reducible apply zz2);rfl;intro K' hK';simp only [WD,simprocAttr];(repeat (constructor;focus (clear hK';intros;simp_all;done)));(try (apply hK';clear hK' K')))|((with_reducible apply zz3);rfl;refine ⟨_,rfl,fun h=>?_,fun h=>?_⟩ <;> try exact absurd h (by decide)))
   refine stop_call h0 rfl (by simp only [WD,simprocAttr]) rfl (by simp only [keepS,ze,WD,simprocAttr]) (hB1) ?_
   simp only [WD,simprocAttr,inX,dropS, ]
   (repeat (constructor;focus (clear hK';intros;simp_all;done)))
   (try (apply hK';clear hK' K'))
   cases v with
   | false =>
    repeat' (first|(with_reducible apply zz1)|((with_reducible apply zz4);rfl)|((with_reducible apply zz2);rfl;intro K' hK';simp only [WD,simprocAttr,za,zb,cond_true,cond_false,bne_self_eq_false,beq_self_eq_true];(repeat (constructor;focus (clear hK';intros;simp_all;done)));(try (apply hK';clear hK' K')))|((with_reducible apply zz3);rfl;refine ⟨_,rfl,fun h=>?_,fun h=>?_⟩ <;> try exact absurd h (by decide)))
    refine ⟨rfl,?_⟩
    refine sub_of h0 ?_ ?_ ?_ <;> simp only [US,WD,simprocAttr]
   | true =>
    rcases hv2 rfl with rfl | ⟨rfl,rfl⟩
    · repeat' (first|(with_reducible apply zz1)|((with_reducible apply zz4);rfl)|((with_reducible apply zz2);rfl;intro K' hK';simp only [WD,simprocAttr,za,zb,cond_true,cond_false,bne_self_eq_false,beq_self_eq_true];(repeat (constructor;focus (clear hK';intros;simp_all;done)));(try (apply hK';clear hK' K')))|((with_reducible apply zz3);rfl;refine ⟨_,rfl,fun h=>?_,fun h=>?_⟩ <;> try exact absurd h (by decide)))
      refine stop_call h0 rfl (by simp only [WD,simprocAttr]) rfl (by simp only [keepS,ze,WD,simprocAttr]) (hJ3) ?_
      simp only [WD,simprocAttr,inX,dropS, ]
      (repeat (constructor;focus (clear hK';intros;simp_all;done)))
      (try (apply hK';clear hK' K'))
      refine zw6 ?_
      repeat (with_reducible refine zw0 ?_)
      (with_reducible refine swp_regionA ?_ ( [(8,bD true)]) (fun K' hK'=>?_)
       · rfl
       simp only [WD,simprocAttr,UG,za,zb,cond_true,cond_false,bne_self_eq_false,beq_self_eq_true ]
       (repeat (constructor;focus (clear hK';intros;simp_all;done)))
       (try (apply hK';clear hK' K')))
      repeat' (first|(with_reducible apply zz1)|((with_reducible apply zz4);rfl)|((with_reducible apply zz2);rfl;intro K' hK';simp only [WD,simprocAttr,za,zb,cond_true,cond_false,bne_self_eq_false,beq_self_eq_true];(repeat (constructor;focus (clear hK';intros;simp_all;done)));(try (apply hK';clear hK' K')))|((with_reducible apply zz3);rfl;refine ⟨_,rfl,fun h=>?_,fun h=>?_⟩ <;> try exact absurd h (by decide)))
      refine ⟨rfl,?_⟩
      refine sub_of h0 ?_ ?_ ?_ <;> simp only [US,WD,simprocAttr]
    · repeat' (first|(with_reducible apply zz1)|((with_reducible apply zz4);rfl)|((with_reducible apply zz2);rfl;intro K' hK';simp only [WD,simprocAttr,za,zb,cond_true,cond_false,bne_self_eq_false,beq_self_eq_true];(repeat (constructor;focus (clear hK';intros;simp_all;done)));(try (apply hK';clear hK' K')))|((with_reducible apply zz3);rfl;refine ⟨_,rfl,fun h=>?_,fun h=>?_⟩ <;> try exact absurd h (by decide)))
      refine stop_call h0 rfl (by simp only [WD,simprocAttr]) rfl (by simp only [keepS,ze,WD,simprocAttr]) (hJ3) ?_
      simp only [WD,simprocAttr,inX,dropS, ]
      (repeat (constructor;focus (clear hK';intros;simp_all;done)))
      (try (apply hK';clear hK' K'))
      refine zw6 ?_
      repeat (with_reducible refine zw0 ?_)
      (with_reducible refine swp_regionA ?_ ( [(8,bD true)]) (fun K' hK'=>?_)
       · rfl
       simp only [WD,simprocAttr,UG,hEA,za,zb,cond_true,cond_false,bne_self_eq_false,beq_self_eq_true ]
       (repeat (constructor;focus (clear hK';intros;simp_all;done)))
       (try (apply hK';clear hK' K')))
      repeat' (first|(with_reducible apply zz1)|((with_reducible apply zz4);rfl)|((with_reducible apply zz2);rfl;intro K' hK';simp only [WD,simprocAttr,za,zb,cond_true,cond_false,bne_self_eq_false,beq_self_eq_true];(repeat (constructor;focus (clear hK';intros;simp_all;done)));(try (apply hK';clear hK' K')))|((with_reducible apply zz3);rfl;refine ⟨_,rfl,fun h=>?_,fun h=>?_⟩ <;> try exact absurd h (by decide)))
      refine ⟨rfl,?_⟩
      refine sub_of h0 ?_ ?_ ?_ <;> simp only [US,WD,simprocAttr]
 refine zw0 ?_
 refine swp_midK [] [] ?_ ?_
 · repeat' (first|(with_reducible apply zz1)|((with_reducible apply zz4);rfl)|((with_reducible apply zz2);rfl;intro K' hK';simp only [WD,simprocAttr];(repeat (constructor;focus (clear hK';intros;simp_all;done)));(try (apply hK';clear hK' K')))|((with_reducible apply zz3);rfl;refine ⟨_,rfl,fun h=>?_,fun h=>?_⟩ <;> try exact absurd h (by decide)))
   refine stop_call h0 rfl (by simp only [WD,simprocAttr]) rfl (by simp only [keepS,ze,WD,simprocAttr]) (hB2) ?_
   simp only [WD,simprocAttr,inX,dropS, ]
   (repeat (constructor;focus (clear hK';intros;simp_all;done)))
   (try (apply hK';clear hK' K'))
   cases w with
   | false =>
    repeat' (first|(with_reducible apply zz1)|((with_reducible apply zz4);rfl)|((with_reducible apply zz2);rfl;intro K' hK';simp only [WD,simprocAttr,za,zb,cond_true,cond_false,bne_self_eq_false,beq_self_eq_true];(repeat (constructor;focus (clear hK';intros;simp_all;done)));(try (apply hK';clear hK' K')))|((with_reducible apply zz3);rfl;refine ⟨_,rfl,fun h=>?_,fun h=>?_⟩ <;> try exact absurd h (by decide)))
    refine ⟨rfl,?_⟩
    refine sub_of h0 ?_ ?_ ?_ <;> simp only [US,WD,simprocAttr]
   | true =>
    rcases hw2 rfl with rfl | ⟨rfl,rfl⟩
    · repeat' (first|(with_reducible apply zz1)|((with_reducible apply zz4);rfl)|((with_reducible apply zz2);rfl;intro K' hK';simp only [WD,simprocAttr,za,zb,cond_true,cond_false,bne_self_eq_false,beq_self_eq_true];(repeat (constructor;focus (clear hK';intros;simp_all;done)));(try (apply hK';clear hK' K')))|((with_reducible apply zz3);rfl;refine ⟨_,rfl,fun h=>?_,fun h=>?_⟩ <;> try exact absurd h (by decide)))
      refine stop_call h0 rfl (by simp only [WD,simprocAttr]) rfl (by simp only [keepS,ze,WD,simprocAttr]) (hM3) ?_
      simp only [WD,simprocAttr,inX,dropS, ]
      (repeat (constructor;focus (clear hK';intros;simp_all;done)))
      (try (apply hK';clear hK' K'))
      refine zw6 ?_
      repeat (with_reducible refine zw0 ?_)
      (with_reducible refine swp_regionA ?_ ( [(8,bD true)]) (fun K' hK'=>?_)
       · rfl
       simp only [WD,simprocAttr,UG,za,zb,cond_true,cond_false,bne_self_eq_false,beq_self_eq_true ]
       (repeat (constructor;focus (clear hK';intros;simp_all;done)))
       (try (apply hK';clear hK' K')))
      repeat' (first|(with_reducible apply zz1)|((with_reducible apply zz4);rfl)|((with_reducible apply zz2);rfl;intro K' hK';simp only [WD,simprocAttr,za,zb,cond_true,cond_false,bne_self_eq_false,beq_self_eq_true];(repeat (constructor;focus (clear hK';intros;simp_all;done)));(try (apply hK';clear hK' K')))|((with_reducible apply zz3);rfl;refine ⟨_,rfl,fun h=>?_,fun h=>?_⟩ <;> try exact absurd h (by decide)))
      refine ⟨rfl,?_⟩
      refine sub_of h0 ?_ ?_ ?_ <;> simp only [US,WD,simprocAttr]
    · repeat' (first|(with_reducible apply zz1)|((with_reducible apply zz4);rfl)|((with_reducible apply zz2);rfl;intro K' hK';simp only [WD,simprocAttr,za,zb,cond_true,cond_false,bne_self_eq_false,beq_self_eq_true];(repeat (constructor;focus (clear hK';intros;simp_all;done)));(try (apply hK';clear hK' K')))|((with_reducible apply zz3);rfl;refine ⟨_,rfl,fun h=>?_,fun h=>?_⟩ <;> try exact absurd h (by decide)))
      refine stop_call h0 rfl (by simp only [WD,simprocAttr]) rfl (by simp only [keepS,ze,WD,simprocAttr]) (hM3) ?_
      simp only [WD,simprocAttr,inX,dropS, ]
      (repeat (constructor;focus (clear hK';intros;simp_all;done)))
      (try (apply hK';clear hK' K'))
      refine zw6 ?_
      repeat (with_reducible refine zw0 ?_)
      (with_reducible refine swp_regionA ?_ ( [(8,bD true)]) (fun K' hK'=>?_)
       · rfl
       simp only [WD,simprocAttr,UG,hEA,za,zb,cond_true,cond_false,bne_self_eq_false,beq_self_eq_true ]
       (repeat (constructor;focus (clear hK';intros;simp_all;done)))
       (try (apply hK';clear hK' K')))
      repeat' (first|(with_reducible apply zz1)|((with_reducible apply zz4);rfl)|((with_reducible apply zz2);rfl;intro K' hK';simp only [WD,simprocAttr,za,zb,cond_true,cond_false,bne_self_eq_false,beq_self_eq_true];(repeat (constructor;focus (clear hK';intros;simp_all;done)));(try (apply hK';clear hK' K')))|((with_reducible apply zz3);rfl;refine ⟨_,rfl,fun h=>?_,fun h=>?_⟩ <;> try exact absurd h (by decide)))
      refine ⟨rfl,?_⟩
      refine sub_of h0 ?_ ?_ ?_ <;> simp only [US,WD,simprocAttr]
 repeat' (first|(with_reducible apply zz1)|((with_reducible apply zz4);rfl)|((with_reducible apply zz2);rfl;intro K' hK';simp only [WD,simprocAttr];(repeat (constructor;focus (clear hK';intros;simp_all;done)));(try (apply hK';clear hK' K')))|((with_reducible apply zz3);rfl;refine ⟨_,rfl,fun h=>?_,fun h=>?_⟩ <;> try exact absurd h (by decide)))
 simp only [Kret,retL,retOne,oneV,WD,simprocAttr]
end Go.Proofs.YtgecnlcbdbaneaaDoor
