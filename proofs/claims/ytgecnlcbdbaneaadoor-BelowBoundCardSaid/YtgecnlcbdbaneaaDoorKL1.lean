/- The law BelowBound; a symbolic walk. -/
-- TYPESD
import Derived.Test.YtgecnlcbdbaneaaDoorKA3
import Derived.Test.YtgecnlcbdbaneaaDoorH27
set_option linter.unusedVariables false
set_option linter.unusedSimpArgs false
namespace Go.Proofs.YtgecnlcbdbaneaaDoor
open Go.RowKit Go.Sw
open Go.Sw renaming swp_seq → zw0, kseq_n → zw6, swp_cond → zw15

theorem first_join : bdE endT endT 1 = 0 ∧ (bdR endT endT 1).length = 1:=by decide +kernel
theorem bndE_val (a b : List Nd) (u : Int) : bndE a b u = 0 ∨ bndE a b u = 2 ∨ bndE a b u = 8:=by
 unfold bndE
 split
 · simp
 · split <;> simp
theorem join_both {a b : List Nd} (Ha : Gd a) (Hb : Gd b) (he : bndE a b 1 = 0) : Gd (bndG a b 1) ∧ subG a (bndG a b 1) = true ∧ subG b (bndG a b 1) = true:=by
 obtain ⟨-, -,h1,h2,h3⟩:=bnd_both Ha Hb (.inr rfl) he
 exact ⟨h1,(sub_iff Ha h1).2 fun n=>sub1_one.1 (h2 n),(sub_iff Hb h1).2 fun n=>sub1_one.1 (h3 n)⟩
theorem meet_both {a b : List Nd} (Ha : Gd a) (Hb : Gd b) (he : bndE a b 0 = 0) : Gd (bndG a b 0) ∧ subG (bndG a b 0) a = true ∧ subG (bndG a b 0) b = true:=by
 obtain ⟨-, -,h1,h2,h3⟩:=bnd_both Ha Hb (.inl rfl) he
 exact ⟨h1,(sub_iff h1 Ha).2 fun n=>sub1_zero.1 (h2 n),(sub_iff h1 Hb).2 fun n=>sub1_zero.1 (h3 n)⟩
theorem join_best {a b c : List Nd} (Ha : Gd a) (Hb : Gd b) (Hc : Gd c) (h1 : subG a c = true) (h2 : subG b c = true) : bndE a b 1 ≠ 8 ∧ (bndE a b 1 = 0 → subG (bndG a b 1) c = true):=by
 have k:=bnd_best Ha Hb Hc.w (u:=1) (v:=0) (.inr rfl) ⟨Int.le_refl _,by have:=Hc.pos;omega⟩ (fun n=>sub1_one.2 ((sub_iff Ha Hc).1 h1 n)) (fun n=>sub1_one.2 ((sub_iff Hb Hc).1 h2 n))
 exact ⟨k.1,fun he=>(sub_iff (join_both Ha Hb he).1 Hc).2 fun n=>sub1_one.1 (k.2 he n)⟩
theorem meet_best {a b c : List Nd} (Ha : Gd a) (Hb : Gd b) (Hc : Gd c) (h1 : subG c a = true) (h2 : subG c b = true) : bndE a b 0 ≠ 8 ∧ (bndE a b 0 = 0 → subG c (bndG a b 0) = true):=by
 have k:=bnd_best Ha Hb Hc.w (u:=0) (v:=0) (.inl rfl) ⟨Int.le_refl _,by have:=Hc.pos;omega⟩ (fun n=>sub1_zero.2 ((sub_iff Hc Ha).1 h1 n)) (fun n=>sub1_zero.2 ((sub_iff Hc Hb).1 h2 n))
 exact ⟨k.1,fun he=>(sub_iff Hc (meet_both Ha Hb he).1).2 fun n=>sub1_zero.1 (k.2 he n)⟩
set_option maxHeartbeats 16000000 in
set_option maxRecDepth 100000 in
theorem boundLaw (Γ : Gl) (hΓ : PowT Γ) (x y z : Tp) : DFn Tryd.prog Γ 5 [x.d,y.d,z.d] (.v (.bool true)):=by
 have hF:=join_fn Γ hΓ endT endT
 have hl1:=first_join.2
 rw [first_join.1] at hF
 simp only [endT,Tp.d,Tp.ds,List.map_nil] at hF
 obtain ⟨F,hFe⟩ : ∃ F,(bdR (.mk 1 0 noB [] []) (.mk 1 0 noB [] []) 1).map Nd.d = F:=⟨_,rfl⟩
 have hFl : F.length = 1:=by rw [← hFe,List.length_map];exact hl1
 rw [hFe] at hF
 have hFl2 : ((F.length : Int) != 1) = false:=by rw [hFl];rfl
 clear hFe hl1 hFl
 have hJ:=join_fn Γ hΓ x y
 have hM:=meet_fn Γ hΓ x y
 have hO1:=of_fn Γ x
 have hO2:=of_fn Γ y
 have hO3:=of_fn Γ z
 unfold OfFn at hO1 hO2 hO3
 by_cases hc : bErr x y = 0
 rotate_left
 · have e1 : bdE x y 1 = bErr x y:=by unfold bdE;rw [if_neg hc]
   have e2 : bdE x y 0 = bErr x y:=by unfold bdE;rw [if_neg hc]
   have e3 : bdR x y 1 = []:=by unfold bdR;rw [if_neg hc]
   have e4 : bdR x y 0 = []:=by unfold bdR;rw [if_neg hc]
   rw [e1,e3] at hJ
   rw [e2,e4] at hM
   have hor : tCheck x ≠ 0 ∨ tCheck x = 0 ∧ tCheck y ≠ 0:=by
    unfold bErr at hc
    split at hc
    · rename_i h;exact .inr ⟨h,hc⟩
    · exact .inl hc
   generalize (ofP x).map Nd.d = A' at *
   generalize (ofP y).map Nd.d = B' at *
   generalize bErr x y = c at *
   generalize tCheck x = cx at *
   generalize tCheck y = cy at *
   clear hO3 e1 e2 e3 e4
   obtain ⟨k,so,nm,ls,l⟩:=x
   obtain ⟨k',so',nm',ls',l'⟩:=y
   obtain ⟨k2,so2,nm2,ls2,l2⟩:=z
   simp only [Tp.d,List.map_nil] at hJ hM hO1 hO2 ⊢
   refine fn_of_swp (N:=217) Tryd.func5 rfl (by decide) rfl rfl (by simp) (fun C h0=>?_)
   simp only [argE]
   repeat' (first|(with_reducible apply zz1)|((with_reducible refine zz4 ?_ ?_);rfl)|((with_reducible refine zz2 ?_ (fun K' hK'=>?_));rfl;simp only [WD,simprocAttr];(repeat (refine And.intro ?_ ?_;focus (clear hK';intros;simp_all;done)));(try (refine hK' _ _ ?_;clear hK' K')))|((with_reducible refine zz3 ?_ ?_);rfl;refine ⟨_,rfl,fun h=>?_,fun h=>?_⟩ <;> try exact absurd h (by decide)))
   refine stop_call h0 rfl (by simp only [WD,simprocAttr]) rfl (by simp only [keepS,WD,simprocAttr]) (hF) ?_
   simp only [WD,simprocAttr,inX,dropS, ]
   (repeat (refine And.intro ?_ ?_;focus (clear hK';intros;simp_all;done)))
   (try (refine hK' _ _ ?_;clear hK' K'))
   repeat' (first|(with_reducible apply zz1)|((with_reducible refine zz4 ?_ ?_);rfl)|((with_reducible refine zz2 ?_ (fun K' hK'=>?_));rfl;simp only [WD,simprocAttr,hFl2,Bool.not_true,Bool.not_false,cond_true,cond_false,bne_self_eq_false,beq_self_eq_true];(repeat (refine And.intro ?_ ?_;focus (clear hK';intros;simp_all;done)));(try (refine hK' _ _ ?_;clear hK' K')))|((with_reducible refine zz3 ?_ ?_);rfl;refine ⟨_,rfl,fun h=>?_,fun h=>?_⟩ <;> try exact absurd h (by decide)))
   refine stop_call h0 rfl (by simp only [WD,simprocAttr]) rfl (by simp only [keepS,WD,simprocAttr]) (hJ) ?_
   simp only [WD,simprocAttr,inX,dropS, ]
   (repeat (refine And.intro ?_ ?_;focus (clear hK';intros;simp_all;done)))
   (try (refine hK' _ _ ?_;clear hK' K'))
   repeat' (first|(with_reducible apply zz1)|((with_reducible refine zz4 ?_ ?_);rfl)|((with_reducible refine zz2 ?_ (fun K' hK'=>?_));rfl;simp only [WD,simprocAttr];(repeat (refine And.intro ?_ ?_;focus (clear hK';intros;simp_all;done)));(try (refine hK' _ _ ?_;clear hK' K')))|((with_reducible refine zz3 ?_ ?_);rfl;refine ⟨_,rfl,fun h=>?_,fun h=>?_⟩ <;> try exact absurd h (by decide)))
   refine stop_call h0 rfl (by simp only [WD,simprocAttr]) rfl (by simp only [keepS,WD,simprocAttr]) (hM) ?_
   simp only [WD,simprocAttr,inX,dropS, ]
   (repeat (refine And.intro ?_ ?_;focus (clear hK';intros;simp_all;done)))
   (try (refine hK' _ _ ?_;clear hK' K'))
   repeat' (first|(with_reducible apply zz1)|((with_reducible refine zz4 ?_ ?_);rfl)|((with_reducible refine zz2 ?_ (fun K' hK'=>?_));rfl;simp only [WD,simprocAttr];(repeat (refine And.intro ?_ ?_;focus (clear hK';intros;simp_all;done)));(try (refine hK' _ _ ?_;clear hK' K')))|((with_reducible refine zz3 ?_ ?_);rfl;refine ⟨_,rfl,fun h=>?_,fun h=>?_⟩ <;> try exact absurd h (by decide)))
   refine stop_call h0 rfl (by simp only [WD,simprocAttr]) rfl (by simp only [keepS,WD,simprocAttr]) (hO1) ?_
   simp only [WD,simprocAttr,inX,dropS, ]
   (repeat (refine And.intro ?_ ?_;focus (clear hK';intros;simp_all;done)))
   (try (refine hK' _ _ ?_;clear hK' K'))
   repeat' (first|(with_reducible apply zz1)|((with_reducible refine zz4 ?_ ?_);rfl)|((with_reducible refine zz2 ?_ (fun K' hK'=>?_));rfl;simp only [WD,simprocAttr];(repeat (refine And.intro ?_ ?_;focus (clear hK';intros;simp_all;done)));(try (refine hK' _ _ ?_;clear hK' K')))|((with_reducible refine zz3 ?_ ?_);rfl;refine ⟨_,rfl,fun h=>?_,fun h=>?_⟩ <;> try exact absurd h (by decide)))
   refine stop_call h0 rfl (by simp only [WD,simprocAttr]) rfl (by simp only [keepS,WD,simprocAttr]) (hO2) ?_
   simp only [WD,simprocAttr,inX,dropS, ]
   (repeat (refine And.intro ?_ ?_;focus (clear hK';intros;simp_all;done)))
   (try (refine hK' _ _ ?_;clear hK' K'))
   rcases hor with h | ⟨h,h'⟩
   · have g1 : (cx != 0) = true:=by simpa using h
     repeat' (first|(with_reducible apply zz1)|((with_reducible refine zz4 ?_ ?_);rfl)|((with_reducible refine zz2 ?_ (fun K' hK'=>?_));rfl;simp only [WD,simprocAttr,g1,Bool.not_true,Bool.not_false,cond_true,cond_false,bne_self_eq_false,beq_self_eq_true];(repeat (refine And.intro ?_ ?_;focus (clear hK';intros;simp_all;done)));(try (refine hK' _ _ ?_;clear hK' K')))|((with_reducible refine zz3 ?_ ?_);rfl;refine ⟨_,rfl,fun h=>?_,fun h=>?_⟩ <;> try exact absurd h (by decide)))
     simp only [Kret,retL,retOne,oneV,WD,simprocAttr]
     rfl
   · have g1 : (cx != 0) = false:=by simpa using h
     have g2 : (cy != 0) = true:=by simpa using h'
     repeat' (first|(with_reducible apply zz1)|((with_reducible refine zz4 ?_ ?_);rfl)|((with_reducible refine zz2 ?_ (fun K' hK'=>?_));rfl;simp only [WD,simprocAttr,g1,g2,Bool.not_true,Bool.not_false,cond_true,cond_false,bne_self_eq_false,beq_self_eq_true];(repeat (refine And.intro ?_ ?_;focus (clear hK';intros;simp_all;done)));(try (refine hK' _ _ ?_;clear hK' K')))|((with_reducible refine zz3 ?_ ?_);rfl;refine ⟨_,rfl,fun h=>?_,fun h=>?_⟩ <;> try exact absurd h (by decide)))
     simp only [Kret,retL,retOne,oneV,WD,simprocAttr]
     rfl
 obtain ⟨hx,hy⟩:=bErr_zero hc
 have HA:=ofP_gd hx
 have HB:=ofP_gd hy
 have e1 : bdE x y 1 = bndE (ofP x) (ofP y) 1:=by unfold bdE;rw [if_pos hc]
 have e2 : bdE x y 0 = bndE (ofP x) (ofP y) 0:=by unfold bdE;rw [if_pos hc]
 have e3 : bdR x y 1 = bndG (ofP x) (ofP y) 1:=by unfold bdR;rw [if_pos hc]
 have e4 : bdR x y 0 = bndG (ofP x) (ofP y) 0:=by unfold bdR;rw [if_pos hc]
 rw [e1,e3] at hJ
 rw [e2,e4] at hM
 rw [hx] at hO1
 rw [hy] at hO2
 have hg1 : bndE (ofP x) (ofP y) 1 = 0 → DFn Tryd.prog Γ 25 [.slc ((ofP x).map Nd.d),.slc ((bndG (ofP x) (ofP y) 1).map Nd.d)] (.tup [bD true,iD 0]) ∧ DFn Tryd.prog Γ 25 [.slc ((ofP y).map Nd.d),.slc ((bndG (ofP x) (ofP y) 1).map Nd.d)] (.tup [bD true,iD 0]):=fun h=>by
  obtain ⟨h1,h2,h3⟩:=join_both HA HB h
  have k1:=graphsG_fn Γ HA h1
  have k2:=graphsG_fn Γ HB h1
  rw [h2] at k1
  rw [h3] at k2
  exact ⟨k1,k2⟩
 have hg2 : bndE (ofP x) (ofP y) 0 = 0 → DFn Tryd.prog Γ 25 [.slc ((bndG (ofP x) (ofP y) 0).map Nd.d),.slc ((ofP x).map Nd.d)] (.tup [bD true,iD 0]) ∧ DFn Tryd.prog Γ 25 [.slc ((bndG (ofP x) (ofP y) 0).map Nd.d),.slc ((ofP y).map Nd.d)] (.tup [bD true,iD 0]):=fun h=>by
  obtain ⟨h1,h2,h3⟩:=meet_both HA HB h
  have k1:=graphsG_fn Γ h1 HA
  have k2:=graphsG_fn Γ h1 HB
  rw [h2] at k1
  rw [h3] at k2
  exact ⟨k1,k2⟩
 have hg3 : tCheck z = 0 → DFn Tryd.prog Γ 25 [.slc ((ofP x).map Nd.d),.slc ((ofP z).map Nd.d)] (.tup [bD (subG (ofP x) (ofP z)),iD 0]) ∧ DFn Tryd.prog Γ 25 [.slc ((ofP y).map Nd.d),.slc ((ofP z).map Nd.d)] (.tup [bD (subG (ofP y) (ofP z)),iD 0]) ∧
  DFn Tryd.prog Γ 25 [.slc ((ofP z).map Nd.d),.slc ((ofP x).map Nd.d)] (.tup [bD (subG (ofP z) (ofP x)),iD 0]) ∧ DFn Tryd.prog Γ 25 [.slc ((ofP z).map Nd.d),.slc ((ofP y).map Nd.d)] (.tup [bD (subG (ofP z) (ofP y)),iD 0]):=fun h =>
  ⟨graphsG_fn Γ HA (ofP_gd h),graphsG_fn Γ HB (ofP_gd h),graphsG_fn Γ (ofP_gd h) HA,graphsG_fn Γ (ofP_gd h) HB⟩
 have hg4 : tCheck z = 0 → subG (ofP x) (ofP z) = true → subG (ofP y) (ofP z) = true → bndE (ofP x) (ofP y) 1 ≠ 2 → bndE (ofP x) (ofP y) 1 = 0 ∧ DFn Tryd.prog Γ 25 [.slc ((bndG (ofP x) (ofP y) 1).map Nd.d),.slc ((ofP z).map Nd.d)] (.tup [bD true,iD 0]):=fun h h1 h2 h3=>by
  obtain ⟨k1,k2⟩:=join_best HA HB (ofP_gd h) h1 h2
  have he : bndE (ofP x) (ofP y) 1 = 0:=by
   rcases bndE_val (ofP x) (ofP y) 1 with h | h | h
   · exact h
   · exact absurd h h3
   · exact absurd h k1
  have:=graphsG_fn Γ (join_both HA HB he).1 (ofP_gd h)
  rw [k2 he] at this
  exact ⟨he,this⟩
 have hg5 : tCheck z = 0 → subG (ofP z) (ofP x) = true → subG (ofP z) (ofP y) = true → bndE (ofP x) (ofP y) 0 ≠ 2 → bndE (ofP x) (ofP y) 0 = 0 ∧ DFn Tryd.prog Γ 25 [.slc ((ofP z).map Nd.d),.slc ((bndG (ofP x) (ofP y) 0).map Nd.d)] (.tup [bD true,iD 0]):=fun h h1 h2 h3=>by
  obtain ⟨k1,k2⟩:=meet_best HA HB (ofP_gd h) h1 h2
  have he : bndE (ofP x) (ofP y) 0 = 0:=by
   rcases bndE_val (ofP x) (ofP y) 0 with h | h | h
   · exact h
   · exact absurd h h3
   · exact absurd h k1
  have:=graphsG_fn Γ (ofP_gd h) (meet_both HA HB he).1
  rw [k2 he] at this
  exact ⟨he,this⟩
 clear e1 e2 e3 e4 HA HB hx hy hc
 generalize bndE (ofP x) (ofP y) 1 = e at *
 generalize bndE (ofP x) (ofP y) 0 = f at *
 generalize (bndG (ofP x) (ofP y) 1).map Nd.d = J' at *
 generalize (bndG (ofP x) (ofP y) 0).map Nd.d = M' at *
 generalize subG (ofP x) (ofP z) = p1 at *
 generalize subG (ofP y) (ofP z) = p2 at *
 generalize subG (ofP z) (ofP x) = p3 at *
 generalize subG (ofP z) (ofP y) = p4 at *
 generalize (ofP x).map Nd.d = A' at *
 generalize (ofP y).map Nd.d = B' at *
 generalize (ofP z).map Nd.d = C' at *
 generalize tCheck z = cz at *
 obtain ⟨k,so,nm,ls,l⟩:=x
 obtain ⟨k',so',nm',ls',l'⟩:=y
 obtain ⟨k2,so2,nm2,ls2,l2⟩:=z
 simp only [Tp.d] at hJ hM hO1 hO2 hO3 ⊢
 refine fn_of_swp (N:=217) Tryd.func5 rfl (by decide) rfl rfl (by simp) (fun C h0=>?_)
 simp only [argE]
 repeat' (first|(with_reducible apply zz1)|((with_reducible refine zz4 ?_ ?_);rfl)|((with_reducible refine zz2 ?_ (fun K' hK'=>?_));rfl;simp only [WD,simprocAttr];(repeat (refine And.intro ?_ ?_;focus (clear hK';intros;simp_all;done)));(try (refine hK' _ _ ?_;clear hK' K')))|((with_reducible refine zz3 ?_ ?_);rfl;refine ⟨_,rfl,fun h=>?_,fun h=>?_⟩ <;> try exact absurd h (by decide)))
 refine stop_call h0 rfl (by simp only [WD,simprocAttr]) rfl (by simp only [keepS,WD,simprocAttr]) (hF) ?_
 simp only [WD,simprocAttr,inX,dropS, ]
 (repeat (refine And.intro ?_ ?_;focus (clear hK';intros;simp_all;done)))
 (try (refine hK' _ _ ?_;clear hK' K'))
 repeat' (first|(with_reducible apply zz1)|((with_reducible refine zz4 ?_ ?_);rfl)|((with_reducible refine zz2 ?_ (fun K' hK'=>?_));rfl;simp only [WD,simprocAttr,hFl2,Bool.not_true,Bool.not_false,cond_true,cond_false,bne_self_eq_false,beq_self_eq_true];(repeat (refine And.intro ?_ ?_;focus (clear hK';intros;simp_all;done)));(try (refine hK' _ _ ?_;clear hK' K')))|((with_reducible refine zz3 ?_ ?_);rfl;refine ⟨_,rfl,fun h=>?_,fun h=>?_⟩ <;> try exact absurd h (by decide)))
 refine stop_call h0 rfl (by simp only [WD,simprocAttr]) rfl (by simp only [keepS,WD,simprocAttr]) (hJ) ?_
 simp only [WD,simprocAttr,inX,dropS, ]
 (repeat (refine And.intro ?_ ?_;focus (clear hK';intros;simp_all;done)))
 (try (refine hK' _ _ ?_;clear hK' K'))
 repeat' (first|(with_reducible apply zz1)|((with_reducible refine zz4 ?_ ?_);rfl)|((with_reducible refine zz2 ?_ (fun K' hK'=>?_));rfl;simp only [WD,simprocAttr];(repeat (refine And.intro ?_ ?_;focus (clear hK';intros;simp_all;done)));(try (refine hK' _ _ ?_;clear hK' K')))|((with_reducible refine zz3 ?_ ?_);rfl;refine ⟨_,rfl,fun h=>?_,fun h=>?_⟩ <;> try exact absurd h (by decide)))
 refine stop_call h0 rfl (by simp only [WD,simprocAttr]) rfl (by simp only [keepS,WD,simprocAttr]) (hM) ?_
 simp only [WD,simprocAttr,inX,dropS, ]
 (repeat (refine And.intro ?_ ?_;focus (clear hK';intros;simp_all;done)))
 (try (refine hK' _ _ ?_;clear hK' K'))
 repeat' (first|(with_reducible apply zz1)|((with_reducible refine zz4 ?_ ?_);rfl)|((with_reducible refine zz2 ?_ (fun K' hK'=>?_));rfl;simp only [WD,simprocAttr];(repeat (refine And.intro ?_ ?_;focus (clear hK';intros;simp_all;done)));(try (refine hK' _ _ ?_;clear hK' K')))|((with_reducible refine zz3 ?_ ?_);rfl;refine ⟨_,rfl,fun h=>?_,fun h=>?_⟩ <;> try exact absurd h (by decide)))
 refine stop_call h0 rfl (by simp only [WD,simprocAttr]) rfl (by simp only [keepS,WD,simprocAttr]) (hO1) ?_
 simp only [WD,simprocAttr,inX,dropS, ]
 (repeat (refine And.intro ?_ ?_;focus (clear hK';intros;simp_all;done)))
 (try (refine hK' _ _ ?_;clear hK' K'))
 repeat' (first|(with_reducible apply zz1)|((with_reducible refine zz4 ?_ ?_);rfl)|((with_reducible refine zz2 ?_ (fun K' hK'=>?_));rfl;simp only [WD,simprocAttr];(repeat (refine And.intro ?_ ?_;focus (clear hK';intros;simp_all;done)));(try (refine hK' _ _ ?_;clear hK' K')))|((with_reducible refine zz3 ?_ ?_);rfl;refine ⟨_,rfl,fun h=>?_,fun h=>?_⟩ <;> try exact absurd h (by decide)))
 refine stop_call h0 rfl (by simp only [WD,simprocAttr]) rfl (by simp only [keepS,WD,simprocAttr]) (hO2) ?_
 simp only [WD,simprocAttr,inX,dropS, ]
 (repeat (refine And.intro ?_ ?_;focus (clear hK';intros;simp_all;done)))
 (try (refine hK' _ _ ?_;clear hK' K'))
 repeat' (first|(with_reducible first|apply zw0|refine swp_block ?_|refine swp_skip ?_|refine swp_ret ?_|refine swp_exit ?_|refine swp_label ?_|apply zw6|refine kseq_x ?_|refine kseq_r ?_|refine kblk_n ?_|refine kblk_r ?_|refine kblk_xs ?_|refine kloop_x ?_|refine kloop_r ?_)|((with_reducible refine kblk_xn ?_ ?_);rfl)|((with_reducible refine swp_regionP ?_ ?_ (fun K' hK'=>?_));rfl;rfl;simp only [WD,simprocAttr,Bool.not_true,Bool.not_false,cond_true,cond_false,bne_self_eq_false,beq_self_eq_true];(repeat (refine And.intro ?_ ?_;focus (clear hK';intros;simp_all;done)));(try (refine hK' _ _ ?_;clear hK' K')))|((with_reducible refine zw15 ?_ ?_);rfl;first | refine ⟨_,rfl,fun h=>?_,fun h=>absurd h (by decide)⟩ | refine ⟨_,rfl,fun h=>absurd h (by decide),fun h=>?_⟩ | fail))
 -- TRACE
 refine swp_midK [(5,.ref 2 0),(9,.d (.slc J')),(10,.d (iD e)),(11,.d (.slc M')),(12,.d (iD f)),(13,.d (.slc A')),(15,.d (.slc B'))] [(2,.cells [.d (iD k2),.d (iD so2),.d (sD nm2),.d (.slc (ls2.map sD)),.d (.slc (Tp.ds l2))])] ?_ ?_
 · refine zw15 ?_ ?_
   · rfl
   refine ⟨_,rfl,fun h=>?_,fun h=>?_⟩
   · obtain ⟨k1,k2⟩:=hg1 (by simpa using h)
     repeat' (first|(with_reducible apply zz1)|((with_reducible refine zz4 ?_ ?_);rfl)|((with_reducible refine zz2 ?_ (fun K' hK'=>?_));rfl;simp only [WD,simprocAttr];(repeat (refine And.intro ?_ ?_;focus (clear hK';intros;simp_all;done)));(try (refine hK' _ _ ?_;clear hK' K')))|((with_reducible refine zz3 ?_ ?_);rfl;refine ⟨_,rfl,fun h=>?_,fun h=>?_⟩ <;> try exact absurd h (by decide)))
     refine stop_call h0 rfl (by simp only [WD,simprocAttr]) rfl (by simp only [keepS,WD,simprocAttr]) (k1) ?_
     simp only [WD,simprocAttr,inX,dropS, ]
     (repeat (refine And.intro ?_ ?_;focus (clear hK';intros;simp_all;done)))
     (try (refine hK' _ _ ?_;clear hK' K'))
     repeat' (first|(with_reducible apply zz1)|((with_reducible refine zz4 ?_ ?_);rfl)|((with_reducible refine zz2 ?_ (fun K' hK'=>?_));rfl;simp only [WD,simprocAttr];(repeat (refine And.intro ?_ ?_;focus (clear hK';intros;simp_all;done)));(try (refine hK' _ _ ?_;clear hK' K')))|((with_reducible refine zz3 ?_ ?_);rfl;refine ⟨_,rfl,fun h=>?_,fun h=>?_⟩ <;> try exact absurd h (by decide)))
     refine stop_call h0 rfl (by simp only [WD,simprocAttr]) rfl (by simp only [keepS,WD,simprocAttr]) (k2) ?_
     simp only [WD,simprocAttr,inX,dropS, ]
     (repeat (refine And.intro ?_ ?_;focus (clear hK';intros;simp_all;done)))
     (try (refine hK' _ _ ?_;clear hK' K'))
     repeat' (first|(with_reducible apply zz1)|((with_reducible refine zz4 ?_ ?_);rfl)|((with_reducible refine zz2 ?_ (fun K' hK'=>?_));rfl;simp only [WD,simprocAttr,Bool.not_true,Bool.not_false,cond_true,cond_false,bne_self_eq_false,beq_self_eq_true];(repeat (refine And.intro ?_ ?_;focus (clear hK';intros;simp_all;done)));(try (refine hK' _ _ ?_;clear hK' K')))|((with_reducible refine zz3 ?_ ?_);rfl;refine ⟨_,rfl,fun h=>?_,fun h=>?_⟩ <;> try exact absurd h (by decide)))
     refine ⟨rfl,?_⟩
     refine sub_of h0 ?_ ?_ ?_ <;> simp only [US,WD,simprocAttr]
   · repeat' (first|(with_reducible apply zz1)|((with_reducible refine zz4 ?_ ?_);rfl)|((with_reducible refine zz2 ?_ (fun K' hK'=>?_));rfl;simp only [WD,simprocAttr];(repeat (refine And.intro ?_ ?_;focus (clear hK';intros;simp_all;done)));(try (refine hK' _ _ ?_;clear hK' K')))|((with_reducible refine zz3 ?_ ?_);rfl;refine ⟨_,rfl,fun h=>?_,fun h=>?_⟩ <;> try exact absurd h (by decide)))
     refine ⟨rfl,?_⟩
     refine sub_of h0 ?_ ?_ ?_ <;> simp only [US,WD,simprocAttr]
 clear hJ hM hO1 hO2 hg1
 repeat' (first|(with_reducible first|apply zw0|refine swp_block ?_|refine swp_skip ?_|refine swp_ret ?_|refine swp_exit ?_|refine swp_label ?_|apply zw6|refine kseq_x ?_|refine kseq_r ?_|refine kblk_n ?_|refine kblk_r ?_|refine kblk_xs ?_|refine kloop_x ?_|refine kloop_r ?_)|((with_reducible refine kblk_xn ?_ ?_);rfl)|((with_reducible refine swp_regionP ?_ ?_ (fun K' hK'=>?_));rfl;rfl;simp only [WD,simprocAttr];(repeat (refine And.intro ?_ ?_;focus (clear hK';intros;simp_all;done)));(try (refine hK' _ _ ?_;clear hK' K')))|((with_reducible refine zw15 ?_ ?_);rfl;first | refine ⟨_,rfl,fun h=>?_,fun h=>absurd h (by decide)⟩ | refine ⟨_,rfl,fun h=>absurd h (by decide),fun h=>?_⟩ | fail))
 -- TRACE
 refine swp_midK [(5,.ref 2 0),(9,.d (.slc J')),(10,.d (iD e)),(11,.d (.slc M')),(12,.d (iD f)),(13,.d (.slc A')),(15,.d (.slc B'))] [(2,.cells [.d (iD k2),.d (iD so2),.d (sD nm2),.d (.slc (ls2.map sD)),.d (.slc (Tp.ds l2))])] ?_ ?_
 · refine zw15 ?_ ?_
   · rfl
   refine ⟨_,rfl,fun h=>?_,fun h=>?_⟩
   · obtain ⟨k1,k2⟩:=hg2 (by simpa using h)
     repeat' (first|(with_reducible apply zz1)|((with_reducible refine zz4 ?_ ?_);rfl)|((with_reducible refine zz2 ?_ (fun K' hK'=>?_));rfl;simp only [WD,simprocAttr];(repeat (refine And.intro ?_ ?_;focus (clear hK';intros;simp_all;done)));(try (refine hK' _ _ ?_;clear hK' K')))|((with_reducible refine zz3 ?_ ?_);rfl;refine ⟨_,rfl,fun h=>?_,fun h=>?_⟩ <;> try exact absurd h (by decide)))
     refine stop_call h0 rfl (by simp only [WD,simprocAttr]) rfl (by simp only [keepS,WD,simprocAttr]) (k1) ?_
     simp only [WD,simprocAttr,inX,dropS, ]
     (repeat (refine And.intro ?_ ?_;focus (clear hK';intros;simp_all;done)))
     (try (refine hK' _ _ ?_;clear hK' K'))
     repeat' (first|(with_reducible apply zz1)|((with_reducible refine zz4 ?_ ?_);rfl)|((with_reducible refine zz2 ?_ (fun K' hK'=>?_));rfl;simp only [WD,simprocAttr];(repeat (refine And.intro ?_ ?_;focus (clear hK';intros;simp_all;done)));(try (refine hK' _ _ ?_;clear hK' K')))|((with_reducible refine zz3 ?_ ?_);rfl;refine ⟨_,rfl,fun h=>?_,fun h=>?_⟩ <;> try exact absurd h (by decide)))
     refine stop_call h0 rfl (by simp only [WD,simprocAttr]) rfl (by simp only [keepS,WD,simprocAttr]) (k2) ?_
     simp only [WD,simprocAttr,inX,dropS, ]
     (repeat (refine And.intro ?_ ?_;focus (clear hK';intros;simp_all;done)))
     (try (refine hK' _ _ ?_;clear hK' K'))
     repeat' (first|(with_reducible apply zz1)|((with_reducible refine zz4 ?_ ?_);rfl)|((with_reducible refine zz2 ?_ (fun K' hK'=>?_));rfl;simp only [WD,simprocAttr,Bool.not_true,Bool.not_false,cond_true,cond_false,bne_self_eq_false,beq_self_eq_true];(repeat (refine And.intro ?_ ?_;focus (clear hK';intros;simp_all;done)));(try (refine hK' _ _ ?_;clear hK' K')))|((with_reducible refine zz3 ?_ ?_);rfl;refine ⟨_,rfl,fun h=>?_,fun h=>?_⟩ <;> try exact absurd h (by decide)))
     refine ⟨rfl,?_⟩
     refine sub_of h0 ?_ ?_ ?_ <;> simp only [US,WD,simprocAttr]
   · repeat' (first|(with_reducible apply zz1)|((with_reducible refine zz4 ?_ ?_);rfl)|((with_reducible refine zz2 ?_ (fun K' hK'=>?_));rfl;simp only [WD,simprocAttr];(repeat (refine And.intro ?_ ?_;focus (clear hK';intros;simp_all;done)));(try (refine hK' _ _ ?_;clear hK' K')))|((with_reducible refine zz3 ?_ ?_);rfl;refine ⟨_,rfl,fun h=>?_,fun h=>?_⟩ <;> try exact absurd h (by decide)))
     refine ⟨rfl,?_⟩
     refine sub_of h0 ?_ ?_ ?_ <;> simp only [US,WD,simprocAttr]
 clear hg2
 repeat' (first|(with_reducible apply zz1)|((with_reducible refine zz4 ?_ ?_);rfl)|((with_reducible refine zz2 ?_ (fun K' hK'=>?_));rfl;simp only [WD,simprocAttr];(repeat (refine And.intro ?_ ?_;focus (clear hK';intros;simp_all;done)));(try (refine hK' _ _ ?_;clear hK' K')))|((with_reducible refine zz3 ?_ ?_);rfl;refine ⟨_,rfl,fun h=>?_,fun h=>?_⟩ <;> try exact absurd h (by decide)))
 refine stop_call h0 rfl (by simp only [WD,simprocAttr]) rfl (by simp only [keepS,WD,simprocAttr]) (hO3) ?_
 simp only [WD,simprocAttr,inX,dropS, ]
 (repeat (refine And.intro ?_ ?_;focus (clear hK';intros;simp_all;done)))
 (try (refine hK' _ _ ?_;clear hK' K'))
 by_cases hz : cz = 0
 rotate_left
 · have g1 : (cz != 0) = true:=by simpa using hz
   repeat' (first|(with_reducible apply zz1)|((with_reducible refine zz4 ?_ ?_);rfl)|((with_reducible refine zz2 ?_ (fun K' hK'=>?_));rfl;simp only [WD,simprocAttr,g1];(repeat (refine And.intro ?_ ?_;focus (clear hK';intros;simp_all;done)));(try (refine hK' _ _ ?_;clear hK' K')))|((with_reducible refine zz3 ?_ ?_);rfl;refine ⟨_,rfl,fun h=>?_,fun h=>?_⟩ <;> try exact absurd h (by decide)))
   simp only [Kret,retL,retOne,oneV,WD,simprocAttr]
 subst hz
 obtain ⟨k1,k2,k3,k4⟩:=hg3 rfl
 have hg4:=hg4 rfl
 have hg5:=hg5 rfl
 repeat' (first|(with_reducible apply zz1)|((with_reducible refine zz4 ?_ ?_);rfl)|((with_reducible refine zz2 ?_ (fun K' hK'=>?_));rfl;simp only [WD,simprocAttr,bne_self_eq_false];(repeat (refine And.intro ?_ ?_;focus (clear hK';intros;simp_all;done)));(try (refine hK' _ _ ?_;clear hK' K')))|((with_reducible refine zz3 ?_ ?_);rfl;refine ⟨_,rfl,fun h=>?_,fun h=>?_⟩ <;> try exact absurd h (by decide)))
 refine stop_call h0 rfl (by simp only [WD,simprocAttr]) rfl (by simp only [keepS,WD,simprocAttr]) (k1) ?_
 simp only [WD,simprocAttr,inX,dropS, ]
 (repeat (refine And.intro ?_ ?_;focus (clear hK';intros;simp_all;done)))
 (try (refine hK' _ _ ?_;clear hK' K'))
 repeat' (first|(with_reducible apply zz1)|((with_reducible refine zz4 ?_ ?_);rfl)|((with_reducible refine zz2 ?_ (fun K' hK'=>?_));rfl;simp only [WD,simprocAttr];(repeat (refine And.intro ?_ ?_;focus (clear hK';intros;simp_all;done)));(try (refine hK' _ _ ?_;clear hK' K')))|((with_reducible refine zz3 ?_ ?_);rfl;refine ⟨_,rfl,fun h=>?_,fun h=>?_⟩ <;> try exact absurd h (by decide)))
 refine stop_call h0 rfl (by simp only [WD,simprocAttr]) rfl (by simp only [keepS,WD,simprocAttr]) (k2) ?_
 simp only [WD,simprocAttr,inX,dropS, ]
 (repeat (refine And.intro ?_ ?_;focus (clear hK';intros;simp_all;done)))
 (try (refine hK' _ _ ?_;clear hK' K'))
 refine zw6 ?_
 refine zw0 ?_
 refine swp_midK [(11,.d (.slc M')),(12,.d (iD f)),(13,.d (.slc A')),(15,.d (.slc B')),(25,.d (.slc C'))] [] ?_ ?_
 · cases p1 with
   | false =>
    repeat' (first|(with_reducible apply zz1)|((with_reducible refine zz4 ?_ ?_);rfl)|((with_reducible refine zz2 ?_ (fun K' hK'=>?_));rfl;simp only [WD,simprocAttr,Bool.not_true,Bool.not_false,cond_true,cond_false,bne_self_eq_false,beq_self_eq_true];(repeat (refine And.intro ?_ ?_;focus (clear hK';intros;simp_all;done)));(try (refine hK' _ _ ?_;clear hK' K')))|((with_reducible refine zz3 ?_ ?_);rfl;refine ⟨_,rfl,fun h=>?_,fun h=>?_⟩ <;> try exact absurd h (by decide)))
    refine ⟨rfl,?_⟩
    refine sub_of h0 ?_ ?_ ?_ <;> simp only [US,WD,simprocAttr]
   | true => cases p2 with
    | false =>
     repeat' (first|(with_reducible apply zz1)|((with_reducible refine zz4 ?_ ?_);rfl)|((with_reducible refine zz2 ?_ (fun K' hK'=>?_));rfl;simp only [WD,simprocAttr,Bool.not_true,Bool.not_false,cond_true,cond_false,bne_self_eq_false,beq_self_eq_true];(repeat (refine And.intro ?_ ?_;focus (clear hK';intros;simp_all;done)));(try (refine hK' _ _ ?_;clear hK' K')))|((with_reducible refine zz3 ?_ ?_);rfl;refine ⟨_,rfl,fun h=>?_,fun h=>?_⟩ <;> try exact absurd h (by decide)))
     refine ⟨rfl,?_⟩
     refine sub_of h0 ?_ ?_ ?_ <;> simp only [US,WD,simprocAttr]
    | true =>
     by_cases h3 : e = 2
     · have g3 : (e != 2) = false:=by simpa using h3
       repeat' (first|(with_reducible apply zz1)|((with_reducible refine zz4 ?_ ?_);rfl)|((with_reducible refine zz2 ?_ (fun K' hK'=>?_));rfl;simp only [WD,simprocAttr,g3,Bool.not_true,Bool.not_false,cond_true,cond_false,bne_self_eq_false,beq_self_eq_true];(repeat (refine And.intro ?_ ?_;focus (clear hK';intros;simp_all;done)));(try (refine hK' _ _ ?_;clear hK' K')))|((with_reducible refine zz3 ?_ ?_);rfl;refine ⟨_,rfl,fun h=>?_,fun h=>?_⟩ <;> try exact absurd h (by decide)))
       refine ⟨rfl,?_⟩
       refine sub_of h0 ?_ ?_ ?_ <;> simp only [US,WD,simprocAttr]
     · have g3 : (e != 2) = true:=by simpa using h3
       obtain ⟨he0,k5⟩:=hg4 rfl rfl h3
       have g4 : (e != 0) = false:=by simpa using he0
       repeat' (first|(with_reducible apply zz1)|((with_reducible refine zz4 ?_ ?_);rfl)|((with_reducible refine zz2 ?_ (fun K' hK'=>?_));rfl;simp only [WD,simprocAttr,g3,Bool.not_true,Bool.not_false,cond_true,cond_false,bne_self_eq_false,beq_self_eq_true];(repeat (refine And.intro ?_ ?_;focus (clear hK';intros;simp_all;done)));(try (refine hK' _ _ ?_;clear hK' K')))|((with_reducible refine zz3 ?_ ?_);rfl;refine ⟨_,rfl,fun h=>?_,fun h=>?_⟩ <;> try exact absurd h (by decide)))
       refine stop_call h0 rfl (by simp only [WD,simprocAttr]) rfl (by simp only [keepS,WD,simprocAttr]) (k5) ?_
       simp only [WD,simprocAttr,inX,dropS, ]
       (repeat (refine And.intro ?_ ?_;focus (clear hK';intros;simp_all;done)))
       (try (refine hK' _ _ ?_;clear hK' K'))
       repeat' (first|(with_reducible apply zz1)|((with_reducible refine zz4 ?_ ?_);rfl)|((with_reducible refine zz2 ?_ (fun K' hK'=>?_));rfl;simp only [WD,simprocAttr,g4,Bool.not_true,Bool.not_false,cond_true,cond_false,bne_self_eq_false,beq_self_eq_true];(repeat (refine And.intro ?_ ?_;focus (clear hK';intros;simp_all;done)));(try (refine hK' _ _ ?_;clear hK' K')))|((with_reducible refine zz3 ?_ ?_);rfl;refine ⟨_,rfl,fun h=>?_,fun h=>?_⟩ <;> try exact absurd h (by decide)))
       refine ⟨rfl,?_⟩
       refine sub_of h0 ?_ ?_ ?_ <;> simp only [US,WD,simprocAttr]
 repeat' (first|(with_reducible apply zz1)|((with_reducible refine zz4 ?_ ?_);rfl)|((with_reducible refine zz2 ?_ (fun K' hK'=>?_));rfl;simp only [WD,simprocAttr];(repeat (refine And.intro ?_ ?_;focus (clear hK';intros;simp_all;done)));(try (refine hK' _ _ ?_;clear hK' K')))|((with_reducible refine zz3 ?_ ?_);rfl;refine ⟨_,rfl,fun h=>?_,fun h=>?_⟩ <;> try exact absurd h (by decide)))
 refine stop_call h0 rfl (by simp only [WD,simprocAttr]) rfl (by simp only [keepS,WD,simprocAttr]) (k3) ?_
 simp only [WD,simprocAttr,inX,dropS, ]
 (repeat (refine And.intro ?_ ?_;focus (clear hK';intros;simp_all;done)))
 (try (refine hK' _ _ ?_;clear hK' K'))
 repeat' (first|(with_reducible apply zz1)|((with_reducible refine zz4 ?_ ?_);rfl)|((with_reducible refine zz2 ?_ (fun K' hK'=>?_));rfl;simp only [WD,simprocAttr];(repeat (refine And.intro ?_ ?_;focus (clear hK';intros;simp_all;done)));(try (refine hK' _ _ ?_;clear hK' K')))|((with_reducible refine zz3 ?_ ?_);rfl;refine ⟨_,rfl,fun h=>?_,fun h=>?_⟩ <;> try exact absurd h (by decide)))
 refine stop_call h0 rfl (by simp only [WD,simprocAttr]) rfl (by simp only [keepS,WD,simprocAttr]) (k4) ?_
 simp only [WD,simprocAttr,inX,dropS, ]
 (repeat (refine And.intro ?_ ?_;focus (clear hK';intros;simp_all;done)))
 (try (refine hK' _ _ ?_;clear hK' K'))
 refine zw6 ?_
 refine zw0 ?_
 refine swp_midK [] [] ?_ ?_
 · cases p3 with
   | false =>
    repeat' (first|(with_reducible apply zz1)|((with_reducible refine zz4 ?_ ?_);rfl)|((with_reducible refine zz2 ?_ (fun K' hK'=>?_));rfl;simp only [WD,simprocAttr,Bool.not_true,Bool.not_false,cond_true,cond_false,bne_self_eq_false,beq_self_eq_true];(repeat (refine And.intro ?_ ?_;focus (clear hK';intros;simp_all;done)));(try (refine hK' _ _ ?_;clear hK' K')))|((with_reducible refine zz3 ?_ ?_);rfl;refine ⟨_,rfl,fun h=>?_,fun h=>?_⟩ <;> try exact absurd h (by decide)))
    refine ⟨rfl,?_⟩
    refine sub_of h0 ?_ ?_ ?_ <;> simp only [US,WD,simprocAttr]
   | true => cases p4 with
    | false =>
     repeat' (first|(with_reducible apply zz1)|((with_reducible refine zz4 ?_ ?_);rfl)|((with_reducible refine zz2 ?_ (fun K' hK'=>?_));rfl;simp only [WD,simprocAttr,Bool.not_true,Bool.not_false,cond_true,cond_false,bne_self_eq_false,beq_self_eq_true];(repeat (refine And.intro ?_ ?_;focus (clear hK';intros;simp_all;done)));(try (refine hK' _ _ ?_;clear hK' K')))|((with_reducible refine zz3 ?_ ?_);rfl;refine ⟨_,rfl,fun h=>?_,fun h=>?_⟩ <;> try exact absurd h (by decide)))
     refine ⟨rfl,?_⟩
     refine sub_of h0 ?_ ?_ ?_ <;> simp only [US,WD,simprocAttr]
    | true =>
     by_cases h3 : f = 2
     · have g3 : (f != 2) = false:=by simpa using h3
       repeat' (first|(with_reducible apply zz1)|((with_reducible refine zz4 ?_ ?_);rfl)|((with_reducible refine zz2 ?_ (fun K' hK'=>?_));rfl;simp only [WD,simprocAttr,g3,Bool.not_true,Bool.not_false,cond_true,cond_false,bne_self_eq_false,beq_self_eq_true];(repeat (refine And.intro ?_ ?_;focus (clear hK';intros;simp_all;done)));(try (refine hK' _ _ ?_;clear hK' K')))|((with_reducible refine zz3 ?_ ?_);rfl;refine ⟨_,rfl,fun h=>?_,fun h=>?_⟩ <;> try exact absurd h (by decide)))
       refine ⟨rfl,?_⟩
       refine sub_of h0 ?_ ?_ ?_ <;> simp only [US,WD,simprocAttr]
     · have g3 : (f != 2) = true:=by simpa using h3
       obtain ⟨he0,k5⟩:=hg5 rfl rfl h3
       have g4 : (f != 0) = false:=by simpa using he0
       repeat' (first|(with_reducible apply zz1)|((with_reducible refine zz4 ?_ ?_);rfl)|((with_reducible refine zz2 ?_ (fun K' hK'=>?_));rfl;simp only [WD,simprocAttr,g3,Bool.not_true,Bool.not_false,cond_true,cond_false,bne_self_eq_false,beq_self_eq_true];(repeat (refine And.intro ?_ ?_;focus (clear hK';intros;simp_all;done)));(try (refine hK' _ _ ?_;clear hK' K')))|((with_reducible refine zz3 ?_ ?_);rfl;refine ⟨_,rfl,fun h=>?_,fun h=>?_⟩ <;> try exact absurd h (by decide)))
       refine stop_call h0 rfl (by simp only [WD,simprocAttr]) rfl (by simp only [keepS,WD,simprocAttr]) (k5) ?_
       simp only [WD,simprocAttr,inX,dropS, ]
       (repeat (refine And.intro ?_ ?_;focus (clear hK';intros;simp_all;done)))
       (try (refine hK' _ _ ?_;clear hK' K'))
       repeat' (first|(with_reducible apply zz1)|((with_reducible refine zz4 ?_ ?_);rfl)|((with_reducible refine zz2 ?_ (fun K' hK'=>?_));rfl;simp only [WD,simprocAttr,g4,Bool.not_true,Bool.not_false,cond_true,cond_false,bne_self_eq_false,beq_self_eq_true];(repeat (refine And.intro ?_ ?_;focus (clear hK';intros;simp_all;done)));(try (refine hK' _ _ ?_;clear hK' K')))|((with_reducible refine zz3 ?_ ?_);rfl;refine ⟨_,rfl,fun h=>?_,fun h=>?_⟩ <;> try exact absurd h (by decide)))
       refine ⟨rfl,?_⟩
       refine sub_of h0 ?_ ?_ ?_ <;> simp only [US,WD,simprocAttr]
 repeat' (first|(with_reducible apply zz1)|((with_reducible refine zz4 ?_ ?_);rfl)|((with_reducible refine zz2 ?_ (fun K' hK'=>?_));rfl;simp only [WD,simprocAttr];(repeat (refine And.intro ?_ ?_;focus (clear hK';intros;simp_all;done)));(try (refine hK' _ _ ?_;clear hK' K')))|((with_reducible refine zz3 ?_ ?_);rfl;refine ⟨_,rfl,fun h=>?_,fun h=>?_⟩ <;> try exact absurd h (by decide)))
 simp only [Kret,retL,retOne,oneV,WD,simprocAttr]
end Go.Proofs.YtgecnlcbdbaneaaDoor
