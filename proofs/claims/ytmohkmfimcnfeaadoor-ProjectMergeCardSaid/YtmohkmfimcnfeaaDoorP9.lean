/- The law ProjectMerge by a symbolic walk. -/
-- TYPESA
import Derived.Test.YtmohkmfimcnfeaaDoorP8
set_option linter.unusedVariables false
set_option linter.unusedSimpArgs false
namespace Go.Proofs.YtmohkmfimcnfeaaDoor
open Go.RowKit Go.Sw
open Go.Sw renaming swp_region → zw17

theorem okL_sm : ∀ (n : Nat) (x : Lt),x.size ≤ n → OkL x → x.sm
 | 0,x,h,_=>by have:=x.size_pos;omega
 | n + 1,.mk k wi so nm ls l,h,ho=>by
  obtain ⟨h1,h2,h3⟩:=okL_kids ho
  have all : ∀ l : List Lt,Lt.sizes l ≤ n → (∀ x ∈ l,OkL x) → Lt.sms l:=by
   intro l
   induction l with
   | nil=>intro _ _;trivial
   | cons y l ih =>
    intro hz hh
    simp only [Lt.sizes] at hz
    exact ⟨okL_sm n y (by omega) (hh y (by simp)),ih (by omega) fun x hx=>hh x (by simp [hx])⟩
  exact ⟨⟨by omega,by omega⟩,all l (by simp only [Lt.size] at h;omega) h3⟩
theorem lCheck_zero {x : Lt} (h : OkL x) (hc : clB x [] = true) (hz : x.size ≤ 60) : lCheck x = 0:=by
 have:=lchk_eq x [] 60 (by omega) h hc
 rw [if_pos (by omega)] at this
 unfold lCheck
 rw [this]
def endL : Lt:=.mk 1 noB 0 noB [] []
theorem endL_merge : mergeP endL endL = (endL,0):=by
 have h : lCheck endL = 0:=lCheck_zero .nil rfl (by decide)
 unfold mergeP
 rw [if_neg (by simpa using h),if_neg (by simpa using h),ms_self 60 endL .nil (by decide)]
theorem mergeP_bad {a b : Lt} (h : lCheck a ≠ 0 ∨ lCheck b ≠ 0) : (mergeP a b).1 = Lt.zero ∧ (mergeP a b).2 ≠ 0:=by
 unfold mergeP
 by_cases h1 : lCheck a = 0
 · rw [if_neg (by simpa using h1)]
   rcases h with h | h
   · exact absurd h1 h
   · rw [if_pos h];exact ⟨rfl,h⟩
 · rw [if_pos h1];exact ⟨rfl,h1⟩
theorem mergeP_ok {a b : Lt} (ha : lCheck a = 0) (hb : lCheck b = 0) : mergeP a b = match ms 60 a b with | some x=>(x,0) | none=>(Lt.zero,8):=by
 unfold mergeP
 rw [if_neg (by simpa using ha),if_neg (by simpa using hb)]
 cases ms 60 a b <;> rfl
theorem mergeP_inv {a b : Lt} (h : (mergeP a b).2 = 0) : lCheck a = 0 ∧ lCheck b = 0 ∧ ms 60 a b = some (mergeP a b).1:=by
 by_cases h1 : lCheck a = 0
 · by_cases h2 : lCheck b = 0
   · refine ⟨h1,h2,?_⟩
     rw [mergeP_ok h1 h2] at h ⊢
     cases hm : ms 60 a b with
     | some x=>rfl
     | none=>rw [hm] at h;cases h
   · exact absurd h (mergeP_bad (.inr h2)).2
 · exact absurd h (mergeP_bad (.inl h1)).2
theorem mergeP_sm (a b : Lt) : (mergeP a b).1.sm:=by
 by_cases h : (mergeP a b).2 = 0
 · obtain ⟨h1,h2,h3⟩:=mergeP_inv h
   have:=ms_ok 60 a b _ (okL_check h1).1 (okL_check h2).1 h3
   exact okL_sm _ _ (Nat.le_refl _) this.1
 · have hz : Lt.zero.sm:=⟨⟨by simp,by simp⟩,trivial⟩
   unfold mergeP at h ⊢
   by_cases h1 : lCheck a = 0
   · rw [if_neg (by simpa using h1)] at h ⊢
     by_cases h2 : lCheck b = 0
     · rw [if_neg (by simpa using h2)] at h ⊢
       cases hm : ms 60 a b with
       | some x=>rw [hm] at h;exact absurd rfl h
       | none=>exact hz
     · rw [if_pos h2];exact hz
   · rw [if_pos h1];exact hz
theorem merge_three {a b c : Lt} (ha : lCheck a = 0) (hb : lCheck b = 0) {x p q : Lt} (h1 : ms 60 a b = some x) (h2 : mergeP x c = (p,0)) (h3 : mergeP b c = (q,0)) :
 mergeP a q = (p,0) ∨ (mergeP a q).2 = 2:=by
 obtain ⟨cx,cc,e2⟩:=mergeP_inv (a:=x) (b:=c) (by rw [h2])
 obtain ⟨-, -,e3⟩:=mergeP_inv (a:=b) (b:=c) (by rw [h3])
 rw [h2] at e2
 rw [h3] at e3
 have oa:=okL_check ha
 have ob:=okL_check hb
 have oc:=okL_check cc
 have hq:=ms_ok 60 b c q ob.1 oc.1 e3
 have hcl:=ms_cl 60 b c q [] ob.1 oc.1 e3 ob.2.1 oc.2.1
 have has:=ms_assoc 60 a b c x p q oa.1 ob.1 oc.1 h1 e2 e3
 rcases lCheck_or hq.1 hcl with h | h
 · left
   rw [mergeP_ok ha h,has]
 · right
   unfold mergeP
   rw [if_neg (by simpa using ha),if_pos (by rw [h];decide)]
   exact h

set_option maxHeartbeats 16000000 in
set_option maxRecDepth 100000 in
theorem mergeLaw (Γ : Gl) (a b c : Lt) (sa : a.sm) (sb : b.sm) (sc : c.sm) : DFn Tryd.prog Γ 5 [a.d,b.d,c.d] (.v (.bool true)):=by
 have hE:=Merge_fn Γ endL endL (okL_sm 1 _ (by decide) .nil) (okL_sm 1 _ (by decide) .nil)
 rw [endL_merge] at hE
 simp only [endL,Lt.d,Lt.ds,List.map_nil] at hE
 have hab:=Merge_fn Γ a b sa sb
 have hba:=Merge_fn Γ b a sb sa
 have hca:=LCheck_fn Γ a sa
 have hcb:=LCheck_fn Γ b sb
 by_cases bad : lCheck a ≠ 0 ∨ lCheck b ≠ 0
 · obtain ⟨z1,n1⟩:=mergeP_bad bad
   obtain ⟨z2,n2⟩:=mergeP_bad bad.symm
   rw [z1] at hab
   rw [z2] at hba
   have g1 : ((mergeP a b).2 != 0) = true:=by simpa using n1
   have g2 : ((mergeP b a).2 != 0) = true:=by simpa using n2
   generalize (mergeP a b).2 = e1 at *
   generalize (mergeP b a).2 = e2 at *
   clear z1 z2 n1 n2
   by_cases ha : lCheck a = 0
   · have hb : (lCheck b != 0) = true:=by simpa using (bad.resolve_left (by simpa using ha))
     rw [ha] at hca
     generalize lCheck b = q at *
     clear bad sa sb sc
     obtain ⟨ak,aw,aso,an,als,al⟩:=a
     obtain ⟨bk,bw,bs,bn,bls,bl⟩:=b
     obtain ⟨ck,cw,cs,cn,cls,cl⟩:=c
     simp only [Lt.d,Lt.zero,Lt.ds,List.map_nil] at hab hba hca hcb ⊢
     refine fn_of_swp (N:=136) Tryd.func5 rfl (by decide) rfl rfl (by simp) (fun C h0=>?_)
     simp only [argE]
     repeat' (first|(with_reducible apply zz1)|((with_reducible apply zz2);rfl;intro K' hK';simp only [WA,simprocAttr];(repeat (constructor;focus (clear hK';intros;simp_all;done)));(try (apply hK';clear hK' K')))|((with_reducible apply zz3);rfl;all_goals (intro h;try exact absurd h (by decide))))
     refine stop_call h0 rfl (by simp only [WA,simprocAttr]) rfl (by simp only [keepS,Option.isSome_some,WA,simprocAttr]) (hE) ?_
     simp only [WA,simprocAttr,inX,dropS, ]
     (repeat (constructor;focus (clear hK';intros;simp_all;done)))
     (try (apply hK';clear hK' K'))
     repeat' (first|(with_reducible apply zz1)|((with_reducible apply zz2);rfl;intro K' hK';simp only [WA,simprocAttr,bne_self_eq_false,Bool.not_true,Bool.not_false,cond_true,cond_false];(repeat (constructor;focus (clear hK';intros;simp_all;done)));(try (apply hK';clear hK' K')))|((with_reducible apply zz3);rfl;all_goals (intro h;try exact absurd h (by decide))))
     refine stop_call h0 rfl (by simp only [WA,simprocAttr]) rfl (by simp only [keepS,Option.isSome_some,WA,simprocAttr]) (hab) ?_
     simp only [WA,simprocAttr,inX,dropS, ]
     (repeat (constructor;focus (clear hK';intros;simp_all;done)))
     (try (apply hK';clear hK' K'))
     repeat' (first|(with_reducible apply zz1)|((with_reducible apply zz2);rfl;intro K' hK';simp only [WA,simprocAttr];(repeat (constructor;focus (clear hK';intros;simp_all;done)));(try (apply hK';clear hK' K')))|((with_reducible apply zz3);rfl;all_goals (intro h;try exact absurd h (by decide))))
     refine stop_call h0 rfl (by simp only [WA,simprocAttr]) rfl (by simp only [keepS,Option.isSome_some,WA,simprocAttr]) (hba) ?_
     simp only [WA,simprocAttr,inX,dropS, ]
     (repeat (constructor;focus (clear hK';intros;simp_all;done)))
     (try (apply hK';clear hK' K'))
     repeat' (first|(with_reducible apply zz1)|((with_reducible apply zz2);rfl;intro K' hK';simp only [WA,simprocAttr];(repeat (constructor;focus (clear hK';intros;simp_all;done)));(try (apply hK';clear hK' K')))|((with_reducible apply zz3);rfl;all_goals (intro h;try exact absurd h (by decide))))
     (with_reducible refine zw17 ?_ (fun K' hK'=>?_)
      · rfl
      simp only [WA,simprocAttr]
      (repeat (constructor;focus (clear hK';intros;simp_all;done))))
     refine stop_callF rfl (by simp only [WA,simprocAttr]) rfl rfl (hca) ?_
     simp only [WA,simprocAttr,inX,dropS,bne_self_eq_false,cond_false,Bool.not_false]
     (repeat (constructor;focus (clear hK';intros;simp_all;done)))
     (try (apply hK';clear hK' K'))
     refine stop_guard rfl ?_
     refine stop_callF rfl (by simp only [WA,simprocAttr]) rfl rfl (hcb) ?_
     simp only [WA,simprocAttr,inX,dropS,hb]
     (repeat (constructor;focus (clear hK';intros;simp_all;done)))
     (try (apply hK';clear hK' K'))
     repeat' (first|(with_reducible apply zz1)|((with_reducible apply zz2);rfl;intro K' hK';simp only [WA,simprocAttr,g1,g2];(repeat (constructor;focus (clear hK';intros;simp_all;done)));(try (apply hK';clear hK' K')))|((with_reducible apply zz3);rfl;all_goals (intro h;try exact absurd h (by decide))))
     simp only [Kret,retL,retOne,oneV,WA,simprocAttr]
   · have hb : (lCheck a != 0) = true:=by simpa using ha
     generalize lCheck a = q at *
     clear bad sa sb sc ha
     obtain ⟨ak,aw,aso,an,als,al⟩:=a
     obtain ⟨bk,bw,bs,bn,bls,bl⟩:=b
     obtain ⟨ck,cw,cs,cn,cls,cl⟩:=c
     simp only [Lt.d,Lt.zero,Lt.ds,List.map_nil] at hab hba hca hcb ⊢
     refine fn_of_swp (N:=136) Tryd.func5 rfl (by decide) rfl rfl (by simp) (fun C h0=>?_)
     simp only [argE]
     repeat' (first|(with_reducible apply zz1)|((with_reducible apply zz2);rfl;intro K' hK';simp only [WA,simprocAttr];(repeat (constructor;focus (clear hK';intros;simp_all;done)));(try (apply hK';clear hK' K')))|((with_reducible apply zz3);rfl;all_goals (intro h;try exact absurd h (by decide))))
     refine stop_call h0 rfl (by simp only [WA,simprocAttr]) rfl (by simp only [keepS,Option.isSome_some,WA,simprocAttr]) (hE) ?_
     simp only [WA,simprocAttr,inX,dropS, ]
     (repeat (constructor;focus (clear hK';intros;simp_all;done)))
     (try (apply hK';clear hK' K'))
     repeat' (first|(with_reducible apply zz1)|((with_reducible apply zz2);rfl;intro K' hK';simp only [WA,simprocAttr,bne_self_eq_false,Bool.not_true,Bool.not_false,cond_true,cond_false];(repeat (constructor;focus (clear hK';intros;simp_all;done)));(try (apply hK';clear hK' K')))|((with_reducible apply zz3);rfl;all_goals (intro h;try exact absurd h (by decide))))
     refine stop_call h0 rfl (by simp only [WA,simprocAttr]) rfl (by simp only [keepS,Option.isSome_some,WA,simprocAttr]) (hab) ?_
     simp only [WA,simprocAttr,inX,dropS, ]
     (repeat (constructor;focus (clear hK';intros;simp_all;done)))
     (try (apply hK';clear hK' K'))
     repeat' (first|(with_reducible apply zz1)|((with_reducible apply zz2);rfl;intro K' hK';simp only [WA,simprocAttr];(repeat (constructor;focus (clear hK';intros;simp_all;done)));(try (apply hK';clear hK' K')))|((with_reducible apply zz3);rfl;all_goals (intro h;try exact absurd h (by decide))))
     refine stop_call h0 rfl (by simp only [WA,simprocAttr]) rfl (by simp only [keepS,Option.isSome_some,WA,simprocAttr]) (hba) ?_
     simp only [WA,simprocAttr,inX,dropS, ]
     (repeat (constructor;focus (clear hK';intros;simp_all;done)))
     (try (apply hK';clear hK' K'))
     repeat' (first|(with_reducible apply zz1)|((with_reducible apply zz2);rfl;intro K' hK';simp only [WA,simprocAttr];(repeat (constructor;focus (clear hK';intros;simp_all;done)));(try (apply hK';clear hK' K')))|((with_reducible apply zz3);rfl;all_goals (intro h;try exact absurd h (by decide))))
     (with_reducible refine zw17 ?_ (fun K' hK'=>?_)
      · rfl
      simp only [WA,simprocAttr]
      (repeat (constructor;focus (clear hK';intros;simp_all;done))))
     refine stop_callF rfl (by simp only [WA,simprocAttr]) rfl rfl (hca) ?_
     simp only [WA,simprocAttr,inX,dropS,hb]
     (repeat (constructor;focus (clear hK';intros;simp_all;done)))
     (try (apply hK';clear hK' K'))
     iterate 2 (refine stop_unmetS rfl rfl ?_;simp only [putO,UN,WA,simprocAttr])
     refine vcOps_ok rfl ?_
     simp only [WA,simprocAttr]
     (repeat (constructor;focus (clear hK';intros;simp_all;done)))
     (try (apply hK';clear hK' K'))
     repeat' (first|(with_reducible apply zz1)|((with_reducible apply zz2);rfl;intro K' hK';simp only [WA,simprocAttr,g1,g2];(repeat (constructor;focus (clear hK';intros;simp_all;done)));(try (apply hK';clear hK' K')))|((with_reducible apply zz3);rfl;all_goals (intro h;try exact absurd h (by decide))))
     simp only [Kret,retL,retOne,oneV,WA,simprocAttr]
 simp only [not_or,Decidable.not_not,ne_eq] at bad
 obtain ⟨ha,hb⟩:=bad
 have oa:=okL_check ha
 have ob:=okL_check hb
 rw [ha] at hca
 rw [hb] at hcb
 have haa:=Merge_fn Γ a a sa sa
 rw [mergeP_ok ha ha,ms_self 60 a oa.1 oa.2.2] at haa
 obtain ⟨Ta, -,hTa⟩:=ltext_ex Γ oa.1 (by omega)
 rw [mergeP_ok ha hb] at hab
 rw [mergeP_ok hb ha,ms_comm 60 b a ob.1 oa.1] at hba
 have hxs:=mergeP_sm a b
 rw [mergeP_ok ha hb] at hxs
 have hms:=ms_ok 60 a b
 have h3:=fun x p q => @merge_three a b c ha hb x p q
 generalize ms 60 a b = M at *
 have e8 : ((8 : Int) != 0) = true:=by decide
 have e88 : ((8 : Int) == 8) = true:=by decide
 cases M with
 | none =>
  simp only at hab hba
  clear h3 hms hxs sa sb sc ha hb oa ob
  obtain ⟨ak,aw,aso,an,als,al⟩:=a
  obtain ⟨bk,bw,bs,bn,bls,bl⟩:=b
  obtain ⟨ck,cw,cs,cn,cls,cl⟩:=c
  simp only [Lt.d,Lt.zero,Lt.ds,List.map_nil] at hab hba hca hcb haa hTa ⊢
  refine fn_of_swp (N:=136) Tryd.func5 rfl (by decide) rfl rfl (by simp) (fun C h0=>?_)
  simp only [argE]
  repeat' (first|(with_reducible apply zz1)|((with_reducible apply zz2);rfl;intro K' hK';simp only [WA,simprocAttr];(repeat (constructor;focus (clear hK';intros;simp_all;done)));(try (apply hK';clear hK' K')))|((with_reducible apply zz3);rfl;all_goals (intro h;try exact absurd h (by decide))))
  refine stop_call h0 rfl (by simp only [WA,simprocAttr]) rfl (by simp only [keepS,Option.isSome_some,WA,simprocAttr]) (hE) ?_
  simp only [WA,simprocAttr,inX,dropS, ]
  (repeat (constructor;focus (clear hK';intros;simp_all;done)))
  (try (apply hK';clear hK' K'))
  repeat' (first|(with_reducible apply zz1)|((with_reducible apply zz2);rfl;intro K' hK';simp only [WA,simprocAttr,bne_self_eq_false,Bool.not_true,Bool.not_false,cond_true,cond_false];(repeat (constructor;focus (clear hK';intros;simp_all;done)));(try (apply hK';clear hK' K')))|((with_reducible apply zz3);rfl;all_goals (intro h;try exact absurd h (by decide))))
  refine stop_call h0 rfl (by simp only [WA,simprocAttr]) rfl (by simp only [keepS,Option.isSome_some,WA,simprocAttr]) (hab) ?_
  simp only [WA,simprocAttr,inX,dropS, ]
  (repeat (constructor;focus (clear hK';intros;simp_all;done)))
  (try (apply hK';clear hK' K'))
  repeat' (first|(with_reducible apply zz1)|((with_reducible apply zz2);rfl;intro K' hK';simp only [WA,simprocAttr];(repeat (constructor;focus (clear hK';intros;simp_all;done)));(try (apply hK';clear hK' K')))|((with_reducible apply zz3);rfl;all_goals (intro h;try exact absurd h (by decide))))
  refine stop_call h0 rfl (by simp only [WA,simprocAttr]) rfl (by simp only [keepS,Option.isSome_some,WA,simprocAttr]) (hba) ?_
  simp only [WA,simprocAttr,inX,dropS, ]
  (repeat (constructor;focus (clear hK';intros;simp_all;done)))
  (try (apply hK';clear hK' K'))
  repeat' (first|(with_reducible apply zz1)|((with_reducible apply zz2);rfl;intro K' hK';simp only [WA,simprocAttr];(repeat (constructor;focus (clear hK';intros;simp_all;done)));(try (apply hK';clear hK' K')))|((with_reducible apply zz3);rfl;all_goals (intro h;try exact absurd h (by decide))))
  (with_reducible refine zw17 ?_ (fun K' hK'=>?_)
   · rfl
   simp only [WA,simprocAttr]
   (repeat (constructor;focus (clear hK';intros;simp_all;done))))
  refine stop_callF rfl (by simp only [WA,simprocAttr]) rfl rfl (hca) ?_
  simp only [WA,simprocAttr,inX,dropS,bne_self_eq_false,cond_false,Bool.not_false]
  (repeat (constructor;focus (clear hK';intros;simp_all;done)))
  (try (apply hK';clear hK' K'))
  refine stop_guard rfl ?_
  refine stop_callF rfl (by simp only [WA,simprocAttr]) rfl rfl (hcb) ?_
  simp only [WA,simprocAttr,inX,dropS,bne_self_eq_false]
  (repeat (constructor;focus (clear hK';intros;simp_all;done)))
  (try (apply hK';clear hK' K'))
  repeat' (first|(with_reducible apply zz1)|((with_reducible apply zz2);rfl;intro K' hK';simp only [WA,simprocAttr];(repeat (constructor;focus (clear hK';intros;simp_all;done)));(try (apply hK';clear hK' K')))|((with_reducible apply zz3);rfl;all_goals (intro h;try exact absurd h (by decide))))
  refine stop_call h0 rfl (by simp only [WA,simprocAttr]) rfl (by simp only [keepS,Option.isSome_some,WA,simprocAttr]) (haa) ?_
  simp only [WA,simprocAttr,inX,dropS, ]
  (repeat (constructor;focus (clear hK';intros;simp_all;done)))
  (try (apply hK';clear hK' K'))
  repeat' (first|(with_reducible apply zz1)|((with_reducible apply zz2);rfl;intro K' hK';simp only [WA,simprocAttr];(repeat (constructor;focus (clear hK';intros;simp_all;done)));(try (apply hK';clear hK' K')))|((with_reducible apply zz3);rfl;all_goals (intro h;try exact absurd h (by decide))))
  (with_reducible refine swp_draw ?_ ?_ ?_ ( [(9,sD Ta),(11,sD Ta)]) (fun K' hK'=>?_)
   · kernel_rfl
   · rfl
   · rfl
   simp only [WA,simprocAttr,UG,hTa,bne_self_eq_false,beq_self_eq_true,Bool.not_true,Bool.not_false,cond_false,cond_true ]
   (try (apply hK';clear hK' K')))
  repeat' (first|(with_reducible apply zz1)|((with_reducible apply zz2);rfl;intro K' hK';simp only [WA,simprocAttr,e8,e88];(repeat (constructor;focus (clear hK';intros;simp_all;done)));(try (apply hK';clear hK' K')))|((with_reducible apply zz3);rfl;all_goals (intro h;try exact absurd h (by decide))))
  simp only [Kret,retL,retOne,oneV,WA,simprocAttr]
 | some x =>
  simp only at hab hba hxs
  have hx:=hms x oa.1 ob.1 rfl
  obtain ⟨Tx, -,hTx⟩:=ltext_ex Γ hx.1 (by omega)
  have hxc:=Merge_fn Γ x c hxs sc
  have hbc:=Merge_fn Γ b c sb sc
  have hps:=fun h=>mergeP_inv (a:=x) (b:=c) h
  have hpo:=fun h1 h2=>ms_ok 60 x c (mergeP x c).1 h1 h2
  have hqs:=mergeP_sm b c
  have haq:=Merge_fn Γ a (mergeP b c).1 sa hqs
  have h3:=h3 x (mergeP x c).1 (mergeP b c).1 rfl
  clear hms
  obtain ⟨P,hP⟩ : ∃ P,mergeP x c = P:=⟨_,rfl⟩
  obtain ⟨Q,hQ⟩ : ∃ Q,mergeP b c = Q:=⟨_,rfl⟩
  rw [hP] at hxc hps hpo h3
  rw [hQ] at hbc haq h3
  obtain ⟨p,e1⟩:=P
  obtain ⟨q,e2⟩:=Q
  simp only at hxc hbc haq hps hpo h3
  by_cases c1 : e1 = 0
  rotate_left
  · have g1 : (e1 != 0) = true:=by simpa using c1
    clear h3 hps hpo haq hP hQ hqs hxs sa sb sc ha hb oa ob hx c1
    obtain ⟨ak,aw,aso,an,als,al⟩:=a
    obtain ⟨bk,bw,bs,bn,bls,bl⟩:=b
    obtain ⟨ck,cw,cs,cn,cls,cl⟩:=c
    obtain ⟨xk,xw,xs,xn,xls,xl⟩:=x
    obtain ⟨pk,pw,ps,pn,pls,pl⟩:=p
    obtain ⟨qk,qw,qs,qn,qls,ql⟩:=q
    simp only [Lt.d] at hab hba hca hcb haa hTa hTx hxc hbc ⊢
    refine fn_of_swp (N:=136) Tryd.func5 rfl (by decide) rfl rfl (by simp) (fun C h0=>?_)
    simp only [argE]
    repeat' (first|(with_reducible apply zz1)|((with_reducible apply zz2);rfl;intro K' hK';simp only [WA,simprocAttr];(repeat (constructor;focus (clear hK';intros;simp_all;done)));(try (apply hK';clear hK' K')))|((with_reducible apply zz3);rfl;all_goals (intro h;try exact absurd h (by decide))))
    refine stop_call h0 rfl (by simp only [WA,simprocAttr]) rfl (by simp only [keepS,Option.isSome_some,WA,simprocAttr]) (hE) ?_
    simp only [WA,simprocAttr,inX,dropS, ]
    (repeat (constructor;focus (clear hK';intros;simp_all;done)))
    (try (apply hK';clear hK' K'))
    repeat' (first|(with_reducible apply zz1)|((with_reducible apply zz2);rfl;intro K' hK';simp only [WA,simprocAttr,bne_self_eq_false,Bool.not_true,Bool.not_false,cond_true,cond_false];(repeat (constructor;focus (clear hK';intros;simp_all;done)));(try (apply hK';clear hK' K')))|((with_reducible apply zz3);rfl;all_goals (intro h;try exact absurd h (by decide))))
    refine stop_call h0 rfl (by simp only [WA,simprocAttr]) rfl (by simp only [keepS,Option.isSome_some,WA,simprocAttr]) (hab) ?_
    simp only [WA,simprocAttr,inX,dropS, ]
    (repeat (constructor;focus (clear hK';intros;simp_all;done)))
    (try (apply hK';clear hK' K'))
    repeat' (first|(with_reducible apply zz1)|((with_reducible apply zz2);rfl;intro K' hK';simp only [WA,simprocAttr];(repeat (constructor;focus (clear hK';intros;simp_all;done)));(try (apply hK';clear hK' K')))|((with_reducible apply zz3);rfl;all_goals (intro h;try exact absurd h (by decide))))
    refine stop_call h0 rfl (by simp only [WA,simprocAttr]) rfl (by simp only [keepS,Option.isSome_some,WA,simprocAttr]) (hba) ?_
    simp only [WA,simprocAttr,inX,dropS, ]
    (repeat (constructor;focus (clear hK';intros;simp_all;done)))
    (try (apply hK';clear hK' K'))
    repeat' (first|(with_reducible apply zz1)|((with_reducible apply zz2);rfl;intro K' hK';simp only [WA,simprocAttr];(repeat (constructor;focus (clear hK';intros;simp_all;done)));(try (apply hK';clear hK' K')))|((with_reducible apply zz3);rfl;all_goals (intro h;try exact absurd h (by decide))))
    (with_reducible refine zw17 ?_ (fun K' hK'=>?_)
     · rfl
     simp only [WA,simprocAttr]
     (repeat (constructor;focus (clear hK';intros;simp_all;done))))
    refine stop_callF rfl (by simp only [WA,simprocAttr]) rfl rfl (hca) ?_
    simp only [WA,simprocAttr,inX,dropS,bne_self_eq_false,cond_false,Bool.not_false]
    (repeat (constructor;focus (clear hK';intros;simp_all;done)))
    (try (apply hK';clear hK' K'))
    refine stop_guard rfl ?_
    refine stop_callF rfl (by simp only [WA,simprocAttr]) rfl rfl (hcb) ?_
    simp only [WA,simprocAttr,inX,dropS,bne_self_eq_false]
    (repeat (constructor;focus (clear hK';intros;simp_all;done)))
    (try (apply hK';clear hK' K'))
    repeat' (first|(with_reducible apply zz1)|((with_reducible apply zz2);rfl;intro K' hK';simp only [WA,simprocAttr];(repeat (constructor;focus (clear hK';intros;simp_all;done)));(try (apply hK';clear hK' K')))|((with_reducible apply zz3);rfl;all_goals (intro h;try exact absurd h (by decide))))
    refine stop_call h0 rfl (by simp only [WA,simprocAttr]) rfl (by simp only [keepS,Option.isSome_some,WA,simprocAttr]) (haa) ?_
    simp only [WA,simprocAttr,inX,dropS, ]
    (repeat (constructor;focus (clear hK';intros;simp_all;done)))
    (try (apply hK';clear hK' K'))
    repeat' (first|(with_reducible apply zz1)|((with_reducible apply zz2);rfl;intro K' hK';simp only [WA,simprocAttr];(repeat (constructor;focus (clear hK';intros;simp_all;done)));(try (apply hK';clear hK' K')))|((with_reducible apply zz3);rfl;all_goals (intro h;try exact absurd h (by decide))))
    (with_reducible refine swp_draw ?_ ?_ ?_ ( [(9,sD Ta),(11,sD Ta)]) (fun K' hK'=>?_)
     · kernel_rfl
     · rfl
     · rfl
     simp only [WA,simprocAttr,UG,hTa,bne_self_eq_false,beq_self_eq_true,Bool.not_true,Bool.not_false,cond_false,cond_true ]
     (try (apply hK';clear hK' K')))
    repeat' (first|(with_reducible apply zz1)|((with_reducible apply zz2);rfl;intro K' hK';simp only [WA,simprocAttr,bne_self_eq_false];(repeat (constructor;focus (clear hK';intros;simp_all;done)));(try (apply hK';clear hK' K')))|((with_reducible apply zz3);rfl;all_goals (intro h;try exact absurd h (by decide))))
    (with_reducible refine swp_draw ?_ ?_ ?_ ( [(1,sD Tx),(3,sD Tx)]) (fun K' hK'=>?_)
     · kernel_rfl
     · rfl
     · rfl
     simp only [WA,simprocAttr,UG,hTx,bne_self_eq_false,beq_self_eq_true,Bool.not_true,Bool.not_false ]
     (try (apply hK';clear hK' K')))
    repeat' (first|(with_reducible apply zz1)|((with_reducible apply zz2);rfl;intro K' hK';simp only [WA,simprocAttr];(repeat (constructor;focus (clear hK';intros;simp_all;done)));(try (apply hK';clear hK' K')))|((with_reducible apply zz3);rfl;all_goals (intro h;try exact absurd h (by decide))))
    refine stop_call h0 rfl (by simp only [WA,simprocAttr]) rfl (by simp only [keepS,Option.isSome_some,WA,simprocAttr]) (hxc) ?_
    simp only [WA,simprocAttr,inX,dropS, ]
    (repeat (constructor;focus (clear hK';intros;simp_all;done)))
    (try (apply hK';clear hK' K'))
    repeat' (first|(with_reducible apply zz1)|((with_reducible apply zz2);rfl;intro K' hK';simp only [WA,simprocAttr];(repeat (constructor;focus (clear hK';intros;simp_all;done)));(try (apply hK';clear hK' K')))|((with_reducible apply zz3);rfl;all_goals (intro h;try exact absurd h (by decide))))
    refine stop_call h0 rfl (by simp only [WA,simprocAttr]) rfl (by simp only [keepS,Option.isSome_some,WA,simprocAttr]) (hbc) ?_
    simp only [WA,simprocAttr,inX,dropS, ]
    (repeat (constructor;focus (clear hK';intros;simp_all;done)))
    (try (apply hK';clear hK' K'))
    repeat' (first|(with_reducible apply zz1)|((with_reducible apply zz2);rfl;intro K' hK';simp only [WA,simprocAttr,g1];(repeat (constructor;focus (clear hK';intros;simp_all;done)));(try (apply hK';clear hK' K')))|((with_reducible apply zz3);rfl;all_goals (intro h;try exact absurd h (by decide))))
    simp only [Kret,retL,retOne,oneV,WA,simprocAttr]
  subst c1
  by_cases c2 : e2 = 0
  rotate_left
  · have g1 : (e2 != 0) = true:=by simpa using c2
    clear h3 hps hpo haq hP hQ hqs hxs sa sb sc ha hb oa ob hx c2
    obtain ⟨ak,aw,aso,an,als,al⟩:=a
    obtain ⟨bk,bw,bs,bn,bls,bl⟩:=b
    obtain ⟨ck,cw,cs,cn,cls,cl⟩:=c
    obtain ⟨xk,xw,xs,xn,xls,xl⟩:=x
    obtain ⟨pk,pw,ps,pn,pls,pl⟩:=p
    obtain ⟨qk,qw,qs,qn,qls,ql⟩:=q
    simp only [Lt.d] at hab hba hca hcb haa hTa hTx hxc hbc ⊢
    refine fn_of_swp (N:=136) Tryd.func5 rfl (by decide) rfl rfl (by simp) (fun C h0=>?_)
    simp only [argE]
    repeat' (first|(with_reducible apply zz1)|((with_reducible apply zz2);rfl;intro K' hK';simp only [WA,simprocAttr];(repeat (constructor;focus (clear hK';intros;simp_all;done)));(try (apply hK';clear hK' K')))|((with_reducible apply zz3);rfl;all_goals (intro h;try exact absurd h (by decide))))
    refine stop_call h0 rfl (by simp only [WA,simprocAttr]) rfl (by simp only [keepS,Option.isSome_some,WA,simprocAttr]) (hE) ?_
    simp only [WA,simprocAttr,inX,dropS, ]
    (repeat (constructor;focus (clear hK';intros;simp_all;done)))
    (try (apply hK';clear hK' K'))
    repeat' (first|(with_reducible apply zz1)|((with_reducible apply zz2);rfl;intro K' hK';simp only [WA,simprocAttr,bne_self_eq_false,Bool.not_true,Bool.not_false,cond_true,cond_false];(repeat (constructor;focus (clear hK';intros;simp_all;done)));(try (apply hK';clear hK' K')))|((with_reducible apply zz3);rfl;all_goals (intro h;try exact absurd h (by decide))))
    refine stop_call h0 rfl (by simp only [WA,simprocAttr]) rfl (by simp only [keepS,Option.isSome_some,WA,simprocAttr]) (hab) ?_
    simp only [WA,simprocAttr,inX,dropS, ]
    (repeat (constructor;focus (clear hK';intros;simp_all;done)))
    (try (apply hK';clear hK' K'))
    repeat' (first|(with_reducible apply zz1)|((with_reducible apply zz2);rfl;intro K' hK';simp only [WA,simprocAttr];(repeat (constructor;focus (clear hK';intros;simp_all;done)));(try (apply hK';clear hK' K')))|((with_reducible apply zz3);rfl;all_goals (intro h;try exact absurd h (by decide))))
    refine stop_call h0 rfl (by simp only [WA,simprocAttr]) rfl (by simp only [keepS,Option.isSome_some,WA,simprocAttr]) (hba) ?_
    simp only [WA,simprocAttr,inX,dropS, ]
    (repeat (constructor;focus (clear hK';intros;simp_all;done)))
    (try (apply hK';clear hK' K'))
    repeat' (first|(with_reducible apply zz1)|((with_reducible apply zz2);rfl;intro K' hK';simp only [WA,simprocAttr];(repeat (constructor;focus (clear hK';intros;simp_all;done)));(try (apply hK';clear hK' K')))|((with_reducible apply zz3);rfl;all_goals (intro h;try exact absurd h (by decide))))
    (with_reducible refine zw17 ?_ (fun K' hK'=>?_)
     · rfl
     simp only [WA,simprocAttr]
     (repeat (constructor;focus (clear hK';intros;simp_all;done))))
    refine stop_callF rfl (by simp only [WA,simprocAttr]) rfl rfl (hca) ?_
    simp only [WA,simprocAttr,inX,dropS,bne_self_eq_false,cond_false,Bool.not_false]
    (repeat (constructor;focus (clear hK';intros;simp_all;done)))
    (try (apply hK';clear hK' K'))
    refine stop_guard rfl ?_
    refine stop_callF rfl (by simp only [WA,simprocAttr]) rfl rfl (hcb) ?_
    simp only [WA,simprocAttr,inX,dropS,bne_self_eq_false]
    (repeat (constructor;focus (clear hK';intros;simp_all;done)))
    (try (apply hK';clear hK' K'))
    repeat' (first|(with_reducible apply zz1)|((with_reducible apply zz2);rfl;intro K' hK';simp only [WA,simprocAttr];(repeat (constructor;focus (clear hK';intros;simp_all;done)));(try (apply hK';clear hK' K')))|((with_reducible apply zz3);rfl;all_goals (intro h;try exact absurd h (by decide))))
    refine stop_call h0 rfl (by simp only [WA,simprocAttr]) rfl (by simp only [keepS,Option.isSome_some,WA,simprocAttr]) (haa) ?_
    simp only [WA,simprocAttr,inX,dropS, ]
    (repeat (constructor;focus (clear hK';intros;simp_all;done)))
    (try (apply hK';clear hK' K'))
    repeat' (first|(with_reducible apply zz1)|((with_reducible apply zz2);rfl;intro K' hK';simp only [WA,simprocAttr];(repeat (constructor;focus (clear hK';intros;simp_all;done)));(try (apply hK';clear hK' K')))|((with_reducible apply zz3);rfl;all_goals (intro h;try exact absurd h (by decide))))
    (with_reducible refine swp_draw ?_ ?_ ?_ ( [(9,sD Ta),(11,sD Ta)]) (fun K' hK'=>?_)
     · kernel_rfl
     · rfl
     · rfl
     simp only [WA,simprocAttr,UG,hTa,bne_self_eq_false,beq_self_eq_true,Bool.not_true,Bool.not_false,cond_false,cond_true ]
     (try (apply hK';clear hK' K')))
    repeat' (first|(with_reducible apply zz1)|((with_reducible apply zz2);rfl;intro K' hK';simp only [WA,simprocAttr,bne_self_eq_false];(repeat (constructor;focus (clear hK';intros;simp_all;done)));(try (apply hK';clear hK' K')))|((with_reducible apply zz3);rfl;all_goals (intro h;try exact absurd h (by decide))))
    (with_reducible refine swp_draw ?_ ?_ ?_ ( [(1,sD Tx),(3,sD Tx)]) (fun K' hK'=>?_)
     · kernel_rfl
     · rfl
     · rfl
     simp only [WA,simprocAttr,UG,hTx,bne_self_eq_false,beq_self_eq_true,Bool.not_true,Bool.not_false ]
     (try (apply hK';clear hK' K')))
    repeat' (first|(with_reducible apply zz1)|((with_reducible apply zz2);rfl;intro K' hK';simp only [WA,simprocAttr];(repeat (constructor;focus (clear hK';intros;simp_all;done)));(try (apply hK';clear hK' K')))|((with_reducible apply zz3);rfl;all_goals (intro h;try exact absurd h (by decide))))
    refine stop_call h0 rfl (by simp only [WA,simprocAttr]) rfl (by simp only [keepS,Option.isSome_some,WA,simprocAttr]) (hxc) ?_
    simp only [WA,simprocAttr,inX,dropS, ]
    (repeat (constructor;focus (clear hK';intros;simp_all;done)))
    (try (apply hK';clear hK' K'))
    repeat' (first|(with_reducible apply zz1)|((with_reducible apply zz2);rfl;intro K' hK';simp only [WA,simprocAttr];(repeat (constructor;focus (clear hK';intros;simp_all;done)));(try (apply hK';clear hK' K')))|((with_reducible apply zz3);rfl;all_goals (intro h;try exact absurd h (by decide))))
    refine stop_call h0 rfl (by simp only [WA,simprocAttr]) rfl (by simp only [keepS,Option.isSome_some,WA,simprocAttr]) (hbc) ?_
    simp only [WA,simprocAttr,inX,dropS, ]
    (repeat (constructor;focus (clear hK';intros;simp_all;done)))
    (try (apply hK';clear hK' K'))
    repeat' (first|(with_reducible apply zz1)|((with_reducible apply zz2);rfl;intro K' hK';simp only [WA,simprocAttr,g1,bne_self_eq_false,cond_false];(repeat (constructor;focus (clear hK';intros;simp_all;done)));(try (apply hK';clear hK' K')))|((with_reducible apply zz3);rfl;all_goals (intro h;try exact absurd h (by decide))))
    simp only [Kret,retL,retOne,oneV,WA,simprocAttr]
  subst c2
  have hin:=hps rfl
  have oc:=okL_check hin.2.1
  have hpz:=hpo hx.1 oc.1 hin.2.2
  have ox:=okL_check hin.1
  obtain ⟨Tp, -,hTp⟩:=ltext_ex Γ hpz.1 (by omega)
  rcases h3 rfl rfl with h3 | h3
  · rw [h3] at haq
    have e20 : ((0 : Int) == 2) = false:=by decide
    clear h3 hps hpo hP hQ hqs hxs sa sb sc ha hb oa ob oc ox hx hin hpz
    obtain ⟨ak,aw,aso,an,als,al⟩:=a
    obtain ⟨bk,bw,bs,bn,bls,bl⟩:=b
    obtain ⟨ck,cw,cs,cn,cls,cl⟩:=c
    obtain ⟨xk,xw,xs,xn,xls,xl⟩:=x
    obtain ⟨pk,pw,ps,pn,pls,pl⟩:=p
    obtain ⟨qk,qw,qs,qn,qls,ql⟩:=q
    simp only [Lt.d] at hab hba hca hcb haa hTa hTx hxc hbc haq hTp ⊢
    refine fn_of_swp (N:=136) Tryd.func5 rfl (by decide) rfl rfl (by simp) (fun C h0=>?_)
    simp only [argE]
    repeat' (first|(with_reducible apply zz1)|((with_reducible apply zz2);rfl;intro K' hK';simp only [WA,simprocAttr];(repeat (constructor;focus (clear hK';intros;simp_all;done)));(try (apply hK';clear hK' K')))|((with_reducible apply zz3);rfl;all_goals (intro h;try exact absurd h (by decide))))
    refine stop_call h0 rfl (by simp only [WA,simprocAttr]) rfl (by simp only [keepS,Option.isSome_some,WA,simprocAttr]) (hE) ?_
    simp only [WA,simprocAttr,inX,dropS, ]
    (repeat (constructor;focus (clear hK';intros;simp_all;done)))
    (try (apply hK';clear hK' K'))
    repeat' (first|(with_reducible apply zz1)|((with_reducible apply zz2);rfl;intro K' hK';simp only [WA,simprocAttr,bne_self_eq_false,Bool.not_true,Bool.not_false,cond_true,cond_false];(repeat (constructor;focus (clear hK';intros;simp_all;done)));(try (apply hK';clear hK' K')))|((with_reducible apply zz3);rfl;all_goals (intro h;try exact absurd h (by decide))))
    refine stop_call h0 rfl (by simp only [WA,simprocAttr]) rfl (by simp only [keepS,Option.isSome_some,WA,simprocAttr]) (hab) ?_
    simp only [WA,simprocAttr,inX,dropS, ]
    (repeat (constructor;focus (clear hK';intros;simp_all;done)))
    (try (apply hK';clear hK' K'))
    repeat' (first|(with_reducible apply zz1)|((with_reducible apply zz2);rfl;intro K' hK';simp only [WA,simprocAttr];(repeat (constructor;focus (clear hK';intros;simp_all;done)));(try (apply hK';clear hK' K')))|((with_reducible apply zz3);rfl;all_goals (intro h;try exact absurd h (by decide))))
    refine stop_call h0 rfl (by simp only [WA,simprocAttr]) rfl (by simp only [keepS,Option.isSome_some,WA,simprocAttr]) (hba) ?_
    simp only [WA,simprocAttr,inX,dropS, ]
    (repeat (constructor;focus (clear hK';intros;simp_all;done)))
    (try (apply hK';clear hK' K'))
    repeat' (first|(with_reducible apply zz1)|((with_reducible apply zz2);rfl;intro K' hK';simp only [WA,simprocAttr];(repeat (constructor;focus (clear hK';intros;simp_all;done)));(try (apply hK';clear hK' K')))|((with_reducible apply zz3);rfl;all_goals (intro h;try exact absurd h (by decide))))
    (with_reducible refine zw17 ?_ (fun K' hK'=>?_)
     · rfl
     simp only [WA,simprocAttr]
     (repeat (constructor;focus (clear hK';intros;simp_all;done))))
    refine stop_callF rfl (by simp only [WA,simprocAttr]) rfl rfl (hca) ?_
    simp only [WA,simprocAttr,inX,dropS,bne_self_eq_false,cond_false,Bool.not_false]
    (repeat (constructor;focus (clear hK';intros;simp_all;done)))
    (try (apply hK';clear hK' K'))
    refine stop_guard rfl ?_
    refine stop_callF rfl (by simp only [WA,simprocAttr]) rfl rfl (hcb) ?_
    simp only [WA,simprocAttr,inX,dropS,bne_self_eq_false]
    (repeat (constructor;focus (clear hK';intros;simp_all;done)))
    (try (apply hK';clear hK' K'))
    repeat' (first|(with_reducible apply zz1)|((with_reducible apply zz2);rfl;intro K' hK';simp only [WA,simprocAttr];(repeat (constructor;focus (clear hK';intros;simp_all;done)));(try (apply hK';clear hK' K')))|((with_reducible apply zz3);rfl;all_goals (intro h;try exact absurd h (by decide))))
    refine stop_call h0 rfl (by simp only [WA,simprocAttr]) rfl (by simp only [keepS,Option.isSome_some,WA,simprocAttr]) (haa) ?_
    simp only [WA,simprocAttr,inX,dropS, ]
    (repeat (constructor;focus (clear hK';intros;simp_all;done)))
    (try (apply hK';clear hK' K'))
    repeat' (first|(with_reducible apply zz1)|((with_reducible apply zz2);rfl;intro K' hK';simp only [WA,simprocAttr];(repeat (constructor;focus (clear hK';intros;simp_all;done)));(try (apply hK';clear hK' K')))|((with_reducible apply zz3);rfl;all_goals (intro h;try exact absurd h (by decide))))
    (with_reducible refine swp_draw ?_ ?_ ?_ ( [(9,sD Ta),(11,sD Ta)]) (fun K' hK'=>?_)
     · kernel_rfl
     · rfl
     · rfl
     simp only [WA,simprocAttr,UG,hTa,bne_self_eq_false,beq_self_eq_true,Bool.not_true,Bool.not_false,cond_false,cond_true ]
     (try (apply hK';clear hK' K')))
    repeat' (first|(with_reducible apply zz1)|((with_reducible apply zz2);rfl;intro K' hK';simp only [WA,simprocAttr,bne_self_eq_false];(repeat (constructor;focus (clear hK';intros;simp_all;done)));(try (apply hK';clear hK' K')))|((with_reducible apply zz3);rfl;all_goals (intro h;try exact absurd h (by decide))))
    (with_reducible refine swp_draw ?_ ?_ ?_ ( [(1,sD Tx),(3,sD Tx)]) (fun K' hK'=>?_)
     · kernel_rfl
     · rfl
     · rfl
     simp only [WA,simprocAttr,UG,hTx,bne_self_eq_false,beq_self_eq_true,Bool.not_true,Bool.not_false ]
     (try (apply hK';clear hK' K')))
    repeat' (first|(with_reducible apply zz1)|((with_reducible apply zz2);rfl;intro K' hK';simp only [WA,simprocAttr];(repeat (constructor;focus (clear hK';intros;simp_all;done)));(try (apply hK';clear hK' K')))|((with_reducible apply zz3);rfl;all_goals (intro h;try exact absurd h (by decide))))
    refine stop_call h0 rfl (by simp only [WA,simprocAttr]) rfl (by simp only [keepS,Option.isSome_some,WA,simprocAttr]) (hxc) ?_
    simp only [WA,simprocAttr,inX,dropS, ]
    (repeat (constructor;focus (clear hK';intros;simp_all;done)))
    (try (apply hK';clear hK' K'))
    repeat' (first|(with_reducible apply zz1)|((with_reducible apply zz2);rfl;intro K' hK';simp only [WA,simprocAttr];(repeat (constructor;focus (clear hK';intros;simp_all;done)));(try (apply hK';clear hK' K')))|((with_reducible apply zz3);rfl;all_goals (intro h;try exact absurd h (by decide))))
    refine stop_call h0 rfl (by simp only [WA,simprocAttr]) rfl (by simp only [keepS,Option.isSome_some,WA,simprocAttr]) (hbc) ?_
    simp only [WA,simprocAttr,inX,dropS, ]
    (repeat (constructor;focus (clear hK';intros;simp_all;done)))
    (try (apply hK';clear hK' K'))
    repeat' (first|(with_reducible apply zz1)|((with_reducible apply zz2);rfl;intro K' hK';simp only [WA,simprocAttr,bne_self_eq_false,cond_false];(repeat (constructor;focus (clear hK';intros;simp_all;done)));(try (apply hK';clear hK' K')))|((with_reducible apply zz3);rfl;all_goals (intro h;try exact absurd h (by decide))))
    refine stop_call h0 rfl (by simp only [WA,simprocAttr]) rfl (by simp only [keepS,Option.isSome_some,WA,simprocAttr]) (haq) ?_
    simp only [WA,simprocAttr,inX,dropS, ]
    (repeat (constructor;focus (clear hK';intros;simp_all;done)))
    (try (apply hK';clear hK' K'))
    repeat' (first|(with_reducible apply zz1)|((with_reducible apply zz2);rfl;intro K' hK';simp only [WA,simprocAttr,e20];(repeat (constructor;focus (clear hK';intros;simp_all;done)));(try (apply hK';clear hK' K')))|((with_reducible apply zz3);rfl;all_goals (intro h;try exact absurd h (by decide))))
    (with_reducible refine swp_draw ?_ ?_ ?_ ( [(4,sD Tp),(6,sD Tp)]) (fun K' hK'=>?_)
     · kernel_rfl
     · rfl
     · rfl
     simp only [WA,simprocAttr,UG,hTp,beq_self_eq_true,cond_true ]
     (try (apply hK';clear hK' K')))
    repeat' (first|(with_reducible apply zz1)|((with_reducible apply zz2);rfl;intro K' hK';simp only [WA,simprocAttr];(repeat (constructor;focus (clear hK';intros;simp_all;done)));(try (apply hK';clear hK' K')))|((with_reducible apply zz3);rfl;all_goals (intro h;try exact absurd h (by decide))))
    simp only [Kret,retL,retOne,oneV,WA,simprocAttr]
  · have e22 : ((2 : Int) == 2) = true:=by decide
    rw [h3] at haq
    generalize (mergeP a q).1 = z at *
    clear h3 hps hpo hP hQ hqs hxs sa sb sc ha hb oa ob oc ox hx hin hpz
    obtain ⟨ak,aw,aso,an,als,al⟩:=a
    obtain ⟨bk,bw,bs,bn,bls,bl⟩:=b
    obtain ⟨ck,cw,cs,cn,cls,cl⟩:=c
    obtain ⟨xk,xw,xs,xn,xls,xl⟩:=x
    obtain ⟨pk,pw,ps,pn,pls,pl⟩:=p
    obtain ⟨qk,qw,qs,qn,qls,ql⟩:=q
    obtain ⟨zk,zw,zs,zn,zls,zl⟩:=z
    simp only [Lt.d] at hab hba hca hcb haa hTa hTx hxc hbc haq hTp ⊢
    refine fn_of_swp (N:=136) Tryd.func5 rfl (by decide) rfl rfl (by simp) (fun C h0=>?_)
    simp only [argE]
    repeat' (first|(with_reducible apply zz1)|((with_reducible apply zz2);rfl;intro K' hK';simp only [WA,simprocAttr];(repeat (constructor;focus (clear hK';intros;simp_all;done)));(try (apply hK';clear hK' K')))|((with_reducible apply zz3);rfl;all_goals (intro h;try exact absurd h (by decide))))
    refine stop_call h0 rfl (by simp only [WA,simprocAttr]) rfl (by simp only [keepS,Option.isSome_some,WA,simprocAttr]) (hE) ?_
    simp only [WA,simprocAttr,inX,dropS, ]
    (repeat (constructor;focus (clear hK';intros;simp_all;done)))
    (try (apply hK';clear hK' K'))
    repeat' (first|(with_reducible apply zz1)|((with_reducible apply zz2);rfl;intro K' hK';simp only [WA,simprocAttr,bne_self_eq_false,Bool.not_true,Bool.not_false,cond_true,cond_false];(repeat (constructor;focus (clear hK';intros;simp_all;done)));(try (apply hK';clear hK' K')))|((with_reducible apply zz3);rfl;all_goals (intro h;try exact absurd h (by decide))))
    refine stop_call h0 rfl (by simp only [WA,simprocAttr]) rfl (by simp only [keepS,Option.isSome_some,WA,simprocAttr]) (hab) ?_
    simp only [WA,simprocAttr,inX,dropS, ]
    (repeat (constructor;focus (clear hK';intros;simp_all;done)))
    (try (apply hK';clear hK' K'))
    repeat' (first|(with_reducible apply zz1)|((with_reducible apply zz2);rfl;intro K' hK';simp only [WA,simprocAttr];(repeat (constructor;focus (clear hK';intros;simp_all;done)));(try (apply hK';clear hK' K')))|((with_reducible apply zz3);rfl;all_goals (intro h;try exact absurd h (by decide))))
    refine stop_call h0 rfl (by simp only [WA,simprocAttr]) rfl (by simp only [keepS,Option.isSome_some,WA,simprocAttr]) (hba) ?_
    simp only [WA,simprocAttr,inX,dropS, ]
    (repeat (constructor;focus (clear hK';intros;simp_all;done)))
    (try (apply hK';clear hK' K'))
    repeat' (first|(with_reducible apply zz1)|((with_reducible apply zz2);rfl;intro K' hK';simp only [WA,simprocAttr];(repeat (constructor;focus (clear hK';intros;simp_all;done)));(try (apply hK';clear hK' K')))|((with_reducible apply zz3);rfl;all_goals (intro h;try exact absurd h (by decide))))
    (with_reducible refine zw17 ?_ (fun K' hK'=>?_)
     · rfl
     simp only [WA,simprocAttr]
     (repeat (constructor;focus (clear hK';intros;simp_all;done))))
    refine stop_callF rfl (by simp only [WA,simprocAttr]) rfl rfl (hca) ?_
    simp only [WA,simprocAttr,inX,dropS,bne_self_eq_false,cond_false,Bool.not_false]
    (repeat (constructor;focus (clear hK';intros;simp_all;done)))
    (try (apply hK';clear hK' K'))
    refine stop_guard rfl ?_
    refine stop_callF rfl (by simp only [WA,simprocAttr]) rfl rfl (hcb) ?_
    simp only [WA,simprocAttr,inX,dropS,bne_self_eq_false]
    (repeat (constructor;focus (clear hK';intros;simp_all;done)))
    (try (apply hK';clear hK' K'))
    repeat' (first|(with_reducible apply zz1)|((with_reducible apply zz2);rfl;intro K' hK';simp only [WA,simprocAttr];(repeat (constructor;focus (clear hK';intros;simp_all;done)));(try (apply hK';clear hK' K')))|((with_reducible apply zz3);rfl;all_goals (intro h;try exact absurd h (by decide))))
    refine stop_call h0 rfl (by simp only [WA,simprocAttr]) rfl (by simp only [keepS,Option.isSome_some,WA,simprocAttr]) (haa) ?_
    simp only [WA,simprocAttr,inX,dropS, ]
    (repeat (constructor;focus (clear hK';intros;simp_all;done)))
    (try (apply hK';clear hK' K'))
    repeat' (first|(with_reducible apply zz1)|((with_reducible apply zz2);rfl;intro K' hK';simp only [WA,simprocAttr];(repeat (constructor;focus (clear hK';intros;simp_all;done)));(try (apply hK';clear hK' K')))|((with_reducible apply zz3);rfl;all_goals (intro h;try exact absurd h (by decide))))
    (with_reducible refine swp_draw ?_ ?_ ?_ ( [(9,sD Ta),(11,sD Ta)]) (fun K' hK'=>?_)
     · kernel_rfl
     · rfl
     · rfl
     simp only [WA,simprocAttr,UG,hTa,bne_self_eq_false,beq_self_eq_true,Bool.not_true,Bool.not_false,cond_false,cond_true ]
     (try (apply hK';clear hK' K')))
    repeat' (first|(with_reducible apply zz1)|((with_reducible apply zz2);rfl;intro K' hK';simp only [WA,simprocAttr,bne_self_eq_false];(repeat (constructor;focus (clear hK';intros;simp_all;done)));(try (apply hK';clear hK' K')))|((with_reducible apply zz3);rfl;all_goals (intro h;try exact absurd h (by decide))))
    (with_reducible refine swp_draw ?_ ?_ ?_ ( [(1,sD Tx),(3,sD Tx)]) (fun K' hK'=>?_)
     · kernel_rfl
     · rfl
     · rfl
     simp only [WA,simprocAttr,UG,hTx,bne_self_eq_false,beq_self_eq_true,Bool.not_true,Bool.not_false ]
     (try (apply hK';clear hK' K')))
    repeat' (first|(with_reducible apply zz1)|((with_reducible apply zz2);rfl;intro K' hK';simp only [WA,simprocAttr];(repeat (constructor;focus (clear hK';intros;simp_all;done)));(try (apply hK';clear hK' K')))|((with_reducible apply zz3);rfl;all_goals (intro h;try exact absurd h (by decide))))
    refine stop_call h0 rfl (by simp only [WA,simprocAttr]) rfl (by simp only [keepS,Option.isSome_some,WA,simprocAttr]) (hxc) ?_
    simp only [WA,simprocAttr,inX,dropS, ]
    (repeat (constructor;focus (clear hK';intros;simp_all;done)))
    (try (apply hK';clear hK' K'))
    repeat' (first|(with_reducible apply zz1)|((with_reducible apply zz2);rfl;intro K' hK';simp only [WA,simprocAttr];(repeat (constructor;focus (clear hK';intros;simp_all;done)));(try (apply hK';clear hK' K')))|((with_reducible apply zz3);rfl;all_goals (intro h;try exact absurd h (by decide))))
    refine stop_call h0 rfl (by simp only [WA,simprocAttr]) rfl (by simp only [keepS,Option.isSome_some,WA,simprocAttr]) (hbc) ?_
    simp only [WA,simprocAttr,inX,dropS, ]
    (repeat (constructor;focus (clear hK';intros;simp_all;done)))
    (try (apply hK';clear hK' K'))
    repeat' (first|(with_reducible apply zz1)|((with_reducible apply zz2);rfl;intro K' hK';simp only [WA,simprocAttr,bne_self_eq_false,cond_false];(repeat (constructor;focus (clear hK';intros;simp_all;done)));(try (apply hK';clear hK' K')))|((with_reducible apply zz3);rfl;all_goals (intro h;try exact absurd h (by decide))))
    refine stop_call h0 rfl (by simp only [WA,simprocAttr]) rfl (by simp only [keepS,Option.isSome_some,WA,simprocAttr]) (haq) ?_
    simp only [WA,simprocAttr,inX,dropS, ]
    (repeat (constructor;focus (clear hK';intros;simp_all;done)))
    (try (apply hK';clear hK' K'))
    repeat' (first|(with_reducible apply zz1)|((with_reducible apply zz2);rfl;intro K' hK';simp only [WA,simprocAttr,e22];(repeat (constructor;focus (clear hK';intros;simp_all;done)));(try (apply hK';clear hK' K')))|((with_reducible apply zz3);rfl;all_goals (intro h;try exact absurd h (by decide))))
    simp only [Kret,retL,retOne,oneV,WA,simprocAttr]
end Go.Proofs.YtmohkmfimcnfeaaDoor
