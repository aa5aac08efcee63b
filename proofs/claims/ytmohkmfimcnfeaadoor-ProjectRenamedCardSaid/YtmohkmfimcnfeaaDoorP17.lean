/- The law ProjectRenamed by a symbolic walk (printed by mkp17.py). -/
-- TYPESA
import Derived.Test.YtmohkmfimcnfeaaDoorP16
set_option linter.unusedVariables false
set_option linter.unusedSimpArgs false
namespace Go.Proofs.YtmohkmfimcnfeaaDoor
open Go.RowKit Go.Sw

open Classical in
set_option maxHeartbeats 32000000 in
set_option maxRecDepth 100000 in
theorem renamedLaw (Γ : Gl) (g : Gt) (r : ByteArray) : DFn Tryd.prog Γ 6 [g.d,sD r] (.v (.bool true)):=by
 have hpg:=ping_fn Γ
 have hP:=Of_fn Γ pingG ⟨#[99]⟩
 rw [ping_c] at hP
 have hO:=Of_fn Γ g r
 have hR:=Rename_fn Γ g fromL toL (by decide) (by decide)
 have hI:=indexS_fn Γ fromL r (by decide)
 have hin:=idx_in r.toList fromL 0
 have hnm : nmF fromL toL r = if 0 ≤ idxS r.toList fromL 0 then toL.getD (idxS r.toList fromL 0).toNat noB else r:=rfl
 have hsg:=swap_sg
 generalize idxS r.toList fromL 0 = i at *
 have e00 : ((0 : Int) == 0) = true:=by decide
 have e08 : ((0 : Int) == 8) = false:=by decide
 have e18 : ((1 : Int) == 8) = false:=by decide
 have e10 : ((1 : Int) != 0) = true:=by decide
 have e88 : ((8 : Int) == 8) = true:=by decide
 simp only [fromL,toL,List.map_cons,List.map_nil] at hI hR
 simp only [endL,Lt.d,Lt.ds,List.map_nil,pingG,Gt.d,Gt.ds] at hP hpg
 have m4 : 4 ≤ maxLen:=by unfold maxLen;omega
 by_cases hg : gCheck g = 0
 rotate_left
 · have hR0 : (renR g fromL toL (renOk fromL toL)) = (Gt.zero,gCheck g):=by unfold renR;rw [if_pos (by simpa using hg)]
   simp only [fromL,toL] at hR0
   rw [hR0] at hR
   have hO0 : ofR g r = (Lt.zero,gCheck g):=by unfold ofR;rw [if_pos (by simpa using hg)]
   rw [hO0] at hO
   have g0 : (gCheck g == 0) = false:=by simpa using hg
   have g1 : (gCheck g != 0) = true:=by simpa using hg
   generalize gCheck g = c at *
   clear hR0 hO0 hsg hnm hin
   obtain ⟨k,fr,to,so,nm,ls,l⟩:=g
   simp only [Gt.d,Gt.zero,Gt.ds,Lt.d,Lt.zero,Lt.ds,List.map_nil] at hO hR ⊢
   cases h8 : (c == 8) with
   | false =>
    refine fn_of_swp (N:=110) Tryd.func6 rfl (by decide) rfl rfl (by simp) (fun C h0=>?_)
    simp only [argE]
    repeat' (first|(with_reducible apply zz1)|((with_reducible apply zz2);rfl;intro K' hK';simp only [WA,simprocAttr];(repeat (constructor;focus (clear hK';intros;simp_all;done)));(try (apply hK';clear hK' K')))|((with_reducible apply zz3);rfl;all_goals (intro h;try exact absurd h (by decide))))
    refine stop_call h0 rfl (by simp only [WA,simprocAttr]) rfl (by simp only [keepS,Option.isSome_some,WA,simprocAttr]) (hpg) ?_
    simp only [WA,simprocAttr,inX,dropS, ]
    (repeat (constructor;focus (clear hK';intros;simp_all;done)))
    (try (apply hK';clear hK' K'))
    refine stop_call h0 rfl (by simp only [WA,simprocAttr]) rfl (by simp only [keepS,Option.isSome_some,WA,simprocAttr]) (hP) ?_
    simp only [WA,simprocAttr,inX,dropS, ]
    (repeat (constructor;focus (clear hK';intros;simp_all;done)))
    (try (apply hK';clear hK' K'))
    repeat' (first|(with_reducible apply zz1)|((with_reducible apply zz2);rfl;intro K' hK';simp only [WA,simprocAttr,bne_self_eq_false,Bool.not_true,Bool.not_false,cond_true,cond_false,m4,List.length_cons,List.length_nil];(repeat (constructor;focus (clear hK';intros;simp_all;done)));(try (apply hK';clear hK' K')))|((with_reducible apply zz3);rfl;all_goals (intro h;try exact absurd h (by decide))))
    refine stop_frz [2,3] h0 (by simp only [Option.isSome_some,UF,WA,simprocAttr]) ?_
    simp only [WA,simprocAttr,UF]
    refine stop_call h0 rfl (by simp only [WA,simprocAttr]) rfl (by simp only [keepS,Option.isSome_some,WA,simprocAttr]) (hO) ?_
    simp only [WA,simprocAttr,inX,dropS, ]
    (repeat (constructor;focus (clear hK';intros;simp_all;done)))
    (try (apply hK';clear hK' K'))
    repeat' (first|(with_reducible apply zz1)|((with_reducible apply zz2);rfl;intro K' hK';simp only [WA,simprocAttr];(repeat (constructor;focus (clear hK';intros;simp_all;done)));(try (apply hK';clear hK' K')))|((with_reducible apply zz3);rfl;all_goals (intro h;try exact absurd h (by decide))))
    refine stop_call h0 rfl (by simp only [WA,simprocAttr]) rfl (by simp only [keepS,Option.isSome_some,WA,simprocAttr]) (hR) ?_
    simp only [WA,simprocAttr,inX,dropS, ]
    (repeat (constructor;focus (clear hK';intros;simp_all;done)))
    (try (apply hK';clear hK' K'))
    repeat' (first|(with_reducible apply zz1)|((with_reducible apply zz2);rfl;intro K' hK';simp only [WA,simprocAttr,h8,g0,g1,e00,cond_true,cond_false];(repeat (constructor;focus (clear hK';intros;simp_all;done)));(try (apply hK';clear hK' K')))|((with_reducible apply zz3);rfl;all_goals (intro h;try exact absurd h (by decide))))
    simp only [Kret,retL,retOne,oneV,WA,simprocAttr]
   | true =>
    refine fn_of_swp (N:=110) Tryd.func6 rfl (by decide) rfl rfl (by simp) (fun C h0=>?_)
    simp only [argE]
    repeat' (first|(with_reducible apply zz1)|((with_reducible apply zz2);rfl;intro K' hK';simp only [WA,simprocAttr];(repeat (constructor;focus (clear hK';intros;simp_all;done)));(try (apply hK';clear hK' K')))|((with_reducible apply zz3);rfl;all_goals (intro h;try exact absurd h (by decide))))
    refine stop_call h0 rfl (by simp only [WA,simprocAttr]) rfl (by simp only [keepS,Option.isSome_some,WA,simprocAttr]) (hpg) ?_
    simp only [WA,simprocAttr,inX,dropS, ]
    (repeat (constructor;focus (clear hK';intros;simp_all;done)))
    (try (apply hK';clear hK' K'))
    refine stop_call h0 rfl (by simp only [WA,simprocAttr]) rfl (by simp only [keepS,Option.isSome_some,WA,simprocAttr]) (hP) ?_
    simp only [WA,simprocAttr,inX,dropS, ]
    (repeat (constructor;focus (clear hK';intros;simp_all;done)))
    (try (apply hK';clear hK' K'))
    repeat' (first|(with_reducible apply zz1)|((with_reducible apply zz2);rfl;intro K' hK';simp only [WA,simprocAttr,bne_self_eq_false,Bool.not_true,Bool.not_false,cond_true,cond_false,m4,List.length_cons,List.length_nil];(repeat (constructor;focus (clear hK';intros;simp_all;done)));(try (apply hK';clear hK' K')))|((with_reducible apply zz3);rfl;all_goals (intro h;try exact absurd h (by decide))))
    refine stop_frz [2,3] h0 (by simp only [Option.isSome_some,UF,WA,simprocAttr]) ?_
    simp only [WA,simprocAttr,UF]
    refine stop_call h0 rfl (by simp only [WA,simprocAttr]) rfl (by simp only [keepS,Option.isSome_some,WA,simprocAttr]) (hO) ?_
    simp only [WA,simprocAttr,inX,dropS, ]
    (repeat (constructor;focus (clear hK';intros;simp_all;done)))
    (try (apply hK';clear hK' K'))
    repeat' (first|(with_reducible apply zz1)|((with_reducible apply zz2);rfl;intro K' hK';simp only [WA,simprocAttr];(repeat (constructor;focus (clear hK';intros;simp_all;done)));(try (apply hK';clear hK' K')))|((with_reducible apply zz3);rfl;all_goals (intro h;try exact absurd h (by decide))))
    refine stop_call h0 rfl (by simp only [WA,simprocAttr]) rfl (by simp only [keepS,Option.isSome_some,WA,simprocAttr]) (hR) ?_
    simp only [WA,simprocAttr,inX,dropS, ]
    (repeat (constructor;focus (clear hK';intros;simp_all;done)))
    (try (apply hK';clear hK' K'))
    repeat' (first|(with_reducible apply zz1)|((with_reducible apply zz2);rfl;intro K' hK';simp only [WA,simprocAttr,h8,g0,g1,e00,cond_true,cond_false];(repeat (constructor;focus (clear hK';intros;simp_all;done)));(try (apply hK';clear hK' K')))|((with_reducible apply zz3);rfl;all_goals (intro h;try exact absurd h (by decide))))
    simp only [Kret,retL,retOne,oneV,WA,simprocAttr]
 have hgr:=gCheck_ren hsg g
 rw [hg] at hgr
 have hok:=okG_check hg
 have hokr:=okG_check hgr
 have hR0 : (renR g fromL toL (renOk fromL toL)) = (ren (nmF fromL toL) g,0):=by
  unfold renR
  rw [if_neg (by simpa using hg),if_neg (by simp [fromL,toL]),if_neg (not_not_intro swap_ok),if_neg (by simpa using hgr)]
 simp only [fromL,toL] at hR0
 rw [hR0] at hR
 clear hR0
 cases hr : isRoleB r with
 | false =>
  have hO0 : ofR g r = (Lt.zero,1):=by unfold ofR;rw [if_neg (by simpa using hg),hr,if_pos rfl]
  rw [hO0] at hO
  change DFn Tryd.prog Γ 13 _ (.tup [(ren (nmF fromL toL) g).d,iD 0]) at hR
  generalize ren (nmF fromL toL) g = G2 at *
  clear hO0 hsg hnm hin hok hokr hgr hg
  obtain ⟨k,fr,to,so,nm,ls,l⟩:=g
  obtain ⟨k2,fr2,to2,so2,nm2,ls2,l2⟩:=G2
  simp only [Gt.d,Lt.d,Lt.zero,Lt.ds,List.map_nil] at hO hR ⊢
  refine fn_of_swp (N:=110) Tryd.func6 rfl (by decide) rfl rfl (by simp) (fun C h0=>?_)
  simp only [argE]
  repeat' (first|(with_reducible apply zz1)|((with_reducible apply zz2);rfl;intro K' hK';simp only [WA,simprocAttr];(repeat (constructor;focus (clear hK';intros;simp_all;done)));(try (apply hK';clear hK' K')))|((with_reducible apply zz3);rfl;all_goals (intro h;try exact absurd h (by decide))))
  refine stop_call h0 rfl (by simp only [WA,simprocAttr]) rfl (by simp only [keepS,Option.isSome_some,WA,simprocAttr]) (hpg) ?_
  simp only [WA,simprocAttr,inX,dropS, ]
  (repeat (constructor;focus (clear hK';intros;simp_all;done)))
  (try (apply hK';clear hK' K'))
  refine stop_call h0 rfl (by simp only [WA,simprocAttr]) rfl (by simp only [keepS,Option.isSome_some,WA,simprocAttr]) (hP) ?_
  simp only [WA,simprocAttr,inX,dropS, ]
  (repeat (constructor;focus (clear hK';intros;simp_all;done)))
  (try (apply hK';clear hK' K'))
  repeat' (first|(with_reducible apply zz1)|((with_reducible apply zz2);rfl;intro K' hK';simp only [WA,simprocAttr,bne_self_eq_false,Bool.not_true,Bool.not_false,cond_true,cond_false,m4,List.length_cons,List.length_nil];(repeat (constructor;focus (clear hK';intros;simp_all;done)));(try (apply hK';clear hK' K')))|((with_reducible apply zz3);rfl;all_goals (intro h;try exact absurd h (by decide))))
  refine stop_frz [2,3] h0 (by simp only [Option.isSome_some,UF,WA,simprocAttr]) ?_
  simp only [WA,simprocAttr,UF]
  refine stop_call h0 rfl (by simp only [WA,simprocAttr]) rfl (by simp only [keepS,Option.isSome_some,WA,simprocAttr]) (hO) ?_
  simp only [WA,simprocAttr,inX,dropS, ]
  (repeat (constructor;focus (clear hK';intros;simp_all;done)))
  (try (apply hK';clear hK' K'))
  repeat' (first|(with_reducible apply zz1)|((with_reducible apply zz2);rfl;intro K' hK';simp only [WA,simprocAttr];(repeat (constructor;focus (clear hK';intros;simp_all;done)));(try (apply hK';clear hK' K')))|((with_reducible apply zz3);rfl;all_goals (intro h;try exact absurd h (by decide))))
  refine stop_call h0 rfl (by simp only [WA,simprocAttr]) rfl (by simp only [keepS,Option.isSome_some,WA,simprocAttr]) (hR) ?_
  simp only [WA,simprocAttr,inX,dropS, ]
  (repeat (constructor;focus (clear hK';intros;simp_all;done)))
  (try (apply hK';clear hK' K'))
  repeat' (first|(with_reducible apply zz1)|((with_reducible apply zz2);rfl;intro K' hK';simp only [WA,simprocAttr,e18,e10,e00,cond_true,cond_false];(repeat (constructor;focus (clear hK';intros;simp_all;done)));(try (apply hK';clear hK' K')))|((with_reducible apply zz3);rfl;all_goals (intro h;try exact absurd h (by decide))))
  simp only [Kret,retL,retOne,oneV,WA,simprocAttr]
 | true =>
  have hrr : isRoleB (nmF fromL toL r) = true:=by rw [hsg.role];exact hr
  have hO2:=Of_fn Γ (ren (nmF fromL toL) g) (nmF fromL toL r)
  have hcase : (0 ≤ i ∧ i < 4 ∧ [sD ⟨#[98]⟩,sD ⟨#[97]⟩,sD ⟨#[100]⟩,sD ⟨#[99]⟩].getD i.toNat default = sD (nmF fromL toL r)) ∨ (¬ 0 ≤ i ∧ nmF fromL toL r = r):=by
   by_cases hi : 0 ≤ i
   · left
     rw [if_pos hi] at hnm
     have h4 : i < 4:=by have : fromL.length = 4:=rfl;omega
     refine ⟨hi,h4,?_⟩
     obtain ⟨b,hb⟩ : ∃ b,toL[i.toNat]? = some b:=⟨toL[i.toNat]'(by have : toL.length = 4:=rfl;omega),by simp⟩
     rw [hnm]
     show (toL.map sD).getD i.toNat default = _
     simp [List.getD,hb]
   · right
     rw [if_neg hi] at hnm
     exact ⟨hi,hnm⟩
  cases ho : ofP r g with
  | none =>
   have ho2:=ofP_ren_none hsg hok.1 hokr.1 ho
   have hO0 : ofR g r = (Lt.zero,8):=by unfold ofR;rw [if_neg (by simpa using hg),hr,if_neg (by decide),ho]
   rw [hO0] at hO
   have hO2' : ofR (ren (nmF fromL toL) g) (nmF fromL toL r) = (Lt.zero,8):=by unfold ofR;rw [if_neg (by simpa using hgr),hrr,if_neg (by decide),ho2]
   rw [hO2'] at hO2
   change DFn Tryd.prog Γ 13 _ (.tup [(ren (nmF fromL toL) g).d,iD 0]) at hR
   generalize ren (nmF fromL toL) g = G2 at *
   generalize nmF fromL toL r = r2 at *
   clear hO0 hO2' hsg hnm hin hok hokr hgr hg ho ho2 hr hrr
   obtain ⟨k,fr,to,so,nm,ls,l⟩:=g
   obtain ⟨k2,fr2,to2,so2,nm2,ls2,l2⟩:=G2
   simp only [Gt.d,Lt.d,Lt.zero,Lt.ds,List.map_nil] at hO hO2 hR ⊢
   rcases hcase with ⟨c1,c2,c3⟩ | ⟨c1,c5⟩
   · have c4 : (i < 4) = True:=by simp [c2]
     refine fn_of_swp (N:=110) Tryd.func6 rfl (by decide) rfl rfl (by simp) (fun C h0=>?_)
     simp only [argE]
     repeat' (first|(with_reducible apply zz1)|((with_reducible apply zz2);rfl;intro K' hK';simp only [WA,simprocAttr];(repeat (constructor;focus (clear hK';intros;simp_all;done)));(try (apply hK';clear hK' K')))|((with_reducible apply zz3);rfl;all_goals (intro h;try exact absurd h (by decide))))
     refine stop_call h0 rfl (by simp only [WA,simprocAttr]) rfl (by simp only [keepS,Option.isSome_some,WA,simprocAttr]) (hpg) ?_
     simp only [WA,simprocAttr,inX,dropS, ]
     (repeat (constructor;focus (clear hK';intros;simp_all;done)))
     (try (apply hK';clear hK' K'))
     refine stop_call h0 rfl (by simp only [WA,simprocAttr]) rfl (by simp only [keepS,Option.isSome_some,WA,simprocAttr]) (hP) ?_
     simp only [WA,simprocAttr,inX,dropS, ]
     (repeat (constructor;focus (clear hK';intros;simp_all;done)))
     (try (apply hK';clear hK' K'))
     repeat' (first|(with_reducible apply zz1)|((with_reducible apply zz2);rfl;intro K' hK';simp only [WA,simprocAttr,bne_self_eq_false,Bool.not_true,Bool.not_false,cond_true,cond_false,m4,List.length_cons,List.length_nil];(repeat (constructor;focus (clear hK';intros;simp_all;done)));(try (apply hK';clear hK' K')))|((with_reducible apply zz3);rfl;all_goals (intro h;try exact absurd h (by decide))))
     refine stop_frz [2,3] h0 (by simp only [Option.isSome_some,UF,WA,simprocAttr]) ?_
     simp only [WA,simprocAttr,UF]
     refine stop_call h0 rfl (by simp only [WA,simprocAttr]) rfl (by simp only [keepS,Option.isSome_some,WA,simprocAttr]) (hO) ?_
     simp only [WA,simprocAttr,inX,dropS, ]
     (repeat (constructor;focus (clear hK';intros;simp_all;done)))
     (try (apply hK';clear hK' K'))
     repeat' (first|(with_reducible apply zz1)|((with_reducible apply zz2);rfl;intro K' hK';simp only [WA,simprocAttr];(repeat (constructor;focus (clear hK';intros;simp_all;done)));(try (apply hK';clear hK' K')))|((with_reducible apply zz3);rfl;all_goals (intro h;try exact absurd h (by decide))))
     refine stop_call h0 rfl (by simp only [WA,simprocAttr]) rfl (by simp only [keepS,Option.isSome_some,WA,simprocAttr]) (hR) ?_
     simp only [WA,simprocAttr,inX,dropS, ]
     (repeat (constructor;focus (clear hK';intros;simp_all;done)))
     (try (apply hK';clear hK' K'))
     repeat' (first|(with_reducible apply zz1)|((with_reducible apply zz2);rfl;intro K' hK';simp only [WA,simprocAttr,e88,e00,bne_self_eq_false,cond_true,cond_false];(repeat (constructor;focus (clear hK';intros;simp_all;done)));(try (apply hK';clear hK' K')))|((with_reducible apply zz3);rfl;all_goals (intro h;try exact absurd h (by decide))))
     refine stop_callF rfl (by simp only [WA,simprocAttr]) rfl rfl (hI) ?_
     simp only [WA,simprocAttr,inX,dropS, ]
     (repeat (constructor;focus (clear hK';intros;simp_all;done)))
     (try (apply hK';clear hK' K'))
     repeat' (first|(with_reducible apply zz1)|((with_reducible apply zz2);rfl;intro K' hK';simp only [WA,simprocAttr,c1,c2,c3,c4,List.length_cons,List.length_nil];(repeat (constructor;focus (clear hK';intros;simp_all;done)));(try (apply hK';clear hK' K')))|((with_reducible apply zz3);rfl;all_goals (intro h;try exact absurd h (by decide))))
     refine stop_call h0 rfl (by simp only [WA,simprocAttr]) rfl (by simp only [keepS,Option.isSome_some,WA,simprocAttr]) (hO2) ?_
     simp only [WA,simprocAttr,inX,dropS, ]
     (repeat (constructor;focus (clear hK';intros;simp_all;done)))
     (try (apply hK';clear hK' K'))
     repeat' (first|(with_reducible apply zz1)|((with_reducible apply zz2);rfl;intro K' hK';simp only [WA,simprocAttr,e00,e88];(repeat (constructor;focus (clear hK';intros;simp_all;done)));(try (apply hK';clear hK' K')))|((with_reducible apply zz3);rfl;all_goals (intro h;try exact absurd h (by decide))))
     simp only [Kret,retL,retOne,oneV,WA,simprocAttr]
   · rw [c5] at hO2
     refine fn_of_swp (N:=110) Tryd.func6 rfl (by decide) rfl rfl (by simp) (fun C h0=>?_)
     simp only [argE]
     repeat' (first|(with_reducible apply zz1)|((with_reducible apply zz2);rfl;intro K' hK';simp only [WA,simprocAttr];(repeat (constructor;focus (clear hK';intros;simp_all;done)));(try (apply hK';clear hK' K')))|((with_reducible apply zz3);rfl;all_goals (intro h;try exact absurd h (by decide))))
     refine stop_call h0 rfl (by simp only [WA,simprocAttr]) rfl (by simp only [keepS,Option.isSome_some,WA,simprocAttr]) (hpg) ?_
     simp only [WA,simprocAttr,inX,dropS, ]
     (repeat (constructor;focus (clear hK';intros;simp_all;done)))
     (try (apply hK';clear hK' K'))
     refine stop_call h0 rfl (by simp only [WA,simprocAttr]) rfl (by simp only [keepS,Option.isSome_some,WA,simprocAttr]) (hP) ?_
     simp only [WA,simprocAttr,inX,dropS, ]
     (repeat (constructor;focus (clear hK';intros;simp_all;done)))
     (try (apply hK';clear hK' K'))
     repeat' (first|(with_reducible apply zz1)|((with_reducible apply zz2);rfl;intro K' hK';simp only [WA,simprocAttr,bne_self_eq_false,Bool.not_true,Bool.not_false,cond_true,cond_false,m4,List.length_cons,List.length_nil];(repeat (constructor;focus (clear hK';intros;simp_all;done)));(try (apply hK';clear hK' K')))|((with_reducible apply zz3);rfl;all_goals (intro h;try exact absurd h (by decide))))
     refine stop_frz [2,3] h0 (by simp only [Option.isSome_some,UF,WA,simprocAttr]) ?_
     simp only [WA,simprocAttr,UF]
     refine stop_call h0 rfl (by simp only [WA,simprocAttr]) rfl (by simp only [keepS,Option.isSome_some,WA,simprocAttr]) (hO) ?_
     simp only [WA,simprocAttr,inX,dropS, ]
     (repeat (constructor;focus (clear hK';intros;simp_all;done)))
     (try (apply hK';clear hK' K'))
     repeat' (first|(with_reducible apply zz1)|((with_reducible apply zz2);rfl;intro K' hK';simp only [WA,simprocAttr];(repeat (constructor;focus (clear hK';intros;simp_all;done)));(try (apply hK';clear hK' K')))|((with_reducible apply zz3);rfl;all_goals (intro h;try exact absurd h (by decide))))
     refine stop_call h0 rfl (by simp only [WA,simprocAttr]) rfl (by simp only [keepS,Option.isSome_some,WA,simprocAttr]) (hR) ?_
     simp only [WA,simprocAttr,inX,dropS, ]
     (repeat (constructor;focus (clear hK';intros;simp_all;done)))
     (try (apply hK';clear hK' K'))
     repeat' (first|(with_reducible apply zz1)|((with_reducible apply zz2);rfl;intro K' hK';simp only [WA,simprocAttr,e88,e00,bne_self_eq_false,cond_true,cond_false];(repeat (constructor;focus (clear hK';intros;simp_all;done)));(try (apply hK';clear hK' K')))|((with_reducible apply zz3);rfl;all_goals (intro h;try exact absurd h (by decide))))
     refine stop_callF rfl (by simp only [WA,simprocAttr]) rfl rfl (hI) ?_
     simp only [WA,simprocAttr,inX,dropS, ]
     (repeat (constructor;focus (clear hK';intros;simp_all;done)))
     (try (apply hK';clear hK' K'))
     repeat' (first|(with_reducible apply zz1)|((with_reducible apply zz2);rfl;intro K' hK';simp only [WA,simprocAttr,c1];(repeat (constructor;focus (clear hK';intros;simp_all;done)));(try (apply hK';clear hK' K')))|((with_reducible apply zz3);rfl;all_goals (intro h;try exact absurd h (by decide))))
     refine stop_call h0 rfl (by simp only [WA,simprocAttr]) rfl (by simp only [keepS,Option.isSome_some,WA,simprocAttr]) (hO2) ?_
     simp only [WA,simprocAttr,inX,dropS, ]
     (repeat (constructor;focus (clear hK';intros;simp_all;done)))
     (try (apply hK';clear hK' K'))
     repeat' (first|(with_reducible apply zz1)|((with_reducible apply zz2);rfl;intro K' hK';simp only [WA,simprocAttr,e00,e88];(repeat (constructor;focus (clear hK';intros;simp_all;done)));(try (apply hK';clear hK' K')))|((with_reducible apply zz3);rfl;all_goals (intro h;try exact absurd h (by decide))))
     simp only [Kret,retL,retOne,oneV,WA,simprocAttr]
  | some x =>
   have ho2:=ofP_ren hsg hok.1 x ho
   have hx:=ofP_ok hok.1 x ho
   have hO0 : ofR g r = (x,0):=by unfold ofR;rw [if_neg (by simpa using hg),hr,if_neg (by decide),ho]
   rw [hO0] at hO
   have hO2' : ofR (ren (nmF fromL toL) g) (nmF fromL toL r) = (renL (nmF fromL toL) x,0):=by unfold ofR;rw [if_neg (by simpa using hgr),hrr,if_neg (by decide),ho2]
   rw [hO2'] at hO2
   have hLoc:=renLoc_all Γ fromL toL rfl (by decide) x.size x hx.1 (Nat.le_refl _)
   have hxr:=renL_ok hsg hx.1
   have hxz : (renL (nmF fromL toL) x).size ≤ 1000:=by
    have:=(ofP_ok hokr.1 _ ho2).2
    have:=hokr.2
    omega
   obtain ⟨T, -,hT⟩:=ltext_ex Γ hxr hxz
   have hRo:=Roles_fn Γ g
   rw [hg] at hRo
   have hRl:=rolesF_len _ hg
   have hct : DFn Tryd.prog Γ 14 [.slc ((rolesF g).map sD),sD r] (.v (.bool (inL (rolesF g) r))):=containsS_fn Γ (rolesF g) r (by omega)
   have hfin : (bif inL (rolesF g) r then true else (x.kd == 1)) = true:=by
    cases hi : inL (rolesF g) r with
    | true=>rfl
    | false =>
     rw [ofP_absent hg (inL_not.1 hi) ho]
     decide
   have hk0 : (x.kd == 0) = false:=by
    cases hx.1 with
    | nil=>rfl
    | pass k so wi x hk=>rcases hk with rfl | rfl <;> rfl
    | pick k wi ls l hk=>rcases hk with rfl | rfl <;> rfl
    | bind=>rfl
    | var=>rfl
   change DFn Tryd.prog Γ 13 _ (.tup [(ren (nmF fromL toL) g).d,iD 0]) at hR
   simp only [fromL,toL,List.map_cons,List.map_nil] at hLoc
   change DFn Tryd.prog Γ 20 _ (renL (nmF fromL toL) x).d at hLoc
   generalize ren (nmF fromL toL) g = G2 at *
   generalize renL (nmF fromL toL) x = X2 at *
   generalize nmF fromL toL r = r2 at *
   generalize inL (rolesF g) r = B at *
   generalize rolesF g = Ro at *
   clear hO0 hO2' hsg hnm hin hok hokr hgr hg ho ho2 hr hrr hxr hxz hx hRl
   obtain ⟨k,fr,to,so,nm,ls,l⟩:=g
   obtain ⟨k2,fr2,to2,so2,nm2,ls2,l2⟩:=G2
   obtain ⟨xk,xw,xs,xn,xls,xl⟩:=x
   obtain ⟨yk,yw,ys,yn,yls,yl⟩:=X2
   have hk0 : (xk == 0) = false:=hk0
   have hfin : (bif B then true else (xk == 1)) = true:=hfin
   simp only [Gt.d,Lt.d,Lt.zero,Lt.ds,List.map_nil] at hO hO2 hR hLoc hT hRo ⊢
   rcases hcase with ⟨c1,c2,c3⟩ | ⟨c1,c5⟩
   · have c4 : (i < 4) = True:=by simp [c2]
     refine fn_of_swp (N:=110) Tryd.func6 rfl (by decide) rfl rfl (by simp) (fun C h0=>?_)
     simp only [argE]
     repeat' (first|(with_reducible apply zz1)|((with_reducible apply zz2);rfl;intro K' hK';simp only [WA,simprocAttr];(repeat (constructor;focus (clear hK';intros;simp_all;done)));(try (apply hK';clear hK' K')))|((with_reducible apply zz3);rfl;all_goals (intro h;try exact absurd h (by decide))))
     refine stop_call h0 rfl (by simp only [WA,simprocAttr]) rfl (by simp only [keepS,Option.isSome_some,WA,simprocAttr]) (hpg) ?_
     simp only [WA,simprocAttr,inX,dropS, ]
     (repeat (constructor;focus (clear hK';intros;simp_all;done)))
     (try (apply hK';clear hK' K'))
     refine stop_call h0 rfl (by simp only [WA,simprocAttr]) rfl (by simp only [keepS,Option.isSome_some,WA,simprocAttr]) (hP) ?_
     simp only [WA,simprocAttr,inX,dropS, ]
     (repeat (constructor;focus (clear hK';intros;simp_all;done)))
     (try (apply hK';clear hK' K'))
     repeat' (first|(with_reducible apply zz1)|((with_reducible apply zz2);rfl;intro K' hK';simp only [WA,simprocAttr,bne_self_eq_false,Bool.not_true,Bool.not_false,cond_true,cond_false,m4,List.length_cons,List.length_nil];(repeat (constructor;focus (clear hK';intros;simp_all;done)));(try (apply hK';clear hK' K')))|((with_reducible apply zz3);rfl;all_goals (intro h;try exact absurd h (by decide))))
     refine stop_frz [2,3] h0 (by simp only [Option.isSome_some,UF,WA,simprocAttr]) ?_
     simp only [WA,simprocAttr,UF]
     refine stop_call h0 rfl (by simp only [WA,simprocAttr]) rfl (by simp only [keepS,Option.isSome_some,WA,simprocAttr]) (hO) ?_
     simp only [WA,simprocAttr,inX,dropS, ]
     (repeat (constructor;focus (clear hK';intros;simp_all;done)))
     (try (apply hK';clear hK' K'))
     repeat' (first|(with_reducible apply zz1)|((with_reducible apply zz2);rfl;intro K' hK';simp only [WA,simprocAttr];(repeat (constructor;focus (clear hK';intros;simp_all;done)));(try (apply hK';clear hK' K')))|((with_reducible apply zz3);rfl;all_goals (intro h;try exact absurd h (by decide))))
     refine stop_call h0 rfl (by simp only [WA,simprocAttr]) rfl (by simp only [keepS,Option.isSome_some,WA,simprocAttr]) (hR) ?_
     simp only [WA,simprocAttr,inX,dropS, ]
     (repeat (constructor;focus (clear hK';intros;simp_all;done)))
     (try (apply hK';clear hK' K'))
     repeat' (first|(with_reducible apply zz1)|((with_reducible apply zz2);rfl;intro K' hK';simp only [WA,simprocAttr,e08,e00,bne_self_eq_false,cond_true,cond_false];(repeat (constructor;focus (clear hK';intros;simp_all;done)));(try (apply hK';clear hK' K')))|((with_reducible apply zz3);rfl;all_goals (intro h;try exact absurd h (by decide))))
     refine stop_callF rfl (by simp only [WA,simprocAttr]) rfl rfl (hI) ?_
     simp only [WA,simprocAttr,inX,dropS, ]
     (repeat (constructor;focus (clear hK';intros;simp_all;done)))
     (try (apply hK';clear hK' K'))
     repeat' (first|(with_reducible apply zz1)|((with_reducible apply zz2);rfl;intro K' hK';simp only [WA,simprocAttr,c1,c2,c3,c4,List.length_cons,List.length_nil];(repeat (constructor;focus (clear hK';intros;simp_all;done)));(try (apply hK';clear hK' K')))|((with_reducible apply zz3);rfl;all_goals (intro h;try exact absurd h (by decide))))
     refine stop_call h0 rfl (by simp only [WA,simprocAttr]) rfl (by simp only [keepS,Option.isSome_some,WA,simprocAttr]) (hO2) ?_
     simp only [WA,simprocAttr,inX,dropS, ]
     (repeat (constructor;focus (clear hK';intros;simp_all;done)))
     (try (apply hK';clear hK' K'))
     repeat' (first|(with_reducible apply zz1)|((with_reducible apply zz2);rfl;intro K' hK';simp only [WA,simprocAttr,hk0];(repeat (constructor;focus (clear hK';intros;simp_all;done)));(try (apply hK';clear hK' K')))|((with_reducible apply zz3);rfl;all_goals (intro h;try exact absurd h (by decide))))
     (with_reducible refine swp_draw ?_ ?_ ?_ ( [(4,sD T),(8,.agg [iD yk,sD yw,iD ys,sD yn,.slc (yls.map sD),.slc (Lt.ds yl)]),(9,sD T)]) (fun K' hK'=>?_)
      · kernel_rfl
      · rfl
      · rfl
      simp only [WA,simprocAttr,UG,hT,hLoc,bne_self_eq_false,beq_self_eq_true,Bool.not_true,Bool.not_false,cond_true,cond_false ]
      (try (apply hK';clear hK' K')))
     repeat' (first|(with_reducible apply zz1)|((with_reducible apply zz2);rfl;intro K' hK';simp only [WA,simprocAttr];(repeat (constructor;focus (clear hK';intros;simp_all;done)));(try (apply hK';clear hK' K')))|((with_reducible apply zz3);rfl;all_goals (intro h;try exact absurd h (by decide))))
     refine stop_call h0 rfl (by simp only [WA,simprocAttr]) rfl (by simp only [keepS,Option.isSome_some,WA,simprocAttr]) (hRo) ?_
     simp only [WA,simprocAttr,inX,dropS, ]
     (repeat (constructor;focus (clear hK';intros;simp_all;done)))
     (try (apply hK';clear hK' K'))
     repeat' (first|(with_reducible apply zz1)|((with_reducible apply zz2);rfl;intro K' hK';simp only [WA,simprocAttr];(repeat (constructor;focus (clear hK';intros;simp_all;done)));(try (apply hK';clear hK' K')))|((with_reducible apply zz3);rfl;all_goals (intro h;try exact absurd h (by decide))))
     (with_reducible refine swp_regionA ?_ ( [(5,.v (.bool B))]) (fun K' hK'=>?_)
      · rfl
      simp only [WA,simprocAttr,UG,hct,List.length_map,e00,cond_true,cond_false,hfin ]
      (repeat (constructor;focus (clear hK';intros;simp_all;done)))
      (try (apply hK';clear hK' K')))
     repeat' (first|(with_reducible apply zz1)|((with_reducible apply zz2);rfl;intro K' hK';simp only [WA,simprocAttr];(repeat (constructor;focus (clear hK';intros;simp_all;done)));(try (apply hK';clear hK' K')))|((with_reducible apply zz3);rfl;all_goals (intro h;try exact absurd h (by decide))))
     simp only [Kret,retL,retOne,oneV,WA,simprocAttr]
   · rw [c5] at hO2
     refine fn_of_swp (N:=110) Tryd.func6 rfl (by decide) rfl rfl (by simp) (fun C h0=>?_)
     simp only [argE]
     repeat' (first|(with_reducible apply zz1)|((with_reducible apply zz2);rfl;intro K' hK';simp only [WA,simprocAttr];(repeat (constructor;focus (clear hK';intros;simp_all;done)));(try (apply hK';clear hK' K')))|((with_reducible apply zz3);rfl;all_goals (intro h;try exact absurd h (by decide))))
     refine stop_call h0 rfl (by simp only [WA,simprocAttr]) rfl (by simp only [keepS,Option.isSome_some,WA,simprocAttr]) (hpg) ?_
     simp only [WA,simprocAttr,inX,dropS, ]
     (repeat (constructor;focus (clear hK';intros;simp_all;done)))
     (try (apply hK';clear hK' K'))
     refine stop_call h0 rfl (by simp only [WA,simprocAttr]) rfl (by simp only [keepS,Option.isSome_some,WA,simprocAttr]) (hP) ?_
     simp only [WA,simprocAttr,inX,dropS, ]
     (repeat (constructor;focus (clear hK';intros;simp_all;done)))
     (try (apply hK';clear hK' K'))
     repeat' (first|(with_reducible apply zz1)|((with_reducible apply zz2);rfl;intro K' hK';simp only [WA,simprocAttr,bne_self_eq_false,Bool.not_true,Bool.not_false,cond_true,cond_false,m4,List.length_cons,List.length_nil];(repeat (constructor;focus (clear hK';intros;simp_all;done)));(try (apply hK';clear hK' K')))|((with_reducible apply zz3);rfl;all_goals (intro h;try exact absurd h (by decide))))
     refine stop_frz [2,3] h0 (by simp only [Option.isSome_some,UF,WA,simprocAttr]) ?_
     simp only [WA,simprocAttr,UF]
     refine stop_call h0 rfl (by simp only [WA,simprocAttr]) rfl (by simp only [keepS,Option.isSome_some,WA,simprocAttr]) (hO) ?_
     simp only [WA,simprocAttr,inX,dropS, ]
     (repeat (constructor;focus (clear hK';intros;simp_all;done)))
     (try (apply hK';clear hK' K'))
     repeat' (first|(with_reducible apply zz1)|((with_reducible apply zz2);rfl;intro K' hK';simp only [WA,simprocAttr];(repeat (constructor;focus (clear hK';intros;simp_all;done)));(try (apply hK';clear hK' K')))|((with_reducible apply zz3);rfl;all_goals (intro h;try exact absurd h (by decide))))
     refine stop_call h0 rfl (by simp only [WA,simprocAttr]) rfl (by simp only [keepS,Option.isSome_some,WA,simprocAttr]) (hR) ?_
     simp only [WA,simprocAttr,inX,dropS, ]
     (repeat (constructor;focus (clear hK';intros;simp_all;done)))
     (try (apply hK';clear hK' K'))
     repeat' (first|(with_reducible apply zz1)|((with_reducible apply zz2);rfl;intro K' hK';simp only [WA,simprocAttr,e08,e00,bne_self_eq_false,cond_true,cond_false];(repeat (constructor;focus (clear hK';intros;simp_all;done)));(try (apply hK';clear hK' K')))|((with_reducible apply zz3);rfl;all_goals (intro h;try exact absurd h (by decide))))
     refine stop_callF rfl (by simp only [WA,simprocAttr]) rfl rfl (hI) ?_
     simp only [WA,simprocAttr,inX,dropS, ]
     (repeat (constructor;focus (clear hK';intros;simp_all;done)))
     (try (apply hK';clear hK' K'))
     repeat' (first|(with_reducible apply zz1)|((with_reducible apply zz2);rfl;intro K' hK';simp only [WA,simprocAttr,c1];(repeat (constructor;focus (clear hK';intros;simp_all;done)));(try (apply hK';clear hK' K')))|((with_reducible apply zz3);rfl;all_goals (intro h;try exact absurd h (by decide))))
     refine stop_call h0 rfl (by simp only [WA,simprocAttr]) rfl (by simp only [keepS,Option.isSome_some,WA,simprocAttr]) (hO2) ?_
     simp only [WA,simprocAttr,inX,dropS, ]
     (repeat (constructor;focus (clear hK';intros;simp_all;done)))
     (try (apply hK';clear hK' K'))
     repeat' (first|(with_reducible apply zz1)|((with_reducible apply zz2);rfl;intro K' hK';simp only [WA,simprocAttr,hk0];(repeat (constructor;focus (clear hK';intros;simp_all;done)));(try (apply hK';clear hK' K')))|((with_reducible apply zz3);rfl;all_goals (intro h;try exact absurd h (by decide))))
     (with_reducible refine swp_draw ?_ ?_ ?_ ( [(4,sD T),(8,.agg [iD yk,sD yw,iD ys,sD yn,.slc (yls.map sD),.slc (Lt.ds yl)]),(9,sD T)]) (fun K' hK'=>?_)
      · kernel_rfl
      · rfl
      · rfl
      simp only [WA,simprocAttr,UG,hT,hLoc,bne_self_eq_false,beq_self_eq_true,Bool.not_true,Bool.not_false,cond_true,cond_false ]
      (try (apply hK';clear hK' K')))
     repeat' (first|(with_reducible apply zz1)|((with_reducible apply zz2);rfl;intro K' hK';simp only [WA,simprocAttr];(repeat (constructor;focus (clear hK';intros;simp_all;done)));(try (apply hK';clear hK' K')))|((with_reducible apply zz3);rfl;all_goals (intro h;try exact absurd h (by decide))))
     refine stop_call h0 rfl (by simp only [WA,simprocAttr]) rfl (by simp only [keepS,Option.isSome_some,WA,simprocAttr]) (hRo) ?_
     simp only [WA,simprocAttr,inX,dropS, ]
     (repeat (constructor;focus (clear hK';intros;simp_all;done)))
     (try (apply hK';clear hK' K'))
     repeat' (first|(with_reducible apply zz1)|((with_reducible apply zz2);rfl;intro K' hK';simp only [WA,simprocAttr];(repeat (constructor;focus (clear hK';intros;simp_all;done)));(try (apply hK';clear hK' K')))|((with_reducible apply zz3);rfl;all_goals (intro h;try exact absurd h (by decide))))
     (with_reducible refine swp_regionA ?_ ( [(5,.v (.bool B))]) (fun K' hK'=>?_)
      · rfl
      simp only [WA,simprocAttr,UG,hct,List.length_map,e00,cond_true,cond_false,hfin ]
      (repeat (constructor;focus (clear hK';intros;simp_all;done)))
      (try (apply hK';clear hK' K')))
     repeat' (first|(with_reducible apply zz1)|((with_reducible apply zz2);rfl;intro K' hK';simp only [WA,simprocAttr];(repeat (constructor;focus (clear hK';intros;simp_all;done)));(try (apply hK';clear hK' K')))|((with_reducible apply zz3);rfl;all_goals (intro h;try exact absurd h (by decide))))
     simp only [Kret,retL,retOne,oneV,WA,simprocAttr]
end Go.Proofs.YtmohkmfimcnfeaaDoor
