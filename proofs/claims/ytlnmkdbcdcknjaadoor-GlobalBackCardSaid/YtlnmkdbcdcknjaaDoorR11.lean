/- The law GlobalBack; a symbolic walk. -/
-- TYPESA
import Derived.Test.YtlnmkdbcdcknjaaDoorR10
import Derived.Test.YtlnmkdbcdcknjaaDoorG8
set_option linter.unusedVariables false
set_option linter.unusedSimpArgs false
namespace Go.Proofs.YtlnmkdbcdcknjaaDoor.GG
open Go.RowKit Go.Sw
open Go.Sw renaming swp_seq → zw0, swp_region → zw17

theorem gparse_tot (Γ : Gl) (hG : GD Tryd.prog Γ 0 22 (.slc (sortsL.map sD))) (s : ByteArray) : ∃ (y : Gt) (c t : Int),DFn Tryd.prog Γ 8 [sD s] (.tup [y.d,.agg [iD c,iD t]]) ∧ (c = 0 → s.size ≤ 2000 ∧ gCheck y = 0 ∧ (wrG y).size ≤ s.size) ∧ (c ≠ 0 → y = Gt.zero):=by
 by_cases hs : s.size ≤ 2000
 · obtain ⟨R,r1,g1⟩:=rdG_tot Γ s hs hG s.size 0 (by omega) (Nat.zero_le _)
   have hb : ∀ x b,R = .ok x b → b ≤ s.size:=fun x b h=>(g1 x b h).2.1
   have hp:=gparse_fn Γ s hs R r1 hb
   cases R with
   | no b=>exact ⟨_,3,_,hp,fun h=>absurd h (by decide),fun _=>rfl⟩
   | ok x b =>
    unfold parG at hp
    by_cases he : wAt s b < s.size
    · simp only [if_pos he] at hp
      exact ⟨_,3,_,hp,fun h=>absurd h (by decide),fun _=>rfl⟩
    · by_cases hc : gCheck x = 0
      · simp only [if_neg he,if_pos hc] at hp
        obtain ⟨m1,m2,m3⟩:=g1 x b rfl
        exact ⟨_,0,_,hp,fun _=>⟨hs,hc,by omega⟩,fun h=>absurd rfl h⟩
      · simp only [if_neg he,if_neg hc] at hp
        exact ⟨_,_,_,hp,fun h=>absurd h hc,fun _=>rfl⟩
 · exact ⟨_,2,_,gparse_big Γ s hs,fun h=>absurd h (by decide),fun _=>rfl⟩
theorem gchk_end : gCheck (.mk 1 noB noB 0 noB [] []) = 0:=by decide +kernel
set_option maxHeartbeats 16000000 in
set_option maxRecDepth 100000 in
theorem gbackLaw (Γ : Gl) (hG : GD Tryd.prog Γ 0 22 (.slc (sortsL.map sD))) (x : Gt) (s : ByteArray) : DFn Tryd.prog Γ 3 [x.d,sD s] (.v (.bool true)):=by
 have hW0:=GWrite_fn Γ hG (.mk 1 noB noB 0 noB [] [])
 rw [gchk_end,show wrtG (.mk 1 noB noB 0 noB [] []) = ⟨#[101,110,100]⟩ from by unfold wrtG;rw [if_pos gchk_end,wg_end]] at hW0
 simp only [Gt.d,Gt.ds,List.map_nil] at hW0
 obtain ⟨y,c,t,hP,hp1,hp2⟩:=gparse_tot Γ hG s
 have hWx:=GWrite_fn Γ hG x
 have hempty : (ByteArray.toList ⟨#[]⟩ == ByteArray.toList ⟨#[]⟩) = true:=by decide +kernel
 have hend : (ByteArray.toList ⟨#[101,110,100]⟩ == ByteArray.toList ⟨#[101,110,100]⟩) = true:=by decide +kernel
 obtain ⟨X,hX⟩ : ∃ X,x = X:=⟨x,rfl⟩
 obtain ⟨xk,xfr,xto,xso,xnm,xls,xl⟩:=x
 refine fn_of_swp (N:=90) Tryd.func3 rfl (by decide) rfl rfl (by simp) (fun C h0=>?_)
 simp only [argE,Gt.d]
 refine zw0 ?_
 (with_reducible refine zw17 ?_ (fun K' hK'=>?_)
  · rfl
  simp only [WA,simprocAttr]
  (repeat (constructor;focus (clear hK';intros;simp_all;done))))
 refine hK' _ _ ?_
 clear hK' K'
 refine kseq_n ?_
 refine zw0 ?_
 refine swp_midK [(1,.d (sD s)),(2,.ref 0 0)] [(0,.cells [.d (iD xk),.d (sD xfr),.d (sD xto),.d (iD xso),.d (sD xnm),.d (.slc (xls.map sD)),.d (.slc (Gt.ds xl))])] ?_ ?_
 · repeat' (first|(with_reducible apply zz1)|((with_reducible apply zz2);rfl;intro K' hK';simp only [WA,simprocAttr];(repeat (constructor;focus (clear hK';intros;simp_all;done)));(try (apply hK';clear hK' K')))|((with_reducible apply zz3);rfl;all_goals (intro h;try exact absurd h (by decide))))
   refine stop_callF rfl (by simp only [WA,simprocAttr]) rfl rfl (hW0) ?_
   simp only [WA,simprocAttr,inX,dropS, ]
   (repeat (constructor;focus (clear hK';intros;simp_all;done)))
   (try (apply hK';clear hK' K'))
   repeat' (first|(with_reducible apply zz1)|((with_reducible apply zz2);rfl;intro K' hK';simp only [WA,simprocAttr,hend,Bool.not_true,Bool.not_false,cond_true,cond_false];(repeat (constructor;focus (clear hK';intros;simp_all;done)));(try (apply hK';clear hK' K')))|((with_reducible apply zz3);rfl;all_goals (intro h;try exact absurd h (by decide))))
   refine ⟨rfl,?_⟩
   refine sub_of h0 ?_ ?_ ?_ <;> simp only [US,WA,simprocAttr]
 refine zw0 ?_
 refine swp_midK [(2,.ref 0 0)] [(0,.cells [.d (iD xk),.d (sD xfr),.d (sD xto),.d (iD xso),.d (sD xnm),.d (.slc (xls.map sD)),.d (.slc (Gt.ds xl))])] ?_ ?_
 · clear hWx
   by_cases hc : c = 0
   · subst hc
     obtain ⟨hs,hcy,hle⟩:=hp1 rfl
     have hWy:=GWrite_fn Γ hG y
     unfold wrtG at hWy
     rw [if_pos hcy,hcy] at hWy
     have hTy:=gparse_back Γ (wrG y) (by omega) hG hcy rfl
     have hsm:=sameG_self Γ (okG_check hcy).1
     clear hp1 hp2 hcy
     generalize wrG y = T at *
     obtain ⟨yk,yfr,yto,yso,ynm,yls,yl⟩:=y
     simp only [Gt.d] at hP hWy hTy hsm
     repeat' (first|(with_reducible apply zz1)|((with_reducible apply zz2);rfl;intro K' hK';simp only [WA,simprocAttr];(repeat (constructor;focus (clear hK';intros;simp_all;done)));(try (apply hK';clear hK' K')))|((with_reducible apply zz3);rfl;all_goals (intro h;try exact absurd h (by decide))))
     refine stop_call h0 rfl (by simp only [WA,simprocAttr]) rfl (by simp only [keepS,Option.isSome_some,WA,simprocAttr]) (hP) ?_
     simp only [WA,simprocAttr,inX,dropS, ]
     (repeat (constructor;focus (clear hK';intros;simp_all;done)))
     (try (apply hK';clear hK' K'))
     repeat' (first|(with_reducible apply zz1)|((with_reducible apply zz2);rfl;intro K' hK';simp only [WA,simprocAttr];(repeat (constructor;focus (clear hK';intros;simp_all;done)));(try (apply hK';clear hK' K')))|((with_reducible apply zz3);rfl;all_goals (intro h;try exact absurd h (by decide))))
     refine stop_callF rfl (by simp only [WA,simprocAttr]) rfl rfl (hWy) ?_
     simp only [WA,simprocAttr,inX,dropS, ]
     (repeat (constructor;focus (clear hK';intros;simp_all;done)))
     (try (apply hK';clear hK' K'))
     repeat' (first|(with_reducible apply zz1)|((with_reducible apply zz2);rfl;intro K' hK';simp only [WA,simprocAttr];(repeat (constructor;focus (clear hK';intros;simp_all;done)));(try (apply hK';clear hK' K')))|((with_reducible apply zz3);rfl;all_goals (intro h;try exact absurd h (by decide))))
     refine stop_call h0 rfl (by simp only [WA,simprocAttr]) rfl (by simp only [keepS,Option.isSome_some,WA,simprocAttr]) (hTy) ?_
     simp only [WA,simprocAttr,inX,dropS, ]
     (repeat (constructor;focus (clear hK';intros;simp_all;done)))
     (try (apply hK';clear hK' K'))
     repeat' (first|(with_reducible apply zz1)|((with_reducible apply zz2);rfl;intro K' hK';simp only [WA,simprocAttr];(repeat (constructor;focus (clear hK';intros;simp_all;done)));(try (apply hK';clear hK' K')))|((with_reducible apply zz3);rfl;all_goals (intro h;try exact absurd h (by decide))))
     (with_reducible refine zw17 ?_ (fun K' hK'=>?_)
      · rfl
      simp only [WA,simprocAttr,bne_self_eq_false,Bool.not_true,Bool.not_false,cond_true,cond_false]
      (repeat (constructor;focus (clear hK';intros;simp_all;done))))
     refine stop_guard rfl ?_
     refine stop_callF rfl (by simp only [WA,simprocAttr] <;> decide) rfl rfl (hsm) ?_
     simp only [WA,simprocAttr,inX,dropS,bne_self_eq_false,Bool.not_true,Bool.not_false,cond_true,cond_false]
     (repeat (constructor;focus (clear hK';intros;simp_all;done)))
     (try (apply hK';clear hK' K'))
     repeat' (first|(with_reducible apply zz1)|((with_reducible apply zz2);rfl;intro K' hK';simp only [WA,simprocAttr];(repeat (constructor;focus (clear hK';intros;simp_all;done)));(try (apply hK';clear hK' K')))|((with_reducible apply zz3);rfl;all_goals (intro h;try exact absurd h (by decide))))
     refine ⟨rfl,?_⟩
     refine sub_of h0 ?_ ?_ ?_ <;> simp only [US,WA,simprocAttr]
   · obtain rfl:=hp2 hc
     have g0 : (c == 0) = false:=by simpa using hc
     simp only [Gt.zero,Gt.d,Gt.ds,List.map_nil] at hP
     clear hp1 hp2
     repeat' (first|(with_reducible apply zz1)|((with_reducible apply zz2);rfl;intro K' hK';simp only [WA,simprocAttr];(repeat (constructor;focus (clear hK';intros;simp_all;done)));(try (apply hK';clear hK' K')))|((with_reducible apply zz3);rfl;all_goals (intro h;try exact absurd h (by decide))))
     refine stop_call h0 rfl (by simp only [WA,simprocAttr]) rfl (by simp only [keepS,Option.isSome_some,WA,simprocAttr]) (hP) ?_
     simp only [WA,simprocAttr,inX,dropS, ]
     (repeat (constructor;focus (clear hK';intros;simp_all;done)))
     (try (apply hK';clear hK' K'))
     repeat' (first|(with_reducible apply zz1)|((with_reducible apply zz2);rfl;intro K' hK';simp only [WA,simprocAttr,g0];(repeat (constructor;focus (clear hK';intros;simp_all;done)));(try (apply hK';clear hK' K')))|((with_reducible apply zz3);rfl;all_goals (intro h;try exact absurd h (by decide))))
     refine ⟨rfl,?_⟩
     refine sub_of h0 ?_ ?_ ?_ <;> simp only [US,WA,simprocAttr]
 · clear hP hp1 hp2 hW0
   rw [hX] at hWx
   by_cases hc : gCheck X = 0
   · have hok:=okG_check hc
     have hTx:=fun h=>gparse_back Γ (wrG X) h hG hc rfl
     have hsm:=sameG_self Γ hok.1
     unfold wrtG at hWx
     rw [if_pos hc,hc] at hWx
     generalize wrG X = T at *
     clear hok hc
     subst hX
     simp only [Gt.d] at hWx hTx hsm
     by_cases hT : T.size ≤ 2000
     · have hTx:=hTx hT
       have hT1 : ¬ (2000 : Int) < (T.size : Int):=by omega
       repeat' (first|(with_reducible apply zz1)|((with_reducible apply zz2);rfl;intro K' hK';simp only [WA,simprocAttr];(repeat (constructor;focus (clear hK';intros;simp_all;done)));(try (apply hK';clear hK' K')))|((with_reducible apply zz3);rfl;all_goals (intro h;try exact absurd h (by decide))))
       refine stop_callF rfl (by simp only [WA,simprocAttr]) rfl rfl (hWx) ?_
       simp only [WA,simprocAttr,inX,dropS, ]
       (repeat (constructor;focus (clear hK';intros;simp_all;done)))
       (try (apply hK';clear hK' K'))
       repeat' (first|(with_reducible apply zz1)|((with_reducible apply zz2);rfl;intro K' hK';simp only [WA,simprocAttr,hT1,Bool.not_true,Bool.not_false,cond_true,cond_false];(repeat (constructor;focus (clear hK';intros;simp_all;done)));(try (apply hK';clear hK' K')))|((with_reducible apply zz3);rfl;all_goals (intro h;try exact absurd h (by decide))))
       refine stop_call h0 rfl (by simp only [WA,simprocAttr]) rfl (by simp only [keepS,Option.isSome_some,WA,simprocAttr]) (hTx) ?_
       simp only [WA,simprocAttr,inX,dropS, ]
       (repeat (constructor;focus (clear hK';intros;simp_all;done)))
       (try (apply hK';clear hK' K'))
       repeat' (first|(with_reducible apply zz1)|((with_reducible apply zz2);rfl;intro K' hK';simp only [WA,simprocAttr];(repeat (constructor;focus (clear hK';intros;simp_all;done)));(try (apply hK';clear hK' K')))|((with_reducible apply zz3);rfl;all_goals (intro h;try exact absurd h (by decide))))
       -- TRACE
       (with_reducible refine zw17 ?_ (fun K' hK'=>?_)
        · rfl
        simp only [WA,simprocAttr,hT1,bne_self_eq_false,Bool.not_true,Bool.not_false,cond_true,cond_false]
        (repeat (constructor;focus (clear hK';intros;simp_all;done))))
       refine stop_guard rfl ?_
       refine stop_callF rfl (by simp only [WA,simprocAttr] <;> decide) rfl rfl (hsm) ?_
       simp only [WA,simprocAttr,inX,dropS,hT1,bne_self_eq_false,Bool.not_true,Bool.not_false,cond_true,cond_false]
       (repeat (constructor;focus (clear hK';intros;simp_all;done)))
       (try (apply hK';clear hK' K'))
       repeat' (first|(with_reducible apply zz1)|((with_reducible apply zz2);rfl;intro K' hK';simp only [WA,simprocAttr];(repeat (constructor;focus (clear hK';intros;simp_all;done)));(try (apply hK';clear hK' K')))|((with_reducible apply zz3);rfl;all_goals (intro h;try exact absurd h (by decide))))
       simp only [Kret,retL,retOne,oneV,WA,simprocAttr]
     · have hT1 : (2000 : Int) < (T.size : Int):=by omega
       repeat' (first|(with_reducible apply zz1)|((with_reducible apply zz2);rfl;intro K' hK';simp only [WA,simprocAttr];(repeat (constructor;focus (clear hK';intros;simp_all;done)));(try (apply hK';clear hK' K')))|((with_reducible apply zz3);rfl;all_goals (intro h;try exact absurd h (by decide))))
       refine stop_callF rfl (by simp only [WA,simprocAttr]) rfl rfl (hWx) ?_
       simp only [WA,simprocAttr,inX,dropS, ]
       (repeat (constructor;focus (clear hK';intros;simp_all;done)))
       (try (apply hK';clear hK' K'))
       repeat' (first|(with_reducible apply zz1)|((with_reducible apply zz2);rfl;intro K' hK';simp only [WA,simprocAttr,hT1,Bool.not_true,Bool.not_false,cond_true,cond_false];(repeat (constructor;focus (clear hK';intros;simp_all;done)));(try (apply hK';clear hK' K')))|((with_reducible apply zz3);rfl;all_goals (intro h;try exact absurd h (by decide))))
       simp only [Kret,retL,retOne,oneV,WA,simprocAttr]
   · have g0 : (gCheck X != 0) = true:=by simpa using hc
     have g1 : (gCheck X == 0) = false:=by simpa using hc
     unfold wrtG at hWx
     rw [if_neg hc] at hWx
     generalize gCheck X = E at *
     subst hX
     simp only [Gt.d] at hWx
     repeat' (first|(with_reducible apply zz1)|((with_reducible apply zz2);rfl;intro K' hK';simp only [WA,simprocAttr];(repeat (constructor;focus (clear hK';intros;simp_all;done)));(try (apply hK';clear hK' K')))|((with_reducible apply zz3);rfl;all_goals (intro h;try exact absurd h (by decide))))
     refine stop_callF rfl (by simp only [WA,simprocAttr]) rfl rfl (hWx) ?_
     simp only [WA,simprocAttr,inX,dropS, ]
     (repeat (constructor;focus (clear hK';intros;simp_all;done)))
     (try (apply hK';clear hK' K'))
     repeat' (first|(with_reducible apply zz1)|((with_reducible apply zz2);rfl;intro K' hK';simp only [WA,simprocAttr,g0,g1,hempty,Bool.not_true,Bool.not_false,cond_true,cond_false];(repeat (constructor;focus (clear hK';intros;simp_all;done)));(try (apply hK';clear hK' K')))|((with_reducible apply zz3);rfl;all_goals (intro h;try exact absurd h (by decide))))
     simp only [Kret,retL,retOne,oneV,WA,simprocAttr]
end Go.Proofs.YtlnmkdbcdcknjaaDoor.GG
