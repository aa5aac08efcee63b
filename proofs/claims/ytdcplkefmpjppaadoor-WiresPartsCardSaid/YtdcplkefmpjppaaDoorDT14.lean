/- types.Parse; a symbolic walk. -/
-- TYPESA
import Derived.Test.YtdcplkefmpjppaaDoorDT13
import Derived.Test.YtdcplkefmpjppaaDoorDT11
set_option linter.unusedVariables false
set_option linter.unusedSimpArgs false
namespace Go.Proofs.YtdcplkefmpjppaaDoor.GG
open Go.RowKit Go.Sw

set_option maxHeartbeats 8000000 in
set_option maxRecDepth 100000 in
theorem parse_err (Γ : Gl) (s : ByteArray) (X : Tp) (n c t : Int) (hb : DFn Tryd.prog Γ 100 [sD s,iD 0] (.tup [X.d,iD n,.agg [iD c,iD t]])) (hc : c ≠ 0) : DFn Tryd.prog Γ 76 [sD s] (.tup [X.d,.agg [iD c,iD t]]):=by
 obtain ⟨xk,xso,xnm,xls,xl⟩:=X
 have g0 : (c == 0) = false:=by simpa using hc
 simp only [Tp.d] at hb ⊢
 refine fn_of_swp (N:=27) Tryd.func76 rfl (by decide) rfl rfl (by simp) (fun C h0=>?_)
 simp only [argE]
 repeat' (first|(with_reducible apply zz1)|((with_reducible apply zz2);rfl;intro K' hK';simp only [WA,simprocAttr];(repeat (constructor;focus (clear hK';intros;simp_all;done)));(try (apply hK';clear hK' K')))|((with_reducible apply zz3);rfl;all_goals (intro h;try exact absurd h (by decide))))
 refine stop_call h0 rfl (by simp only [WA,simprocAttr]) rfl (by simp only [keepS,Option.isSome_some,WA,simprocAttr]) (hb) ?_
 simp only [WA,simprocAttr,inX,dropS, ]
 (repeat (constructor;focus (clear hK';intros;simp_all;done)))
 (try (apply hK';clear hK' K'))
 repeat' (first|(with_reducible apply zz1)|((with_reducible apply zz2);rfl;intro K' hK';simp only [WA,simprocAttr,g0,Bool.not_true,Bool.not_false,cond_true,cond_false];(repeat (constructor;focus (clear hK';intros;simp_all;done)));(try (apply hK';clear hK' K')))|((with_reducible apply zz3);rfl;all_goals (intro h;try exact absurd h (by decide))))
 (with_reducible refine swp_drawW ?_ ?_ ?_ (⟨[],[]⟩) _ rfl (fun K' hK'=>?_)
  · kernel_rfl
  · rfl
  · rfl
  simp only [WA,simprocAttr,vcW,stepW,callR,effO,srcE,Eff.env,Eff.st,writeOp,callA,pureOp,Bool.or_true,Bool.true_or,Bool.or_self,Bool.or_false,Bool.false_or,D.flat,D.flats,true_or,or_true,forall_const, ]
  (repeat (constructor;focus (first | (with_reducible assumption) | (clear hK';intros;simp_all;done))))
  (refine And.intro (by kernel_rfl) ?_)
  (try (apply hK';clear hK' K')))
 repeat' (first|(with_reducible apply zz1)|((with_reducible apply zz2);rfl;intro K' hK';simp only [WA,simprocAttr];(repeat (constructor;focus (clear hK';intros;simp_all;done)));(try (apply hK';clear hK' K')))|((with_reducible apply zz3);rfl;all_goals (intro h;try exact absurd h (by decide))))
 simp only [Kret,retL,retOne,oneV,WA,simprocAttr]
set_option maxHeartbeats 8000000 in
set_option maxRecDepth 100000 in
theorem parse_more (Γ : Gl) (s : ByteArray) (X : Tp) (n : Nat) (hb : DFn Tryd.prog Γ 100 [sD s,iD 0] (.tup [X.d,iD n,.agg [iD 0,iD 0]])) (hn : n < s.size) : DFn Tryd.prog Γ 76 [sD s] (.tup [Tp.zero.d,.agg [iD 3,iD n]]):=by
 obtain ⟨xk,xso,xnm,xls,xl⟩:=X
 have g0 : (n : Int) < (s.size : Int):=by omega
 simp only [Tp.d] at hb ⊢
 refine fn_of_swp (N:=27) Tryd.func76 rfl (by decide) rfl rfl (by simp) (fun C h0=>?_)
 simp only [argE]
 repeat' (first|(with_reducible apply zz1)|((with_reducible apply zz2);rfl;intro K' hK';simp only [WA,simprocAttr];(repeat (constructor;focus (clear hK';intros;simp_all;done)));(try (apply hK';clear hK' K')))|((with_reducible apply zz3);rfl;all_goals (intro h;try exact absurd h (by decide))))
 refine stop_call h0 rfl (by simp only [WA,simprocAttr]) rfl (by simp only [keepS,Option.isSome_some,WA,simprocAttr]) (hb) ?_
 simp only [WA,simprocAttr,inX,dropS, ]
 (repeat (constructor;focus (clear hK';intros;simp_all;done)))
 (try (apply hK';clear hK' K'))
 repeat' (first|(with_reducible apply zz1)|((with_reducible apply zz2);rfl;intro K' hK';simp only [WA,simprocAttr,g0,Bool.not_true,Bool.not_false,cond_true,cond_false];(repeat (constructor;focus (clear hK';intros;simp_all;done)));(try (apply hK';clear hK' K')))|((with_reducible apply zz3);rfl;all_goals (intro h;try exact absurd h (by decide))))
 simp only [Kret,retL,retOne,oneV,WA,simprocAttr,Tp.zero,Tp.d,Tp.ds,List.map_nil]
set_option maxHeartbeats 8000000 in
set_option maxRecDepth 100000 in
theorem parse_ok (Γ : Gl) (s : ByteArray) (X : Tp) (n : Nat) (hb : DFn Tryd.prog Γ 100 [sD s,iD 0] (.tup [X.d,iD n,.agg [iD 0,iD 0]])) (hn : ¬ n < s.size) : DFn Tryd.prog Γ 76 [sD s] (.tup [X.d,.agg [iD 0,iD 0]]):=by
 obtain ⟨xk,xso,xnm,xls,xl⟩:=X
 have g0 : ¬ (n : Int) < (s.size : Int):=by omega
 simp only [Tp.d] at hb ⊢
 refine fn_of_swp (N:=27) Tryd.func76 rfl (by decide) rfl rfl (by simp) (fun C h0=>?_)
 simp only [argE]
 repeat' (first|(with_reducible apply zz1)|((with_reducible apply zz2);rfl;intro K' hK';simp only [WA,simprocAttr];(repeat (constructor;focus (clear hK';intros;simp_all;done)));(try (apply hK';clear hK' K')))|((with_reducible apply zz3);rfl;all_goals (intro h;try exact absurd h (by decide))))
 refine stop_call h0 rfl (by simp only [WA,simprocAttr]) rfl (by simp only [keepS,Option.isSome_some,WA,simprocAttr]) (hb) ?_
 simp only [WA,simprocAttr,inX,dropS, ]
 (repeat (constructor;focus (clear hK';intros;simp_all;done)))
 (try (apply hK';clear hK' K'))
 repeat' (first|(with_reducible apply zz1)|((with_reducible apply zz2);rfl;intro K' hK';simp only [WA,simprocAttr,g0,Bool.not_true,Bool.not_false,cond_true,cond_false];(repeat (constructor;focus (clear hK';intros;simp_all;done)));(try (apply hK';clear hK' K')))|((with_reducible apply zz3);rfl;all_goals (intro h;try exact absurd h (by decide))))
 (with_reducible refine swp_drawW ?_ ?_ ?_ (⟨[],[]⟩) _ rfl (fun K' hK'=>?_)
  · kernel_rfl
  · rfl
  · rfl
  simp only [WA,simprocAttr,vcW,stepW,callR,effO,srcE,Eff.env,Eff.st,writeOp,callA,pureOp,Bool.or_true,Bool.true_or,Bool.or_self,Bool.or_false,Bool.false_or,D.flat,D.flats,true_or,or_true,forall_const, ]
  (repeat (constructor;focus (first | (with_reducible assumption) | (clear hK';intros;simp_all;done))))
  (refine And.intro (by kernel_rfl) ?_)
  (try (apply hK';clear hK' K')))
 repeat' (first|(with_reducible apply zz1)|((with_reducible apply zz2);rfl;intro K' hK';simp only [WA,simprocAttr];(repeat (constructor;focus (clear hK';intros;simp_all;done)));(try (apply hK';clear hK' K')))|((with_reducible apply zz3);rfl;all_goals (intro h;try exact absurd h (by decide))))
 simp only [Kret,retL,retOne,oneV,WA,simprocAttr]
def parR (s : ByteArray) : Rt → Tp × (Int × Int)
 | .ok x b=>if tCheck x = 0 then (if wAt s b < s.size then (Tp.zero,3,(wAt s b : Nat)) else (x,0,0)) else (Tp.zero,tCheck x,0)
 | .no b=>(Tp.zero,3,(b : Nat))
abbrev parD (p : Tp × (Int × Int)) : D:=.tup [p.1.d,.agg [iD p.2.1,iD p.2.2]]
theorem parse_fn (Γ : Gl) (s : ByteArray) (hs : s.size ≤ 2000) (R : Rt) (hr : RdT Γ s 122 [] 0 R) (hg : goodT s 0 R) : DFn Tryd.prog Γ 76 [sD s] (parD (parR s R)):=by
 have hb:=begin_fn Γ s hs 0 0 0 (by rw [if_neg (by omega)]) rfl (Nat.zero_le _) R hr (fun x b h=>(hg x b h).2.1)
 cases R with
 | no b=>exact parse_err Γ s _ _ 3 _ hb (by decide)
 | ok x b =>
  unfold begR at hb
  unfold parR
  by_cases hc : tCheck x = 0
  · simp only [if_pos hc] at hb ⊢
    by_cases hn : wAt s b < s.size
    · rw [if_pos hn];exact parse_more Γ s _ _ hb hn
    · rw [if_neg hn];exact parse_ok Γ s _ _ hb hn
  · simp only [if_neg hc] at hb ⊢
    exact parse_err Γ s _ _ _ _ hb hc
theorem parse_big (Γ : Gl) (s : ByteArray) (hs : ¬ s.size ≤ 2000) : DFn Tryd.prog Γ 76 [sD s] (parD (Tp.zero,2,0)):=parse_err Γ s _ _ _ _ (begin_big Γ s hs 0) (by decide)
theorem parse_tot (Γ : Gl) (hG : GD Tryd.prog Γ 1 22 (.slc (sortsL.map sD))) (s : ByteArray) : ∃ p : Tp × (Int × Int),DFn Tryd.prog Γ 76 [sD s] (parD p) ∧ (p.2.1 = 0 → s.size ≤ 2000 ∧ tCheck p.1 = 0 ∧ (wrT p.1).size ≤ s.size) ∧ (p.2.1 ≠ 0 → p.1 = Tp.zero):=by
 by_cases hs : s.size ≤ 2000
 · obtain ⟨R,hr,hg⟩:=rd_tot Γ s hs hG s.size 0 (by omega) (Nat.zero_le _)
   refine ⟨_,parse_fn Γ s hs R hr hg,?_⟩
   cases R with
   | no b=>exact ⟨fun h=>absurd (show (3 : Int) = 0 from h) (by decide),fun _=>rfl⟩
   | ok x b =>
    unfold parR
    obtain ⟨g1,g2,g3⟩:=hg x b rfl
    by_cases hc : tCheck x = 0
    · simp only [if_pos hc]
      by_cases hn : wAt s b < s.size
      · rw [if_pos hn];exact ⟨fun h=>absurd (show (3 : Int) = 0 from h) (by decide),fun _=>rfl⟩
      · rw [if_neg hn];exact ⟨fun h=>⟨hs,hc,by show (wrT x).size ≤ s.size;omega⟩,fun h=>absurd rfl h⟩
    · simp only [if_neg hc]
      exact ⟨fun h=>absurd h hc,fun _=>trivial⟩
 · exact ⟨(Tp.zero,2,0),parse_big Γ s hs,fun h=>absurd (show (2 : Int) = 0 from h) (by decide),fun _=>rfl⟩
end Go.Proofs.YtdcplkefmpjppaaDoor.GG
