/- dual.Of, below.Graphs, the law BelowDual; a symbolic walk. -/
-- TYPESA
import Derived.Test.YtnclmjbkkgghhaaDoorH17
import Derived.Test.YtnclmjbkkgghhaaDoorH15
set_option linter.unusedVariables false
set_option linter.unusedSimpArgs false
namespace Go.Proofs.YtnclmjbkkgghhaaDoor
open Go.RowKit Go.Sw

/-- The parts of nodes that are made are those of nodes. -/
theorem least_sh {g : List Nd} (hg : ∀ n ∈ g,NdG g.length n) (h0 : 0 < g.length) (hs : ShG g) : ShG (leastP g):=by
  obtain ⟨o,a1,a2,a3,a4⟩:=lstF_made (cl:=partedP g) hg (g.length + 1) 0 [0] [] (ord_one h0 _) (by simp) rfl (by omega) (by intro p x v hp; simp at hp)
  intro x hx
  obtain ⟨p,hp,rfl⟩:=List.mem_iff_getElem.1 hx
  have hp' : p < o.length:=by rw [a2]; exact hp
  obtain ⟨e1,e2,e3,e4, -⟩:=a4 p _ o[p] (List.getElem?_eq_getElem hp) (List.getElem?_eq_getElem hp')
  have hr:=a1.r o[p] (List.getElem_mem hp')
  have:=hs _ (gAt_mem hr.1 hr.2)
  rw [e1,e2,e3,e4]
  exact this
theorem ofP_sh {x : Tp} (h : tCheck x = 0) : ShG (ofP x):=by
  obtain ⟨-, -, -,h4,h5,h6⟩:=raw_good h
  unfold ofP
  rw [if_pos h]
  exact least_sh (g:=rawP x) h6 h4 (raw_sh h)
/-- dual.Of. -/
def dG (x : Tp) : List Nd:=if tCheck x = 0 then leastP (dualRaw (ofP x)) else []
theorem dG_good {x : Tp} (h : tCheck x = 0) : 0 < (dG x).length ∧ (dG x).length ≤ 120 ∧ (∀ n ∈ dG x,NdG (dG x).length n) ∧ ShG (dG x) ∧ ∀ n,obs (dG x) n 0 = dT n (trT x n):=by
  obtain ⟨a1,a2,a3⟩:=ofP_good h
  have hd:=dual_good a3 (ofP_sh h)
  have hl:=dualRaw_len (ofP x)
  have:=least_good (g:=dualRaw (ofP x)) (by omega) hd.1
  unfold dG
  rw [if_pos h]
  refine ⟨this.1,by omega,this.2.2,least_sh hd.1 (by omega) hd.2,fun n=>?_⟩
  rw [least_obs hd.1 (by omega),obs_dual a3 n 0 (by decide) (by omega),ofP_obs h]
set_option maxHeartbeats 8000000 in
set_option maxRecDepth 100000 in
theorem dOf_fn (Γ : Gl) (hΓ : PowT Γ) (x : Tp) : DFn Tryd.prog Γ 28 [x.d] (.tup [.slc ((dG x).map Nd.d),iD (tCheck x)]):=by
  have ho:=of_fn Γ x
  unfold OfFn at ho
  have hd : tCheck x = 0 → DFn Tryd.prog Γ 48 [.slc ((ofP x).map Nd.d)] (.tup [.slc ((dG x).map Nd.d),iD 0]):=fun h=>by
    obtain ⟨a1,a2,a3⟩:=ofP_good h
    have:=dual_fn Γ hΓ (ofP x) a1 (by omega) a3 (ofP_sh h)
    unfold dG
    rw [if_pos h]
    exact this
  have hz : tCheck x ≠ 0 → (dG x).map Nd.d = []:=fun h=>by unfold dG; rw [if_neg h]; rfl
  generalize (dG x).map Nd.d = B at *
  generalize (ofP x).map Nd.d = A at *
  generalize tCheck x = c at *
  obtain ⟨k,so,nm,ls,l⟩:=x
  simp only [Tp.d] at ho ⊢
  by_cases hc : c = 0
  · have hd':=hd hc
    clear hd
    subst hc
    refine fn_of_swp (N:=18) Tryd.func28 rfl (by decide) rfl rfl (by simp) (fun C h0=>?_)
    simp only [argE]
    repeat' (first
      |(with_reducible first|refine swp_seq ?_|refine swp_block ?_|refine swp_skip ?_|refine swp_ret ?_|refine swp_exit ?_|refine swp_label ?_|refine kseq_n ?_|refine kseq_x ?_|refine kseq_r ?_|refine kblk_n ?_|refine kblk_r ?_|refine kblk_xs ?_|refine kloop_x ?_|refine kloop_r ?_)
      |((with_reducible refine kblk_xn ?_ ?_);rfl)
      |((with_reducible refine swp_regionP ?_ ?_ (fun K' hK'=>?_));rfl;rfl;simp only [UN,LM,Nat.reduceBEq,Nat.reduceLeDiff,Int.reduceLE,Int.reduceLT,Int.reduceToNat,Nat.reduceAdd,Nat.reduceSub,Nat.reduceMul,reduceCtorEq,TAS];(repeat (refine And.intro ?_ ?_; focus (clear hK'; intros; simp_all; done)));(try (refine hK' _ _ ?_; clear hK'; clear K')))
      |((with_reducible refine swp_cond ?_ ?_);rfl;refine ⟨_,rfl,fun h=>?_,fun h=>?_⟩ <;> (try (exfalso; exact absurd h (by decide)))))
    refine stop_call h0 rfl (by simp only [UN,LM,Nat.reduceBEq,Nat.reduceLeDiff,Int.reduceLE,Int.reduceLT,Int.reduceToNat,Nat.reduceAdd,Nat.reduceSub,Nat.reduceMul,reduceCtorEq]) rfl (by simp only [keepS,UN,LM,Nat.reduceBEq,Nat.reduceLeDiff,Int.reduceLE,Int.reduceLT,Int.reduceToNat,Nat.reduceAdd,Nat.reduceSub,Nat.reduceMul,reduceCtorEq]) (ho) ?_
    simp only [UN,LM,Nat.reduceBEq,Nat.reduceLeDiff,Int.reduceLE,Int.reduceLT,Int.reduceToNat,Nat.reduceAdd,Nat.reduceSub,Nat.reduceMul,reduceCtorEq,TAS,inX,dropS, ]
    (repeat (refine And.intro ?_ ?_; focus (clear hK'; intros; simp_all; done)))
    (try (refine hK' _ _ ?_; clear hK'; clear K'))
    repeat' (first
      |(with_reducible first|refine swp_seq ?_|refine swp_block ?_|refine swp_skip ?_|refine swp_ret ?_|refine swp_exit ?_|refine swp_label ?_|refine kseq_n ?_|refine kseq_x ?_|refine kseq_r ?_|refine kblk_n ?_|refine kblk_r ?_|refine kblk_xs ?_|refine kloop_x ?_|refine kloop_r ?_)
      |((with_reducible refine kblk_xn ?_ ?_);rfl)
      |((with_reducible refine swp_regionP ?_ ?_ (fun K' hK'=>?_));rfl;rfl;simp only [UN,LM,Nat.reduceBEq,Nat.reduceLeDiff,Int.reduceLE,Int.reduceLT,Int.reduceToNat,Nat.reduceAdd,Nat.reduceSub,Nat.reduceMul,reduceCtorEq,TAS,bne_self_eq_false];(repeat (refine And.intro ?_ ?_; focus (clear hK'; intros; simp_all; done)));(try (refine hK' _ _ ?_; clear hK'; clear K')))
      |((with_reducible refine swp_cond ?_ ?_);rfl;refine ⟨_,rfl,fun h=>?_,fun h=>?_⟩ <;> (try (exfalso; exact absurd h (by decide)))))
    refine stop_call h0 rfl (by simp only [UN,LM,Nat.reduceBEq,Nat.reduceLeDiff,Int.reduceLE,Int.reduceLT,Int.reduceToNat,Nat.reduceAdd,Nat.reduceSub,Nat.reduceMul,reduceCtorEq]) rfl (by simp only [keepS,UN,LM,Nat.reduceBEq,Nat.reduceLeDiff,Int.reduceLE,Int.reduceLT,Int.reduceToNat,Nat.reduceAdd,Nat.reduceSub,Nat.reduceMul,reduceCtorEq]) (hd') ?_
    simp only [UN,LM,Nat.reduceBEq,Nat.reduceLeDiff,Int.reduceLE,Int.reduceLT,Int.reduceToNat,Nat.reduceAdd,Nat.reduceSub,Nat.reduceMul,reduceCtorEq,TAS,inX,dropS, ]
    (repeat (refine And.intro ?_ ?_; focus (clear hK'; intros; simp_all; done)))
    (try (refine hK' _ _ ?_; clear hK'; clear K'))
    repeat' (first
      |(with_reducible first|refine swp_seq ?_|refine swp_block ?_|refine swp_skip ?_|refine swp_ret ?_|refine swp_exit ?_|refine swp_label ?_|refine kseq_n ?_|refine kseq_x ?_|refine kseq_r ?_|refine kblk_n ?_|refine kblk_r ?_|refine kblk_xs ?_|refine kloop_x ?_|refine kloop_r ?_)
      |((with_reducible refine kblk_xn ?_ ?_);rfl)
      |((with_reducible refine swp_regionP ?_ ?_ (fun K' hK'=>?_));rfl;rfl;simp only [UN,LM,Nat.reduceBEq,Nat.reduceLeDiff,Int.reduceLE,Int.reduceLT,Int.reduceToNat,Nat.reduceAdd,Nat.reduceSub,Nat.reduceMul,reduceCtorEq,TAS];(repeat (refine And.intro ?_ ?_; focus (clear hK'; intros; simp_all; done)));(try (refine hK' _ _ ?_; clear hK'; clear K')))
      |((with_reducible refine swp_cond ?_ ?_);rfl;refine ⟨_,rfl,fun h=>?_,fun h=>?_⟩ <;> (try (exfalso; exact absurd h (by decide)))))
    simp only [Kret,retL,retOne,oneV,UN,LM,Nat.reduceBEq,Nat.reduceLeDiff,Int.reduceLE,Int.reduceLT,Int.reduceToNat,Nat.reduceAdd,Nat.reduceSub,Nat.reduceMul,reduceCtorEq,TAS]
  · have g1 : (c != 0) = true:=by simpa using hc
    rw [hz hc]
    refine fn_of_swp (N:=18) Tryd.func28 rfl (by decide) rfl rfl (by simp) (fun C h0=>?_)
    simp only [argE]
    repeat' (first
      |(with_reducible first|refine swp_seq ?_|refine swp_block ?_|refine swp_skip ?_|refine swp_ret ?_|refine swp_exit ?_|refine swp_label ?_|refine kseq_n ?_|refine kseq_x ?_|refine kseq_r ?_|refine kblk_n ?_|refine kblk_r ?_|refine kblk_xs ?_|refine kloop_x ?_|refine kloop_r ?_)
      |((with_reducible refine kblk_xn ?_ ?_);rfl)
      |((with_reducible refine swp_regionP ?_ ?_ (fun K' hK'=>?_));rfl;rfl;simp only [UN,LM,Nat.reduceBEq,Nat.reduceLeDiff,Int.reduceLE,Int.reduceLT,Int.reduceToNat,Nat.reduceAdd,Nat.reduceSub,Nat.reduceMul,reduceCtorEq,TAS];(repeat (refine And.intro ?_ ?_; focus (clear hK'; intros; simp_all; done)));(try (refine hK' _ _ ?_; clear hK'; clear K')))
      |((with_reducible refine swp_cond ?_ ?_);rfl;refine ⟨_,rfl,fun h=>?_,fun h=>?_⟩ <;> (try (exfalso; exact absurd h (by decide)))))
    refine stop_call h0 rfl (by simp only [UN,LM,Nat.reduceBEq,Nat.reduceLeDiff,Int.reduceLE,Int.reduceLT,Int.reduceToNat,Nat.reduceAdd,Nat.reduceSub,Nat.reduceMul,reduceCtorEq]) rfl (by simp only [keepS,UN,LM,Nat.reduceBEq,Nat.reduceLeDiff,Int.reduceLE,Int.reduceLT,Int.reduceToNat,Nat.reduceAdd,Nat.reduceSub,Nat.reduceMul,reduceCtorEq]) (ho) ?_
    simp only [UN,LM,Nat.reduceBEq,Nat.reduceLeDiff,Int.reduceLE,Int.reduceLT,Int.reduceToNat,Nat.reduceAdd,Nat.reduceSub,Nat.reduceMul,reduceCtorEq,TAS,inX,dropS, ]
    (repeat (refine And.intro ?_ ?_; focus (clear hK'; intros; simp_all; done)))
    (try (refine hK' _ _ ?_; clear hK'; clear K'))
    repeat' (first
      |(with_reducible first|refine swp_seq ?_|refine swp_block ?_|refine swp_skip ?_|refine swp_ret ?_|refine swp_exit ?_|refine swp_label ?_|refine kseq_n ?_|refine kseq_x ?_|refine kseq_r ?_|refine kblk_n ?_|refine kblk_r ?_|refine kblk_xs ?_|refine kloop_x ?_|refine kloop_r ?_)
      |((with_reducible refine kblk_xn ?_ ?_);rfl)
      |((with_reducible refine swp_regionP ?_ ?_ (fun K' hK'=>?_));rfl;rfl;simp only [UN,LM,Nat.reduceBEq,Nat.reduceLeDiff,Int.reduceLE,Int.reduceLT,Int.reduceToNat,Nat.reduceAdd,Nat.reduceSub,Nat.reduceMul,reduceCtorEq,TAS,g1];(repeat (refine And.intro ?_ ?_; focus (clear hK'; intros; simp_all; done)));(try (refine hK' _ _ ?_; clear hK'; clear K')))
      |((with_reducible refine swp_cond ?_ ?_);rfl;refine ⟨_,rfl,fun h=>?_,fun h=>?_⟩ <;> (try (exfalso; exact absurd h (by decide)))))
    simp only [Kret,retL,retOne,oneV,UN,LM,Nat.reduceBEq,Nat.reduceLeDiff,Int.reduceLE,Int.reduceLT,Int.reduceToNat,Nat.reduceAdd,Nat.reduceSub,Nat.reduceMul,reduceCtorEq,TAS]
set_option maxHeartbeats 8000000 in
set_option maxRecDepth 100000 in
theorem graphs_fn (Γ : Gl) (a b : List Nd) (a0 : 0 < a.length) (b0 : 0 < b.length) (a1 : a.length ≤ 200) (b1 : b.length ≤ 200) (ha : ∀ n ∈ a,NdG a.length n) (hb : ∀ n ∈ b,NdG b.length n) (sa : ShG a) (sb : ShG b) :
    DFn Tryd.prog Γ 29 [.slc (a.map Nd.d),.slc (b.map Nd.d)] (.tup [bD (whyP a b).isNone,iD 0]):=by
  have hc1:=gcheck_fn Γ a a0 a1 ha sa
  have hc2:=gcheck_fn Γ b b0 b1 hb sb
  have hw:=why_fn Γ a b (by omega) (by omega) a0 b0 (fits_ok a0 b0 ha hb)
  generalize whyP a b = r at *
  generalize a.map Nd.d = A at *
  generalize b.map Nd.d = B at *
  cases r with
  | none =>
    simp only [whyA] at hw
    refine fn_of_swp (N:=29) Tryd.func29 rfl (by decide) rfl rfl (by simp) (fun C h0=>?_)
    simp only [argE]
    repeat' (first
      |(with_reducible first|refine swp_seq ?_|refine swp_block ?_|refine swp_skip ?_|refine swp_ret ?_|refine swp_exit ?_|refine swp_label ?_|refine kseq_n ?_|refine kseq_x ?_|refine kseq_r ?_|refine kblk_n ?_|refine kblk_r ?_|refine kblk_xs ?_|refine kloop_x ?_|refine kloop_r ?_)
      |((with_reducible refine kblk_xn ?_ ?_);rfl)
      |((with_reducible refine swp_regionP ?_ ?_ (fun K' hK'=>?_));rfl;rfl;simp only [UN,LM,Nat.reduceBEq,Nat.reduceLeDiff,Int.reduceLE,Int.reduceLT,Int.reduceToNat,Nat.reduceAdd,Nat.reduceSub,Nat.reduceMul,reduceCtorEq,TAS];(repeat (refine And.intro ?_ ?_; focus (clear hK'; intros; simp_all; done)));(try (refine hK' _ _ ?_; clear hK'; clear K')))
      |((with_reducible refine swp_cond ?_ ?_);rfl;refine ⟨_,rfl,fun h=>?_,fun h=>?_⟩ <;> (try (exfalso; exact absurd h (by decide)))))
    refine stop_callF rfl (by simp only [UN,LM,Nat.reduceBEq,Nat.reduceLeDiff,Int.reduceLE,Int.reduceLT,Int.reduceToNat,Nat.reduceAdd,Nat.reduceSub,Nat.reduceMul,reduceCtorEq]) rfl rfl (hc1) ?_
    simp only [UN,LM,Nat.reduceBEq,Nat.reduceLeDiff,Int.reduceLE,Int.reduceLT,Int.reduceToNat,Nat.reduceAdd,Nat.reduceSub,Nat.reduceMul,reduceCtorEq,TAS,inX,dropS,bne_self_eq_false]
    (repeat (refine And.intro ?_ ?_; focus (clear hK'; intros; simp_all; done)))
    (try (refine hK' _ _ ?_; clear hK'; clear K'))
    repeat' (first
      |(with_reducible first|refine swp_seq ?_|refine swp_block ?_|refine swp_skip ?_|refine swp_ret ?_|refine swp_exit ?_|refine swp_label ?_|refine kseq_n ?_|refine kseq_x ?_|refine kseq_r ?_|refine kblk_n ?_|refine kblk_r ?_|refine kblk_xs ?_|refine kloop_x ?_|refine kloop_r ?_)
      |((with_reducible refine kblk_xn ?_ ?_);rfl)
      |((with_reducible refine swp_regionP ?_ ?_ (fun K' hK'=>?_));rfl;rfl;simp only [UN,LM,Nat.reduceBEq,Nat.reduceLeDiff,Int.reduceLE,Int.reduceLT,Int.reduceToNat,Nat.reduceAdd,Nat.reduceSub,Nat.reduceMul,reduceCtorEq,TAS,bne_self_eq_false];(repeat (refine And.intro ?_ ?_; focus (clear hK'; intros; simp_all; done)));(try (refine hK' _ _ ?_; clear hK'; clear K')))
      |((with_reducible refine swp_cond ?_ ?_);rfl;refine ⟨_,rfl,fun h=>?_,fun h=>?_⟩ <;> (try (exfalso; exact absurd h (by decide)))))
    refine stop_callF rfl (by simp only [UN,LM,Nat.reduceBEq,Nat.reduceLeDiff,Int.reduceLE,Int.reduceLT,Int.reduceToNat,Nat.reduceAdd,Nat.reduceSub,Nat.reduceMul,reduceCtorEq]) rfl rfl (hc2) ?_
    simp only [UN,LM,Nat.reduceBEq,Nat.reduceLeDiff,Int.reduceLE,Int.reduceLT,Int.reduceToNat,Nat.reduceAdd,Nat.reduceSub,Nat.reduceMul,reduceCtorEq,TAS,inX,dropS,bne_self_eq_false]
    (repeat (refine And.intro ?_ ?_; focus (clear hK'; intros; simp_all; done)))
    (try (refine hK' _ _ ?_; clear hK'; clear K'))
    repeat' (first
      |(with_reducible first|refine swp_seq ?_|refine swp_block ?_|refine swp_skip ?_|refine swp_ret ?_|refine swp_exit ?_|refine swp_label ?_|refine kseq_n ?_|refine kseq_x ?_|refine kseq_r ?_|refine kblk_n ?_|refine kblk_r ?_|refine kblk_xs ?_|refine kloop_x ?_|refine kloop_r ?_)
      |((with_reducible refine kblk_xn ?_ ?_);rfl)
      |((with_reducible refine swp_regionP ?_ ?_ (fun K' hK'=>?_));rfl;rfl;simp only [UN,LM,Nat.reduceBEq,Nat.reduceLeDiff,Int.reduceLE,Int.reduceLT,Int.reduceToNat,Nat.reduceAdd,Nat.reduceSub,Nat.reduceMul,reduceCtorEq,TAS,bne_self_eq_false];(repeat (refine And.intro ?_ ?_; focus (clear hK'; intros; simp_all; done)));(try (refine hK' _ _ ?_; clear hK'; clear K')))
      |((with_reducible refine swp_cond ?_ ?_);rfl;refine ⟨_,rfl,fun h=>?_,fun h=>?_⟩ <;> (try (exfalso; exact absurd h (by decide)))))
    refine stop_call h0 rfl (by simp only [UN,LM,Nat.reduceBEq,Nat.reduceLeDiff,Int.reduceLE,Int.reduceLT,Int.reduceToNat,Nat.reduceAdd,Nat.reduceSub,Nat.reduceMul,reduceCtorEq]) rfl (by simp only [keepS,UN,LM,Nat.reduceBEq,Nat.reduceLeDiff,Int.reduceLE,Int.reduceLT,Int.reduceToNat,Nat.reduceAdd,Nat.reduceSub,Nat.reduceMul,reduceCtorEq]) (hw) ?_
    simp only [UN,LM,Nat.reduceBEq,Nat.reduceLeDiff,Int.reduceLE,Int.reduceLT,Int.reduceToNat,Nat.reduceAdd,Nat.reduceSub,Nat.reduceMul,reduceCtorEq,TAS,inX,dropS, ]
    (repeat (refine And.intro ?_ ?_; focus (clear hK'; intros; simp_all; done)))
    (try (refine hK' _ _ ?_; clear hK'; clear K'))
    repeat' (first
      |(with_reducible first|refine swp_seq ?_|refine swp_block ?_|refine swp_skip ?_|refine swp_ret ?_|refine swp_exit ?_|refine swp_label ?_|refine kseq_n ?_|refine kseq_x ?_|refine kseq_r ?_|refine kblk_n ?_|refine kblk_r ?_|refine kblk_xs ?_|refine kloop_x ?_|refine kloop_r ?_)
      |((with_reducible refine kblk_xn ?_ ?_);rfl)
      |((with_reducible refine swp_regionP ?_ ?_ (fun K' hK'=>?_));rfl;rfl;simp only [UN,LM,Nat.reduceBEq,Nat.reduceLeDiff,Int.reduceLE,Int.reduceLT,Int.reduceToNat,Nat.reduceAdd,Nat.reduceSub,Nat.reduceMul,reduceCtorEq,TAS];(repeat (refine And.intro ?_ ?_; focus (clear hK'; intros; simp_all; done)));(try (refine hK' _ _ ?_; clear hK'; clear K')))
      |((with_reducible refine swp_cond ?_ ?_);rfl;refine ⟨_,rfl,fun h=>?_,fun h=>?_⟩ <;> (try (exfalso; exact absurd h (by decide)))))
    simp only [Kret,retL,retOne,oneV,UN,LM,Nat.reduceBEq,Nat.reduceLeDiff,Int.reduceLE,Int.reduceLT,Int.reduceToNat,Nat.reduceAdd,Nat.reduceSub,Nat.reduceMul,reduceCtorEq,TAS]
    rfl
  | some w =>
    simp only [whyA] at hw
    refine fn_of_swp (N:=29) Tryd.func29 rfl (by decide) rfl rfl (by simp) (fun C h0=>?_)
    simp only [argE]
    repeat' (first
      |(with_reducible first|refine swp_seq ?_|refine swp_block ?_|refine swp_skip ?_|refine swp_ret ?_|refine swp_exit ?_|refine swp_label ?_|refine kseq_n ?_|refine kseq_x ?_|refine kseq_r ?_|refine kblk_n ?_|refine kblk_r ?_|refine kblk_xs ?_|refine kloop_x ?_|refine kloop_r ?_)
      |((with_reducible refine kblk_xn ?_ ?_);rfl)
      |((with_reducible refine swp_regionP ?_ ?_ (fun K' hK'=>?_));rfl;rfl;simp only [UN,LM,Nat.reduceBEq,Nat.reduceLeDiff,Int.reduceLE,Int.reduceLT,Int.reduceToNat,Nat.reduceAdd,Nat.reduceSub,Nat.reduceMul,reduceCtorEq,TAS];(repeat (refine And.intro ?_ ?_; focus (clear hK'; intros; simp_all; done)));(try (refine hK' _ _ ?_; clear hK'; clear K')))
      |((with_reducible refine swp_cond ?_ ?_);rfl;refine ⟨_,rfl,fun h=>?_,fun h=>?_⟩ <;> (try (exfalso; exact absurd h (by decide)))))
    refine stop_callF rfl (by simp only [UN,LM,Nat.reduceBEq,Nat.reduceLeDiff,Int.reduceLE,Int.reduceLT,Int.reduceToNat,Nat.reduceAdd,Nat.reduceSub,Nat.reduceMul,reduceCtorEq]) rfl rfl (hc1) ?_
    simp only [UN,LM,Nat.reduceBEq,Nat.reduceLeDiff,Int.reduceLE,Int.reduceLT,Int.reduceToNat,Nat.reduceAdd,Nat.reduceSub,Nat.reduceMul,reduceCtorEq,TAS,inX,dropS,bne_self_eq_false]
    (repeat (refine And.intro ?_ ?_; focus (clear hK'; intros; simp_all; done)))
    (try (refine hK' _ _ ?_; clear hK'; clear K'))
    repeat' (first
      |(with_reducible first|refine swp_seq ?_|refine swp_block ?_|refine swp_skip ?_|refine swp_ret ?_|refine swp_exit ?_|refine swp_label ?_|refine kseq_n ?_|refine kseq_x ?_|refine kseq_r ?_|refine kblk_n ?_|refine kblk_r ?_|refine kblk_xs ?_|refine kloop_x ?_|refine kloop_r ?_)
      |((with_reducible refine kblk_xn ?_ ?_);rfl)
      |((with_reducible refine swp_regionP ?_ ?_ (fun K' hK'=>?_));rfl;rfl;simp only [UN,LM,Nat.reduceBEq,Nat.reduceLeDiff,Int.reduceLE,Int.reduceLT,Int.reduceToNat,Nat.reduceAdd,Nat.reduceSub,Nat.reduceMul,reduceCtorEq,TAS,bne_self_eq_false];(repeat (refine And.intro ?_ ?_; focus (clear hK'; intros; simp_all; done)));(try (refine hK' _ _ ?_; clear hK'; clear K')))
      |((with_reducible refine swp_cond ?_ ?_);rfl;refine ⟨_,rfl,fun h=>?_,fun h=>?_⟩ <;> (try (exfalso; exact absurd h (by decide)))))
    refine stop_callF rfl (by simp only [UN,LM,Nat.reduceBEq,Nat.reduceLeDiff,Int.reduceLE,Int.reduceLT,Int.reduceToNat,Nat.reduceAdd,Nat.reduceSub,Nat.reduceMul,reduceCtorEq]) rfl rfl (hc2) ?_
    simp only [UN,LM,Nat.reduceBEq,Nat.reduceLeDiff,Int.reduceLE,Int.reduceLT,Int.reduceToNat,Nat.reduceAdd,Nat.reduceSub,Nat.reduceMul,reduceCtorEq,TAS,inX,dropS,bne_self_eq_false]
    (repeat (refine And.intro ?_ ?_; focus (clear hK'; intros; simp_all; done)))
    (try (refine hK' _ _ ?_; clear hK'; clear K'))
    repeat' (first
      |(with_reducible first|refine swp_seq ?_|refine swp_block ?_|refine swp_skip ?_|refine swp_ret ?_|refine swp_exit ?_|refine swp_label ?_|refine kseq_n ?_|refine kseq_x ?_|refine kseq_r ?_|refine kblk_n ?_|refine kblk_r ?_|refine kblk_xs ?_|refine kloop_x ?_|refine kloop_r ?_)
      |((with_reducible refine kblk_xn ?_ ?_);rfl)
      |((with_reducible refine swp_regionP ?_ ?_ (fun K' hK'=>?_));rfl;rfl;simp only [UN,LM,Nat.reduceBEq,Nat.reduceLeDiff,Int.reduceLE,Int.reduceLT,Int.reduceToNat,Nat.reduceAdd,Nat.reduceSub,Nat.reduceMul,reduceCtorEq,TAS,bne_self_eq_false];(repeat (refine And.intro ?_ ?_; focus (clear hK'; intros; simp_all; done)));(try (refine hK' _ _ ?_; clear hK'; clear K')))
      |((with_reducible refine swp_cond ?_ ?_);rfl;refine ⟨_,rfl,fun h=>?_,fun h=>?_⟩ <;> (try (exfalso; exact absurd h (by decide)))))
    refine stop_call h0 rfl (by simp only [UN,LM,Nat.reduceBEq,Nat.reduceLeDiff,Int.reduceLE,Int.reduceLT,Int.reduceToNat,Nat.reduceAdd,Nat.reduceSub,Nat.reduceMul,reduceCtorEq]) rfl (by simp only [keepS,UN,LM,Nat.reduceBEq,Nat.reduceLeDiff,Int.reduceLE,Int.reduceLT,Int.reduceToNat,Nat.reduceAdd,Nat.reduceSub,Nat.reduceMul,reduceCtorEq]) (hw) ?_
    simp only [UN,LM,Nat.reduceBEq,Nat.reduceLeDiff,Int.reduceLE,Int.reduceLT,Int.reduceToNat,Nat.reduceAdd,Nat.reduceSub,Nat.reduceMul,reduceCtorEq,TAS,inX,dropS, ]
    (repeat (refine And.intro ?_ ?_; focus (clear hK'; intros; simp_all; done)))
    (try (refine hK' _ _ ?_; clear hK'; clear K'))
    repeat' (first
      |(with_reducible first|refine swp_seq ?_|refine swp_block ?_|refine swp_skip ?_|refine swp_ret ?_|refine swp_exit ?_|refine swp_label ?_|refine kseq_n ?_|refine kseq_x ?_|refine kseq_r ?_|refine kblk_n ?_|refine kblk_r ?_|refine kblk_xs ?_|refine kloop_x ?_|refine kloop_r ?_)
      |((with_reducible refine kblk_xn ?_ ?_);rfl)
      |((with_reducible refine swp_regionP ?_ ?_ (fun K' hK'=>?_));rfl;rfl;simp only [UN,LM,Nat.reduceBEq,Nat.reduceLeDiff,Int.reduceLE,Int.reduceLT,Int.reduceToNat,Nat.reduceAdd,Nat.reduceSub,Nat.reduceMul,reduceCtorEq,TAS];(repeat (refine And.intro ?_ ?_; focus (clear hK'; intros; simp_all; done)));(try (refine hK' _ _ ?_; clear hK'; clear K')))
      |((with_reducible refine swp_cond ?_ ?_);rfl;refine ⟨_,rfl,fun h=>?_,fun h=>?_⟩ <;> (try (exfalso; exact absurd h (by decide)))))
    simp only [Kret,retL,retOne,oneV,UN,LM,Nat.reduceBEq,Nat.reduceLeDiff,Int.reduceLE,Int.reduceLT,Int.reduceToNat,Nat.reduceAdd,Nat.reduceSub,Nat.reduceMul,reduceCtorEq,TAS]
    rfl
end Go.Proofs.YtnclmjbkkgghhaaDoor
