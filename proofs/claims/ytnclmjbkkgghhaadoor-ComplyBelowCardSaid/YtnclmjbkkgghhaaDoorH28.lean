/- comply.of, Do, the law ComplyBelow; a symbolic walk. -/
-- TYPESB
import Derived.Test.YtnclmjbkkgghhaaDoorH27
import Derived.Test.YtnclmjbkkgghhaaDoorH18
set_option linter.unusedVariables false
set_option linter.unusedSimpArgs false
namespace Go.Proofs.YtnclmjbkkgghhaaDoor
open Go.RowKit Go.Sw

def cofD (x y : Tp) : D:=if tCheck x = 0 then .tup [.slc ((ofP x).map Nd.d),.slc ((ofP y).map Nd.d),iD (tCheck y)] else .tup [.slc [],.slc [],iD (tCheck x)]
set_option maxHeartbeats 8000000 in
set_option maxRecDepth 100000 in
theorem cof_fn (Γ : Gl) (x y : Tp) : DFn Tryd.prog Γ 49 [x.d,y.d] (cofD x y):=by
  have hx:=of_fn Γ x
  have hy:=of_fn Γ y
  unfold OfFn at hx hy
  unfold cofD
  generalize (ofP x).map Nd.d = A at hx ⊢
  generalize (ofP y).map Nd.d = B at hy ⊢
  generalize tCheck x = c at hx ⊢
  generalize tCheck y = d at hy ⊢
  obtain ⟨k,so,nm,ls,l⟩:=x
  obtain ⟨k',so',nm',ls',l'⟩:=y
  simp only [Tp.d] at hx hy ⊢
  by_cases hc : c = 0
  · rw [if_pos hc]
    have g1 : (c != 0) = false:=by simpa using hc
    refine fn_of_swp (N:=25) Tryd.func49 rfl (by decide) rfl rfl (by simp) (fun C h0=>?_)
    simp only [argE]
    repeat' (first
      |(with_reducible first|refine swp_seq ?_|refine swp_block ?_|refine swp_skip ?_|refine swp_ret ?_|refine swp_exit ?_|refine swp_label ?_|refine kseq_n ?_|refine kseq_x ?_|refine kseq_r ?_|refine kblk_n ?_|refine kblk_r ?_|refine kblk_xs ?_|refine kloop_x ?_|refine kloop_r ?_)
      |((with_reducible refine kblk_xn ?_ ?_);rfl)
      |((with_reducible refine swp_regionP ?_ ?_ (fun K' hK'=>?_));rfl;rfl;simp only [UN,LM,Nat.reduceBEq,Nat.reduceLeDiff,Int.reduceLE,Int.reduceLT,Int.reduceToNat,Nat.reduceAdd,Nat.reduceSub,Nat.reduceMul,reduceCtorEq,TAS,TBS];(repeat (refine And.intro ?_ ?_; focus (clear hK'; intros; simp_all; done)));(try (refine hK' _ _ ?_; clear hK'; clear K')))
      |((with_reducible refine swp_cond ?_ ?_);rfl;refine ⟨_,rfl,fun h=>?_,fun h=>?_⟩ <;> (try (exfalso; exact absurd h (by decide)))))
    refine stop_call h0 rfl (by simp only [UN,LM,Nat.reduceBEq,Nat.reduceLeDiff,Int.reduceLE,Int.reduceLT,Int.reduceToNat,Nat.reduceAdd,Nat.reduceSub,Nat.reduceMul,reduceCtorEq]) rfl (by simp only [keepS,UN,LM,Nat.reduceBEq,Nat.reduceLeDiff,Int.reduceLE,Int.reduceLT,Int.reduceToNat,Nat.reduceAdd,Nat.reduceSub,Nat.reduceMul,reduceCtorEq]) (hx) ?_
    simp only [UN,LM,Nat.reduceBEq,Nat.reduceLeDiff,Int.reduceLE,Int.reduceLT,Int.reduceToNat,Nat.reduceAdd,Nat.reduceSub,Nat.reduceMul,reduceCtorEq,TAS,TBS,inX,dropS, ]
    (repeat (refine And.intro ?_ ?_; focus (clear hK'; intros; simp_all; done)))
    (try (refine hK' _ _ ?_; clear hK'; clear K'))
    repeat' (first
      |(with_reducible first|refine swp_seq ?_|refine swp_block ?_|refine swp_skip ?_|refine swp_ret ?_|refine swp_exit ?_|refine swp_label ?_|refine kseq_n ?_|refine kseq_x ?_|refine kseq_r ?_|refine kblk_n ?_|refine kblk_r ?_|refine kblk_xs ?_|refine kloop_x ?_|refine kloop_r ?_)
      |((with_reducible refine kblk_xn ?_ ?_);rfl)
      |((with_reducible refine swp_regionP ?_ ?_ (fun K' hK'=>?_));rfl;rfl;simp only [UN,LM,Nat.reduceBEq,Nat.reduceLeDiff,Int.reduceLE,Int.reduceLT,Int.reduceToNat,Nat.reduceAdd,Nat.reduceSub,Nat.reduceMul,reduceCtorEq,TAS,TBS];(repeat (refine And.intro ?_ ?_; focus (clear hK'; intros; simp_all; done)));(try (refine hK' _ _ ?_; clear hK'; clear K')))
      |((with_reducible refine swp_cond ?_ ?_);rfl;refine ⟨_,rfl,fun h=>?_,fun h=>?_⟩ <;> (try (exfalso; exact absurd h (by decide)))))
    refine stop_call h0 rfl (by simp only [UN,LM,Nat.reduceBEq,Nat.reduceLeDiff,Int.reduceLE,Int.reduceLT,Int.reduceToNat,Nat.reduceAdd,Nat.reduceSub,Nat.reduceMul,reduceCtorEq]) rfl (by simp only [keepS,UN,LM,Nat.reduceBEq,Nat.reduceLeDiff,Int.reduceLE,Int.reduceLT,Int.reduceToNat,Nat.reduceAdd,Nat.reduceSub,Nat.reduceMul,reduceCtorEq]) (hy) ?_
    simp only [UN,LM,Nat.reduceBEq,Nat.reduceLeDiff,Int.reduceLE,Int.reduceLT,Int.reduceToNat,Nat.reduceAdd,Nat.reduceSub,Nat.reduceMul,reduceCtorEq,TAS,TBS,inX,dropS, ]
    (repeat (refine And.intro ?_ ?_; focus (clear hK'; intros; simp_all; done)))
    (try (refine hK' _ _ ?_; clear hK'; clear K'))
    repeat' (first
      |(with_reducible first|refine swp_seq ?_|refine swp_block ?_|refine swp_skip ?_|refine swp_ret ?_|refine swp_exit ?_|refine swp_label ?_|refine kseq_n ?_|refine kseq_x ?_|refine kseq_r ?_|refine kblk_n ?_|refine kblk_r ?_|refine kblk_xs ?_|refine kloop_x ?_|refine kloop_r ?_)
      |((with_reducible refine kblk_xn ?_ ?_);rfl)
      |((with_reducible refine swp_regionP ?_ ?_ (fun K' hK'=>?_));rfl;rfl;simp only [UN,LM,Nat.reduceBEq,Nat.reduceLeDiff,Int.reduceLE,Int.reduceLT,Int.reduceToNat,Nat.reduceAdd,Nat.reduceSub,Nat.reduceMul,reduceCtorEq,TAS,TBS,g1];(repeat (refine And.intro ?_ ?_; focus (clear hK'; intros; simp_all; done)));(try (refine hK' _ _ ?_; clear hK'; clear K')))
      |((with_reducible refine swp_cond ?_ ?_);rfl;refine ⟨_,rfl,fun h=>?_,fun h=>?_⟩ <;> (try (exfalso; exact absurd h (by decide)))))
    simp only [Kret,retL,retOne,oneV,UN,LM,Nat.reduceBEq,Nat.reduceLeDiff,Int.reduceLE,Int.reduceLT,Int.reduceToNat,Nat.reduceAdd,Nat.reduceSub,Nat.reduceMul,reduceCtorEq,TAS,TBS]
  · rw [if_neg hc]
    have g1 : (c != 0) = true:=by simpa using hc
    refine fn_of_swp (N:=25) Tryd.func49 rfl (by decide) rfl rfl (by simp) (fun C h0=>?_)
    simp only [argE]
    repeat' (first
      |(with_reducible first|refine swp_seq ?_|refine swp_block ?_|refine swp_skip ?_|refine swp_ret ?_|refine swp_exit ?_|refine swp_label ?_|refine kseq_n ?_|refine kseq_x ?_|refine kseq_r ?_|refine kblk_n ?_|refine kblk_r ?_|refine kblk_xs ?_|refine kloop_x ?_|refine kloop_r ?_)
      |((with_reducible refine kblk_xn ?_ ?_);rfl)
      |((with_reducible refine swp_regionP ?_ ?_ (fun K' hK'=>?_));rfl;rfl;simp only [UN,LM,Nat.reduceBEq,Nat.reduceLeDiff,Int.reduceLE,Int.reduceLT,Int.reduceToNat,Nat.reduceAdd,Nat.reduceSub,Nat.reduceMul,reduceCtorEq,TAS,TBS];(repeat (refine And.intro ?_ ?_; focus (clear hK'; intros; simp_all; done)));(try (refine hK' _ _ ?_; clear hK'; clear K')))
      |((with_reducible refine swp_cond ?_ ?_);rfl;refine ⟨_,rfl,fun h=>?_,fun h=>?_⟩ <;> (try (exfalso; exact absurd h (by decide)))))
    refine stop_call h0 rfl (by simp only [UN,LM,Nat.reduceBEq,Nat.reduceLeDiff,Int.reduceLE,Int.reduceLT,Int.reduceToNat,Nat.reduceAdd,Nat.reduceSub,Nat.reduceMul,reduceCtorEq]) rfl (by simp only [keepS,UN,LM,Nat.reduceBEq,Nat.reduceLeDiff,Int.reduceLE,Int.reduceLT,Int.reduceToNat,Nat.reduceAdd,Nat.reduceSub,Nat.reduceMul,reduceCtorEq]) (hx) ?_
    simp only [UN,LM,Nat.reduceBEq,Nat.reduceLeDiff,Int.reduceLE,Int.reduceLT,Int.reduceToNat,Nat.reduceAdd,Nat.reduceSub,Nat.reduceMul,reduceCtorEq,TAS,TBS,inX,dropS, ]
    (repeat (refine And.intro ?_ ?_; focus (clear hK'; intros; simp_all; done)))
    (try (refine hK' _ _ ?_; clear hK'; clear K'))
    repeat' (first
      |(with_reducible first|refine swp_seq ?_|refine swp_block ?_|refine swp_skip ?_|refine swp_ret ?_|refine swp_exit ?_|refine swp_label ?_|refine kseq_n ?_|refine kseq_x ?_|refine kseq_r ?_|refine kblk_n ?_|refine kblk_r ?_|refine kblk_xs ?_|refine kloop_x ?_|refine kloop_r ?_)
      |((with_reducible refine kblk_xn ?_ ?_);rfl)
      |((with_reducible refine swp_regionP ?_ ?_ (fun K' hK'=>?_));rfl;rfl;simp only [UN,LM,Nat.reduceBEq,Nat.reduceLeDiff,Int.reduceLE,Int.reduceLT,Int.reduceToNat,Nat.reduceAdd,Nat.reduceSub,Nat.reduceMul,reduceCtorEq,TAS,TBS];(repeat (refine And.intro ?_ ?_; focus (clear hK'; intros; simp_all; done)));(try (refine hK' _ _ ?_; clear hK'; clear K')))
      |((with_reducible refine swp_cond ?_ ?_);rfl;refine ⟨_,rfl,fun h=>?_,fun h=>?_⟩ <;> (try (exfalso; exact absurd h (by decide)))))
    refine stop_call h0 rfl (by simp only [UN,LM,Nat.reduceBEq,Nat.reduceLeDiff,Int.reduceLE,Int.reduceLT,Int.reduceToNat,Nat.reduceAdd,Nat.reduceSub,Nat.reduceMul,reduceCtorEq]) rfl (by simp only [keepS,UN,LM,Nat.reduceBEq,Nat.reduceLeDiff,Int.reduceLE,Int.reduceLT,Int.reduceToNat,Nat.reduceAdd,Nat.reduceSub,Nat.reduceMul,reduceCtorEq]) (hy) ?_
    simp only [UN,LM,Nat.reduceBEq,Nat.reduceLeDiff,Int.reduceLE,Int.reduceLT,Int.reduceToNat,Nat.reduceAdd,Nat.reduceSub,Nat.reduceMul,reduceCtorEq,TAS,TBS,inX,dropS, ]
    (repeat (refine And.intro ?_ ?_; focus (clear hK'; intros; simp_all; done)))
    (try (refine hK' _ _ ?_; clear hK'; clear K'))
    repeat' (first
      |(with_reducible first|refine swp_seq ?_|refine swp_block ?_|refine swp_skip ?_|refine swp_ret ?_|refine swp_exit ?_|refine swp_label ?_|refine kseq_n ?_|refine kseq_x ?_|refine kseq_r ?_|refine kblk_n ?_|refine kblk_r ?_|refine kblk_xs ?_|refine kloop_x ?_|refine kloop_r ?_)
      |((with_reducible refine kblk_xn ?_ ?_);rfl)
      |((with_reducible refine swp_regionP ?_ ?_ (fun K' hK'=>?_));rfl;rfl;simp only [UN,LM,Nat.reduceBEq,Nat.reduceLeDiff,Int.reduceLE,Int.reduceLT,Int.reduceToNat,Nat.reduceAdd,Nat.reduceSub,Nat.reduceMul,reduceCtorEq,TAS,TBS,g1];(repeat (refine And.intro ?_ ?_; focus (clear hK'; intros; simp_all; done)));(try (refine hK' _ _ ?_; clear hK'; clear K')))
      |((with_reducible refine swp_cond ?_ ?_);rfl;refine ⟨_,rfl,fun h=>?_,fun h=>?_⟩ <;> (try (exfalso; exact absurd h (by decide)))))
    simp only [Kret,retL,retOne,oneV,UN,LM,Nat.reduceBEq,Nat.reduceLeDiff,Int.reduceLE,Int.reduceLT,Int.reduceToNat,Nat.reduceAdd,Nat.reduceSub,Nat.reduceMul,reduceCtorEq,TAS,TBS]
def doP (x y : Tp) : Bool:=if bErr x y = 0 then (stuckP (ofP x) (ofP y)).isNone else false
theorem cof_shape (x y : Tp) : bErr x y ≠ 0 → ∃ A B,cofD x y = .tup [.slc A,.slc B,iD (bErr x y)]:=by
  unfold cofD bErr
  split
  · intro _; exact ⟨_,_,rfl⟩
  · intro _; exact ⟨_,_,rfl⟩
theorem ofP_gd {x : Tp} (h : tCheck x = 0) : Gd (ofP x):=⟨(ofP_good h).1,by have:=(ofP_good h).2.1; omega,(ofP_good h).2.2,ofP_sh h⟩
theorem dG_gd {x : Tp} (h : tCheck x = 0) : Gd (dG x):=⟨(dG_good h).1,by have:=(dG_good h).2.1; omega,(dG_good h).2.2.1,(dG_good h).2.2.2.1⟩
theorem meets_ok {g h : List Nd} (Hg : Gd g) (Hh : Gd h) : MeetsOK g h:=by
  intro p a0 a1 b0 b1 l hl
  have gx:=Hg.ok _ (gAt_mem a0 a1)
  have gy:=Hh.ok _ (gAt_mem b0 b1)
  have rx:=to_range Hg.pos gx
  have ry:=to_range Hh.pos gy
  unfold meetsP at hl
  split at hl
  · cases hl
  split at hl
  · cases hl
  split at hl
  · cases hl
    exact ⟨by simp,fun s hs=>by rw [List.mem_singleton] at hs; subst hs; exact ⟨rx 0,ry 0⟩⟩
  split at hl
  · split at hl
    · cases hl
      exact ⟨by simp,fun s hs=>by rw [List.mem_singleton] at hs; subst hs; exact ⟨rx 1,ry 1⟩⟩
    · cases hl
  split at hl
  · split at hl
    · cases hl
      refine ⟨?_,fun s hs=>?_⟩
      · rw [List.length_map]
        unfold outL
        have h1:=gx.ok.ls
        have h2:=gy.ok.ls
        split <;> assumption
      · obtain ⟨l, -,rfl⟩:=List.mem_map.1 hs
        exact ⟨rx _,ry _⟩
    · cases hl
  · cases hl
    exact ⟨by simp,fun s hs=>by cases hs⟩
set_option maxHeartbeats 8000000 in
set_option maxRecDepth 100000 in
theorem do_fn (Γ : Gl) (x y : Tp) : DFn Tryd.prog Γ 30 [x.d,y.d] (.tup [bD (doP x y),iD (bErr x y)]):=by
  have ho:=cof_fn Γ x y
  unfold doP
  by_cases hc : bErr x y = 0
  · obtain ⟨h1,h2⟩:=bErr_zero hc
    have hs:=stuck_fn Γ (ofP x) (ofP y) (ofP_gd h1) (ofP_gd h2) (meets_ok (ofP_gd h1) (ofP_gd h2))
    rw [if_pos hc,hc]
    unfold cofD at ho
    rw [if_pos h1,h2] at ho
    generalize stuckP (ofP x) (ofP y) = r at *
    generalize (ofP x).map Nd.d = A at *
    generalize (ofP y).map Nd.d = B at *
    obtain ⟨k,so,nm,ls,l⟩:=x
    obtain ⟨k',so',nm',ls',l'⟩:=y
    simp only [Tp.d] at ho ⊢
    cases r with
    | none =>
      simp only [whyA] at hs
      refine fn_of_swp (N:=29) Tryd.func30 rfl (by decide) rfl rfl (by simp) (fun C h0=>?_)
      simp only [argE]
      repeat' (first
        |(with_reducible first|refine swp_seq ?_|refine swp_block ?_|refine swp_skip ?_|refine swp_ret ?_|refine swp_exit ?_|refine swp_label ?_|refine kseq_n ?_|refine kseq_x ?_|refine kseq_r ?_|refine kblk_n ?_|refine kblk_r ?_|refine kblk_xs ?_|refine kloop_x ?_|refine kloop_r ?_)
        |((with_reducible refine kblk_xn ?_ ?_);rfl)
        |((with_reducible refine swp_regionP ?_ ?_ (fun K' hK'=>?_));rfl;rfl;simp only [UN,LM,Nat.reduceBEq,Nat.reduceLeDiff,Int.reduceLE,Int.reduceLT,Int.reduceToNat,Nat.reduceAdd,Nat.reduceSub,Nat.reduceMul,reduceCtorEq,TAS,TBS];(repeat (refine And.intro ?_ ?_; focus (clear hK'; intros; simp_all; done)));(try (refine hK' _ _ ?_; clear hK'; clear K')))
        |((with_reducible refine swp_cond ?_ ?_);rfl;refine ⟨_,rfl,fun h=>?_,fun h=>?_⟩ <;> (try (exfalso; exact absurd h (by decide)))))
      refine stop_call h0 rfl (by simp only [UN,LM,Nat.reduceBEq,Nat.reduceLeDiff,Int.reduceLE,Int.reduceLT,Int.reduceToNat,Nat.reduceAdd,Nat.reduceSub,Nat.reduceMul,reduceCtorEq]) rfl (by simp only [keepS,UN,LM,Nat.reduceBEq,Nat.reduceLeDiff,Int.reduceLE,Int.reduceLT,Int.reduceToNat,Nat.reduceAdd,Nat.reduceSub,Nat.reduceMul,reduceCtorEq]) (ho) ?_
      simp only [UN,LM,Nat.reduceBEq,Nat.reduceLeDiff,Int.reduceLE,Int.reduceLT,Int.reduceToNat,Nat.reduceAdd,Nat.reduceSub,Nat.reduceMul,reduceCtorEq,TAS,TBS,inX,dropS, ]
      (repeat (refine And.intro ?_ ?_; focus (clear hK'; intros; simp_all; done)))
      (try (refine hK' _ _ ?_; clear hK'; clear K'))
      repeat' (first
        |(with_reducible first|refine swp_seq ?_|refine swp_block ?_|refine swp_skip ?_|refine swp_ret ?_|refine swp_exit ?_|refine swp_label ?_|refine kseq_n ?_|refine kseq_x ?_|refine kseq_r ?_|refine kblk_n ?_|refine kblk_r ?_|refine kblk_xs ?_|refine kloop_x ?_|refine kloop_r ?_)
        |((with_reducible refine kblk_xn ?_ ?_);rfl)
        |((with_reducible refine swp_regionP ?_ ?_ (fun K' hK'=>?_));rfl;rfl;simp only [UN,LM,Nat.reduceBEq,Nat.reduceLeDiff,Int.reduceLE,Int.reduceLT,Int.reduceToNat,Nat.reduceAdd,Nat.reduceSub,Nat.reduceMul,reduceCtorEq,TAS,TBS,bne_self_eq_false];(repeat (refine And.intro ?_ ?_; focus (clear hK'; intros; simp_all; done)));(try (refine hK' _ _ ?_; clear hK'; clear K')))
        |((with_reducible refine swp_cond ?_ ?_);rfl;refine ⟨_,rfl,fun h=>?_,fun h=>?_⟩ <;> (try (exfalso; exact absurd h (by decide)))))
      refine stop_call h0 rfl (by simp only [UN,LM,Nat.reduceBEq,Nat.reduceLeDiff,Int.reduceLE,Int.reduceLT,Int.reduceToNat,Nat.reduceAdd,Nat.reduceSub,Nat.reduceMul,reduceCtorEq]) rfl (by simp only [keepS,UN,LM,Nat.reduceBEq,Nat.reduceLeDiff,Int.reduceLE,Int.reduceLT,Int.reduceToNat,Nat.reduceAdd,Nat.reduceSub,Nat.reduceMul,reduceCtorEq]) (hs) ?_
      simp only [UN,LM,Nat.reduceBEq,Nat.reduceLeDiff,Int.reduceLE,Int.reduceLT,Int.reduceToNat,Nat.reduceAdd,Nat.reduceSub,Nat.reduceMul,reduceCtorEq,TAS,TBS,inX,dropS, ]
      (repeat (refine And.intro ?_ ?_; focus (clear hK'; intros; simp_all; done)))
      (try (refine hK' _ _ ?_; clear hK'; clear K'))
      repeat' (first
        |(with_reducible first|refine swp_seq ?_|refine swp_block ?_|refine swp_skip ?_|refine swp_ret ?_|refine swp_exit ?_|refine swp_label ?_|refine kseq_n ?_|refine kseq_x ?_|refine kseq_r ?_|refine kblk_n ?_|refine kblk_r ?_|refine kblk_xs ?_|refine kloop_x ?_|refine kloop_r ?_)
        |((with_reducible refine kblk_xn ?_ ?_);rfl)
        |((with_reducible refine swp_regionP ?_ ?_ (fun K' hK'=>?_));rfl;rfl;simp only [UN,LM,Nat.reduceBEq,Nat.reduceLeDiff,Int.reduceLE,Int.reduceLT,Int.reduceToNat,Nat.reduceAdd,Nat.reduceSub,Nat.reduceMul,reduceCtorEq,TAS,TBS];(repeat (refine And.intro ?_ ?_; focus (clear hK'; intros; simp_all; done)));(try (refine hK' _ _ ?_; clear hK'; clear K')))
        |((with_reducible refine swp_cond ?_ ?_);rfl;refine ⟨_,rfl,fun h=>?_,fun h=>?_⟩ <;> (try (exfalso; exact absurd h (by decide)))))
      simp only [Kret,retL,retOne,oneV,UN,LM,Nat.reduceBEq,Nat.reduceLeDiff,Int.reduceLE,Int.reduceLT,Int.reduceToNat,Nat.reduceAdd,Nat.reduceSub,Nat.reduceMul,reduceCtorEq,TAS,TBS]
      rfl
    | some w =>
      simp only [whyA] at hs
      refine fn_of_swp (N:=29) Tryd.func30 rfl (by decide) rfl rfl (by simp) (fun C h0=>?_)
      simp only [argE]
      repeat' (first
        |(with_reducible first|refine swp_seq ?_|refine swp_block ?_|refine swp_skip ?_|refine swp_ret ?_|refine swp_exit ?_|refine swp_label ?_|refine kseq_n ?_|refine kseq_x ?_|refine kseq_r ?_|refine kblk_n ?_|refine kblk_r ?_|refine kblk_xs ?_|refine kloop_x ?_|refine kloop_r ?_)
        |((with_reducible refine kblk_xn ?_ ?_);rfl)
        |((with_reducible refine swp_regionP ?_ ?_ (fun K' hK'=>?_));rfl;rfl;simp only [UN,LM,Nat.reduceBEq,Nat.reduceLeDiff,Int.reduceLE,Int.reduceLT,Int.reduceToNat,Nat.reduceAdd,Nat.reduceSub,Nat.reduceMul,reduceCtorEq,TAS,TBS];(repeat (refine And.intro ?_ ?_; focus (clear hK'; intros; simp_all; done)));(try (refine hK' _ _ ?_; clear hK'; clear K')))
        |((with_reducible refine swp_cond ?_ ?_);rfl;refine ⟨_,rfl,fun h=>?_,fun h=>?_⟩ <;> (try (exfalso; exact absurd h (by decide)))))
      refine stop_call h0 rfl (by simp only [UN,LM,Nat.reduceBEq,Nat.reduceLeDiff,Int.reduceLE,Int.reduceLT,Int.reduceToNat,Nat.reduceAdd,Nat.reduceSub,Nat.reduceMul,reduceCtorEq]) rfl (by simp only [keepS,UN,LM,Nat.reduceBEq,Nat.reduceLeDiff,Int.reduceLE,Int.reduceLT,Int.reduceToNat,Nat.reduceAdd,Nat.reduceSub,Nat.reduceMul,reduceCtorEq]) (ho) ?_
      simp only [UN,LM,Nat.reduceBEq,Nat.reduceLeDiff,Int.reduceLE,Int.reduceLT,Int.reduceToNat,Nat.reduceAdd,Nat.reduceSub,Nat.reduceMul,reduceCtorEq,TAS,TBS,inX,dropS, ]
      (repeat (refine And.intro ?_ ?_; focus (clear hK'; intros; simp_all; done)))
      (try (refine hK' _ _ ?_; clear hK'; clear K'))
      repeat' (first
        |(with_reducible first|refine swp_seq ?_|refine swp_block ?_|refine swp_skip ?_|refine swp_ret ?_|refine swp_exit ?_|refine swp_label ?_|refine kseq_n ?_|refine kseq_x ?_|refine kseq_r ?_|refine kblk_n ?_|refine kblk_r ?_|refine kblk_xs ?_|refine kloop_x ?_|refine kloop_r ?_)
        |((with_reducible refine kblk_xn ?_ ?_);rfl)
        |((with_reducible refine swp_regionP ?_ ?_ (fun K' hK'=>?_));rfl;rfl;simp only [UN,LM,Nat.reduceBEq,Nat.reduceLeDiff,Int.reduceLE,Int.reduceLT,Int.reduceToNat,Nat.reduceAdd,Nat.reduceSub,Nat.reduceMul,reduceCtorEq,TAS,TBS,bne_self_eq_false];(repeat (refine And.intro ?_ ?_; focus (clear hK'; intros; simp_all; done)));(try (refine hK' _ _ ?_; clear hK'; clear K')))
        |((with_reducible refine swp_cond ?_ ?_);rfl;refine ⟨_,rfl,fun h=>?_,fun h=>?_⟩ <;> (try (exfalso; exact absurd h (by decide)))))
      refine stop_call h0 rfl (by simp only [UN,LM,Nat.reduceBEq,Nat.reduceLeDiff,Int.reduceLE,Int.reduceLT,Int.reduceToNat,Nat.reduceAdd,Nat.reduceSub,Nat.reduceMul,reduceCtorEq]) rfl (by simp only [keepS,UN,LM,Nat.reduceBEq,Nat.reduceLeDiff,Int.reduceLE,Int.reduceLT,Int.reduceToNat,Nat.reduceAdd,Nat.reduceSub,Nat.reduceMul,reduceCtorEq]) (hs) ?_
      simp only [UN,LM,Nat.reduceBEq,Nat.reduceLeDiff,Int.reduceLE,Int.reduceLT,Int.reduceToNat,Nat.reduceAdd,Nat.reduceSub,Nat.reduceMul,reduceCtorEq,TAS,TBS,inX,dropS, ]
      (repeat (refine And.intro ?_ ?_; focus (clear hK'; intros; simp_all; done)))
      (try (refine hK' _ _ ?_; clear hK'; clear K'))
      repeat' (first
        |(with_reducible first|refine swp_seq ?_|refine swp_block ?_|refine swp_skip ?_|refine swp_ret ?_|refine swp_exit ?_|refine swp_label ?_|refine kseq_n ?_|refine kseq_x ?_|refine kseq_r ?_|refine kblk_n ?_|refine kblk_r ?_|refine kblk_xs ?_|refine kloop_x ?_|refine kloop_r ?_)
        |((with_reducible refine kblk_xn ?_ ?_);rfl)
        |((with_reducible refine swp_regionP ?_ ?_ (fun K' hK'=>?_));rfl;rfl;simp only [UN,LM,Nat.reduceBEq,Nat.reduceLeDiff,Int.reduceLE,Int.reduceLT,Int.reduceToNat,Nat.reduceAdd,Nat.reduceSub,Nat.reduceMul,reduceCtorEq,TAS,TBS];(repeat (refine And.intro ?_ ?_; focus (clear hK'; intros; simp_all; done)));(try (refine hK' _ _ ?_; clear hK'; clear K')))
        |((with_reducible refine swp_cond ?_ ?_);rfl;refine ⟨_,rfl,fun h=>?_,fun h=>?_⟩ <;> (try (exfalso; exact absurd h (by decide)))))
      simp only [Kret,retL,retOne,oneV,UN,LM,Nat.reduceBEq,Nat.reduceLeDiff,Int.reduceLE,Int.reduceLT,Int.reduceToNat,Nat.reduceAdd,Nat.reduceSub,Nat.reduceMul,reduceCtorEq,TAS,TBS]
      rfl
  · rw [if_neg hc]
    obtain ⟨A,B,hb⟩:=cof_shape x y hc
    rw [hb] at ho
    have g1 : (bErr x y != 0) = true:=by simpa using hc
    generalize bErr x y = c at ho g1 ⊢
    obtain ⟨k,so,nm,ls,l⟩:=x
    obtain ⟨k',so',nm',ls',l'⟩:=y
    simp only [Tp.d] at ho ⊢
    refine fn_of_swp (N:=29) Tryd.func30 rfl (by decide) rfl rfl (by simp) (fun C h0=>?_)
    simp only [argE]
    repeat' (first
      |(with_reducible first|refine swp_seq ?_|refine swp_block ?_|refine swp_skip ?_|refine swp_ret ?_|refine swp_exit ?_|refine swp_label ?_|refine kseq_n ?_|refine kseq_x ?_|refine kseq_r ?_|refine kblk_n ?_|refine kblk_r ?_|refine kblk_xs ?_|refine kloop_x ?_|refine kloop_r ?_)
      |((with_reducible refine kblk_xn ?_ ?_);rfl)
      |((with_reducible refine swp_regionP ?_ ?_ (fun K' hK'=>?_));rfl;rfl;simp only [UN,LM,Nat.reduceBEq,Nat.reduceLeDiff,Int.reduceLE,Int.reduceLT,Int.reduceToNat,Nat.reduceAdd,Nat.reduceSub,Nat.reduceMul,reduceCtorEq,TAS,TBS];(repeat (refine And.intro ?_ ?_; focus (clear hK'; intros; simp_all; done)));(try (refine hK' _ _ ?_; clear hK'; clear K')))
      |((with_reducible refine swp_cond ?_ ?_);rfl;refine ⟨_,rfl,fun h=>?_,fun h=>?_⟩ <;> (try (exfalso; exact absurd h (by decide)))))
    refine stop_call h0 rfl (by simp only [UN,LM,Nat.reduceBEq,Nat.reduceLeDiff,Int.reduceLE,Int.reduceLT,Int.reduceToNat,Nat.reduceAdd,Nat.reduceSub,Nat.reduceMul,reduceCtorEq]) rfl (by simp only [keepS,UN,LM,Nat.reduceBEq,Nat.reduceLeDiff,Int.reduceLE,Int.reduceLT,Int.reduceToNat,Nat.reduceAdd,Nat.reduceSub,Nat.reduceMul,reduceCtorEq]) (ho) ?_
    simp only [UN,LM,Nat.reduceBEq,Nat.reduceLeDiff,Int.reduceLE,Int.reduceLT,Int.reduceToNat,Nat.reduceAdd,Nat.reduceSub,Nat.reduceMul,reduceCtorEq,TAS,TBS,inX,dropS, ]
    (repeat (refine And.intro ?_ ?_; focus (clear hK'; intros; simp_all; done)))
    (try (refine hK' _ _ ?_; clear hK'; clear K'))
    repeat' (first
      |(with_reducible first|refine swp_seq ?_|refine swp_block ?_|refine swp_skip ?_|refine swp_ret ?_|refine swp_exit ?_|refine swp_label ?_|refine kseq_n ?_|refine kseq_x ?_|refine kseq_r ?_|refine kblk_n ?_|refine kblk_r ?_|refine kblk_xs ?_|refine kloop_x ?_|refine kloop_r ?_)
      |((with_reducible refine kblk_xn ?_ ?_);rfl)
      |((with_reducible refine swp_regionP ?_ ?_ (fun K' hK'=>?_));rfl;rfl;simp only [UN,LM,Nat.reduceBEq,Nat.reduceLeDiff,Int.reduceLE,Int.reduceLT,Int.reduceToNat,Nat.reduceAdd,Nat.reduceSub,Nat.reduceMul,reduceCtorEq,TAS,TBS,g1];(repeat (refine And.intro ?_ ?_; focus (clear hK'; intros; simp_all; done)));(try (refine hK' _ _ ?_; clear hK'; clear K')))
      |((with_reducible refine swp_cond ?_ ?_);rfl;refine ⟨_,rfl,fun h=>?_,fun h=>?_⟩ <;> (try (exfalso; exact absurd h (by decide)))))
    simp only [Kret,retL,retOne,oneV,UN,LM,Nat.reduceBEq,Nat.reduceLeDiff,Int.reduceLE,Int.reduceLT,Int.reduceToNat,Nat.reduceAdd,Nat.reduceSub,Nat.reduceMul,reduceCtorEq,TAS,TBS]
theorem first_do : doP endT endT = true ∧ bErr endT endT = 0:=by decide +kernel
set_option maxHeartbeats 16000000 in
set_option maxRecDepth 100000 in
theorem complyLaw0 (Γ : Gl) (hΓ : PowT Γ) (x y z : Tp) (h1 : bErr x y = 0 → subG (dG y) (ofP x) = doP x y) (h2 : bErr x y = 0 → bErr y z = 0 → doP x y = true → isP y z = true → doP x z = true) :
    DFn Tryd.prog Γ 10 [x.d,y.d,z.d] (.v (.bool true)):=by
  have hF:=do_fn Γ endT endT
  rw [first_do.1,first_do.2] at hF
  simp only [endT,Tp.d,Tp.ds,List.map_nil] at hF
  have hD:=do_fn Γ x y
  have hU:=dOf_fn Γ hΓ y
  have hO:=of_fn Γ x
  unfold OfFn at hO
  have hI:=isT_fn Γ y z
  have hE:=do_fn Γ x z
  have hb : bErr x y ≠ 0 → doP x y = false:=fun h=>by unfold doP; rw [if_neg h]
  have hg : bErr x y = 0 → tCheck x = 0 ∧ tCheck y = 0 ∧ DFn Tryd.prog Γ 29 [.slc ((dG y).map Nd.d),.slc ((ofP x).map Nd.d)] (.tup [bD (doP x y),iD 0]):=fun h=>by
    obtain ⟨a1,a2⟩:=bErr_zero h
    refine ⟨a1,a2,?_⟩
    rw [← h1 h]
    exact graphsG_fn Γ (dG_gd a2) (ofP_gd a1)
  have hz : bErr x y = 0 → bErr y z = 0 → bErr x z = 0:=fun h h'=>bErr_of (bErr_zero h).1 (bErr_zero h').2
  generalize bErr x y = c at *
  generalize bErr y z = c2 at *
  generalize bErr x z = c3 at *
  generalize doP x y = p at *
  generalize doP x z = q at *
  generalize isP y z = u at *
  generalize tCheck x = cx at *
  generalize tCheck y = cy at *
  generalize (ofP x).map Nd.d = A at *
  generalize (dG y).map Nd.d = B at *
  clear h1
  obtain ⟨k,so,nm,ls,l⟩:=x
  obtain ⟨k',so',nm',ls',l'⟩:=y
  obtain ⟨k2,so2,nm2,ls2,l2⟩:=z
  simp only [Tp.d] at hD hU hO hI hE ⊢
  refine fn_of_swp (N:=101) Tryd.func10 rfl (by decide) rfl rfl (by simp) (fun C h0=>?_)
  simp only [argE]
  repeat' (first
    |(with_reducible first|refine swp_seq ?_|refine swp_block ?_|refine swp_skip ?_|refine swp_ret ?_|refine swp_exit ?_|refine swp_label ?_|refine kseq_n ?_|refine kseq_x ?_|refine kseq_r ?_|refine kblk_n ?_|refine kblk_r ?_|refine kblk_xs ?_|refine kloop_x ?_|refine kloop_r ?_)
    |((with_reducible refine kblk_xn ?_ ?_);rfl)
    |((with_reducible refine swp_regionP ?_ ?_ (fun K' hK'=>?_));rfl;rfl;simp only [UN,LM,Nat.reduceBEq,Nat.reduceLeDiff,Int.reduceLE,Int.reduceLT,Int.reduceToNat,Nat.reduceAdd,Nat.reduceSub,Nat.reduceMul,reduceCtorEq,TAS,TBS];(repeat (refine And.intro ?_ ?_; focus (clear hK'; intros; simp_all; done)));(try (refine hK' _ _ ?_; clear hK'; clear K')))
    |((with_reducible refine swp_cond ?_ ?_);rfl;refine ⟨_,rfl,fun h=>?_,fun h=>?_⟩ <;> (try (exfalso; exact absurd h (by decide)))))
  refine stop_call h0 rfl (by simp only [UN,LM,Nat.reduceBEq,Nat.reduceLeDiff,Int.reduceLE,Int.reduceLT,Int.reduceToNat,Nat.reduceAdd,Nat.reduceSub,Nat.reduceMul,reduceCtorEq]) rfl (by simp only [keepS,UN,LM,Nat.reduceBEq,Nat.reduceLeDiff,Int.reduceLE,Int.reduceLT,Int.reduceToNat,Nat.reduceAdd,Nat.reduceSub,Nat.reduceMul,reduceCtorEq]) (hF) ?_
  simp only [UN,LM,Nat.reduceBEq,Nat.reduceLeDiff,Int.reduceLE,Int.reduceLT,Int.reduceToNat,Nat.reduceAdd,Nat.reduceSub,Nat.reduceMul,reduceCtorEq,TAS,TBS,inX,dropS, ]
  (repeat (refine And.intro ?_ ?_; focus (clear hK'; intros; simp_all; done)))
  (try (refine hK' _ _ ?_; clear hK'; clear K'))
  repeat' (first
    |(with_reducible first|refine swp_seq ?_|refine swp_block ?_|refine swp_skip ?_|refine swp_ret ?_|refine swp_exit ?_|refine swp_label ?_|refine kseq_n ?_|refine kseq_x ?_|refine kseq_r ?_|refine kblk_n ?_|refine kblk_r ?_|refine kblk_xs ?_|refine kloop_x ?_|refine kloop_r ?_)
    |((with_reducible refine kblk_xn ?_ ?_);rfl)
    |((with_reducible refine swp_regionP ?_ ?_ (fun K' hK'=>?_));rfl;rfl;simp only [UN,LM,Nat.reduceBEq,Nat.reduceLeDiff,Int.reduceLE,Int.reduceLT,Int.reduceToNat,Nat.reduceAdd,Nat.reduceSub,Nat.reduceMul,reduceCtorEq,TAS,TBS,bne_self_eq_false,Bool.not_true,Bool.not_false,cond_true,cond_false];(repeat (refine And.intro ?_ ?_; focus (clear hK'; intros; simp_all; done)));(try (refine hK' _ _ ?_; clear hK'; clear K')))
    |((with_reducible refine swp_cond ?_ ?_);rfl;refine ⟨_,rfl,fun h=>?_,fun h=>?_⟩ <;> (try (exfalso; exact absurd h (by decide)))))
  refine stop_call h0 rfl (by simp only [UN,LM,Nat.reduceBEq,Nat.reduceLeDiff,Int.reduceLE,Int.reduceLT,Int.reduceToNat,Nat.reduceAdd,Nat.reduceSub,Nat.reduceMul,reduceCtorEq]) rfl (by simp only [keepS,UN,LM,Nat.reduceBEq,Nat.reduceLeDiff,Int.reduceLE,Int.reduceLT,Int.reduceToNat,Nat.reduceAdd,Nat.reduceSub,Nat.reduceMul,reduceCtorEq]) (hD) ?_
  simp only [UN,LM,Nat.reduceBEq,Nat.reduceLeDiff,Int.reduceLE,Int.reduceLT,Int.reduceToNat,Nat.reduceAdd,Nat.reduceSub,Nat.reduceMul,reduceCtorEq,TAS,TBS,inX,dropS, ]
  (repeat (refine And.intro ?_ ?_; focus (clear hK'; intros; simp_all; done)))
  (try (refine hK' _ _ ?_; clear hK'; clear K'))
  by_cases hc : c = 0
  · obtain ⟨rfl,rfl,hG⟩:=hg hc
    have hz':=hz hc
    have hh:=h2 hc
    clear hz h2 hg
    subst hc
    repeat' (first
      |(with_reducible first|refine swp_seq ?_|refine swp_block ?_|refine swp_skip ?_|refine swp_ret ?_|refine swp_exit ?_|refine swp_label ?_|refine kseq_n ?_|refine kseq_x ?_|refine kseq_r ?_|refine kblk_n ?_|refine kblk_r ?_|refine kblk_xs ?_|refine kloop_x ?_|refine kloop_r ?_)
      |((with_reducible refine kblk_xn ?_ ?_);rfl)
      |((with_reducible refine swp_regionP ?_ ?_ (fun K' hK'=>?_));rfl;rfl;simp only [UN,LM,Nat.reduceBEq,Nat.reduceLeDiff,Int.reduceLE,Int.reduceLT,Int.reduceToNat,Nat.reduceAdd,Nat.reduceSub,Nat.reduceMul,reduceCtorEq,TAS,TBS,bne_self_eq_false];(repeat (refine And.intro ?_ ?_; focus (clear hK'; intros; simp_all; done)));(try (refine hK' _ _ ?_; clear hK'; clear K')))
      |((with_reducible refine swp_cond ?_ ?_);rfl;refine ⟨_,rfl,fun h=>?_,fun h=>?_⟩ <;> (try (exfalso; exact absurd h (by decide)))))
    refine stop_call h0 rfl (by simp only [UN,LM,Nat.reduceBEq,Nat.reduceLeDiff,Int.reduceLE,Int.reduceLT,Int.reduceToNat,Nat.reduceAdd,Nat.reduceSub,Nat.reduceMul,reduceCtorEq]) rfl (by simp only [keepS,UN,LM,Nat.reduceBEq,Nat.reduceLeDiff,Int.reduceLE,Int.reduceLT,Int.reduceToNat,Nat.reduceAdd,Nat.reduceSub,Nat.reduceMul,reduceCtorEq]) (hU) ?_
    simp only [UN,LM,Nat.reduceBEq,Nat.reduceLeDiff,Int.reduceLE,Int.reduceLT,Int.reduceToNat,Nat.reduceAdd,Nat.reduceSub,Nat.reduceMul,reduceCtorEq,TAS,TBS,inX,dropS, ]
    (repeat (refine And.intro ?_ ?_; focus (clear hK'; intros; simp_all; done)))
    (try (refine hK' _ _ ?_; clear hK'; clear K'))
    repeat' (first
      |(with_reducible first|refine swp_seq ?_|refine swp_block ?_|refine swp_skip ?_|refine swp_ret ?_|refine swp_exit ?_|refine swp_label ?_|refine kseq_n ?_|refine kseq_x ?_|refine kseq_r ?_|refine kblk_n ?_|refine kblk_r ?_|refine kblk_xs ?_|refine kloop_x ?_|refine kloop_r ?_)
      |((with_reducible refine kblk_xn ?_ ?_);rfl)
      |((with_reducible refine swp_regionP ?_ ?_ (fun K' hK'=>?_));rfl;rfl;simp only [UN,LM,Nat.reduceBEq,Nat.reduceLeDiff,Int.reduceLE,Int.reduceLT,Int.reduceToNat,Nat.reduceAdd,Nat.reduceSub,Nat.reduceMul,reduceCtorEq,TAS,TBS];(repeat (refine And.intro ?_ ?_; focus (clear hK'; intros; simp_all; done)));(try (refine hK' _ _ ?_; clear hK'; clear K')))
      |((with_reducible refine swp_cond ?_ ?_);rfl;refine ⟨_,rfl,fun h=>?_,fun h=>?_⟩ <;> (try (exfalso; exact absurd h (by decide)))))
    refine stop_call h0 rfl (by simp only [UN,LM,Nat.reduceBEq,Nat.reduceLeDiff,Int.reduceLE,Int.reduceLT,Int.reduceToNat,Nat.reduceAdd,Nat.reduceSub,Nat.reduceMul,reduceCtorEq]) rfl (by simp only [keepS,UN,LM,Nat.reduceBEq,Nat.reduceLeDiff,Int.reduceLE,Int.reduceLT,Int.reduceToNat,Nat.reduceAdd,Nat.reduceSub,Nat.reduceMul,reduceCtorEq]) (hO) ?_
    simp only [UN,LM,Nat.reduceBEq,Nat.reduceLeDiff,Int.reduceLE,Int.reduceLT,Int.reduceToNat,Nat.reduceAdd,Nat.reduceSub,Nat.reduceMul,reduceCtorEq,TAS,TBS,inX,dropS, ]
    (repeat (refine And.intro ?_ ?_; focus (clear hK'; intros; simp_all; done)))
    (try (refine hK' _ _ ?_; clear hK'; clear K'))
    repeat' (first
      |(with_reducible first|refine swp_seq ?_|refine swp_block ?_|refine swp_skip ?_|refine swp_ret ?_|refine swp_exit ?_|refine swp_label ?_|refine kseq_n ?_|refine kseq_x ?_|refine kseq_r ?_|refine kblk_n ?_|refine kblk_r ?_|refine kblk_xs ?_|refine kloop_x ?_|refine kloop_r ?_)
      |((with_reducible refine kblk_xn ?_ ?_);rfl)
      |((with_reducible refine swp_regionP ?_ ?_ (fun K' hK'=>?_));rfl;rfl;simp only [UN,LM,Nat.reduceBEq,Nat.reduceLeDiff,Int.reduceLE,Int.reduceLT,Int.reduceToNat,Nat.reduceAdd,Nat.reduceSub,Nat.reduceMul,reduceCtorEq,TAS,TBS];(repeat (refine And.intro ?_ ?_; focus (clear hK'; intros; simp_all; done)));(try (refine hK' _ _ ?_; clear hK'; clear K')))
      |((with_reducible refine swp_cond ?_ ?_);rfl;refine ⟨_,rfl,fun h=>?_,fun h=>?_⟩ <;> (try (exfalso; exact absurd h (by decide)))))
    refine stop_call h0 rfl (by simp only [UN,LM,Nat.reduceBEq,Nat.reduceLeDiff,Int.reduceLE,Int.reduceLT,Int.reduceToNat,Nat.reduceAdd,Nat.reduceSub,Nat.reduceMul,reduceCtorEq]) rfl (by simp only [keepS,UN,LM,Nat.reduceBEq,Nat.reduceLeDiff,Int.reduceLE,Int.reduceLT,Int.reduceToNat,Nat.reduceAdd,Nat.reduceSub,Nat.reduceMul,reduceCtorEq]) (hG) ?_
    simp only [UN,LM,Nat.reduceBEq,Nat.reduceLeDiff,Int.reduceLE,Int.reduceLT,Int.reduceToNat,Nat.reduceAdd,Nat.reduceSub,Nat.reduceMul,reduceCtorEq,TAS,TBS,inX,dropS, ]
    (repeat (refine And.intro ?_ ?_; focus (clear hK'; intros; simp_all; done)))
    (try (refine hK' _ _ ?_; clear hK'; clear K'))
    repeat' (first
      |(with_reducible first|refine swp_seq ?_|refine swp_block ?_|refine swp_skip ?_|refine swp_ret ?_|refine swp_exit ?_|refine swp_label ?_|refine kseq_n ?_|refine kseq_x ?_|refine kseq_r ?_|refine kblk_n ?_|refine kblk_r ?_|refine kblk_xs ?_|refine kloop_x ?_|refine kloop_r ?_)
      |((with_reducible refine kblk_xn ?_ ?_);rfl)
      |((with_reducible refine swp_regionP ?_ ?_ (fun K' hK'=>?_));rfl;rfl;simp only [UN,LM,Nat.reduceBEq,Nat.reduceLeDiff,Int.reduceLE,Int.reduceLT,Int.reduceToNat,Nat.reduceAdd,Nat.reduceSub,Nat.reduceMul,reduceCtorEq,TAS,TBS,bne_self_eq_false,Bool.not_true,Bool.not_false,cond_true,cond_false];(repeat (refine And.intro ?_ ?_; focus (clear hK'; intros; simp_all; done)));(try (refine hK' _ _ ?_; clear hK'; clear K')))
      |((with_reducible refine swp_cond ?_ ?_);rfl;refine ⟨_,rfl,fun h=>?_,fun h=>?_⟩ <;> (try (exfalso; exact absurd h (by decide)))))
    refine stop_call h0 rfl (by simp only [UN,LM,Nat.reduceBEq,Nat.reduceLeDiff,Int.reduceLE,Int.reduceLT,Int.reduceToNat,Nat.reduceAdd,Nat.reduceSub,Nat.reduceMul,reduceCtorEq]) rfl (by simp only [keepS,UN,LM,Nat.reduceBEq,Nat.reduceLeDiff,Int.reduceLE,Int.reduceLT,Int.reduceToNat,Nat.reduceAdd,Nat.reduceSub,Nat.reduceMul,reduceCtorEq]) (hI) ?_
    simp only [UN,LM,Nat.reduceBEq,Nat.reduceLeDiff,Int.reduceLE,Int.reduceLT,Int.reduceToNat,Nat.reduceAdd,Nat.reduceSub,Nat.reduceMul,reduceCtorEq,TAS,TBS,inX,dropS, ]
    (repeat (refine And.intro ?_ ?_; focus (clear hK'; intros; simp_all; done)))
    (try (refine hK' _ _ ?_; clear hK'; clear K'))
    repeat' (first
      |(with_reducible first|refine swp_seq ?_|refine swp_block ?_|refine swp_skip ?_|refine swp_ret ?_|refine swp_exit ?_|refine swp_label ?_|refine kseq_n ?_|refine kseq_x ?_|refine kseq_r ?_|refine kblk_n ?_|refine kblk_r ?_|refine kblk_xs ?_|refine kloop_x ?_|refine kloop_r ?_)
      |((with_reducible refine kblk_xn ?_ ?_);rfl)
      |((with_reducible refine swp_regionP ?_ ?_ (fun K' hK'=>?_));rfl;rfl;simp only [UN,LM,Nat.reduceBEq,Nat.reduceLeDiff,Int.reduceLE,Int.reduceLT,Int.reduceToNat,Nat.reduceAdd,Nat.reduceSub,Nat.reduceMul,reduceCtorEq,TAS,TBS];(repeat (refine And.intro ?_ ?_; focus (clear hK'; intros; simp_all; done)));(try (refine hK' _ _ ?_; clear hK'; clear K')))
      |((with_reducible refine swp_cond ?_ ?_);rfl;refine ⟨_,rfl,fun h=>?_,fun h=>?_⟩ <;> (try (exfalso; exact absurd h (by decide)))))
    refine stop_call h0 rfl (by simp only [UN,LM,Nat.reduceBEq,Nat.reduceLeDiff,Int.reduceLE,Int.reduceLT,Int.reduceToNat,Nat.reduceAdd,Nat.reduceSub,Nat.reduceMul,reduceCtorEq]) rfl (by simp only [keepS,UN,LM,Nat.reduceBEq,Nat.reduceLeDiff,Int.reduceLE,Int.reduceLT,Int.reduceToNat,Nat.reduceAdd,Nat.reduceSub,Nat.reduceMul,reduceCtorEq]) (hE) ?_
    simp only [UN,LM,Nat.reduceBEq,Nat.reduceLeDiff,Int.reduceLE,Int.reduceLT,Int.reduceToNat,Nat.reduceAdd,Nat.reduceSub,Nat.reduceMul,reduceCtorEq,TAS,TBS,inX,dropS, ]
    (repeat (refine And.intro ?_ ?_; focus (clear hK'; intros; simp_all; done)))
    (try (refine hK' _ _ ?_; clear hK'; clear K'))
    by_cases hc2 : c2 = 0
    · obtain rfl:=hz' hc2
      have hh2:=hh hc2
      clear hh hz'
      subst hc2
      repeat' (first
        |(with_reducible first|refine swp_seq ?_|refine swp_block ?_|refine swp_skip ?_|refine swp_ret ?_|refine swp_exit ?_|refine swp_label ?_|refine kseq_n ?_|refine kseq_x ?_|refine kseq_r ?_|refine kblk_n ?_|refine kblk_r ?_|refine kblk_xs ?_|refine kloop_x ?_|refine kloop_r ?_)
        |((with_reducible refine kblk_xn ?_ ?_);rfl)
        |((with_reducible refine swp_regionP ?_ ?_ (fun K' hK'=>?_));rfl;rfl;simp only [UN,LM,Nat.reduceBEq,Nat.reduceLeDiff,Int.reduceLE,Int.reduceLT,Int.reduceToNat,Nat.reduceAdd,Nat.reduceSub,Nat.reduceMul,reduceCtorEq,TAS,TBS,bne_self_eq_false,beq_self_eq_true,Bool.not_true,Bool.not_false,cond_true,cond_false];(repeat (refine And.intro ?_ ?_; focus (clear hK'; intros; simp_all; done)));(try (refine hK' _ _ ?_; clear hK'; clear K')))
        |((with_reducible refine swp_cond ?_ ?_);rfl;refine ⟨_,rfl,fun h=>?_,fun h=>?_⟩ <;> (try (exfalso; exact absurd h (by decide)))))
      simp only [Kret,retL,retOne,oneV,UN,LM,Nat.reduceBEq,Nat.reduceLeDiff,Int.reduceLE,Int.reduceLT,Int.reduceToNat,Nat.reduceAdd,Nat.reduceSub,Nat.reduceMul,reduceCtorEq,TAS,TBS]
      try (cases p <;> cases u <;> cases q <;> first | rfl | exact absurd (hh2 rfl rfl) (by decide))
    · have g5 : (c2 != 0) = true:=by simpa using hc2
      repeat' (first
        |(with_reducible first|refine swp_seq ?_|refine swp_block ?_|refine swp_skip ?_|refine swp_ret ?_|refine swp_exit ?_|refine swp_label ?_|refine kseq_n ?_|refine kseq_x ?_|refine kseq_r ?_|refine kblk_n ?_|refine kblk_r ?_|refine kblk_xs ?_|refine kloop_x ?_|refine kloop_r ?_)
        |((with_reducible refine kblk_xn ?_ ?_);rfl)
        |((with_reducible refine swp_regionP ?_ ?_ (fun K' hK'=>?_));rfl;rfl;simp only [UN,LM,Nat.reduceBEq,Nat.reduceLeDiff,Int.reduceLE,Int.reduceLT,Int.reduceToNat,Nat.reduceAdd,Nat.reduceSub,Nat.reduceMul,reduceCtorEq,TAS,TBS,g5,Bool.not_true,Bool.not_false,cond_true,cond_false];(repeat (refine And.intro ?_ ?_; focus (clear hK'; intros; simp_all; done)));(try (refine hK' _ _ ?_; clear hK'; clear K')))
        |((with_reducible refine swp_cond ?_ ?_);rfl;refine ⟨_,rfl,fun h=>?_,fun h=>?_⟩ <;> (try (exfalso; exact absurd h (by decide)))))
      simp only [Kret,retL,retOne,oneV,UN,LM,Nat.reduceBEq,Nat.reduceLeDiff,Int.reduceLE,Int.reduceLT,Int.reduceToNat,Nat.reduceAdd,Nat.reduceSub,Nat.reduceMul,reduceCtorEq,TAS,TBS]
  · have g1 : (c != 0) = true:=by simpa using hc
    obtain rfl:=hb hc
    repeat' (first
      |(with_reducible first|refine swp_seq ?_|refine swp_block ?_|refine swp_skip ?_|refine swp_ret ?_|refine swp_exit ?_|refine swp_label ?_|refine kseq_n ?_|refine kseq_x ?_|refine kseq_r ?_|refine kblk_n ?_|refine kblk_r ?_|refine kblk_xs ?_|refine kloop_x ?_|refine kloop_r ?_)
      |((with_reducible refine kblk_xn ?_ ?_);rfl)
      |((with_reducible refine swp_regionP ?_ ?_ (fun K' hK'=>?_));rfl;rfl;simp only [UN,LM,Nat.reduceBEq,Nat.reduceLeDiff,Int.reduceLE,Int.reduceLT,Int.reduceToNat,Nat.reduceAdd,Nat.reduceSub,Nat.reduceMul,reduceCtorEq,TAS,TBS,g1];(repeat (refine And.intro ?_ ?_; focus (clear hK'; intros; simp_all; done)));(try (refine hK' _ _ ?_; clear hK'; clear K')))
      |((with_reducible refine swp_cond ?_ ?_);rfl;refine ⟨_,rfl,fun h=>?_,fun h=>?_⟩ <;> (try (exfalso; exact absurd h (by decide)))))
    simp only [Kret,retL,retOne,oneV,UN,LM,Nat.reduceBEq,Nat.reduceLeDiff,Int.reduceLE,Int.reduceLT,Int.reduceToNat,Nat.reduceAdd,Nat.reduceSub,Nat.reduceMul,reduceCtorEq,TAS,TBS,Bool.not_false]
end Go.Proofs.YtnclmjbkkgghhaaDoor
