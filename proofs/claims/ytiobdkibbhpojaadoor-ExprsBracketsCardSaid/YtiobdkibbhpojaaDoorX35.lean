/- exprs' reader: one operand, signs and brackets; a symbolic walk. -/
-- TYPES3
import Derived.Test.YtiobdkibbhpojaaDoorX34
set_option linter.unusedVariables false
set_option linter.unusedSimpArgs false
namespace Go.Proofs.YtiobdkibbhpojaaDoor
open Go.RowKit Go.Sw
/-- An operator of one, ahead of what is read. -/
def opRd (n : ByteArray) : Rd → Rd
  | .ok x b => .ok (.mk 3 n 0 0 ⟨#[]⟩ [x]) b
  | .no e b => .no e b
abbrev negS : ByteArray := ⟨#[110, 101, 103]⟩


set_option maxHeartbeats 8000000 in
set_option maxRecDepth 100000 in
theorem one_not (s : ByteArray) (hs : s.size ≤ 2000) (a : Nat) (ha : a ≤ s.size) (n1 : ((wOf s a).toList == ByteArray.toList ⟨#[110, 111, 116]⟩) = true) (n2 : ((wOf s a).toList == ByteArray.toList ⟨#[45]⟩) = false) (hz : (wOf s a).size = 3) (hk2 : wAt s a + 3 ≤ s.size) (R : Rd) (hr : RdS s 125 [] (wAt s a + 3) R) :
    RdS s 125 [] a (opRd (wOf s a) R) := by
  have hwd := wd_fn s hs a ha
  have hle := (wAt_in s a ha).2
  generalize wOf s a = w at *
  generalize wAt s a = k at *
  unfold rBox at *
  have hwr : IntKind.i64.wrap ((k : Int) + (w.size : Int)) = ((k + 3 : Nat) : Int) := by rw [hz, wrap_in (by omega) (by omega)]; omega
  cases R with
  | ok x b =>
    obtain ⟨xk, xn, xt, xm, xs, xl⟩ := x
    simp only [RdS, opRd, Ex.d, Ex.ds, rBox] at hr ⊢
    refine sfn_of_swp (N := 119) Tryd.func125 rfl (by decide) rfl rfl (by simp) (fun C h0 => ?_)
    simp only [argS]
    repeat' (first
      |(with_reducible first|refine swp_seq ?_|refine swp_block ?_|refine swp_skip ?_|refine swp_ret ?_|refine swp_exit ?_|refine swp_label ?_|refine kseq_n ?_|refine kseq_x ?_|refine kseq_r ?_|refine kblk_n ?_|refine kblk_r ?_|refine kblk_xs ?_|refine kloop_x ?_|refine kloop_r ?_)
      |((with_reducible refine kblk_xn ?_ ?_);rfl)
      |((with_reducible refine swp_regionP ?_ ?_ (fun K' hK' => ?_));rfl;rfl;simp only [UN, LM, Nat.reduceBEq, Nat.reduceLeDiff, Int.reduceLE, Int.reduceLT, Int.reduceToNat, Nat.reduceAdd, Nat.reduceSub, Nat.reduceMul, reduceCtorEq, XTS, XT2S, XT3S];(repeat (refine And.intro ?_ ?_; focus (clear hK'; intros; simp_all; done)));(try (refine hK' _ _ ?_; clear hK'; clear K')))
      |((with_reducible refine swp_cond ?_ ?_);rfl;refine ⟨_, rfl, fun h => ?_, fun h => ?_⟩ <;> (try (exfalso; exact absurd h (by decide)))))
    refine stop_cS rfl (by simp only [UA, UN, LM, Nat.reduceBEq, Nat.reduceLeDiff, Int.reduceLE, Int.reduceLT, Int.reduceToNat, Nat.reduceAdd, Nat.reduceSub, Nat.reduceMul, reduceCtorEq]) (hwd) ?_
    simp only [UN, LM, Nat.reduceBEq, Nat.reduceLeDiff, Int.reduceLE, Int.reduceLT, Int.reduceToNat, Nat.reduceAdd, Nat.reduceSub, Nat.reduceMul, reduceCtorEq, XTS, XT2S, XT3S, UM, ]
    (try (refine hK' _ _ ?_; clear hK'; clear K'))
    repeat' (first
      |(with_reducible first|refine swp_seq ?_|refine swp_block ?_|refine swp_skip ?_|refine swp_ret ?_|refine swp_exit ?_|refine swp_label ?_|refine kseq_n ?_|refine kseq_x ?_|refine kseq_r ?_|refine kblk_n ?_|refine kblk_r ?_|refine kblk_xs ?_|refine kloop_x ?_|refine kloop_r ?_)
      |((with_reducible refine kblk_xn ?_ ?_);rfl)
      |((with_reducible refine swp_regionP ?_ ?_ (fun K' hK' => ?_));rfl;rfl;simp only [UN, LM, Nat.reduceBEq, Nat.reduceLeDiff, Int.reduceLE, Int.reduceLT, Int.reduceToNat, Nat.reduceAdd, Nat.reduceSub, Nat.reduceMul, reduceCtorEq, XTS, XT2S, XT3S, n1, n2, hwr, Bool.not_true, Bool.not_false, cond_true, cond_false];(repeat (refine And.intro ?_ ?_; focus (clear hK'; intros; simp_all; done)));(try (refine hK' _ _ ?_; clear hK'; clear K')))
      |((with_reducible refine swp_cond ?_ ?_);rfl;refine ⟨_, rfl, fun h => ?_, fun h => ?_⟩ <;> (try (exfalso; exact absurd h (by decide)))))
    refine stop_cS rfl (by simp only [UA, UN, LM, Nat.reduceBEq, Nat.reduceLeDiff, Int.reduceLE, Int.reduceLT, Int.reduceToNat, Nat.reduceAdd, Nat.reduceSub, Nat.reduceMul, reduceCtorEq]) (hr) ?_
    simp only [UN, LM, Nat.reduceBEq, Nat.reduceLeDiff, Int.reduceLE, Int.reduceLT, Int.reduceToNat, Nat.reduceAdd, Nat.reduceSub, Nat.reduceMul, reduceCtorEq, XTS, XT2S, XT3S, UM, ]
    (try (refine hK' _ _ ?_; clear hK'; clear K'))
    repeat' (first
      |(with_reducible first|refine swp_seq ?_|refine swp_block ?_|refine swp_skip ?_|refine swp_ret ?_|refine swp_exit ?_|refine swp_label ?_|refine kseq_n ?_|refine kseq_x ?_|refine kseq_r ?_|refine kblk_n ?_|refine kblk_r ?_|refine kblk_xs ?_|refine kloop_x ?_|refine kloop_r ?_)
      |((with_reducible refine kblk_xn ?_ ?_);rfl)
      |((with_reducible refine swp_regionP ?_ ?_ (fun K' hK' => ?_));rfl;rfl;simp only [UN, LM, Nat.reduceBEq, Nat.reduceLeDiff, Int.reduceLE, Int.reduceLT, Int.reduceToNat, Nat.reduceAdd, Nat.reduceSub, Nat.reduceMul, reduceCtorEq, XTS, XT2S, XT3S];(repeat (refine And.intro ?_ ?_; focus (clear hK'; intros; simp_all; done)));(try (refine hK' _ _ ?_; clear hK'; clear K')))
      |((with_reducible refine swp_cond ?_ ?_);rfl;refine ⟨_, rfl, fun h => ?_, fun h => ?_⟩ <;> (try (exfalso; exact absurd h (by decide)))))
    simp only [KretS, retL, retOne, oneV, US, UN, LM, Nat.reduceBEq, Nat.reduceLeDiff, Int.reduceLE, Int.reduceLT, Int.reduceToNat, Nat.reduceAdd, Nat.reduceSub, Nat.reduceMul, reduceCtorEq, XTS, XT2S, XT3S, h0]
  | no e b =>
    simp only [RdS, opRd, rBox] at hr ⊢
    refine xfn_of_swp (N := 119) Tryd.func125 rfl (by decide) rfl (by simp) (fun C h0 => ?_)
    simp only [argS]
    repeat' (first
      |(with_reducible first|refine swp_seq ?_|refine swp_block ?_|refine swp_skip ?_|refine swp_ret ?_|refine swp_exit ?_|refine swp_label ?_|refine kseq_n ?_|refine kseq_x ?_|refine kseq_r ?_|refine kblk_n ?_|refine kblk_r ?_|refine kblk_xs ?_|refine kloop_x ?_|refine kloop_r ?_)
      |((with_reducible refine kblk_xn ?_ ?_);rfl)
      |((with_reducible refine swp_regionP ?_ ?_ (fun K' hK' => ?_));rfl;rfl;simp only [UN, LM, Nat.reduceBEq, Nat.reduceLeDiff, Int.reduceLE, Int.reduceLT, Int.reduceToNat, Nat.reduceAdd, Nat.reduceSub, Nat.reduceMul, reduceCtorEq, XTS, XT2S, XT3S];(repeat (refine And.intro ?_ ?_; focus (clear hK'; intros; simp_all; done)));(try (refine hK' _ _ ?_; clear hK'; clear K')))
      |((with_reducible refine swp_cond ?_ ?_);rfl;refine ⟨_, rfl, fun h => ?_, fun h => ?_⟩ <;> (try (exfalso; exact absurd h (by decide)))))
    refine stop_cS rfl (by simp only [UA, UN, LM, Nat.reduceBEq, Nat.reduceLeDiff, Int.reduceLE, Int.reduceLT, Int.reduceToNat, Nat.reduceAdd, Nat.reduceSub, Nat.reduceMul, reduceCtorEq]) (hwd) ?_
    simp only [UN, LM, Nat.reduceBEq, Nat.reduceLeDiff, Int.reduceLE, Int.reduceLT, Int.reduceToNat, Nat.reduceAdd, Nat.reduceSub, Nat.reduceMul, reduceCtorEq, XTS, XT2S, XT3S, UM, ]
    (try (refine hK' _ _ ?_; clear hK'; clear K'))
    repeat' (first
      |(with_reducible first|refine swp_seq ?_|refine swp_block ?_|refine swp_skip ?_|refine swp_ret ?_|refine swp_exit ?_|refine swp_label ?_|refine kseq_n ?_|refine kseq_x ?_|refine kseq_r ?_|refine kblk_n ?_|refine kblk_r ?_|refine kblk_xs ?_|refine kloop_x ?_|refine kloop_r ?_)
      |((with_reducible refine kblk_xn ?_ ?_);rfl)
      |((with_reducible refine swp_regionX ?_ ?_ (fun K' hK' hP' => ?_));rfl;rfl;simp only [UN, LM, Nat.reduceBEq, Nat.reduceLeDiff, Int.reduceLE, Int.reduceLT, Int.reduceToNat, Nat.reduceAdd, Nat.reduceSub, Nat.reduceMul, reduceCtorEq, XTS, XT2S, XT3S, n1, n2, hwr, Bool.not_true, Bool.not_false, cond_true, cond_false];(repeat (refine And.intro ?_ ?_; focus (clear hK' hP'; intros; simp_all; done)));(try (refine hK' _ _ ?_; clear hK' hP'; clear K')))
      |((with_reducible refine swp_cond ?_ ?_);rfl;refine ⟨_, rfl, fun h => ?_, fun h => ?_⟩ <;> (try (exfalso; exact absurd h (by decide)))))
    refine stop_cX rfl (by simp only [UA, UN, LM, Nat.reduceBEq, Nat.reduceLeDiff, Int.reduceLE, Int.reduceLT, Int.reduceToNat, Nat.reduceAdd, Nat.reduceSub, Nat.reduceMul, reduceCtorEq]) (hr) ?_
    simp only [UM, UN, LM, Nat.reduceBEq, Nat.reduceLeDiff, Int.reduceLE, Int.reduceLT, Int.reduceToNat, Nat.reduceAdd, Nat.reduceSub, Nat.reduceMul, reduceCtorEq]
    refine hP' _ _ _ ?_
    repeat (first | refine kseq_p ?_ | refine kblk_p ?_ | refine kloop_p ?_)
    simp only [KpanS, US, UN, LM, Nat.reduceBEq, Nat.reduceLeDiff, Int.reduceLE, Int.reduceLT, Int.reduceToNat, Nat.reduceAdd, Nat.reduceSub, Nat.reduceMul, reduceCtorEq, XTS, XT2S, XT3S, h0]

set_option maxHeartbeats 8000000 in
set_option maxRecDepth 100000 in
theorem one_hash (s : ByteArray) (hs : s.size ≤ 2000) (a : Nat) (ha : a ≤ s.size) (n1 : ((wOf s a).toList == ByteArray.toList ⟨#[110, 111, 116]⟩) = false) (n2 : ((wOf s a).toList == ByteArray.toList ⟨#[35]⟩) = true) (n3 : ((wOf s a).toList == ByteArray.toList ⟨#[45]⟩) = false) (hz : (wOf s a).size = 1) (hk2 : wAt s a + 1 ≤ s.size) (R : Rd) (hr : RdS s 125 [] (wAt s a + 1) R) :
    RdS s 125 [] a (opRd (wOf s a) R) := by
  have hwd := wd_fn s hs a ha
  have hle := (wAt_in s a ha).2
  generalize wOf s a = w at *
  generalize wAt s a = k at *
  unfold rBox at *
  have hwr : IntKind.i64.wrap ((k : Int) + (w.size : Int)) = ((k + 1 : Nat) : Int) := by rw [hz, wrap_in (by omega) (by omega)]; omega
  cases R with
  | ok x b =>
    obtain ⟨xk, xn, xt, xm, xs, xl⟩ := x
    simp only [RdS, opRd, Ex.d, Ex.ds, rBox] at hr ⊢
    refine sfn_of_swp (N := 119) Tryd.func125 rfl (by decide) rfl rfl (by simp) (fun C h0 => ?_)
    simp only [argS]
    repeat' (first
      |(with_reducible first|refine swp_seq ?_|refine swp_block ?_|refine swp_skip ?_|refine swp_ret ?_|refine swp_exit ?_|refine swp_label ?_|refine kseq_n ?_|refine kseq_x ?_|refine kseq_r ?_|refine kblk_n ?_|refine kblk_r ?_|refine kblk_xs ?_|refine kloop_x ?_|refine kloop_r ?_)
      |((with_reducible refine kblk_xn ?_ ?_);rfl)
      |((with_reducible refine swp_regionP ?_ ?_ (fun K' hK' => ?_));rfl;rfl;simp only [UN, LM, Nat.reduceBEq, Nat.reduceLeDiff, Int.reduceLE, Int.reduceLT, Int.reduceToNat, Nat.reduceAdd, Nat.reduceSub, Nat.reduceMul, reduceCtorEq, XTS, XT2S, XT3S];(repeat (refine And.intro ?_ ?_; focus (clear hK'; intros; simp_all; done)));(try (refine hK' _ _ ?_; clear hK'; clear K')))
      |((with_reducible refine swp_cond ?_ ?_);rfl;refine ⟨_, rfl, fun h => ?_, fun h => ?_⟩ <;> (try (exfalso; exact absurd h (by decide)))))
    refine stop_cS rfl (by simp only [UA, UN, LM, Nat.reduceBEq, Nat.reduceLeDiff, Int.reduceLE, Int.reduceLT, Int.reduceToNat, Nat.reduceAdd, Nat.reduceSub, Nat.reduceMul, reduceCtorEq]) (hwd) ?_
    simp only [UN, LM, Nat.reduceBEq, Nat.reduceLeDiff, Int.reduceLE, Int.reduceLT, Int.reduceToNat, Nat.reduceAdd, Nat.reduceSub, Nat.reduceMul, reduceCtorEq, XTS, XT2S, XT3S, UM, ]
    (try (refine hK' _ _ ?_; clear hK'; clear K'))
    repeat' (first
      |(with_reducible first|refine swp_seq ?_|refine swp_block ?_|refine swp_skip ?_|refine swp_ret ?_|refine swp_exit ?_|refine swp_label ?_|refine kseq_n ?_|refine kseq_x ?_|refine kseq_r ?_|refine kblk_n ?_|refine kblk_r ?_|refine kblk_xs ?_|refine kloop_x ?_|refine kloop_r ?_)
      |((with_reducible refine kblk_xn ?_ ?_);rfl)
      |((with_reducible refine swp_regionP ?_ ?_ (fun K' hK' => ?_));rfl;rfl;simp only [UN, LM, Nat.reduceBEq, Nat.reduceLeDiff, Int.reduceLE, Int.reduceLT, Int.reduceToNat, Nat.reduceAdd, Nat.reduceSub, Nat.reduceMul, reduceCtorEq, XTS, XT2S, XT3S, n1, n2, n3, hwr, Bool.not_true, Bool.not_false, cond_true, cond_false];(repeat (refine And.intro ?_ ?_; focus (clear hK'; intros; simp_all; done)));(try (refine hK' _ _ ?_; clear hK'; clear K')))
      |((with_reducible refine swp_cond ?_ ?_);rfl;refine ⟨_, rfl, fun h => ?_, fun h => ?_⟩ <;> (try (exfalso; exact absurd h (by decide)))))
    refine stop_cS rfl (by simp only [UA, UN, LM, Nat.reduceBEq, Nat.reduceLeDiff, Int.reduceLE, Int.reduceLT, Int.reduceToNat, Nat.reduceAdd, Nat.reduceSub, Nat.reduceMul, reduceCtorEq]) (hr) ?_
    simp only [UN, LM, Nat.reduceBEq, Nat.reduceLeDiff, Int.reduceLE, Int.reduceLT, Int.reduceToNat, Nat.reduceAdd, Nat.reduceSub, Nat.reduceMul, reduceCtorEq, XTS, XT2S, XT3S, UM, ]
    (try (refine hK' _ _ ?_; clear hK'; clear K'))
    repeat' (first
      |(with_reducible first|refine swp_seq ?_|refine swp_block ?_|refine swp_skip ?_|refine swp_ret ?_|refine swp_exit ?_|refine swp_label ?_|refine kseq_n ?_|refine kseq_x ?_|refine kseq_r ?_|refine kblk_n ?_|refine kblk_r ?_|refine kblk_xs ?_|refine kloop_x ?_|refine kloop_r ?_)
      |((with_reducible refine kblk_xn ?_ ?_);rfl)
      |((with_reducible refine swp_regionP ?_ ?_ (fun K' hK' => ?_));rfl;rfl;simp only [UN, LM, Nat.reduceBEq, Nat.reduceLeDiff, Int.reduceLE, Int.reduceLT, Int.reduceToNat, Nat.reduceAdd, Nat.reduceSub, Nat.reduceMul, reduceCtorEq, XTS, XT2S, XT3S];(repeat (refine And.intro ?_ ?_; focus (clear hK'; intros; simp_all; done)));(try (refine hK' _ _ ?_; clear hK'; clear K')))
      |((with_reducible refine swp_cond ?_ ?_);rfl;refine ⟨_, rfl, fun h => ?_, fun h => ?_⟩ <;> (try (exfalso; exact absurd h (by decide)))))
    simp only [KretS, retL, retOne, oneV, US, UN, LM, Nat.reduceBEq, Nat.reduceLeDiff, Int.reduceLE, Int.reduceLT, Int.reduceToNat, Nat.reduceAdd, Nat.reduceSub, Nat.reduceMul, reduceCtorEq, XTS, XT2S, XT3S, h0]
  | no e b =>
    simp only [RdS, opRd, rBox] at hr ⊢
    refine xfn_of_swp (N := 119) Tryd.func125 rfl (by decide) rfl (by simp) (fun C h0 => ?_)
    simp only [argS]
    repeat' (first
      |(with_reducible first|refine swp_seq ?_|refine swp_block ?_|refine swp_skip ?_|refine swp_ret ?_|refine swp_exit ?_|refine swp_label ?_|refine kseq_n ?_|refine kseq_x ?_|refine kseq_r ?_|refine kblk_n ?_|refine kblk_r ?_|refine kblk_xs ?_|refine kloop_x ?_|refine kloop_r ?_)
      |((with_reducible refine kblk_xn ?_ ?_);rfl)
      |((with_reducible refine swp_regionP ?_ ?_ (fun K' hK' => ?_));rfl;rfl;simp only [UN, LM, Nat.reduceBEq, Nat.reduceLeDiff, Int.reduceLE, Int.reduceLT, Int.reduceToNat, Nat.reduceAdd, Nat.reduceSub, Nat.reduceMul, reduceCtorEq, XTS, XT2S, XT3S];(repeat (refine And.intro ?_ ?_; focus (clear hK'; intros; simp_all; done)));(try (refine hK' _ _ ?_; clear hK'; clear K')))
      |((with_reducible refine swp_cond ?_ ?_);rfl;refine ⟨_, rfl, fun h => ?_, fun h => ?_⟩ <;> (try (exfalso; exact absurd h (by decide)))))
    refine stop_cS rfl (by simp only [UA, UN, LM, Nat.reduceBEq, Nat.reduceLeDiff, Int.reduceLE, Int.reduceLT, Int.reduceToNat, Nat.reduceAdd, Nat.reduceSub, Nat.reduceMul, reduceCtorEq]) (hwd) ?_
    simp only [UN, LM, Nat.reduceBEq, Nat.reduceLeDiff, Int.reduceLE, Int.reduceLT, Int.reduceToNat, Nat.reduceAdd, Nat.reduceSub, Nat.reduceMul, reduceCtorEq, XTS, XT2S, XT3S, UM, ]
    (try (refine hK' _ _ ?_; clear hK'; clear K'))
    repeat' (first
      |(with_reducible first|refine swp_seq ?_|refine swp_block ?_|refine swp_skip ?_|refine swp_ret ?_|refine swp_exit ?_|refine swp_label ?_|refine kseq_n ?_|refine kseq_x ?_|refine kseq_r ?_|refine kblk_n ?_|refine kblk_r ?_|refine kblk_xs ?_|refine kloop_x ?_|refine kloop_r ?_)
      |((with_reducible refine kblk_xn ?_ ?_);rfl)
      |((with_reducible refine swp_regionX ?_ ?_ (fun K' hK' hP' => ?_));rfl;rfl;simp only [UN, LM, Nat.reduceBEq, Nat.reduceLeDiff, Int.reduceLE, Int.reduceLT, Int.reduceToNat, Nat.reduceAdd, Nat.reduceSub, Nat.reduceMul, reduceCtorEq, XTS, XT2S, XT3S, n1, n2, n3, hwr, Bool.not_true, Bool.not_false, cond_true, cond_false];(repeat (refine And.intro ?_ ?_; focus (clear hK' hP'; intros; simp_all; done)));(try (refine hK' _ _ ?_; clear hK' hP'; clear K')))
      |((with_reducible refine swp_cond ?_ ?_);rfl;refine ⟨_, rfl, fun h => ?_, fun h => ?_⟩ <;> (try (exfalso; exact absurd h (by decide)))))
    refine stop_cX rfl (by simp only [UA, UN, LM, Nat.reduceBEq, Nat.reduceLeDiff, Int.reduceLE, Int.reduceLT, Int.reduceToNat, Nat.reduceAdd, Nat.reduceSub, Nat.reduceMul, reduceCtorEq]) (hr) ?_
    simp only [UM, UN, LM, Nat.reduceBEq, Nat.reduceLeDiff, Int.reduceLE, Int.reduceLT, Int.reduceToNat, Nat.reduceAdd, Nat.reduceSub, Nat.reduceMul, reduceCtorEq]
    refine hP' _ _ _ ?_
    repeat (first | refine kseq_p ?_ | refine kblk_p ?_ | refine kloop_p ?_)
    simp only [KpanS, US, UN, LM, Nat.reduceBEq, Nat.reduceLeDiff, Int.reduceLE, Int.reduceLT, Int.reduceToNat, Nat.reduceAdd, Nat.reduceSub, Nat.reduceMul, reduceCtorEq, XTS, XT2S, XT3S, h0]

set_option maxHeartbeats 8000000 in
set_option maxRecDepth 100000 in
theorem one_num (s : ByteArray) (hs : s.size ≤ 2000) (a : Nat) (ha : a ≤ s.size) (n1 : ((wOf s a).toList == ByteArray.toList ⟨#[110, 111, 116]⟩) = false) (n2 : ((wOf s a).toList == ByteArray.toList ⟨#[35]⟩) = false) (n3 : ((wOf s a).toList == ByteArray.toList ⟨#[45]⟩) = true) (hz : (wOf s a).size = 1) (hk2 : wAt s a + 1 ≤ s.size) (hlt : wAt s a + 1 < s.size) (dg : digB (atS s (wAt s a + 1)) = true) :
    RdS s 125 [] a (litRd s (wAt s a)) := by
  have hwd := wd_fn s hs a ha
  have hle := (wAt_in s a ha).2
  have hr := lit_rd s hs (wAt s a) hle
  generalize litRd s (wAt s a) = R at hr ⊢
  generalize wOf s a = w at *
  generalize wAt s a = k at *
  unfold rBox at *
  have hwr : IntKind.i64.wrap ((k : Int) + (w.size : Int)) = ((k + 1 : Nat) : Int) := by rw [hz, wrap_in (by omega) (by omega)]; omega
  have hb0 : (0 : Int) ≤ ((k + 1 : Nat) : Int) := by omega
  have hb1 : ((k + 1 : Nat) : Int) < (s.size : Int) := by omega
  have hwm : IntKind.i64.wrap (((k + 1 : Nat) : Int) - 1) = (k : Int) := by rw [wrap_in (by omega) (by omega)]; omega
  have hdg := digit_fn (s.data.toList.getD (k + 1) 0).toNat
  rw [show digB (s.data.toList.getD (k + 1) 0).toNat = true from dg] at hdg
  cases R with
  | ok x b =>
    obtain ⟨xk, xn, xt, xm, xs, xl⟩ := x
    simp only [RdS, opRd, Ex.d, Ex.ds, rBox] at hr ⊢
    refine sfn_of_swp (N := 119) Tryd.func125 rfl (by decide) rfl rfl (by simp) (fun C h0 => ?_)
    simp only [argS]
    repeat' (first
      |(with_reducible first|refine swp_seq ?_|refine swp_block ?_|refine swp_skip ?_|refine swp_ret ?_|refine swp_exit ?_|refine swp_label ?_|refine kseq_n ?_|refine kseq_x ?_|refine kseq_r ?_|refine kblk_n ?_|refine kblk_r ?_|refine kblk_xs ?_|refine kloop_x ?_|refine kloop_r ?_)
      |((with_reducible refine kblk_xn ?_ ?_);rfl)
      |((with_reducible refine swp_regionP ?_ ?_ (fun K' hK' => ?_));rfl;rfl;simp only [UN, LM, Nat.reduceBEq, Nat.reduceLeDiff, Int.reduceLE, Int.reduceLT, Int.reduceToNat, Nat.reduceAdd, Nat.reduceSub, Nat.reduceMul, reduceCtorEq, XTS, XT2S, XT3S];(repeat (refine And.intro ?_ ?_; focus (clear hK'; intros; simp_all; done)));(try (refine hK' _ _ ?_; clear hK'; clear K')))
      |((with_reducible refine swp_cond ?_ ?_);rfl;refine ⟨_, rfl, fun h => ?_, fun h => ?_⟩ <;> (try (exfalso; exact absurd h (by decide)))))
    refine stop_cS rfl (by simp only [UA, UN, LM, Nat.reduceBEq, Nat.reduceLeDiff, Int.reduceLE, Int.reduceLT, Int.reduceToNat, Nat.reduceAdd, Nat.reduceSub, Nat.reduceMul, reduceCtorEq]) (hwd) ?_
    simp only [UN, LM, Nat.reduceBEq, Nat.reduceLeDiff, Int.reduceLE, Int.reduceLT, Int.reduceToNat, Nat.reduceAdd, Nat.reduceSub, Nat.reduceMul, reduceCtorEq, XTS, XT2S, XT3S, UM, ]
    (try (refine hK' _ _ ?_; clear hK'; clear K'))
    repeat' (first
      |(with_reducible first|refine swp_seq ?_|refine swp_block ?_|refine swp_skip ?_|refine swp_ret ?_|refine swp_exit ?_|refine swp_label ?_|refine kseq_n ?_|refine kseq_x ?_|refine kseq_r ?_|refine kblk_n ?_|refine kblk_r ?_|refine kblk_xs ?_|refine kloop_x ?_|refine kloop_r ?_)
      |((with_reducible refine kblk_xn ?_ ?_);rfl)
      |((with_reducible refine swp_regionP ?_ ?_ (fun K' hK' => ?_));rfl;rfl;simp only [UN, LM, Nat.reduceBEq, Nat.reduceLeDiff, Int.reduceLE, Int.reduceLT, Int.reduceToNat, Nat.reduceAdd, Nat.reduceSub, Nat.reduceMul, reduceCtorEq, XTS, XT2S, XT3S, n1, n2, n3, hwr, Bool.not_true, Bool.not_false, cond_true, cond_false];(repeat (refine And.intro ?_ ?_; focus (clear hK'; intros; simp_all; done)));(try (refine hK' _ _ ?_; clear hK'; clear K')))
      |((with_reducible refine swp_cond ?_ ?_);rfl;refine ⟨_, rfl, fun h => ?_, fun h => ?_⟩ <;> (try (exfalso; exact absurd h (by decide)))))
    (with_reducible refine swp_draw ?_ ?_ ?_ ( [(20, .v (.bool true))]) (fun K' hK' => ?_)
     · kernel_rfl
     · rfl
     · rfl
     simp only [UN, LM, Nat.reduceBEq, Nat.reduceLeDiff, Int.reduceLE, Int.reduceLT, Int.reduceToNat, Nat.reduceAdd, Nat.reduceSub, Nat.reduceMul, reduceCtorEq, XTS, XT2S, XT3S, vcA, stepA, callA, rst, lksA, Oper.looksAt, Op.operands, pureOp, Call.operands, List.filterMap_cons, List.filterMap_nil, Option.toList_none, Option.toList_some, Option.bind_some, Option.bind_none, List.getElem?_toArray, Array.toList_append, List.append_nil, D.flat, D.flats, true_or, or_true, forall_const, hb0, hb1, Int.toNat_natCast ]
     (try (refine hK' _ _ ?_; clear hK'; clear K')))
    refine ⟨hdg, hK' _ _ ?_⟩
    clear hK' K'
    repeat' (first
      |(with_reducible first|refine swp_seq ?_|refine swp_block ?_|refine swp_skip ?_|refine swp_ret ?_|refine swp_exit ?_|refine swp_label ?_|refine kseq_n ?_|refine kseq_x ?_|refine kseq_r ?_|refine kblk_n ?_|refine kblk_r ?_|refine kblk_xs ?_|refine kloop_x ?_|refine kloop_r ?_)
      |((with_reducible refine kblk_xn ?_ ?_);rfl)
      |((with_reducible refine swp_regionP ?_ ?_ (fun K' hK' => ?_));rfl;rfl;simp only [UN, LM, Nat.reduceBEq, Nat.reduceLeDiff, Int.reduceLE, Int.reduceLT, Int.reduceToNat, Nat.reduceAdd, Nat.reduceSub, Nat.reduceMul, reduceCtorEq, XTS, XT2S, XT3S, hwm];(repeat (refine And.intro ?_ ?_; focus (clear hK'; intros; simp_all; done)));(try (refine hK' _ _ ?_; clear hK'; clear K')))
      |((with_reducible refine swp_cond ?_ ?_);rfl;refine ⟨_, rfl, fun h => ?_, fun h => ?_⟩ <;> (try (exfalso; exact absurd h (by decide)))))
    refine stop_cS rfl (by simp only [UA, UN, LM, Nat.reduceBEq, Nat.reduceLeDiff, Int.reduceLE, Int.reduceLT, Int.reduceToNat, Nat.reduceAdd, Nat.reduceSub, Nat.reduceMul, reduceCtorEq]) (hr) ?_
    simp only [UN, LM, Nat.reduceBEq, Nat.reduceLeDiff, Int.reduceLE, Int.reduceLT, Int.reduceToNat, Nat.reduceAdd, Nat.reduceSub, Nat.reduceMul, reduceCtorEq, XTS, XT2S, XT3S, UM, ]
    (try (refine hK' _ _ ?_; clear hK'; clear K'))
    repeat' (first
      |(with_reducible first|refine swp_seq ?_|refine swp_block ?_|refine swp_skip ?_|refine swp_ret ?_|refine swp_exit ?_|refine swp_label ?_|refine kseq_n ?_|refine kseq_x ?_|refine kseq_r ?_|refine kblk_n ?_|refine kblk_r ?_|refine kblk_xs ?_|refine kloop_x ?_|refine kloop_r ?_)
      |((with_reducible refine kblk_xn ?_ ?_);rfl)
      |((with_reducible refine swp_regionP ?_ ?_ (fun K' hK' => ?_));rfl;rfl;simp only [UN, LM, Nat.reduceBEq, Nat.reduceLeDiff, Int.reduceLE, Int.reduceLT, Int.reduceToNat, Nat.reduceAdd, Nat.reduceSub, Nat.reduceMul, reduceCtorEq, XTS, XT2S, XT3S];(repeat (refine And.intro ?_ ?_; focus (clear hK'; intros; simp_all; done)));(try (refine hK' _ _ ?_; clear hK'; clear K')))
      |((with_reducible refine swp_cond ?_ ?_);rfl;refine ⟨_, rfl, fun h => ?_, fun h => ?_⟩ <;> (try (exfalso; exact absurd h (by decide)))))
    simp only [KretS, retL, retOne, oneV, US, UN, LM, Nat.reduceBEq, Nat.reduceLeDiff, Int.reduceLE, Int.reduceLT, Int.reduceToNat, Nat.reduceAdd, Nat.reduceSub, Nat.reduceMul, reduceCtorEq, XTS, XT2S, XT3S, h0]
  | no e b =>
    simp only [RdS, opRd, rBox] at hr ⊢
    refine xfn_of_swp (N := 119) Tryd.func125 rfl (by decide) rfl (by simp) (fun C h0 => ?_)
    simp only [argS]
    repeat' (first
      |(with_reducible first|refine swp_seq ?_|refine swp_block ?_|refine swp_skip ?_|refine swp_ret ?_|refine swp_exit ?_|refine swp_label ?_|refine kseq_n ?_|refine kseq_x ?_|refine kseq_r ?_|refine kblk_n ?_|refine kblk_r ?_|refine kblk_xs ?_|refine kloop_x ?_|refine kloop_r ?_)
      |((with_reducible refine kblk_xn ?_ ?_);rfl)
      |((with_reducible refine swp_regionP ?_ ?_ (fun K' hK' => ?_));rfl;rfl;simp only [UN, LM, Nat.reduceBEq, Nat.reduceLeDiff, Int.reduceLE, Int.reduceLT, Int.reduceToNat, Nat.reduceAdd, Nat.reduceSub, Nat.reduceMul, reduceCtorEq, XTS, XT2S, XT3S];(repeat (refine And.intro ?_ ?_; focus (clear hK'; intros; simp_all; done)));(try (refine hK' _ _ ?_; clear hK'; clear K')))
      |((with_reducible refine swp_cond ?_ ?_);rfl;refine ⟨_, rfl, fun h => ?_, fun h => ?_⟩ <;> (try (exfalso; exact absurd h (by decide)))))
    refine stop_cS rfl (by simp only [UA, UN, LM, Nat.reduceBEq, Nat.reduceLeDiff, Int.reduceLE, Int.reduceLT, Int.reduceToNat, Nat.reduceAdd, Nat.reduceSub, Nat.reduceMul, reduceCtorEq]) (hwd) ?_
    simp only [UN, LM, Nat.reduceBEq, Nat.reduceLeDiff, Int.reduceLE, Int.reduceLT, Int.reduceToNat, Nat.reduceAdd, Nat.reduceSub, Nat.reduceMul, reduceCtorEq, XTS, XT2S, XT3S, UM, ]
    (try (refine hK' _ _ ?_; clear hK'; clear K'))
    repeat' (first
      |(with_reducible first|refine swp_seq ?_|refine swp_block ?_|refine swp_skip ?_|refine swp_ret ?_|refine swp_exit ?_|refine swp_label ?_|refine kseq_n ?_|refine kseq_x ?_|refine kseq_r ?_|refine kblk_n ?_|refine kblk_r ?_|refine kblk_xs ?_|refine kloop_x ?_|refine kloop_r ?_)
      |((with_reducible refine kblk_xn ?_ ?_);rfl)
      |((with_reducible refine swp_regionP ?_ ?_ (fun K' hK' => ?_));rfl;rfl;simp only [UN, LM, Nat.reduceBEq, Nat.reduceLeDiff, Int.reduceLE, Int.reduceLT, Int.reduceToNat, Nat.reduceAdd, Nat.reduceSub, Nat.reduceMul, reduceCtorEq, XTS, XT2S, XT3S, n1, n2, n3, hwr, Bool.not_true, Bool.not_false, cond_true, cond_false];(repeat (refine And.intro ?_ ?_; focus (clear hK'; intros; simp_all; done)));(try (refine hK' _ _ ?_; clear hK'; clear K')))
      |((with_reducible refine swp_cond ?_ ?_);rfl;refine ⟨_, rfl, fun h => ?_, fun h => ?_⟩ <;> (try (exfalso; exact absurd h (by decide)))))
    (with_reducible refine swp_draw ?_ ?_ ?_ ( [(20, .v (.bool true))]) (fun K' hK' => ?_)
     · kernel_rfl
     · rfl
     · rfl
     simp only [UN, LM, Nat.reduceBEq, Nat.reduceLeDiff, Int.reduceLE, Int.reduceLT, Int.reduceToNat, Nat.reduceAdd, Nat.reduceSub, Nat.reduceMul, reduceCtorEq, XTS, XT2S, XT3S, vcA, stepA, callA, rst, lksA, Oper.looksAt, Op.operands, pureOp, Call.operands, List.filterMap_cons, List.filterMap_nil, Option.toList_none, Option.toList_some, Option.bind_some, Option.bind_none, List.getElem?_toArray, Array.toList_append, List.append_nil, D.flat, D.flats, true_or, or_true, forall_const, hb0, hb1, Int.toNat_natCast ]
     (try (refine hK' _ _ ?_; clear hK'; clear K')))
    refine ⟨hdg, hK' _ _ ?_⟩
    clear hK' K'
    repeat' (first
      |(with_reducible first|refine swp_seq ?_|refine swp_block ?_|refine swp_skip ?_|refine swp_ret ?_|refine swp_exit ?_|refine swp_label ?_|refine kseq_n ?_|refine kseq_x ?_|refine kseq_r ?_|refine kblk_n ?_|refine kblk_r ?_|refine kblk_xs ?_|refine kloop_x ?_|refine kloop_r ?_)
      |((with_reducible refine kblk_xn ?_ ?_);rfl)
      |((with_reducible refine swp_regionX ?_ ?_ (fun K' hK' hP' => ?_));rfl;rfl;simp only [UN, LM, Nat.reduceBEq, Nat.reduceLeDiff, Int.reduceLE, Int.reduceLT, Int.reduceToNat, Nat.reduceAdd, Nat.reduceSub, Nat.reduceMul, reduceCtorEq, XTS, XT2S, XT3S, hwm];(repeat (refine And.intro ?_ ?_; focus (clear hK' hP'; intros; simp_all; done)));(try (refine hK' _ _ ?_; clear hK' hP'; clear K')))
      |((with_reducible refine swp_cond ?_ ?_);rfl;refine ⟨_, rfl, fun h => ?_, fun h => ?_⟩ <;> (try (exfalso; exact absurd h (by decide)))))
    refine stop_cX rfl (by simp only [UA, UN, LM, Nat.reduceBEq, Nat.reduceLeDiff, Int.reduceLE, Int.reduceLT, Int.reduceToNat, Nat.reduceAdd, Nat.reduceSub, Nat.reduceMul, reduceCtorEq]) (hr) ?_
    simp only [UM, UN, LM, Nat.reduceBEq, Nat.reduceLeDiff, Int.reduceLE, Int.reduceLT, Int.reduceToNat, Nat.reduceAdd, Nat.reduceSub, Nat.reduceMul, reduceCtorEq]
    refine hP' _ _ _ ?_
    repeat (first | refine kseq_p ?_ | refine kblk_p ?_ | refine kloop_p ?_)
    simp only [KpanS, US, UN, LM, Nat.reduceBEq, Nat.reduceLeDiff, Int.reduceLE, Int.reduceLT, Int.reduceToNat, Nat.reduceAdd, Nat.reduceSub, Nat.reduceMul, reduceCtorEq, XTS, XT2S, XT3S, h0]

set_option maxHeartbeats 8000000 in
set_option maxRecDepth 100000 in
theorem one_neg_a (s : ByteArray) (hs : s.size ≤ 2000) (a : Nat) (ha : a ≤ s.size) (n1 : ((wOf s a).toList == ByteArray.toList ⟨#[110, 111, 116]⟩) = false) (n2 : ((wOf s a).toList == ByteArray.toList ⟨#[35]⟩) = false) (n3 : ((wOf s a).toList == ByteArray.toList ⟨#[45]⟩) = true) (hz : (wOf s a).size = 1) (hk2 : wAt s a + 1 ≤ s.size) (hlt : wAt s a + 1 < s.size) (dg : digB (atS s (wAt s a + 1)) = false) (R : Rd) (hr : RdS s 125 [] (wAt s a + 1) R) :
    RdS s 125 [] a (opRd negS R) := by
  have hwd := wd_fn s hs a ha
  have hle := (wAt_in s a ha).2
  generalize wOf s a = w at *
  generalize wAt s a = k at *
  unfold rBox at *
  have hwr : IntKind.i64.wrap ((k : Int) + (w.size : Int)) = ((k + 1 : Nat) : Int) := by rw [hz, wrap_in (by omega) (by omega)]; omega
  have hb0 : (0 : Int) ≤ ((k + 1 : Nat) : Int) := by omega
  have hb1 : ((k + 1 : Nat) : Int) < (s.size : Int) := by omega
  have hdg := digit_fn (s.data.toList.getD (k + 1) 0).toNat
  rw [show digB (s.data.toList.getD (k + 1) 0).toNat = false from dg] at hdg
  cases R with
  | ok x b =>
    obtain ⟨xk, xn, xt, xm, xs, xl⟩ := x
    simp only [RdS, opRd, Ex.d, Ex.ds, rBox] at hr ⊢
    refine sfn_of_swp (N := 119) Tryd.func125 rfl (by decide) rfl rfl (by simp) (fun C h0 => ?_)
    simp only [argS]
    repeat' (first
      |(with_reducible first|refine swp_seq ?_|refine swp_block ?_|refine swp_skip ?_|refine swp_ret ?_|refine swp_exit ?_|refine swp_label ?_|refine kseq_n ?_|refine kseq_x ?_|refine kseq_r ?_|refine kblk_n ?_|refine kblk_r ?_|refine kblk_xs ?_|refine kloop_x ?_|refine kloop_r ?_)
      |((with_reducible refine kblk_xn ?_ ?_);rfl)
      |((with_reducible refine swp_regionP ?_ ?_ (fun K' hK' => ?_));rfl;rfl;simp only [UN, LM, Nat.reduceBEq, Nat.reduceLeDiff, Int.reduceLE, Int.reduceLT, Int.reduceToNat, Nat.reduceAdd, Nat.reduceSub, Nat.reduceMul, reduceCtorEq, XTS, XT2S, XT3S];(repeat (refine And.intro ?_ ?_; focus (clear hK'; intros; simp_all; done)));(try (refine hK' _ _ ?_; clear hK'; clear K')))
      |((with_reducible refine swp_cond ?_ ?_);rfl;refine ⟨_, rfl, fun h => ?_, fun h => ?_⟩ <;> (try (exfalso; exact absurd h (by decide)))))
    refine stop_cS rfl (by simp only [UA, UN, LM, Nat.reduceBEq, Nat.reduceLeDiff, Int.reduceLE, Int.reduceLT, Int.reduceToNat, Nat.reduceAdd, Nat.reduceSub, Nat.reduceMul, reduceCtorEq]) (hwd) ?_
    simp only [UN, LM, Nat.reduceBEq, Nat.reduceLeDiff, Int.reduceLE, Int.reduceLT, Int.reduceToNat, Nat.reduceAdd, Nat.reduceSub, Nat.reduceMul, reduceCtorEq, XTS, XT2S, XT3S, UM, ]
    (try (refine hK' _ _ ?_; clear hK'; clear K'))
    repeat' (first
      |(with_reducible first|refine swp_seq ?_|refine swp_block ?_|refine swp_skip ?_|refine swp_ret ?_|refine swp_exit ?_|refine swp_label ?_|refine kseq_n ?_|refine kseq_x ?_|refine kseq_r ?_|refine kblk_n ?_|refine kblk_r ?_|refine kblk_xs ?_|refine kloop_x ?_|refine kloop_r ?_)
      |((with_reducible refine kblk_xn ?_ ?_);rfl)
      |((with_reducible refine swp_regionP ?_ ?_ (fun K' hK' => ?_));rfl;rfl;simp only [UN, LM, Nat.reduceBEq, Nat.reduceLeDiff, Int.reduceLE, Int.reduceLT, Int.reduceToNat, Nat.reduceAdd, Nat.reduceSub, Nat.reduceMul, reduceCtorEq, XTS, XT2S, XT3S, n1, n2, n3, hwr, Bool.not_true, Bool.not_false, cond_true, cond_false];(repeat (refine And.intro ?_ ?_; focus (clear hK'; intros; simp_all; done)));(try (refine hK' _ _ ?_; clear hK'; clear K')))
      |((with_reducible refine swp_cond ?_ ?_);rfl;refine ⟨_, rfl, fun h => ?_, fun h => ?_⟩ <;> (try (exfalso; exact absurd h (by decide)))))
    (with_reducible refine swp_draw ?_ ?_ ?_ ( [(20, .v (.bool false))]) (fun K' hK' => ?_)
     · kernel_rfl
     · rfl
     · rfl
     simp only [UN, LM, Nat.reduceBEq, Nat.reduceLeDiff, Int.reduceLE, Int.reduceLT, Int.reduceToNat, Nat.reduceAdd, Nat.reduceSub, Nat.reduceMul, reduceCtorEq, XTS, XT2S, XT3S, vcA, stepA, callA, rst, lksA, Oper.looksAt, Op.operands, pureOp, Call.operands, List.filterMap_cons, List.filterMap_nil, Option.toList_none, Option.toList_some, Option.bind_some, Option.bind_none, List.getElem?_toArray, Array.toList_append, List.append_nil, D.flat, D.flats, true_or, or_true, forall_const, hb0, hb1, Int.toNat_natCast ]
     (try (refine hK' _ _ ?_; clear hK'; clear K')))
    refine ⟨hdg, hK' _ _ ?_⟩
    clear hK' K'
    repeat' (first
      |(with_reducible first|refine swp_seq ?_|refine swp_block ?_|refine swp_skip ?_|refine swp_ret ?_|refine swp_exit ?_|refine swp_label ?_|refine kseq_n ?_|refine kseq_x ?_|refine kseq_r ?_|refine kblk_n ?_|refine kblk_r ?_|refine kblk_xs ?_|refine kloop_x ?_|refine kloop_r ?_)
      |((with_reducible refine kblk_xn ?_ ?_);rfl)
      |((with_reducible refine swp_regionP ?_ ?_ (fun K' hK' => ?_));rfl;rfl;simp only [UN, LM, Nat.reduceBEq, Nat.reduceLeDiff, Int.reduceLE, Int.reduceLT, Int.reduceToNat, Nat.reduceAdd, Nat.reduceSub, Nat.reduceMul, reduceCtorEq, XTS, XT2S, XT3S];(repeat (refine And.intro ?_ ?_; focus (clear hK'; intros; simp_all; done)));(try (refine hK' _ _ ?_; clear hK'; clear K')))
      |((with_reducible refine swp_cond ?_ ?_);rfl;refine ⟨_, rfl, fun h => ?_, fun h => ?_⟩ <;> (try (exfalso; exact absurd h (by decide)))))
    refine stop_cS rfl (by simp only [UA, UN, LM, Nat.reduceBEq, Nat.reduceLeDiff, Int.reduceLE, Int.reduceLT, Int.reduceToNat, Nat.reduceAdd, Nat.reduceSub, Nat.reduceMul, reduceCtorEq]) (hr) ?_
    simp only [UN, LM, Nat.reduceBEq, Nat.reduceLeDiff, Int.reduceLE, Int.reduceLT, Int.reduceToNat, Nat.reduceAdd, Nat.reduceSub, Nat.reduceMul, reduceCtorEq, XTS, XT2S, XT3S, UM, ]
    (try (refine hK' _ _ ?_; clear hK'; clear K'))
    repeat' (first
      |(with_reducible first|refine swp_seq ?_|refine swp_block ?_|refine swp_skip ?_|refine swp_ret ?_|refine swp_exit ?_|refine swp_label ?_|refine kseq_n ?_|refine kseq_x ?_|refine kseq_r ?_|refine kblk_n ?_|refine kblk_r ?_|refine kblk_xs ?_|refine kloop_x ?_|refine kloop_r ?_)
      |((with_reducible refine kblk_xn ?_ ?_);rfl)
      |((with_reducible refine swp_regionP ?_ ?_ (fun K' hK' => ?_));rfl;rfl;simp only [UN, LM, Nat.reduceBEq, Nat.reduceLeDiff, Int.reduceLE, Int.reduceLT, Int.reduceToNat, Nat.reduceAdd, Nat.reduceSub, Nat.reduceMul, reduceCtorEq, XTS, XT2S, XT3S];(repeat (refine And.intro ?_ ?_; focus (clear hK'; intros; simp_all; done)));(try (refine hK' _ _ ?_; clear hK'; clear K')))
      |((with_reducible refine swp_cond ?_ ?_);rfl;refine ⟨_, rfl, fun h => ?_, fun h => ?_⟩ <;> (try (exfalso; exact absurd h (by decide)))))
    simp only [KretS, retL, retOne, oneV, US, UN, LM, Nat.reduceBEq, Nat.reduceLeDiff, Int.reduceLE, Int.reduceLT, Int.reduceToNat, Nat.reduceAdd, Nat.reduceSub, Nat.reduceMul, reduceCtorEq, XTS, XT2S, XT3S, h0]
  | no e b =>
    simp only [RdS, opRd, rBox] at hr ⊢
    refine xfn_of_swp (N := 119) Tryd.func125 rfl (by decide) rfl (by simp) (fun C h0 => ?_)
    simp only [argS]
    repeat' (first
      |(with_reducible first|refine swp_seq ?_|refine swp_block ?_|refine swp_skip ?_|refine swp_ret ?_|refine swp_exit ?_|refine swp_label ?_|refine kseq_n ?_|refine kseq_x ?_|refine kseq_r ?_|refine kblk_n ?_|refine kblk_r ?_|refine kblk_xs ?_|refine kloop_x ?_|refine kloop_r ?_)
      |((with_reducible refine kblk_xn ?_ ?_);rfl)
      |((with_reducible refine swp_regionP ?_ ?_ (fun K' hK' => ?_));rfl;rfl;simp only [UN, LM, Nat.reduceBEq, Nat.reduceLeDiff, Int.reduceLE, Int.reduceLT, Int.reduceToNat, Nat.reduceAdd, Nat.reduceSub, Nat.reduceMul, reduceCtorEq, XTS, XT2S, XT3S];(repeat (refine And.intro ?_ ?_; focus (clear hK'; intros; simp_all; done)));(try (refine hK' _ _ ?_; clear hK'; clear K')))
      |((with_reducible refine swp_cond ?_ ?_);rfl;refine ⟨_, rfl, fun h => ?_, fun h => ?_⟩ <;> (try (exfalso; exact absurd h (by decide)))))
    refine stop_cS rfl (by simp only [UA, UN, LM, Nat.reduceBEq, Nat.reduceLeDiff, Int.reduceLE, Int.reduceLT, Int.reduceToNat, Nat.reduceAdd, Nat.reduceSub, Nat.reduceMul, reduceCtorEq]) (hwd) ?_
    simp only [UN, LM, Nat.reduceBEq, Nat.reduceLeDiff, Int.reduceLE, Int.reduceLT, Int.reduceToNat, Nat.reduceAdd, Nat.reduceSub, Nat.reduceMul, reduceCtorEq, XTS, XT2S, XT3S, UM, ]
    (try (refine hK' _ _ ?_; clear hK'; clear K'))
    repeat' (first
      |(with_reducible first|refine swp_seq ?_|refine swp_block ?_|refine swp_skip ?_|refine swp_ret ?_|refine swp_exit ?_|refine swp_label ?_|refine kseq_n ?_|refine kseq_x ?_|refine kseq_r ?_|refine kblk_n ?_|refine kblk_r ?_|refine kblk_xs ?_|refine kloop_x ?_|refine kloop_r ?_)
      |((with_reducible refine kblk_xn ?_ ?_);rfl)
      |((with_reducible refine swp_regionP ?_ ?_ (fun K' hK' => ?_));rfl;rfl;simp only [UN, LM, Nat.reduceBEq, Nat.reduceLeDiff, Int.reduceLE, Int.reduceLT, Int.reduceToNat, Nat.reduceAdd, Nat.reduceSub, Nat.reduceMul, reduceCtorEq, XTS, XT2S, XT3S, n1, n2, n3, hwr, Bool.not_true, Bool.not_false, cond_true, cond_false];(repeat (refine And.intro ?_ ?_; focus (clear hK'; intros; simp_all; done)));(try (refine hK' _ _ ?_; clear hK'; clear K')))
      |((with_reducible refine swp_cond ?_ ?_);rfl;refine ⟨_, rfl, fun h => ?_, fun h => ?_⟩ <;> (try (exfalso; exact absurd h (by decide)))))
    (with_reducible refine swp_draw ?_ ?_ ?_ ( [(20, .v (.bool false))]) (fun K' hK' => ?_)
     · kernel_rfl
     · rfl
     · rfl
     simp only [UN, LM, Nat.reduceBEq, Nat.reduceLeDiff, Int.reduceLE, Int.reduceLT, Int.reduceToNat, Nat.reduceAdd, Nat.reduceSub, Nat.reduceMul, reduceCtorEq, XTS, XT2S, XT3S, vcA, stepA, callA, rst, lksA, Oper.looksAt, Op.operands, pureOp, Call.operands, List.filterMap_cons, List.filterMap_nil, Option.toList_none, Option.toList_some, Option.bind_some, Option.bind_none, List.getElem?_toArray, Array.toList_append, List.append_nil, D.flat, D.flats, true_or, or_true, forall_const, hb0, hb1, Int.toNat_natCast ]
     (try (refine hK' _ _ ?_; clear hK'; clear K')))
    refine ⟨hdg, hK' _ _ ?_⟩
    clear hK' K'
    repeat' (first
      |(with_reducible first|refine swp_seq ?_|refine swp_block ?_|refine swp_skip ?_|refine swp_ret ?_|refine swp_exit ?_|refine swp_label ?_|refine kseq_n ?_|refine kseq_x ?_|refine kseq_r ?_|refine kblk_n ?_|refine kblk_r ?_|refine kblk_xs ?_|refine kloop_x ?_|refine kloop_r ?_)
      |((with_reducible refine kblk_xn ?_ ?_);rfl)
      |((with_reducible refine swp_regionX ?_ ?_ (fun K' hK' hP' => ?_));rfl;rfl;simp only [UN, LM, Nat.reduceBEq, Nat.reduceLeDiff, Int.reduceLE, Int.reduceLT, Int.reduceToNat, Nat.reduceAdd, Nat.reduceSub, Nat.reduceMul, reduceCtorEq, XTS, XT2S, XT3S];(repeat (refine And.intro ?_ ?_; focus (clear hK' hP'; intros; simp_all; done)));(try (refine hK' _ _ ?_; clear hK' hP'; clear K')))
      |((with_reducible refine swp_cond ?_ ?_);rfl;refine ⟨_, rfl, fun h => ?_, fun h => ?_⟩ <;> (try (exfalso; exact absurd h (by decide)))))
    refine stop_cX rfl (by simp only [UA, UN, LM, Nat.reduceBEq, Nat.reduceLeDiff, Int.reduceLE, Int.reduceLT, Int.reduceToNat, Nat.reduceAdd, Nat.reduceSub, Nat.reduceMul, reduceCtorEq]) (hr) ?_
    simp only [UM, UN, LM, Nat.reduceBEq, Nat.reduceLeDiff, Int.reduceLE, Int.reduceLT, Int.reduceToNat, Nat.reduceAdd, Nat.reduceSub, Nat.reduceMul, reduceCtorEq]
    refine hP' _ _ _ ?_
    repeat (first | refine kseq_p ?_ | refine kblk_p ?_ | refine kloop_p ?_)
    simp only [KpanS, US, UN, LM, Nat.reduceBEq, Nat.reduceLeDiff, Int.reduceLE, Int.reduceLT, Int.reduceToNat, Nat.reduceAdd, Nat.reduceSub, Nat.reduceMul, reduceCtorEq, XTS, XT2S, XT3S, h0]

set_option maxHeartbeats 8000000 in
set_option maxRecDepth 100000 in
theorem one_neg_b (s : ByteArray) (hs : s.size ≤ 2000) (a : Nat) (ha : a ≤ s.size) (n1 : ((wOf s a).toList == ByteArray.toList ⟨#[110, 111, 116]⟩) = false) (n2 : ((wOf s a).toList == ByteArray.toList ⟨#[35]⟩) = false) (n3 : ((wOf s a).toList == ByteArray.toList ⟨#[45]⟩) = true) (hz : (wOf s a).size = 1) (hk2 : wAt s a + 1 ≤ s.size) (hge : ¬ wAt s a + 1 < s.size) (R : Rd) (hr : RdS s 125 [] (wAt s a + 1) R) :
    RdS s 125 [] a (opRd negS R) := by
  have hwd := wd_fn s hs a ha
  have hle := (wAt_in s a ha).2
  generalize wOf s a = w at *
  generalize wAt s a = k at *
  unfold rBox at *
  have hwr : IntKind.i64.wrap ((k : Int) + (w.size : Int)) = ((k + 1 : Nat) : Int) := by rw [hz, wrap_in (by omega) (by omega)]; omega
  have hb0 : (0 : Int) ≤ ((k + 1 : Nat) : Int) := by omega
  have hb1 : ¬ ((k + 1 : Nat) : Int) < (s.size : Int) := by omega
  cases R with
  | ok x b =>
    obtain ⟨xk, xn, xt, xm, xs, xl⟩ := x
    simp only [RdS, opRd, Ex.d, Ex.ds, rBox] at hr ⊢
    refine sfn_of_swp (N := 119) Tryd.func125 rfl (by decide) rfl rfl (by simp) (fun C h0 => ?_)
    simp only [argS]
    repeat' (first
      |(with_reducible first|refine swp_seq ?_|refine swp_block ?_|refine swp_skip ?_|refine swp_ret ?_|refine swp_exit ?_|refine swp_label ?_|refine kseq_n ?_|refine kseq_x ?_|refine kseq_r ?_|refine kblk_n ?_|refine kblk_r ?_|refine kblk_xs ?_|refine kloop_x ?_|refine kloop_r ?_)
      |((with_reducible refine kblk_xn ?_ ?_);rfl)
      |((with_reducible refine swp_regionP ?_ ?_ (fun K' hK' => ?_));rfl;rfl;simp only [UN, LM, Nat.reduceBEq, Nat.reduceLeDiff, Int.reduceLE, Int.reduceLT, Int.reduceToNat, Nat.reduceAdd, Nat.reduceSub, Nat.reduceMul, reduceCtorEq, XTS, XT2S, XT3S];(repeat (refine And.intro ?_ ?_; focus (clear hK'; intros; simp_all; done)));(try (refine hK' _ _ ?_; clear hK'; clear K')))
      |((with_reducible refine swp_cond ?_ ?_);rfl;refine ⟨_, rfl, fun h => ?_, fun h => ?_⟩ <;> (try (exfalso; exact absurd h (by decide)))))
    refine stop_cS rfl (by simp only [UA, UN, LM, Nat.reduceBEq, Nat.reduceLeDiff, Int.reduceLE, Int.reduceLT, Int.reduceToNat, Nat.reduceAdd, Nat.reduceSub, Nat.reduceMul, reduceCtorEq]) (hwd) ?_
    simp only [UN, LM, Nat.reduceBEq, Nat.reduceLeDiff, Int.reduceLE, Int.reduceLT, Int.reduceToNat, Nat.reduceAdd, Nat.reduceSub, Nat.reduceMul, reduceCtorEq, XTS, XT2S, XT3S, UM, ]
    (try (refine hK' _ _ ?_; clear hK'; clear K'))
    repeat' (first
      |(with_reducible first|refine swp_seq ?_|refine swp_block ?_|refine swp_skip ?_|refine swp_ret ?_|refine swp_exit ?_|refine swp_label ?_|refine kseq_n ?_|refine kseq_x ?_|refine kseq_r ?_|refine kblk_n ?_|refine kblk_r ?_|refine kblk_xs ?_|refine kloop_x ?_|refine kloop_r ?_)
      |((with_reducible refine kblk_xn ?_ ?_);rfl)
      |((with_reducible refine swp_regionP ?_ ?_ (fun K' hK' => ?_));rfl;rfl;simp only [UN, LM, Nat.reduceBEq, Nat.reduceLeDiff, Int.reduceLE, Int.reduceLT, Int.reduceToNat, Nat.reduceAdd, Nat.reduceSub, Nat.reduceMul, reduceCtorEq, XTS, XT2S, XT3S, n1, n2, n3, hwr, Bool.not_true, Bool.not_false, cond_true, cond_false];(repeat (refine And.intro ?_ ?_; focus (clear hK'; intros; simp_all; done)));(try (refine hK' _ _ ?_; clear hK'; clear K')))
      |((with_reducible refine swp_cond ?_ ?_);rfl;refine ⟨_, rfl, fun h => ?_, fun h => ?_⟩ <;> (try (exfalso; exact absurd h (by decide)))))
    (with_reducible refine swp_draw ?_ ?_ ?_ ( [(20, .v (.bool false))]) (fun K' hK' => ?_)
     · kernel_rfl
     · rfl
     · rfl
     simp only [UN, LM, Nat.reduceBEq, Nat.reduceLeDiff, Int.reduceLE, Int.reduceLT, Int.reduceToNat, Nat.reduceAdd, Nat.reduceSub, Nat.reduceMul, reduceCtorEq, XTS, XT2S, XT3S, vcA, stepA, callA, rst, lksA, Oper.looksAt, Op.operands, pureOp, Call.operands, List.filterMap_cons, List.filterMap_nil, Option.toList_none, Option.toList_some, Option.bind_some, Option.bind_none, List.getElem?_toArray, Array.toList_append, List.append_nil, D.flat, D.flats, true_or, or_true, forall_const, hb0, hb1, Int.toNat_natCast ]
     (try (refine hK' _ _ ?_; clear hK'; clear K')))
    refine ⟨fun h => h.elim, hK' _ _ ?_⟩
    clear hK' K'
    repeat' (first
      |(with_reducible first|refine swp_seq ?_|refine swp_block ?_|refine swp_skip ?_|refine swp_ret ?_|refine swp_exit ?_|refine swp_label ?_|refine kseq_n ?_|refine kseq_x ?_|refine kseq_r ?_|refine kblk_n ?_|refine kblk_r ?_|refine kblk_xs ?_|refine kloop_x ?_|refine kloop_r ?_)
      |((with_reducible refine kblk_xn ?_ ?_);rfl)
      |((with_reducible refine swp_regionP ?_ ?_ (fun K' hK' => ?_));rfl;rfl;simp only [UN, LM, Nat.reduceBEq, Nat.reduceLeDiff, Int.reduceLE, Int.reduceLT, Int.reduceToNat, Nat.reduceAdd, Nat.reduceSub, Nat.reduceMul, reduceCtorEq, XTS, XT2S, XT3S];(repeat (refine And.intro ?_ ?_; focus (clear hK'; intros; simp_all; done)));(try (refine hK' _ _ ?_; clear hK'; clear K')))
      |((with_reducible refine swp_cond ?_ ?_);rfl;refine ⟨_, rfl, fun h => ?_, fun h => ?_⟩ <;> (try (exfalso; exact absurd h (by decide)))))
    refine stop_cS rfl (by simp only [UA, UN, LM, Nat.reduceBEq, Nat.reduceLeDiff, Int.reduceLE, Int.reduceLT, Int.reduceToNat, Nat.reduceAdd, Nat.reduceSub, Nat.reduceMul, reduceCtorEq]) (hr) ?_
    simp only [UN, LM, Nat.reduceBEq, Nat.reduceLeDiff, Int.reduceLE, Int.reduceLT, Int.reduceToNat, Nat.reduceAdd, Nat.reduceSub, Nat.reduceMul, reduceCtorEq, XTS, XT2S, XT3S, UM, ]
    (try (refine hK' _ _ ?_; clear hK'; clear K'))
    repeat' (first
      |(with_reducible first|refine swp_seq ?_|refine swp_block ?_|refine swp_skip ?_|refine swp_ret ?_|refine swp_exit ?_|refine swp_label ?_|refine kseq_n ?_|refine kseq_x ?_|refine kseq_r ?_|refine kblk_n ?_|refine kblk_r ?_|refine kblk_xs ?_|refine kloop_x ?_|refine kloop_r ?_)
      |((with_reducible refine kblk_xn ?_ ?_);rfl)
      |((with_reducible refine swp_regionP ?_ ?_ (fun K' hK' => ?_));rfl;rfl;simp only [UN, LM, Nat.reduceBEq, Nat.reduceLeDiff, Int.reduceLE, Int.reduceLT, Int.reduceToNat, Nat.reduceAdd, Nat.reduceSub, Nat.reduceMul, reduceCtorEq, XTS, XT2S, XT3S];(repeat (refine And.intro ?_ ?_; focus (clear hK'; intros; simp_all; done)));(try (refine hK' _ _ ?_; clear hK'; clear K')))
      |((with_reducible refine swp_cond ?_ ?_);rfl;refine ⟨_, rfl, fun h => ?_, fun h => ?_⟩ <;> (try (exfalso; exact absurd h (by decide)))))
    simp only [KretS, retL, retOne, oneV, US, UN, LM, Nat.reduceBEq, Nat.reduceLeDiff, Int.reduceLE, Int.reduceLT, Int.reduceToNat, Nat.reduceAdd, Nat.reduceSub, Nat.reduceMul, reduceCtorEq, XTS, XT2S, XT3S, h0]
  | no e b =>
    simp only [RdS, opRd, rBox] at hr ⊢
    refine xfn_of_swp (N := 119) Tryd.func125 rfl (by decide) rfl (by simp) (fun C h0 => ?_)
    simp only [argS]
    repeat' (first
      |(with_reducible first|refine swp_seq ?_|refine swp_block ?_|refine swp_skip ?_|refine swp_ret ?_|refine swp_exit ?_|refine swp_label ?_|refine kseq_n ?_|refine kseq_x ?_|refine kseq_r ?_|refine kblk_n ?_|refine kblk_r ?_|refine kblk_xs ?_|refine kloop_x ?_|refine kloop_r ?_)
      |((with_reducible refine kblk_xn ?_ ?_);rfl)
      |((with_reducible refine swp_regionP ?_ ?_ (fun K' hK' => ?_));rfl;rfl;simp only [UN, LM, Nat.reduceBEq, Nat.reduceLeDiff, Int.reduceLE, Int.reduceLT, Int.reduceToNat, Nat.reduceAdd, Nat.reduceSub, Nat.reduceMul, reduceCtorEq, XTS, XT2S, XT3S];(repeat (refine And.intro ?_ ?_; focus (clear hK'; intros; simp_all; done)));(try (refine hK' _ _ ?_; clear hK'; clear K')))
      |((with_reducible refine swp_cond ?_ ?_);rfl;refine ⟨_, rfl, fun h => ?_, fun h => ?_⟩ <;> (try (exfalso; exact absurd h (by decide)))))
    refine stop_cS rfl (by simp only [UA, UN, LM, Nat.reduceBEq, Nat.reduceLeDiff, Int.reduceLE, Int.reduceLT, Int.reduceToNat, Nat.reduceAdd, Nat.reduceSub, Nat.reduceMul, reduceCtorEq]) (hwd) ?_
    simp only [UN, LM, Nat.reduceBEq, Nat.reduceLeDiff, Int.reduceLE, Int.reduceLT, Int.reduceToNat, Nat.reduceAdd, Nat.reduceSub, Nat.reduceMul, reduceCtorEq, XTS, XT2S, XT3S, UM, ]
    (try (refine hK' _ _ ?_; clear hK'; clear K'))
    repeat' (first
      |(with_reducible first|refine swp_seq ?_|refine swp_block ?_|refine swp_skip ?_|refine swp_ret ?_|refine swp_exit ?_|refine swp_label ?_|refine kseq_n ?_|refine kseq_x ?_|refine kseq_r ?_|refine kblk_n ?_|refine kblk_r ?_|refine kblk_xs ?_|refine kloop_x ?_|refine kloop_r ?_)
      |((with_reducible refine kblk_xn ?_ ?_);rfl)
      |((with_reducible refine swp_regionP ?_ ?_ (fun K' hK' => ?_));rfl;rfl;simp only [UN, LM, Nat.reduceBEq, Nat.reduceLeDiff, Int.reduceLE, Int.reduceLT, Int.reduceToNat, Nat.reduceAdd, Nat.reduceSub, Nat.reduceMul, reduceCtorEq, XTS, XT2S, XT3S, n1, n2, n3, hwr, Bool.not_true, Bool.not_false, cond_true, cond_false];(repeat (refine And.intro ?_ ?_; focus (clear hK'; intros; simp_all; done)));(try (refine hK' _ _ ?_; clear hK'; clear K')))
      |((with_reducible refine swp_cond ?_ ?_);rfl;refine ⟨_, rfl, fun h => ?_, fun h => ?_⟩ <;> (try (exfalso; exact absurd h (by decide)))))
    (with_reducible refine swp_draw ?_ ?_ ?_ ( [(20, .v (.bool false))]) (fun K' hK' => ?_)
     · kernel_rfl
     · rfl
     · rfl
     simp only [UN, LM, Nat.reduceBEq, Nat.reduceLeDiff, Int.reduceLE, Int.reduceLT, Int.reduceToNat, Nat.reduceAdd, Nat.reduceSub, Nat.reduceMul, reduceCtorEq, XTS, XT2S, XT3S, vcA, stepA, callA, rst, lksA, Oper.looksAt, Op.operands, pureOp, Call.operands, List.filterMap_cons, List.filterMap_nil, Option.toList_none, Option.toList_some, Option.bind_some, Option.bind_none, List.getElem?_toArray, Array.toList_append, List.append_nil, D.flat, D.flats, true_or, or_true, forall_const, hb0, hb1, Int.toNat_natCast ]
     (try (refine hK' _ _ ?_; clear hK'; clear K')))
    refine ⟨fun h => h.elim, hK' _ _ ?_⟩
    clear hK' K'
    repeat' (first
      |(with_reducible first|refine swp_seq ?_|refine swp_block ?_|refine swp_skip ?_|refine swp_ret ?_|refine swp_exit ?_|refine swp_label ?_|refine kseq_n ?_|refine kseq_x ?_|refine kseq_r ?_|refine kblk_n ?_|refine kblk_r ?_|refine kblk_xs ?_|refine kloop_x ?_|refine kloop_r ?_)
      |((with_reducible refine kblk_xn ?_ ?_);rfl)
      |((with_reducible refine swp_regionX ?_ ?_ (fun K' hK' hP' => ?_));rfl;rfl;simp only [UN, LM, Nat.reduceBEq, Nat.reduceLeDiff, Int.reduceLE, Int.reduceLT, Int.reduceToNat, Nat.reduceAdd, Nat.reduceSub, Nat.reduceMul, reduceCtorEq, XTS, XT2S, XT3S];(repeat (refine And.intro ?_ ?_; focus (clear hK' hP'; intros; simp_all; done)));(try (refine hK' _ _ ?_; clear hK' hP'; clear K')))
      |((with_reducible refine swp_cond ?_ ?_);rfl;refine ⟨_, rfl, fun h => ?_, fun h => ?_⟩ <;> (try (exfalso; exact absurd h (by decide)))))
    refine stop_cX rfl (by simp only [UA, UN, LM, Nat.reduceBEq, Nat.reduceLeDiff, Int.reduceLE, Int.reduceLT, Int.reduceToNat, Nat.reduceAdd, Nat.reduceSub, Nat.reduceMul, reduceCtorEq]) (hr) ?_
    simp only [UM, UN, LM, Nat.reduceBEq, Nat.reduceLeDiff, Int.reduceLE, Int.reduceLT, Int.reduceToNat, Nat.reduceAdd, Nat.reduceSub, Nat.reduceMul, reduceCtorEq]
    refine hP' _ _ _ ?_
    repeat (first | refine kseq_p ?_ | refine kblk_p ?_ | refine kloop_p ?_)
    simp only [KpanS, US, UN, LM, Nat.reduceBEq, Nat.reduceLeDiff, Int.reduceLE, Int.reduceLT, Int.reduceToNat, Nat.reduceAdd, Nat.reduceSub, Nat.reduceMul, reduceCtorEq, XTS, XT2S, XT3S, h0]

set_option maxHeartbeats 8000000 in
set_option maxRecDepth 100000 in
theorem one_par_no (s : ByteArray) (hs : s.size ≤ 2000) (a : Nat) (ha : a ≤ s.size) (n1 : ((wOf s a).toList == ByteArray.toList ⟨#[110, 111, 116]⟩) = false) (n2 : ((wOf s a).toList == ByteArray.toList ⟨#[35]⟩) = false) (n3 : ((wOf s a).toList == ByteArray.toList ⟨#[45]⟩) = false) (n4 : ((wOf s a).toList == ByteArray.toList ⟨#[40]⟩) = true) (hk2 : wAt s a + 1 ≤ s.size) (e : Int) (b : Nat) (hr : RdS s 93 [.d (iD 1)] (wAt s a + 1) (.no e b)) :
    RdS s 125 [] a (.no e b) := by
  have hwd := wd_fn s hs a ha
  have hle := (wAt_in s a ha).2
  generalize wOf s a = w at *
  generalize wAt s a = k at *
  unfold rBox at *
  have hwr : IntKind.i64.wrap ((k : Int) + 1) = ((k + 1 : Nat) : Int) := by rw [wrap_in (by omega) (by omega)]; omega
  simp only [RdS, rBox] at hr ⊢
  refine xfn_of_swp (N := 119) Tryd.func125 rfl (by decide) rfl (by simp) (fun C h0 => ?_)
  simp only [argS]
  repeat' (first
    |(with_reducible first|refine swp_seq ?_|refine swp_block ?_|refine swp_skip ?_|refine swp_ret ?_|refine swp_exit ?_|refine swp_label ?_|refine kseq_n ?_|refine kseq_x ?_|refine kseq_r ?_|refine kblk_n ?_|refine kblk_r ?_|refine kblk_xs ?_|refine kloop_x ?_|refine kloop_r ?_)
    |((with_reducible refine kblk_xn ?_ ?_);rfl)
    |((with_reducible refine swp_regionP ?_ ?_ (fun K' hK' => ?_));rfl;rfl;simp only [UN, LM, Nat.reduceBEq, Nat.reduceLeDiff, Int.reduceLE, Int.reduceLT, Int.reduceToNat, Nat.reduceAdd, Nat.reduceSub, Nat.reduceMul, reduceCtorEq, XTS, XT2S, XT3S];(repeat (refine And.intro ?_ ?_; focus (clear hK'; intros; simp_all; done)));(try (refine hK' _ _ ?_; clear hK'; clear K')))
    |((with_reducible refine swp_cond ?_ ?_);rfl;refine ⟨_, rfl, fun h => ?_, fun h => ?_⟩ <;> (try (exfalso; exact absurd h (by decide)))))
  refine stop_cS rfl (by simp only [UA, UN, LM, Nat.reduceBEq, Nat.reduceLeDiff, Int.reduceLE, Int.reduceLT, Int.reduceToNat, Nat.reduceAdd, Nat.reduceSub, Nat.reduceMul, reduceCtorEq]) (hwd) ?_
  simp only [UN, LM, Nat.reduceBEq, Nat.reduceLeDiff, Int.reduceLE, Int.reduceLT, Int.reduceToNat, Nat.reduceAdd, Nat.reduceSub, Nat.reduceMul, reduceCtorEq, XTS, XT2S, XT3S, UM, ]
  (try (refine hK' _ _ ?_; clear hK'; clear K'))
  repeat' (first
    |(with_reducible first|refine swp_seq ?_|refine swp_block ?_|refine swp_skip ?_|refine swp_ret ?_|refine swp_exit ?_|refine swp_label ?_|refine kseq_n ?_|refine kseq_x ?_|refine kseq_r ?_|refine kblk_n ?_|refine kblk_r ?_|refine kblk_xs ?_|refine kloop_x ?_|refine kloop_r ?_)
    |((with_reducible refine kblk_xn ?_ ?_);rfl)
    |((with_reducible refine swp_regionX ?_ ?_ (fun K' hK' hP' => ?_));rfl;rfl;simp only [UN, LM, Nat.reduceBEq, Nat.reduceLeDiff, Int.reduceLE, Int.reduceLT, Int.reduceToNat, Nat.reduceAdd, Nat.reduceSub, Nat.reduceMul, reduceCtorEq, XTS, XT2S, XT3S, n1, n2, n3, n4, hwr, Bool.not_true, Bool.not_false, cond_true, cond_false];(repeat (refine And.intro ?_ ?_; focus (clear hK' hP'; intros; simp_all; done)));(try (refine hK' _ _ ?_; clear hK' hP'; clear K')))
    |((with_reducible refine swp_cond ?_ ?_);rfl;refine ⟨_, rfl, fun h => ?_, fun h => ?_⟩ <;> (try (exfalso; exact absurd h (by decide)))))
  refine stop_cX rfl (by simp only [UA, UN, LM, Nat.reduceBEq, Nat.reduceLeDiff, Int.reduceLE, Int.reduceLT, Int.reduceToNat, Nat.reduceAdd, Nat.reduceSub, Nat.reduceMul, reduceCtorEq]) (hr) ?_
  simp only [UM, UN, LM, Nat.reduceBEq, Nat.reduceLeDiff, Int.reduceLE, Int.reduceLT, Int.reduceToNat, Nat.reduceAdd, Nat.reduceSub, Nat.reduceMul, reduceCtorEq]
  refine hP' _ _ _ ?_
  repeat (first | refine kseq_p ?_ | refine kblk_p ?_ | refine kloop_p ?_)
  simp only [KpanS, US, UN, LM, Nat.reduceBEq, Nat.reduceLeDiff, Int.reduceLE, Int.reduceLT, Int.reduceToNat, Nat.reduceAdd, Nat.reduceSub, Nat.reduceMul, reduceCtorEq, XTS, XT2S, XT3S, h0]

set_option maxHeartbeats 8000000 in
set_option maxRecDepth 100000 in
theorem one_par_bad (s : ByteArray) (hs : s.size ≤ 2000) (a : Nat) (ha : a ≤ s.size) (n1 : ((wOf s a).toList == ByteArray.toList ⟨#[110, 111, 116]⟩) = false) (n2 : ((wOf s a).toList == ByteArray.toList ⟨#[35]⟩) = false) (n3 : ((wOf s a).toList == ByteArray.toList ⟨#[45]⟩) = false) (n4 : ((wOf s a).toList == ByteArray.toList ⟨#[40]⟩) = true) (hk2 : wAt s a + 1 ≤ s.size) (x : Ex) (b : Nat) (hb : b ≤ s.size) (hr : RdS s 93 [.d (iD 1)] (wAt s a + 1) (.ok x b)) (m : ((wOf s b).toList == ByteArray.toList ⟨#[41]⟩) = false) :
    RdS s 125 [] a (.no 3 (wAt s b)) := by
  have hwd := wd_fn s hs a ha
  have hle := (wAt_in s a ha).2
  have hwe := wd_fn s hs b hb
  have hf := fail_fn s (wAt s b : Nat) 3
  generalize wOf s b = v at *
  generalize wAt s b = l at *
  generalize wOf s a = w at *
  generalize wAt s a = k at *
  unfold rBox at *
  have hwr : IntKind.i64.wrap ((k : Int) + 1) = ((k + 1 : Nat) : Int) := by rw [wrap_in (by omega) (by omega)]; omega
  obtain ⟨xk, xn, xt, xm, xs, xl⟩ := x
  simp only [RdS, Ex.d, rBox] at hr ⊢
  refine xfn_of_swp (N := 119) Tryd.func125 rfl (by decide) rfl (by simp) (fun C h0 => ?_)
  simp only [argS]
  repeat' (first
    |(with_reducible first|refine swp_seq ?_|refine swp_block ?_|refine swp_skip ?_|refine swp_ret ?_|refine swp_exit ?_|refine swp_label ?_|refine kseq_n ?_|refine kseq_x ?_|refine kseq_r ?_|refine kblk_n ?_|refine kblk_r ?_|refine kblk_xs ?_|refine kloop_x ?_|refine kloop_r ?_)
    |((with_reducible refine kblk_xn ?_ ?_);rfl)
    |((with_reducible refine swp_regionP ?_ ?_ (fun K' hK' => ?_));rfl;rfl;simp only [UN, LM, Nat.reduceBEq, Nat.reduceLeDiff, Int.reduceLE, Int.reduceLT, Int.reduceToNat, Nat.reduceAdd, Nat.reduceSub, Nat.reduceMul, reduceCtorEq, XTS, XT2S, XT3S];(repeat (refine And.intro ?_ ?_; focus (clear hK'; intros; simp_all; done)));(try (refine hK' _ _ ?_; clear hK'; clear K')))
    |((with_reducible refine swp_cond ?_ ?_);rfl;refine ⟨_, rfl, fun h => ?_, fun h => ?_⟩ <;> (try (exfalso; exact absurd h (by decide)))))
  refine stop_cS rfl (by simp only [UA, UN, LM, Nat.reduceBEq, Nat.reduceLeDiff, Int.reduceLE, Int.reduceLT, Int.reduceToNat, Nat.reduceAdd, Nat.reduceSub, Nat.reduceMul, reduceCtorEq]) (hwd) ?_
  simp only [UN, LM, Nat.reduceBEq, Nat.reduceLeDiff, Int.reduceLE, Int.reduceLT, Int.reduceToNat, Nat.reduceAdd, Nat.reduceSub, Nat.reduceMul, reduceCtorEq, XTS, XT2S, XT3S, UM, ]
  (try (refine hK' _ _ ?_; clear hK'; clear K'))
  repeat' (first
    |(with_reducible first|refine swp_seq ?_|refine swp_block ?_|refine swp_skip ?_|refine swp_ret ?_|refine swp_exit ?_|refine swp_label ?_|refine kseq_n ?_|refine kseq_x ?_|refine kseq_r ?_|refine kblk_n ?_|refine kblk_r ?_|refine kblk_xs ?_|refine kloop_x ?_|refine kloop_r ?_)
    |((with_reducible refine kblk_xn ?_ ?_);rfl)
    |((with_reducible refine swp_regionP ?_ ?_ (fun K' hK' => ?_));rfl;rfl;simp only [UN, LM, Nat.reduceBEq, Nat.reduceLeDiff, Int.reduceLE, Int.reduceLT, Int.reduceToNat, Nat.reduceAdd, Nat.reduceSub, Nat.reduceMul, reduceCtorEq, XTS, XT2S, XT3S, n1, n2, n3, n4, hwr, Bool.not_true, Bool.not_false, cond_true, cond_false];(repeat (refine And.intro ?_ ?_; focus (clear hK'; intros; simp_all; done)));(try (refine hK' _ _ ?_; clear hK'; clear K')))
    |((with_reducible refine swp_cond ?_ ?_);rfl;refine ⟨_, rfl, fun h => ?_, fun h => ?_⟩ <;> (try (exfalso; exact absurd h (by decide)))))
  refine stop_cS rfl (by simp only [UA, UN, LM, Nat.reduceBEq, Nat.reduceLeDiff, Int.reduceLE, Int.reduceLT, Int.reduceToNat, Nat.reduceAdd, Nat.reduceSub, Nat.reduceMul, reduceCtorEq]) (hr) ?_
  simp only [UN, LM, Nat.reduceBEq, Nat.reduceLeDiff, Int.reduceLE, Int.reduceLT, Int.reduceToNat, Nat.reduceAdd, Nat.reduceSub, Nat.reduceMul, reduceCtorEq, XTS, XT2S, XT3S, UM, ]
  (try (refine hK' _ _ ?_; clear hK'; clear K'))
  repeat' (first
    |(with_reducible first|refine swp_seq ?_|refine swp_block ?_|refine swp_skip ?_|refine swp_ret ?_|refine swp_exit ?_|refine swp_label ?_|refine kseq_n ?_|refine kseq_x ?_|refine kseq_r ?_|refine kblk_n ?_|refine kblk_r ?_|refine kblk_xs ?_|refine kloop_x ?_|refine kloop_r ?_)
    |((with_reducible refine kblk_xn ?_ ?_);rfl)
    |((with_reducible refine swp_regionP ?_ ?_ (fun K' hK' => ?_));rfl;rfl;simp only [UN, LM, Nat.reduceBEq, Nat.reduceLeDiff, Int.reduceLE, Int.reduceLT, Int.reduceToNat, Nat.reduceAdd, Nat.reduceSub, Nat.reduceMul, reduceCtorEq, XTS, XT2S, XT3S];(repeat (refine And.intro ?_ ?_; focus (clear hK'; intros; simp_all; done)));(try (refine hK' _ _ ?_; clear hK'; clear K')))
    |((with_reducible refine swp_cond ?_ ?_);rfl;refine ⟨_, rfl, fun h => ?_, fun h => ?_⟩ <;> (try (exfalso; exact absurd h (by decide)))))
  refine stop_cS rfl (by simp only [UA, UN, LM, Nat.reduceBEq, Nat.reduceLeDiff, Int.reduceLE, Int.reduceLT, Int.reduceToNat, Nat.reduceAdd, Nat.reduceSub, Nat.reduceMul, reduceCtorEq]) (hwe) ?_
  simp only [UN, LM, Nat.reduceBEq, Nat.reduceLeDiff, Int.reduceLE, Int.reduceLT, Int.reduceToNat, Nat.reduceAdd, Nat.reduceSub, Nat.reduceMul, reduceCtorEq, XTS, XT2S, XT3S, UM, m, Bool.not_true, Bool.not_false, cond_true, cond_false]
  (try (refine hK' _ _ ?_; clear hK'; clear K'))
  repeat' (first
    |(with_reducible first|refine swp_seq ?_|refine swp_block ?_|refine swp_skip ?_|refine swp_ret ?_|refine swp_exit ?_|refine swp_label ?_|refine kseq_n ?_|refine kseq_x ?_|refine kseq_r ?_|refine kblk_n ?_|refine kblk_r ?_|refine kblk_xs ?_|refine kloop_x ?_|refine kloop_r ?_)
    |((with_reducible refine kblk_xn ?_ ?_);rfl)
    |((with_reducible refine swp_regionX ?_ ?_ (fun K' hK' hP' => ?_));rfl;rfl;simp only [UN, LM, Nat.reduceBEq, Nat.reduceLeDiff, Int.reduceLE, Int.reduceLT, Int.reduceToNat, Nat.reduceAdd, Nat.reduceSub, Nat.reduceMul, reduceCtorEq, XTS, XT2S, XT3S];(repeat (refine And.intro ?_ ?_; focus (clear hK' hP'; intros; simp_all; done)));(try (refine hK' _ _ ?_; clear hK' hP'; clear K')))
    |((with_reducible refine swp_cond ?_ ?_);rfl;refine ⟨_, rfl, fun h => ?_, fun h => ?_⟩ <;> (try (exfalso; exact absurd h (by decide)))))
  refine stop_cX rfl (by simp only [UA, UN, LM, Nat.reduceBEq, Nat.reduceLeDiff, Int.reduceLE, Int.reduceLT, Int.reduceToNat, Nat.reduceAdd, Nat.reduceSub, Nat.reduceMul, reduceCtorEq]) (hf) ?_
  simp only [UM, UN, LM, Nat.reduceBEq, Nat.reduceLeDiff, Int.reduceLE, Int.reduceLT, Int.reduceToNat, Nat.reduceAdd, Nat.reduceSub, Nat.reduceMul, reduceCtorEq]
  refine hP' _ _ _ ?_
  repeat (first | refine kseq_p ?_ | refine kblk_p ?_ | refine kloop_p ?_)
  simp only [KpanS, US, UN, LM, Nat.reduceBEq, Nat.reduceLeDiff, Int.reduceLE, Int.reduceLT, Int.reduceToNat, Nat.reduceAdd, Nat.reduceSub, Nat.reduceMul, reduceCtorEq, XTS, XT2S, XT3S, h0]

set_option maxHeartbeats 8000000 in
set_option maxRecDepth 100000 in
theorem one_par (s : ByteArray) (hs : s.size ≤ 2000) (a : Nat) (ha : a ≤ s.size) (n1 : ((wOf s a).toList == ByteArray.toList ⟨#[110, 111, 116]⟩) = false) (n2 : ((wOf s a).toList == ByteArray.toList ⟨#[35]⟩) = false) (n3 : ((wOf s a).toList == ByteArray.toList ⟨#[45]⟩) = false) (n4 : ((wOf s a).toList == ByteArray.toList ⟨#[40]⟩) = true) (hk2 : wAt s a + 1 ≤ s.size) (x : Ex) (b : Nat) (hb : b ≤ s.size) (hr : RdS s 93 [.d (iD 1)] (wAt s a + 1) (.ok x b)) (m : ((wOf s b).toList == ByteArray.toList ⟨#[41]⟩) = true) :
    RdS s 125 [] a (.ok x (wAt s b + 1)) := by
  have hwd := wd_fn s hs a ha
  have hle := (wAt_in s a ha).2
  have hwe := wd_fn s hs b hb
  have hlb := (wAt_in s b hb).2
  generalize wOf s b = v at *
  generalize wAt s b = l at *
  generalize wOf s a = w at *
  generalize wAt s a = k at *
  unfold rBox at *
  have hwr : IntKind.i64.wrap ((k : Int) + 1) = ((k + 1 : Nat) : Int) := by rw [wrap_in (by omega) (by omega)]; omega
  have hwr2 : IntKind.i64.wrap ((l : Int) + 1) = ((l + 1 : Nat) : Int) := by rw [wrap_in (by omega) (by omega)]; omega
  obtain ⟨xk, xn, xt, xm, xs, xl⟩ := x
  simp only [RdS, Ex.d, rBox] at hr ⊢
  refine sfn_of_swp (N := 119) Tryd.func125 rfl (by decide) rfl rfl (by simp) (fun C h0 => ?_)
  simp only [argS]
  repeat' (first
    |(with_reducible first|refine swp_seq ?_|refine swp_block ?_|refine swp_skip ?_|refine swp_ret ?_|refine swp_exit ?_|refine swp_label ?_|refine kseq_n ?_|refine kseq_x ?_|refine kseq_r ?_|refine kblk_n ?_|refine kblk_r ?_|refine kblk_xs ?_|refine kloop_x ?_|refine kloop_r ?_)
    |((with_reducible refine kblk_xn ?_ ?_);rfl)
    |((with_reducible refine swp_regionP ?_ ?_ (fun K' hK' => ?_));rfl;rfl;simp only [UN, LM, Nat.reduceBEq, Nat.reduceLeDiff, Int.reduceLE, Int.reduceLT, Int.reduceToNat, Nat.reduceAdd, Nat.reduceSub, Nat.reduceMul, reduceCtorEq, XTS, XT2S, XT3S];(repeat (refine And.intro ?_ ?_; focus (clear hK'; intros; simp_all; done)));(try (refine hK' _ _ ?_; clear hK'; clear K')))
    |((with_reducible refine swp_cond ?_ ?_);rfl;refine ⟨_, rfl, fun h => ?_, fun h => ?_⟩ <;> (try (exfalso; exact absurd h (by decide)))))
  refine stop_cS rfl (by simp only [UA, UN, LM, Nat.reduceBEq, Nat.reduceLeDiff, Int.reduceLE, Int.reduceLT, Int.reduceToNat, Nat.reduceAdd, Nat.reduceSub, Nat.reduceMul, reduceCtorEq]) (hwd) ?_
  simp only [UN, LM, Nat.reduceBEq, Nat.reduceLeDiff, Int.reduceLE, Int.reduceLT, Int.reduceToNat, Nat.reduceAdd, Nat.reduceSub, Nat.reduceMul, reduceCtorEq, XTS, XT2S, XT3S, UM, ]
  (try (refine hK' _ _ ?_; clear hK'; clear K'))
  repeat' (first
    |(with_reducible first|refine swp_seq ?_|refine swp_block ?_|refine swp_skip ?_|refine swp_ret ?_|refine swp_exit ?_|refine swp_label ?_|refine kseq_n ?_|refine kseq_x ?_|refine kseq_r ?_|refine kblk_n ?_|refine kblk_r ?_|refine kblk_xs ?_|refine kloop_x ?_|refine kloop_r ?_)
    |((with_reducible refine kblk_xn ?_ ?_);rfl)
    |((with_reducible refine swp_regionP ?_ ?_ (fun K' hK' => ?_));rfl;rfl;simp only [UN, LM, Nat.reduceBEq, Nat.reduceLeDiff, Int.reduceLE, Int.reduceLT, Int.reduceToNat, Nat.reduceAdd, Nat.reduceSub, Nat.reduceMul, reduceCtorEq, XTS, XT2S, XT3S, n1, n2, n3, n4, hwr, Bool.not_true, Bool.not_false, cond_true, cond_false];(repeat (refine And.intro ?_ ?_; focus (clear hK'; intros; simp_all; done)));(try (refine hK' _ _ ?_; clear hK'; clear K')))
    |((with_reducible refine swp_cond ?_ ?_);rfl;refine ⟨_, rfl, fun h => ?_, fun h => ?_⟩ <;> (try (exfalso; exact absurd h (by decide)))))
  refine stop_cS rfl (by simp only [UA, UN, LM, Nat.reduceBEq, Nat.reduceLeDiff, Int.reduceLE, Int.reduceLT, Int.reduceToNat, Nat.reduceAdd, Nat.reduceSub, Nat.reduceMul, reduceCtorEq]) (hr) ?_
  simp only [UN, LM, Nat.reduceBEq, Nat.reduceLeDiff, Int.reduceLE, Int.reduceLT, Int.reduceToNat, Nat.reduceAdd, Nat.reduceSub, Nat.reduceMul, reduceCtorEq, XTS, XT2S, XT3S, UM, ]
  (try (refine hK' _ _ ?_; clear hK'; clear K'))
  repeat' (first
    |(with_reducible first|refine swp_seq ?_|refine swp_block ?_|refine swp_skip ?_|refine swp_ret ?_|refine swp_exit ?_|refine swp_label ?_|refine kseq_n ?_|refine kseq_x ?_|refine kseq_r ?_|refine kblk_n ?_|refine kblk_r ?_|refine kblk_xs ?_|refine kloop_x ?_|refine kloop_r ?_)
    |((with_reducible refine kblk_xn ?_ ?_);rfl)
    |((with_reducible refine swp_regionP ?_ ?_ (fun K' hK' => ?_));rfl;rfl;simp only [UN, LM, Nat.reduceBEq, Nat.reduceLeDiff, Int.reduceLE, Int.reduceLT, Int.reduceToNat, Nat.reduceAdd, Nat.reduceSub, Nat.reduceMul, reduceCtorEq, XTS, XT2S, XT3S];(repeat (refine And.intro ?_ ?_; focus (clear hK'; intros; simp_all; done)));(try (refine hK' _ _ ?_; clear hK'; clear K')))
    |((with_reducible refine swp_cond ?_ ?_);rfl;refine ⟨_, rfl, fun h => ?_, fun h => ?_⟩ <;> (try (exfalso; exact absurd h (by decide)))))
  refine stop_cS rfl (by simp only [UA, UN, LM, Nat.reduceBEq, Nat.reduceLeDiff, Int.reduceLE, Int.reduceLT, Int.reduceToNat, Nat.reduceAdd, Nat.reduceSub, Nat.reduceMul, reduceCtorEq]) (hwe) ?_
  simp only [UN, LM, Nat.reduceBEq, Nat.reduceLeDiff, Int.reduceLE, Int.reduceLT, Int.reduceToNat, Nat.reduceAdd, Nat.reduceSub, Nat.reduceMul, reduceCtorEq, XTS, XT2S, XT3S, UM, m, Bool.not_true, Bool.not_false, cond_true, cond_false]
  (try (refine hK' _ _ ?_; clear hK'; clear K'))
  repeat' (first
    |(with_reducible first|refine swp_seq ?_|refine swp_block ?_|refine swp_skip ?_|refine swp_ret ?_|refine swp_exit ?_|refine swp_label ?_|refine kseq_n ?_|refine kseq_x ?_|refine kseq_r ?_|refine kblk_n ?_|refine kblk_r ?_|refine kblk_xs ?_|refine kloop_x ?_|refine kloop_r ?_)
    |((with_reducible refine kblk_xn ?_ ?_);rfl)
    |((with_reducible refine swp_regionP ?_ ?_ (fun K' hK' => ?_));rfl;rfl;simp only [UN, LM, Nat.reduceBEq, Nat.reduceLeDiff, Int.reduceLE, Int.reduceLT, Int.reduceToNat, Nat.reduceAdd, Nat.reduceSub, Nat.reduceMul, reduceCtorEq, XTS, XT2S, XT3S, hwr2];(repeat (refine And.intro ?_ ?_; focus (clear hK'; intros; simp_all; done)));(try (refine hK' _ _ ?_; clear hK'; clear K')))
    |((with_reducible refine swp_cond ?_ ?_);rfl;refine ⟨_, rfl, fun h => ?_, fun h => ?_⟩ <;> (try (exfalso; exact absurd h (by decide)))))
  simp only [KretS, retL, retOne, oneV, US, UN, LM, Nat.reduceBEq, Nat.reduceLeDiff, Int.reduceLE, Int.reduceLT, Int.reduceToNat, Nat.reduceAdd, Nat.reduceSub, Nat.reduceMul, reduceCtorEq, XTS, XT2S, XT3S, h0]
end Go.Proofs.YtiobdkibbhpojaaDoor
