/- exprs.Parse; a symbolic walk. -/
-- TYPES3
import Derived.Test.YtiobdkibbhpojaaDoorX39
import Derived.Test.YtiobdkibbhpojaaDoorX37
set_option linter.unusedVariables false
set_option linter.unusedSimpArgs false
namespace Go.Proofs.YtiobdkibbhpojaaDoor
open Go.RowKit Go.Sw

set_option maxHeartbeats 8000000 in
set_option maxRecDepth 100000 in
theorem parse_err (s : ByteArray) (X : Ex) (n c t : Int) (hb : DFn Tryd.prog Γ1 65 [sD s, iD 0] (.tup [X.d, iD n, .agg [iD c, iD t]])) (hc : c ≠ 0) : DFn Tryd.prog Γ1 34 [sD s] (.tup [X.d, .agg [iD c, iD t]]) := by
  obtain ⟨xk, xn, xt, xm, xs, xl⟩ := X
  have g0 : (c == 0) = false := by simpa using hc
  simp only [Ex.d] at hb ⊢
  refine fn_of_swp (N := 25) Tryd.func34 rfl (by decide) rfl rfl (by simp) (fun C h0 => ?_)
  simp only [argE]
  repeat' (first
    |(with_reducible first|refine swp_seq ?_|refine swp_block ?_|refine swp_skip ?_|refine swp_ret ?_|refine swp_exit ?_|refine swp_label ?_|refine kseq_n ?_|refine kseq_x ?_|refine kseq_r ?_|refine kblk_n ?_|refine kblk_r ?_|refine kblk_xs ?_|refine kloop_x ?_|refine kloop_r ?_)
    |((with_reducible refine kblk_xn ?_ ?_);rfl)
    |((with_reducible refine swp_regionP ?_ ?_ (fun K' hK' => ?_));rfl;rfl;simp only [UN, LM, Nat.reduceBEq, Nat.reduceLeDiff, Int.reduceLE, Int.reduceLT, Int.reduceToNat, Nat.reduceAdd, Nat.reduceSub, Nat.reduceMul, reduceCtorEq, XTS, XT2S, XT3S];(repeat (refine And.intro ?_ ?_; focus (clear hK'; intros; simp_all; done)));(try (refine hK' _ _ ?_; clear hK'; clear K')))
    |((with_reducible refine swp_cond ?_ ?_);rfl;refine ⟨_, rfl, fun h => ?_, fun h => ?_⟩ <;> (try (exfalso; exact absurd h (by decide)))))
  refine stop_call h0 rfl (by simp only [UN, LM, Nat.reduceBEq, Nat.reduceLeDiff, Int.reduceLE, Int.reduceLT, Int.reduceToNat, Nat.reduceAdd, Nat.reduceSub, Nat.reduceMul, reduceCtorEq]) rfl (by simp only [keepS, UN, LM, Nat.reduceBEq, Nat.reduceLeDiff, Int.reduceLE, Int.reduceLT, Int.reduceToNat, Nat.reduceAdd, Nat.reduceSub, Nat.reduceMul, reduceCtorEq]) (hb) ?_
  simp only [UN, LM, Nat.reduceBEq, Nat.reduceLeDiff, Int.reduceLE, Int.reduceLT, Int.reduceToNat, Nat.reduceAdd, Nat.reduceSub, Nat.reduceMul, reduceCtorEq, XTS, XT2S, XT3S, inX, dropS, ]
  (repeat (refine And.intro ?_ ?_; focus (clear hK'; intros; simp_all; done)))
  (try (refine hK' _ _ ?_; clear hK'; clear K'))
  repeat' (first
    |(with_reducible first|refine swp_seq ?_|refine swp_block ?_|refine swp_skip ?_|refine swp_ret ?_|refine swp_exit ?_|refine swp_label ?_|refine kseq_n ?_|refine kseq_x ?_|refine kseq_r ?_|refine kblk_n ?_|refine kblk_r ?_|refine kblk_xs ?_|refine kloop_x ?_|refine kloop_r ?_)
    |((with_reducible refine kblk_xn ?_ ?_);rfl)
    |((with_reducible refine swp_regionP ?_ ?_ (fun K' hK' => ?_));rfl;rfl;simp only [UN, LM, Nat.reduceBEq, Nat.reduceLeDiff, Int.reduceLE, Int.reduceLT, Int.reduceToNat, Nat.reduceAdd, Nat.reduceSub, Nat.reduceMul, reduceCtorEq, XTS, XT2S, XT3S, g0, Bool.not_true, Bool.not_false, cond_true, cond_false];(repeat (refine And.intro ?_ ?_; focus (clear hK'; intros; simp_all; done)));(try (refine hK' _ _ ?_; clear hK'; clear K')))
    |((with_reducible refine swp_cond ?_ ?_);rfl;refine ⟨_, rfl, fun h => ?_, fun h => ?_⟩ <;> (try (exfalso; exact absurd h (by decide)))))
  (with_reducible refine swp_drawW ?_ ?_ ?_ (⟨[], []⟩) _ rfl (fun K' hK' => ?_)
   · kernel_rfl
   · rfl
   · rfl
   simp only [UN, LM, Nat.reduceBEq, Nat.reduceLeDiff, Int.reduceLE, Int.reduceLT, Int.reduceToNat, Nat.reduceAdd, Nat.reduceSub, Nat.reduceMul, reduceCtorEq, XTS, XT2S, XT3S, vcW, stepW, callR, effO, srcE, Eff.env, Eff.st, writeOp, callA, pureOp, Bool.or_true, Bool.true_or, Bool.or_self, Bool.or_false, Bool.false_or, D.flat, D.flats, true_or, or_true, forall_const, ]
   (repeat (refine And.intro ?_ ?_; focus (clear hK'; intros; simp_all; done)))
   (refine And.intro (by kernel_rfl) ?_)
   (try (refine hK' _ _ ?_; clear hK'; clear K')))
  repeat' (first
    |(with_reducible first|refine swp_seq ?_|refine swp_block ?_|refine swp_skip ?_|refine swp_ret ?_|refine swp_exit ?_|refine swp_label ?_|refine kseq_n ?_|refine kseq_x ?_|refine kseq_r ?_|refine kblk_n ?_|refine kblk_r ?_|refine kblk_xs ?_|refine kloop_x ?_|refine kloop_r ?_)
    |((with_reducible refine kblk_xn ?_ ?_);rfl)
    |((with_reducible refine swp_regionP ?_ ?_ (fun K' hK' => ?_));rfl;rfl;simp only [UN, LM, Nat.reduceBEq, Nat.reduceLeDiff, Int.reduceLE, Int.reduceLT, Int.reduceToNat, Nat.reduceAdd, Nat.reduceSub, Nat.reduceMul, reduceCtorEq, XTS, XT2S, XT3S];(repeat (refine And.intro ?_ ?_; focus (clear hK'; intros; simp_all; done)));(try (refine hK' _ _ ?_; clear hK'; clear K')))
    |((with_reducible refine swp_cond ?_ ?_);rfl;refine ⟨_, rfl, fun h => ?_, fun h => ?_⟩ <;> (try (exfalso; exact absurd h (by decide)))))
  simp only [Kret, retL, retOne, oneV, UN, LM, Nat.reduceBEq, Nat.reduceLeDiff, Int.reduceLE, Int.reduceLT, Int.reduceToNat, Nat.reduceAdd, Nat.reduceSub, Nat.reduceMul, reduceCtorEq, XTS, XT2S, XT3S]
set_option maxHeartbeats 8000000 in
set_option maxRecDepth 100000 in
theorem parse_more (s : ByteArray) (X : Ex) (n : Nat) (hb : DFn Tryd.prog Γ1 65 [sD s, iD 0] (.tup [X.d, iD n, .agg [iD 0, iD 0]])) (hn : n < s.size) : DFn Tryd.prog Γ1 34 [sD s] (.tup [Ex.zero.d, .agg [iD 3, iD n]]) := by
  obtain ⟨xk, xn, xt, xm, xs, xl⟩ := X
  have g0 : (n : Int) < (s.size : Int) := by omega
  simp only [Ex.d] at hb ⊢
  refine fn_of_swp (N := 25) Tryd.func34 rfl (by decide) rfl rfl (by simp) (fun C h0 => ?_)
  simp only [argE]
  repeat' (first
    |(with_reducible first|refine swp_seq ?_|refine swp_block ?_|refine swp_skip ?_|refine swp_ret ?_|refine swp_exit ?_|refine swp_label ?_|refine kseq_n ?_|refine kseq_x ?_|refine kseq_r ?_|refine kblk_n ?_|refine kblk_r ?_|refine kblk_xs ?_|refine kloop_x ?_|refine kloop_r ?_)
    |((with_reducible refine kblk_xn ?_ ?_);rfl)
    |((with_reducible refine swp_regionP ?_ ?_ (fun K' hK' => ?_));rfl;rfl;simp only [UN, LM, Nat.reduceBEq, Nat.reduceLeDiff, Int.reduceLE, Int.reduceLT, Int.reduceToNat, Nat.reduceAdd, Nat.reduceSub, Nat.reduceMul, reduceCtorEq, XTS, XT2S, XT3S];(repeat (refine And.intro ?_ ?_; focus (clear hK'; intros; simp_all; done)));(try (refine hK' _ _ ?_; clear hK'; clear K')))
    |((with_reducible refine swp_cond ?_ ?_);rfl;refine ⟨_, rfl, fun h => ?_, fun h => ?_⟩ <;> (try (exfalso; exact absurd h (by decide)))))
  refine stop_call h0 rfl (by simp only [UN, LM, Nat.reduceBEq, Nat.reduceLeDiff, Int.reduceLE, Int.reduceLT, Int.reduceToNat, Nat.reduceAdd, Nat.reduceSub, Nat.reduceMul, reduceCtorEq]) rfl (by simp only [keepS, UN, LM, Nat.reduceBEq, Nat.reduceLeDiff, Int.reduceLE, Int.reduceLT, Int.reduceToNat, Nat.reduceAdd, Nat.reduceSub, Nat.reduceMul, reduceCtorEq]) (hb) ?_
  simp only [UN, LM, Nat.reduceBEq, Nat.reduceLeDiff, Int.reduceLE, Int.reduceLT, Int.reduceToNat, Nat.reduceAdd, Nat.reduceSub, Nat.reduceMul, reduceCtorEq, XTS, XT2S, XT3S, inX, dropS, ]
  (repeat (refine And.intro ?_ ?_; focus (clear hK'; intros; simp_all; done)))
  (try (refine hK' _ _ ?_; clear hK'; clear K'))
  repeat' (first
    |(with_reducible first|refine swp_seq ?_|refine swp_block ?_|refine swp_skip ?_|refine swp_ret ?_|refine swp_exit ?_|refine swp_label ?_|refine kseq_n ?_|refine kseq_x ?_|refine kseq_r ?_|refine kblk_n ?_|refine kblk_r ?_|refine kblk_xs ?_|refine kloop_x ?_|refine kloop_r ?_)
    |((with_reducible refine kblk_xn ?_ ?_);rfl)
    |((with_reducible refine swp_regionP ?_ ?_ (fun K' hK' => ?_));rfl;rfl;simp only [UN, LM, Nat.reduceBEq, Nat.reduceLeDiff, Int.reduceLE, Int.reduceLT, Int.reduceToNat, Nat.reduceAdd, Nat.reduceSub, Nat.reduceMul, reduceCtorEq, XTS, XT2S, XT3S, g0, Bool.not_true, Bool.not_false, cond_true, cond_false];(repeat (refine And.intro ?_ ?_; focus (clear hK'; intros; simp_all; done)));(try (refine hK' _ _ ?_; clear hK'; clear K')))
    |((with_reducible refine swp_cond ?_ ?_);rfl;refine ⟨_, rfl, fun h => ?_, fun h => ?_⟩ <;> (try (exfalso; exact absurd h (by decide)))))
  simp only [Kret, retL, retOne, oneV, UN, LM, Nat.reduceBEq, Nat.reduceLeDiff, Int.reduceLE, Int.reduceLT, Int.reduceToNat, Nat.reduceAdd, Nat.reduceSub, Nat.reduceMul, reduceCtorEq, XTS, XT2S, XT3S, Ex.zero, Ex.d, Ex.ds]
set_option maxHeartbeats 8000000 in
set_option maxRecDepth 100000 in
theorem parse_ok (s : ByteArray) (X : Ex) (n : Nat) (hb : DFn Tryd.prog Γ1 65 [sD s, iD 0] (.tup [X.d, iD n, .agg [iD 0, iD 0]])) (hn : ¬ n < s.size) : DFn Tryd.prog Γ1 34 [sD s] (.tup [X.d, .agg [iD 0, iD 0]]) := by
  obtain ⟨xk, xn, xt, xm, xs, xl⟩ := X
  have g0 : ¬ (n : Int) < (s.size : Int) := by omega
  simp only [Ex.d] at hb ⊢
  refine fn_of_swp (N := 25) Tryd.func34 rfl (by decide) rfl rfl (by simp) (fun C h0 => ?_)
  simp only [argE]
  repeat' (first
    |(with_reducible first|refine swp_seq ?_|refine swp_block ?_|refine swp_skip ?_|refine swp_ret ?_|refine swp_exit ?_|refine swp_label ?_|refine kseq_n ?_|refine kseq_x ?_|refine kseq_r ?_|refine kblk_n ?_|refine kblk_r ?_|refine kblk_xs ?_|refine kloop_x ?_|refine kloop_r ?_)
    |((with_reducible refine kblk_xn ?_ ?_);rfl)
    |((with_reducible refine swp_regionP ?_ ?_ (fun K' hK' => ?_));rfl;rfl;simp only [UN, LM, Nat.reduceBEq, Nat.reduceLeDiff, Int.reduceLE, Int.reduceLT, Int.reduceToNat, Nat.reduceAdd, Nat.reduceSub, Nat.reduceMul, reduceCtorEq, XTS, XT2S, XT3S];(repeat (refine And.intro ?_ ?_; focus (clear hK'; intros; simp_all; done)));(try (refine hK' _ _ ?_; clear hK'; clear K')))
    |((with_reducible refine swp_cond ?_ ?_);rfl;refine ⟨_, rfl, fun h => ?_, fun h => ?_⟩ <;> (try (exfalso; exact absurd h (by decide)))))
  refine stop_call h0 rfl (by simp only [UN, LM, Nat.reduceBEq, Nat.reduceLeDiff, Int.reduceLE, Int.reduceLT, Int.reduceToNat, Nat.reduceAdd, Nat.reduceSub, Nat.reduceMul, reduceCtorEq]) rfl (by simp only [keepS, UN, LM, Nat.reduceBEq, Nat.reduceLeDiff, Int.reduceLE, Int.reduceLT, Int.reduceToNat, Nat.reduceAdd, Nat.reduceSub, Nat.reduceMul, reduceCtorEq]) (hb) ?_
  simp only [UN, LM, Nat.reduceBEq, Nat.reduceLeDiff, Int.reduceLE, Int.reduceLT, Int.reduceToNat, Nat.reduceAdd, Nat.reduceSub, Nat.reduceMul, reduceCtorEq, XTS, XT2S, XT3S, inX, dropS, ]
  (repeat (refine And.intro ?_ ?_; focus (clear hK'; intros; simp_all; done)))
  (try (refine hK' _ _ ?_; clear hK'; clear K'))
  repeat' (first
    |(with_reducible first|refine swp_seq ?_|refine swp_block ?_|refine swp_skip ?_|refine swp_ret ?_|refine swp_exit ?_|refine swp_label ?_|refine kseq_n ?_|refine kseq_x ?_|refine kseq_r ?_|refine kblk_n ?_|refine kblk_r ?_|refine kblk_xs ?_|refine kloop_x ?_|refine kloop_r ?_)
    |((with_reducible refine kblk_xn ?_ ?_);rfl)
    |((with_reducible refine swp_regionP ?_ ?_ (fun K' hK' => ?_));rfl;rfl;simp only [UN, LM, Nat.reduceBEq, Nat.reduceLeDiff, Int.reduceLE, Int.reduceLT, Int.reduceToNat, Nat.reduceAdd, Nat.reduceSub, Nat.reduceMul, reduceCtorEq, XTS, XT2S, XT3S, g0, Bool.not_true, Bool.not_false, cond_true, cond_false];(repeat (refine And.intro ?_ ?_; focus (clear hK'; intros; simp_all; done)));(try (refine hK' _ _ ?_; clear hK'; clear K')))
    |((with_reducible refine swp_cond ?_ ?_);rfl;refine ⟨_, rfl, fun h => ?_, fun h => ?_⟩ <;> (try (exfalso; exact absurd h (by decide)))))
  (with_reducible refine swp_drawW ?_ ?_ ?_ (⟨[], []⟩) _ rfl (fun K' hK' => ?_)
   · kernel_rfl
   · rfl
   · rfl
   simp only [UN, LM, Nat.reduceBEq, Nat.reduceLeDiff, Int.reduceLE, Int.reduceLT, Int.reduceToNat, Nat.reduceAdd, Nat.reduceSub, Nat.reduceMul, reduceCtorEq, XTS, XT2S, XT3S, vcW, stepW, callR, effO, srcE, Eff.env, Eff.st, writeOp, callA, pureOp, Bool.or_true, Bool.true_or, Bool.or_self, Bool.or_false, Bool.false_or, D.flat, D.flats, true_or, or_true, forall_const, ]
   (repeat (refine And.intro ?_ ?_; focus (clear hK'; intros; simp_all; done)))
   (refine And.intro (by kernel_rfl) ?_)
   (try (refine hK' _ _ ?_; clear hK'; clear K')))
  repeat' (first
    |(with_reducible first|refine swp_seq ?_|refine swp_block ?_|refine swp_skip ?_|refine swp_ret ?_|refine swp_exit ?_|refine swp_label ?_|refine kseq_n ?_|refine kseq_x ?_|refine kseq_r ?_|refine kblk_n ?_|refine kblk_r ?_|refine kblk_xs ?_|refine kloop_x ?_|refine kloop_r ?_)
    |((with_reducible refine kblk_xn ?_ ?_);rfl)
    |((with_reducible refine swp_regionP ?_ ?_ (fun K' hK' => ?_));rfl;rfl;simp only [UN, LM, Nat.reduceBEq, Nat.reduceLeDiff, Int.reduceLE, Int.reduceLT, Int.reduceToNat, Nat.reduceAdd, Nat.reduceSub, Nat.reduceMul, reduceCtorEq, XTS, XT2S, XT3S];(repeat (refine And.intro ?_ ?_; focus (clear hK'; intros; simp_all; done)));(try (refine hK' _ _ ?_; clear hK'; clear K')))
    |((with_reducible refine swp_cond ?_ ?_);rfl;refine ⟨_, rfl, fun h => ?_, fun h => ?_⟩ <;> (try (exfalso; exact absurd h (by decide)))))
  simp only [Kret, retL, retOne, oneV, UN, LM, Nat.reduceBEq, Nat.reduceLeDiff, Int.reduceLE, Int.reduceLT, Int.reduceToNat, Nat.reduceAdd, Nat.reduceSub, Nat.reduceMul, reduceCtorEq, XTS, XT2S, XT3S]
/-- What Parse answers, by how reading ends. -/
def parR (s : ByteArray) : Rd → Ex × (Int × Int)
  | .ok x b => if eCheck x = 0 then (if wAt s b < s.size then (Ex.zero, 3, (wAt s b : Nat)) else (x, 0, 0)) else (Ex.zero, 2, 0)
  | .no e b => (Ex.zero, e, (b : Nat))
abbrev parD (p : Ex × (Int × Int)) : D := .tup [p.1.d, .agg [iD p.2.1, iD p.2.2]]
theorem parse_fn (s : ByteArray) (hs : s.size ≤ 2000) (R : Rd) (hr : RdS s 93 [.d (iD 1)] 0 R) (hg : goodR s 0 R) : DFn Tryd.prog Γ1 34 [sD s] (parD (parR s R)) := by
  have hb := begin_fn s hs 0 0 0 (by rw [if_neg (by omega)]) rfl (Nat.zero_le _) R hr (fun x b h => (hg.1 x b h).2.1)
  cases R with
  | no e b => exact parse_err s _ _ _ _ hb (hg.2 e b rfl)
  | ok x b =>
    unfold begR at hb
    unfold parR
    by_cases hc : eCheck x = 0
    · simp only [if_pos hc] at hb ⊢
      by_cases hn : wAt s b < s.size
      · rw [if_pos hn]; exact parse_more s _ _ hb hn
      · rw [if_neg hn]; exact parse_ok s _ _ hb hn
    · simp only [if_neg hc] at hb ⊢
      exact parse_err s _ _ _ _ hb (by decide)
theorem parse_big (s : ByteArray) (hs : ¬ s.size ≤ 2000) : DFn Tryd.prog Γ1 34 [sD s] (parD (Ex.zero, 2, 0)) := parse_err s _ _ _ _ (begin_big s hs 0) (by decide)
/-- Parse always ends. -/
theorem parse_tot (s : ByteArray) : ∃ p : Ex × (Int × Int), DFn Tryd.prog Γ1 34 [sD s] (parD p) ∧ (p.2.1 = 0 → s.size ≤ 2000 ∧ eCheck p.1 = 0 ∧ p.1.rng) ∧ (p.2.1 ≠ 0 → p.1 = Ex.zero) := by
  by_cases hs : s.size ≤ 2000
  · obtain ⟨R, hr, hg⟩ := (rd_tot s hs s.size 0 (by omega) (Nat.zero_le _)).2 1
    refine ⟨_, parse_fn s hs R hr hg, ?_⟩
    cases R with
    | no e b => exact ⟨fun h => absurd h (hg.2 e b rfl), fun _ => rfl⟩
    | ok x b =>
      unfold parR
      by_cases hc : eCheck x = 0
      · simp only [if_pos hc]
        by_cases hn : wAt s b < s.size
        · rw [if_pos hn]; exact ⟨fun h => absurd (show (3 : Int) = 0 from h) (by decide), fun _ => rfl⟩
        · rw [if_neg hn]; exact ⟨fun h => ⟨hs, hc, (hg.1 x b rfl).2.2⟩, fun h => absurd rfl h⟩
      · simp only [if_neg hc]
        exact ⟨fun h => absurd (show (2 : Int) = 0 from h) (by decide), fun _ => trivial⟩
  · exact ⟨(Ex.zero, 2, 0), parse_big s hs, fun h => absurd (show (2 : Int) = 0 from h) (by decide), fun _ => rfl⟩
mutual
theorem same_rfl : ∀ x : Ex, same x x = true
  | .mk k nm t n s l => by
    have := sames_rfl l
    unfold same
    simp [this]
theorem sames_rfl : ∀ l : List Ex, sames l l = true
  | [] => by unfold sames; rfl
  | x :: l => by
    have h1 := same_rfl x
    have h2 := sames_rfl l
    unfold sames
    simp [h1, h2]
end
theorem nm_x : isNameB ⟨#[120]⟩ = true := by decide +kernel
theorem chk_x : eCheck (nameEx ⟨#[120]⟩) = 0 := by
  unfold eCheck nameEx chk
  rw [if_neg (by decide), if_neg (by decide), if_pos ⟨rfl, by decide +kernel, rfl, nm_x⟩]
theorem same_self (y : Ex) (hy : eCheck y = 0) : DFn Tryd.prog Γ1 24 [y.d, y.d] (.v (.bool true)) := by
  have := same_fn Γ1 y.size y (Nat.le_refl _) (fits_of_chk y 60 hy) y
  rw [same_rfl] at this
  exact this
end Go.Proofs.YtiobdkibbhpojaaDoor
