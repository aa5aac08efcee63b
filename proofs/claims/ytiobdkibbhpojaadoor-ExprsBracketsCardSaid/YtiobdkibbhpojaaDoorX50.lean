/- The law ExprsBrackets by a symbolic walk. -/
-- TYPES3
import Derived.Test.YtiobdkibbhpojaaDoorX49
import Derived.Test.YtiobdkibbhpojaaDoorRep
set_option linter.unusedVariables false
set_option linter.unusedSimpArgs false
namespace Go.Proofs.YtiobdkibbhpojaaDoor
open Go.RowKit Go.Sw

theorem parse_xx : DFn Tryd.prog Γ1 34 [sD ⟨#[40, 40, 120, 41, 41]⟩] (.tup [(nameEx ⟨#[120]⟩).d, .agg [iD 0, iD 0]]) := by
  obtain ⟨t, ht⟩ : ∃ t : ByteArray, t = ⟨#[40, 40, 120, 41, 41]⟩ := ⟨_, rfl⟩
  have hz : t.size = 5 := by rw [ht]; rfl
  have e0 : tl t 0 = [40, 40, 120, 41, 41] := by rw [ht]; rfl
  have e1 : tl t 1 = [40, 120, 41, 41] := by rw [ht]; rfl
  have e2 : tl t 2 = [120, 41, 41] := by rw [ht]; rfl
  have e3 : tl t 3 = [41, 41] := by rw [ht]; rfl
  have e4 : tl t 4 = [41] := by rw [ht]; rfl
  have e5 : tl t 5 = [] := by rw [ht]; rfl
  rw [← ht]
  have hs : t.size ≤ 2000 := by omega
  have w2 : wAt t 2 = 2 := wAt_here e2 (by decide)
  have w3 : wAt t 3 = 3 := wAt_here e3 (by decide)
  have w5 : wAt t 5 = 5 := wAt_end e5
  have h1 := name_read t hs ⟨#[120]⟩ nm_x 2 (by omega) [41, 41] (.inr ⟨_, .inr rfl⟩) (by rw [w2, e2]; rfl)
  rw [w2] at h1
  have h2 := all_ok t hs 1 2 (by omega) _ 3 (by omega) h1 _ _ (.stop _ 3 (.inr (by rw [wLev_eq, e3]; decide +kernel)))
  obtain ⟨h3, h4, h5⟩ := par_up hs (p := 1) (by omega) e1 (by omega) h2 (by rw [wAt_wAt, w3, e3]) (.inr ⟨_, rfl⟩)
  rw [wAt_wAt, w3] at h3 h4 h5
  obtain ⟨h6, h7, h8⟩ := par_up hs (p := 0) (by omega) e0 (by omega) h3 (by rw [h5, e4]) (.inl rfl)
  rw [h5] at h6 h7 h8
  exact parse_good hs h6 (by omega) chk_x (by rw [w5]; omega)
theorem rep_fn (ch : UInt8) (hch : ch = 40 ∨ ch = 41) (k : Nat) (hk : k < 5) : DFn Tryd.prog Γ1 36 [sD ⟨#[ch]⟩, iD k] (sD (packS (List.replicate k ch))) :=
  dfn_of (by kernel_rfl) rfl rfl fun w h => Tryd.repeat_small ch hch k hk w

set_option maxHeartbeats 4000000 in
set_option maxRecDepth 100000 in
theorem pick_fn (n : Int) (hn : rng n) : ∃ k : Nat, k < 5 ∧ DFn Tryd.prog Γ1 35 [iD n, iD 5] (iD k) := by
  obtain ⟨h1, h2⟩ := hn
  by_cases h : n < 0
  · refine ⟨((0 - (n + 1)) % 5).toNat, by omega, ?_⟩
    have hw1 : IntKind.i64.wrap (n + 1) = n + 1 := wrap_in (by omega) (by omega)
    have hw2 : IntKind.i64.wrap (0 - (n + 1)) = 0 - (n + 1) := wrap_in (by omega) (by omega)
    have ht : Int.tmod (0 - (n + 1)) 5 = ((((0 - (n + 1)) % 5).toNat : Nat) : Int) := by
      rw [Int.tmod_eq_emod_of_nonneg (by omega)]; omega
    refine fn_of_swp (N := 13) Tryd.func35 rfl (by decide) rfl rfl (by simp) (fun C h0 => ?_)
    simp only [argE]
    repeat' (first
      |(with_reducible first|refine swp_seq ?_|refine swp_block ?_|refine swp_skip ?_|refine swp_ret ?_|refine swp_exit ?_|refine swp_label ?_|refine kseq_n ?_|refine kseq_x ?_|refine kseq_r ?_|refine kblk_n ?_|refine kblk_r ?_|refine kblk_xs ?_|refine kloop_x ?_|refine kloop_r ?_)
      |((with_reducible refine kblk_xn ?_ ?_);rfl)
      |((with_reducible refine swp_regionP ?_ ?_ (fun K' hK' => ?_));rfl;rfl;simp only [UN, LM, Nat.reduceBEq, Nat.reduceLeDiff, Int.reduceLE, Int.reduceLT, Int.reduceToNat, Nat.reduceAdd, Nat.reduceSub, Nat.reduceMul, reduceCtorEq, XTS, XT2S, XT3S, h, hw1, hw2, ht];(repeat (refine And.intro ?_ ?_; focus (clear hK'; intros; simp_all; done)));(try (refine hK' _ _ ?_; clear hK'; clear K')))
      |((with_reducible refine swp_cond ?_ ?_);rfl;refine ⟨_, rfl, fun h => ?_, fun h => ?_⟩ <;> (try (exfalso; exact absurd h (by decide)))))
    -- TRACE
    simp only [Kret, retL, retOne, oneV, UN, LM, Nat.reduceBEq, Nat.reduceLeDiff, Int.reduceLE, Int.reduceLT, Int.reduceToNat, Nat.reduceAdd, Nat.reduceSub, Nat.reduceMul, reduceCtorEq, XTS, XT2S, XT3S, hw2, ht]
  · refine ⟨(n % 5).toNat, by omega, ?_⟩
    have ht : Int.tmod n 5 = (((n % 5).toNat : Nat) : Int) := by
      rw [Int.tmod_eq_emod_of_nonneg (by omega)]; omega
    refine fn_of_swp (N := 13) Tryd.func35 rfl (by decide) rfl rfl (by simp) (fun C h0 => ?_)
    simp only [argE]
    repeat' (first
      |(with_reducible first|refine swp_seq ?_|refine swp_block ?_|refine swp_skip ?_|refine swp_ret ?_|refine swp_exit ?_|refine swp_label ?_|refine kseq_n ?_|refine kseq_x ?_|refine kseq_r ?_|refine kblk_n ?_|refine kblk_r ?_|refine kblk_xs ?_|refine kloop_x ?_|refine kloop_r ?_)
      |((with_reducible refine kblk_xn ?_ ?_);rfl)
      |((with_reducible refine swp_regionP ?_ ?_ (fun K' hK' => ?_));rfl;rfl;simp only [UN, LM, Nat.reduceBEq, Nat.reduceLeDiff, Int.reduceLE, Int.reduceLT, Int.reduceToNat, Nat.reduceAdd, Nat.reduceSub, Nat.reduceMul, reduceCtorEq, XTS, XT2S, XT3S, h, ht];(repeat (refine And.intro ?_ ?_; focus (clear hK'; intros; simp_all; done)));(try (refine hK' _ _ ?_; clear hK'; clear K')))
      |((with_reducible refine swp_cond ?_ ?_);rfl;refine ⟨_, rfl, fun h => ?_, fun h => ?_⟩ <;> (try (exfalso; exact absurd h (by decide)))))
    simp only [Kret, retL, retOne, oneV, UN, LM, Nat.reduceBEq, Nat.reduceLeDiff, Int.reduceLE, Int.reduceLT, Int.reduceToNat, Nat.reduceAdd, Nat.reduceSub, Nat.reduceMul, reduceCtorEq, XTS, XT2S, XT3S, ht]
set_option maxHeartbeats 16000000 in
set_option maxRecDepth 100000 in
theorem bracketsE (s : ByteArray) (hs : s.size ≤ 140737488355328) (n : Int) (hn : rng n) : DFn Tryd.prog Γ1 11 [sD s, iD n] (.v (.bool true)) := by
  have hxx := parse_xx
  simp only [nameEx, Ex.d, Ex.ds] at hxx
  obtain ⟨k, hk, hp⟩ := pick_fn n hn
  have hO := rep_fn 40 (.inl rfl) k hk
  have hC := rep_fn 41 (.inr rfl) k hk
  obtain ⟨t, ht⟩ : ∃ t : ByteArray, packS (List.replicate k 40) ++ ⟨#[32]⟩ ++ s ++ ⟨#[32]⟩ ++ packS (List.replicate k 41) = t := ⟨_, rfl⟩
  have hl : t.data.toList = (brO k ++ [32]) ++ (s.data.toList ++ 32 :: brC k) := by
    rw [← ht]
    simp [packS, brO, brC]
  obtain ⟨p, hP, hp1, hp2⟩ := parse_ctx s t k hl
  obtain ⟨y, c, at'⟩ := p
  simp only [parD] at hP hp1 hp2
  have hbig : ¬ t.size ≤ 2000 → DFn Tryd.prog Γ1 34 [sD t] (.tup [Ex.zero.d, .agg [iD 2, iD 0]]) := fun h => parse_big t h
  have zO : (packS (List.replicate k (40 : UInt8))).size = k := by rw [pack_size, List.length_replicate]
  have zC : (packS (List.replicate k (41 : UInt8))).size = k := by rw [pack_size, List.length_replicate]
  generalize packS (List.replicate k (40 : UInt8)) = A at *
  generalize packS (List.replicate k (41 : UInt8)) = B at *
  have b1 : (⟨#[32]⟩ : ByteArray).size = 1 := rfl
  have z1 : (A ++ ⟨#[32]⟩ : ByteArray).size = k + 1 := by rw [ByteArray.size_append, zO, b1]
  have z2 : (A ++ ⟨#[32]⟩ ++ s : ByteArray).size = k + 1 + s.size := by rw [ByteArray.size_append, z1]
  have z3 : (A ++ ⟨#[32]⟩ ++ s ++ ⟨#[32]⟩ : ByteArray).size = k + 1 + s.size + 1 := by rw [ByteArray.size_append, z2, b1]
  have m1 : k + 1 ≤ maxLen := by unfold maxLen; omega
  have m2 : k + 1 + s.size ≤ maxLen := by unfold maxLen; omega
  have m3 : k + 1 + s.size + 1 ≤ maxLen := by unfold maxLen; omega
  have m4 : k + 1 + s.size + 1 + k ≤ maxLen := by unfold maxLen; omega
  clear hl
  by_cases hc : c = 0
  · subst hc
    obtain ⟨hcy, hty⟩ := hp2 rfl
    have hsm := same_self y hcy
    clear hp1 hp2 hcy
    by_cases hT : t.size ≤ 2000
    · have hty := hty hT
      have hT1 : ¬ (2000 : Int) < (t.size : Int) := by omega
      clear hbig
      obtain ⟨yk, yn, yt, ym, ys, yl⟩ := y
      simp only [parD, Ex.d] at hP hty hsm
      refine fn_of_swp (N := 65) Tryd.func11 rfl (by decide) rfl rfl (by simp) (fun C h0 => ?_)
      simp only [argE]
      repeat' (first
        |(with_reducible first|refine swp_seq ?_|refine swp_block ?_|refine swp_skip ?_|refine swp_ret ?_|refine swp_exit ?_|refine swp_label ?_|refine kseq_n ?_|refine kseq_x ?_|refine kseq_r ?_|refine kblk_n ?_|refine kblk_r ?_|refine kblk_xs ?_|refine kloop_x ?_|refine kloop_r ?_)
        |((with_reducible refine kblk_xn ?_ ?_);rfl)
        |((with_reducible refine swp_regionP ?_ ?_ (fun K' hK' => ?_));rfl;rfl;simp only [UN, LM, Nat.reduceBEq, Nat.reduceLeDiff, Int.reduceLE, Int.reduceLT, Int.reduceToNat, Nat.reduceAdd, Nat.reduceSub, Nat.reduceMul, reduceCtorEq, XTS, XT2S, XT3S];(repeat (refine And.intro ?_ ?_; focus (clear hK'; intros; simp_all; done)));(try (refine hK' _ _ ?_; clear hK'; clear K')))
        |((with_reducible refine swp_cond ?_ ?_);rfl;refine ⟨_, rfl, fun h => ?_, fun h => ?_⟩ <;> (try (exfalso; exact absurd h (by decide)))))
      refine stop_call h0 rfl (by simp only [UN, LM, Nat.reduceBEq, Nat.reduceLeDiff, Int.reduceLE, Int.reduceLT, Int.reduceToNat, Nat.reduceAdd, Nat.reduceSub, Nat.reduceMul, reduceCtorEq]) rfl (by simp only [keepS, UN, LM, Nat.reduceBEq, Nat.reduceLeDiff, Int.reduceLE, Int.reduceLT, Int.reduceToNat, Nat.reduceAdd, Nat.reduceSub, Nat.reduceMul, reduceCtorEq]) (hxx) ?_
      simp only [UN, LM, Nat.reduceBEq, Nat.reduceLeDiff, Int.reduceLE, Int.reduceLT, Int.reduceToNat, Nat.reduceAdd, Nat.reduceSub, Nat.reduceMul, reduceCtorEq, XTS, XT2S, XT3S, inX, dropS, ]
      (repeat (refine And.intro ?_ ?_; focus (clear hK'; intros; simp_all; done)))
      (try (refine hK' _ _ ?_; clear hK'; clear K'))
      repeat' (first
        |(with_reducible first|refine swp_seq ?_|refine swp_block ?_|refine swp_skip ?_|refine swp_ret ?_|refine swp_exit ?_|refine swp_label ?_|refine kseq_n ?_|refine kseq_x ?_|refine kseq_r ?_|refine kblk_n ?_|refine kblk_r ?_|refine kblk_xs ?_|refine kloop_x ?_|refine kloop_r ?_)
        |((with_reducible refine kblk_xn ?_ ?_);rfl)
        |((with_reducible refine swp_regionP ?_ ?_ (fun K' hK' => ?_));rfl;rfl;simp only [UN, LM, Nat.reduceBEq, Nat.reduceLeDiff, Int.reduceLE, Int.reduceLT, Int.reduceToNat, Nat.reduceAdd, Nat.reduceSub, Nat.reduceMul, reduceCtorEq, XTS, XT2S, XT3S, Bool.not_true, Bool.not_false, cond_true, cond_false];(repeat (refine And.intro ?_ ?_; focus (clear hK'; intros; simp_all; done)));(try (refine hK' _ _ ?_; clear hK'; clear K')))
        |((with_reducible refine swp_cond ?_ ?_);rfl;refine ⟨_, rfl, fun h => ?_, fun h => ?_⟩ <;> (try (exfalso; exact absurd h (by decide)))))
      refine stop_call h0 rfl (by simp only [UN, LM, Nat.reduceBEq, Nat.reduceLeDiff, Int.reduceLE, Int.reduceLT, Int.reduceToNat, Nat.reduceAdd, Nat.reduceSub, Nat.reduceMul, reduceCtorEq]) rfl (by simp only [keepS, UN, LM, Nat.reduceBEq, Nat.reduceLeDiff, Int.reduceLE, Int.reduceLT, Int.reduceToNat, Nat.reduceAdd, Nat.reduceSub, Nat.reduceMul, reduceCtorEq]) (hP) ?_
      simp only [UN, LM, Nat.reduceBEq, Nat.reduceLeDiff, Int.reduceLE, Int.reduceLT, Int.reduceToNat, Nat.reduceAdd, Nat.reduceSub, Nat.reduceMul, reduceCtorEq, XTS, XT2S, XT3S, inX, dropS, ]
      (repeat (refine And.intro ?_ ?_; focus (clear hK'; intros; simp_all; done)))
      (try (refine hK' _ _ ?_; clear hK'; clear K'))
      repeat' (first
        |(with_reducible first|refine swp_seq ?_|refine swp_block ?_|refine swp_skip ?_|refine swp_ret ?_|refine swp_exit ?_|refine swp_label ?_|refine kseq_n ?_|refine kseq_x ?_|refine kseq_r ?_|refine kblk_n ?_|refine kblk_r ?_|refine kblk_xs ?_|refine kloop_x ?_|refine kloop_r ?_)
        |((with_reducible refine kblk_xn ?_ ?_);rfl)
        |((with_reducible refine swp_regionP ?_ ?_ (fun K' hK' => ?_));rfl;rfl;simp only [UN, LM, Nat.reduceBEq, Nat.reduceLeDiff, Int.reduceLE, Int.reduceLT, Int.reduceToNat, Nat.reduceAdd, Nat.reduceSub, Nat.reduceMul, reduceCtorEq, XTS, XT2S, XT3S];(repeat (refine And.intro ?_ ?_; focus (clear hK'; intros; simp_all; done)));(try (refine hK' _ _ ?_; clear hK'; clear K')))
        |((with_reducible refine swp_cond ?_ ?_);rfl;refine ⟨_, rfl, fun h => ?_, fun h => ?_⟩ <;> (try (exfalso; exact absurd h (by decide)))))
      refine stop_callF rfl (by simp only [UN, LM, Nat.reduceBEq, Nat.reduceLeDiff, Int.reduceLE, Int.reduceLT, Int.reduceToNat, Nat.reduceAdd, Nat.reduceSub, Nat.reduceMul, reduceCtorEq]) rfl rfl (hp) ?_
      simp only [UN, LM, Nat.reduceBEq, Nat.reduceLeDiff, Int.reduceLE, Int.reduceLT, Int.reduceToNat, Nat.reduceAdd, Nat.reduceSub, Nat.reduceMul, reduceCtorEq, XTS, XT2S, XT3S, inX, dropS, ]
      (repeat (refine And.intro ?_ ?_; focus (clear hK'; intros; simp_all; done)))
      (try (refine hK' _ _ ?_; clear hK'; clear K'))
      repeat' (first
        |(with_reducible first|refine swp_seq ?_|refine swp_block ?_|refine swp_skip ?_|refine swp_ret ?_|refine swp_exit ?_|refine swp_label ?_|refine kseq_n ?_|refine kseq_x ?_|refine kseq_r ?_|refine kblk_n ?_|refine kblk_r ?_|refine kblk_xs ?_|refine kloop_x ?_|refine kloop_r ?_)
        |((with_reducible refine kblk_xn ?_ ?_);rfl)
        |((with_reducible refine swp_regionP ?_ ?_ (fun K' hK' => ?_));rfl;rfl;simp only [UN, LM, Nat.reduceBEq, Nat.reduceLeDiff, Int.reduceLE, Int.reduceLT, Int.reduceToNat, Nat.reduceAdd, Nat.reduceSub, Nat.reduceMul, reduceCtorEq, XTS, XT2S, XT3S];(repeat (refine And.intro ?_ ?_; focus (clear hK'; intros; simp_all; done)));(try (refine hK' _ _ ?_; clear hK'; clear K')))
        |((with_reducible refine swp_cond ?_ ?_);rfl;refine ⟨_, rfl, fun h => ?_, fun h => ?_⟩ <;> (try (exfalso; exact absurd h (by decide)))))
      refine stop_callF rfl (by simp only [UN, LM, Nat.reduceBEq, Nat.reduceLeDiff, Int.reduceLE, Int.reduceLT, Int.reduceToNat, Nat.reduceAdd, Nat.reduceSub, Nat.reduceMul, reduceCtorEq]) rfl rfl (hO) ?_
      simp only [UN, LM, Nat.reduceBEq, Nat.reduceLeDiff, Int.reduceLE, Int.reduceLT, Int.reduceToNat, Nat.reduceAdd, Nat.reduceSub, Nat.reduceMul, reduceCtorEq, XTS, XT2S, XT3S, inX, dropS, z1, z2, m1, m2, m3, b1, zO]
      (repeat (refine And.intro ?_ ?_; focus (clear hK'; intros; simp_all; done)))
      (try (refine hK' _ _ ?_; clear hK'; clear K'))
      refine stop_callF rfl (by simp only [UN, LM, Nat.reduceBEq, Nat.reduceLeDiff, Int.reduceLE, Int.reduceLT, Int.reduceToNat, Nat.reduceAdd, Nat.reduceSub, Nat.reduceMul, reduceCtorEq]) rfl rfl (hC) ?_
      simp only [UN, LM, Nat.reduceBEq, Nat.reduceLeDiff, Int.reduceLE, Int.reduceLT, Int.reduceToNat, Nat.reduceAdd, Nat.reduceSub, Nat.reduceMul, reduceCtorEq, XTS, XT2S, XT3S, inX, dropS, z3, zC, m4, ht]
      (repeat (refine And.intro ?_ ?_; focus (clear hK'; intros; simp_all; done)))
      (try (refine hK' _ _ ?_; clear hK'; clear K'))
      repeat' (first
        |(with_reducible first|refine swp_seq ?_|refine swp_block ?_|refine swp_skip ?_|refine swp_ret ?_|refine swp_exit ?_|refine swp_label ?_|refine kseq_n ?_|refine kseq_x ?_|refine kseq_r ?_|refine kblk_n ?_|refine kblk_r ?_|refine kblk_xs ?_|refine kloop_x ?_|refine kloop_r ?_)
        |((with_reducible refine kblk_xn ?_ ?_);rfl)
        |((with_reducible refine swp_regionP ?_ ?_ (fun K' hK' => ?_));rfl;rfl;simp only [UN, LM, Nat.reduceBEq, Nat.reduceLeDiff, Int.reduceLE, Int.reduceLT, Int.reduceToNat, Nat.reduceAdd, Nat.reduceSub, Nat.reduceMul, reduceCtorEq, XTS, XT2S, XT3S];(repeat (refine And.intro ?_ ?_; focus (clear hK'; intros; simp_all; done)));(try (refine hK' _ _ ?_; clear hK'; clear K')))
        |((with_reducible refine swp_cond ?_ ?_);rfl;refine ⟨_, rfl, fun h => ?_, fun h => ?_⟩ <;> (try (exfalso; exact absurd h (by decide)))))
      refine stop_call h0 rfl (by simp only [UN, LM, Nat.reduceBEq, Nat.reduceLeDiff, Int.reduceLE, Int.reduceLT, Int.reduceToNat, Nat.reduceAdd, Nat.reduceSub, Nat.reduceMul, reduceCtorEq]) rfl (by simp only [keepS, UN, LM, Nat.reduceBEq, Nat.reduceLeDiff, Int.reduceLE, Int.reduceLT, Int.reduceToNat, Nat.reduceAdd, Nat.reduceSub, Nat.reduceMul, reduceCtorEq]) (hty) ?_
      simp only [UN, LM, Nat.reduceBEq, Nat.reduceLeDiff, Int.reduceLE, Int.reduceLT, Int.reduceToNat, Nat.reduceAdd, Nat.reduceSub, Nat.reduceMul, reduceCtorEq, XTS, XT2S, XT3S, inX, dropS, ]
      (repeat (refine And.intro ?_ ?_; focus (clear hK'; intros; simp_all; done)))
      (try (refine hK' _ _ ?_; clear hK'; clear K'))
      repeat' (first
        |(with_reducible first|refine swp_seq ?_|refine swp_block ?_|refine swp_skip ?_|refine swp_ret ?_|refine swp_exit ?_|refine swp_label ?_|refine kseq_n ?_|refine kseq_x ?_|refine kseq_r ?_|refine kblk_n ?_|refine kblk_r ?_|refine kblk_xs ?_|refine kloop_x ?_|refine kloop_r ?_)
        |((with_reducible refine kblk_xn ?_ ?_);rfl)
        |((with_reducible refine swp_regionP ?_ ?_ (fun K' hK' => ?_));rfl;rfl;simp only [UN, LM, Nat.reduceBEq, Nat.reduceLeDiff, Int.reduceLE, Int.reduceLT, Int.reduceToNat, Nat.reduceAdd, Nat.reduceSub, Nat.reduceMul, reduceCtorEq, XTS, XT2S, XT3S, hT1];(repeat (refine And.intro ?_ ?_; focus (clear hK'; intros; simp_all; done)));(try (refine hK' _ _ ?_; clear hK'; clear K')))
        |((with_reducible refine swp_cond ?_ ?_);rfl;refine ⟨_, rfl, fun h => ?_, fun h => ?_⟩ <;> (try (exfalso; exact absurd h (by decide)))))
      (with_reducible refine swp_region ?_ (fun K' hK' => ?_)
       · rfl
       simp only [UN, LM, Nat.reduceBEq, Nat.reduceLeDiff, Int.reduceLE, Int.reduceLT, Int.reduceToNat, Nat.reduceAdd, Nat.reduceSub, Nat.reduceMul, reduceCtorEq, XTS, XT2S, XT3S, Bool.not_true, Bool.not_false, cond_true, cond_false]
       (repeat (refine And.intro ?_ ?_; focus (clear hK'; intros; simp_all; done))))
      refine stop_guard rfl ?_
      refine stop_callF rfl (by simp only [UN, LM, Nat.reduceBEq, Nat.reduceLeDiff, Int.reduceLE, Int.reduceLT, Int.reduceToNat, Nat.reduceAdd, Nat.reduceSub, Nat.reduceMul, reduceCtorEq] <;> decide) rfl rfl (hsm) ?_
      simp only [UN, LM, Nat.reduceBEq, Nat.reduceLeDiff, Int.reduceLE, Int.reduceLT, Int.reduceToNat, Nat.reduceAdd, Nat.reduceSub, Nat.reduceMul, reduceCtorEq, XTS, XT2S, XT3S, inX, dropS, ]
      (repeat (refine And.intro ?_ ?_; focus (clear hK'; intros; simp_all; done)))
      (try (refine hK' _ _ ?_; clear hK'; clear K'))
      repeat' (first
        |(with_reducible first|refine swp_seq ?_|refine swp_block ?_|refine swp_skip ?_|refine swp_ret ?_|refine swp_exit ?_|refine swp_label ?_|refine kseq_n ?_|refine kseq_x ?_|refine kseq_r ?_|refine kblk_n ?_|refine kblk_r ?_|refine kblk_xs ?_|refine kloop_x ?_|refine kloop_r ?_)
        |((with_reducible refine kblk_xn ?_ ?_);rfl)
        |((with_reducible refine swp_regionP ?_ ?_ (fun K' hK' => ?_));rfl;rfl;simp only [UN, LM, Nat.reduceBEq, Nat.reduceLeDiff, Int.reduceLE, Int.reduceLT, Int.reduceToNat, Nat.reduceAdd, Nat.reduceSub, Nat.reduceMul, reduceCtorEq, XTS, XT2S, XT3S];(repeat (refine And.intro ?_ ?_; focus (clear hK'; intros; simp_all; done)));(try (refine hK' _ _ ?_; clear hK'; clear K')))
        |((with_reducible refine swp_cond ?_ ?_);rfl;refine ⟨_, rfl, fun h => ?_, fun h => ?_⟩ <;> (try (exfalso; exact absurd h (by decide)))))
      simp only [Kret, retL, retOne, oneV, UN, LM, Nat.reduceBEq, Nat.reduceLeDiff, Int.reduceLE, Int.reduceLT, Int.reduceToNat, Nat.reduceAdd, Nat.reduceSub, Nat.reduceMul, reduceCtorEq, XTS, XT2S, XT3S]
    · have hbg := hbig hT
      have hT1 : (2000 : Int) < (t.size : Int) := by omega
      clear hbig hty
      obtain ⟨yk, yn, yt, ym, ys, yl⟩ := y
      simp only [parD, Ex.d, Ex.zero, Ex.ds] at hP hbg hsm
      refine fn_of_swp (N := 65) Tryd.func11 rfl (by decide) rfl rfl (by simp) (fun C h0 => ?_)
      simp only [argE]
      repeat' (first
        |(with_reducible first|refine swp_seq ?_|refine swp_block ?_|refine swp_skip ?_|refine swp_ret ?_|refine swp_exit ?_|refine swp_label ?_|refine kseq_n ?_|refine kseq_x ?_|refine kseq_r ?_|refine kblk_n ?_|refine kblk_r ?_|refine kblk_xs ?_|refine kloop_x ?_|refine kloop_r ?_)
        |((with_reducible refine kblk_xn ?_ ?_);rfl)
        |((with_reducible refine swp_regionP ?_ ?_ (fun K' hK' => ?_));rfl;rfl;simp only [UN, LM, Nat.reduceBEq, Nat.reduceLeDiff, Int.reduceLE, Int.reduceLT, Int.reduceToNat, Nat.reduceAdd, Nat.reduceSub, Nat.reduceMul, reduceCtorEq, XTS, XT2S, XT3S];(repeat (refine And.intro ?_ ?_; focus (clear hK'; intros; simp_all; done)));(try (refine hK' _ _ ?_; clear hK'; clear K')))
        |((with_reducible refine swp_cond ?_ ?_);rfl;refine ⟨_, rfl, fun h => ?_, fun h => ?_⟩ <;> (try (exfalso; exact absurd h (by decide)))))
      refine stop_call h0 rfl (by simp only [UN, LM, Nat.reduceBEq, Nat.reduceLeDiff, Int.reduceLE, Int.reduceLT, Int.reduceToNat, Nat.reduceAdd, Nat.reduceSub, Nat.reduceMul, reduceCtorEq]) rfl (by simp only [keepS, UN, LM, Nat.reduceBEq, Nat.reduceLeDiff, Int.reduceLE, Int.reduceLT, Int.reduceToNat, Nat.reduceAdd, Nat.reduceSub, Nat.reduceMul, reduceCtorEq]) (hxx) ?_
      simp only [UN, LM, Nat.reduceBEq, Nat.reduceLeDiff, Int.reduceLE, Int.reduceLT, Int.reduceToNat, Nat.reduceAdd, Nat.reduceSub, Nat.reduceMul, reduceCtorEq, XTS, XT2S, XT3S, inX, dropS, ]
      (repeat (refine And.intro ?_ ?_; focus (clear hK'; intros; simp_all; done)))
      (try (refine hK' _ _ ?_; clear hK'; clear K'))
      repeat' (first
        |(with_reducible first|refine swp_seq ?_|refine swp_block ?_|refine swp_skip ?_|refine swp_ret ?_|refine swp_exit ?_|refine swp_label ?_|refine kseq_n ?_|refine kseq_x ?_|refine kseq_r ?_|refine kblk_n ?_|refine kblk_r ?_|refine kblk_xs ?_|refine kloop_x ?_|refine kloop_r ?_)
        |((with_reducible refine kblk_xn ?_ ?_);rfl)
        |((with_reducible refine swp_regionP ?_ ?_ (fun K' hK' => ?_));rfl;rfl;simp only [UN, LM, Nat.reduceBEq, Nat.reduceLeDiff, Int.reduceLE, Int.reduceLT, Int.reduceToNat, Nat.reduceAdd, Nat.reduceSub, Nat.reduceMul, reduceCtorEq, XTS, XT2S, XT3S, Bool.not_true, Bool.not_false, cond_true, cond_false];(repeat (refine And.intro ?_ ?_; focus (clear hK'; intros; simp_all; done)));(try (refine hK' _ _ ?_; clear hK'; clear K')))
        |((with_reducible refine swp_cond ?_ ?_);rfl;refine ⟨_, rfl, fun h => ?_, fun h => ?_⟩ <;> (try (exfalso; exact absurd h (by decide)))))
      refine stop_call h0 rfl (by simp only [UN, LM, Nat.reduceBEq, Nat.reduceLeDiff, Int.reduceLE, Int.reduceLT, Int.reduceToNat, Nat.reduceAdd, Nat.reduceSub, Nat.reduceMul, reduceCtorEq]) rfl (by simp only [keepS, UN, LM, Nat.reduceBEq, Nat.reduceLeDiff, Int.reduceLE, Int.reduceLT, Int.reduceToNat, Nat.reduceAdd, Nat.reduceSub, Nat.reduceMul, reduceCtorEq]) (hP) ?_
      simp only [UN, LM, Nat.reduceBEq, Nat.reduceLeDiff, Int.reduceLE, Int.reduceLT, Int.reduceToNat, Nat.reduceAdd, Nat.reduceSub, Nat.reduceMul, reduceCtorEq, XTS, XT2S, XT3S, inX, dropS, ]
      (repeat (refine And.intro ?_ ?_; focus (clear hK'; intros; simp_all; done)))
      (try (refine hK' _ _ ?_; clear hK'; clear K'))
      repeat' (first
        |(with_reducible first|refine swp_seq ?_|refine swp_block ?_|refine swp_skip ?_|refine swp_ret ?_|refine swp_exit ?_|refine swp_label ?_|refine kseq_n ?_|refine kseq_x ?_|refine kseq_r ?_|refine kblk_n ?_|refine kblk_r ?_|refine kblk_xs ?_|refine kloop_x ?_|refine kloop_r ?_)
        |((with_reducible refine kblk_xn ?_ ?_);rfl)
        |((with_reducible refine swp_regionP ?_ ?_ (fun K' hK' => ?_));rfl;rfl;simp only [UN, LM, Nat.reduceBEq, Nat.reduceLeDiff, Int.reduceLE, Int.reduceLT, Int.reduceToNat, Nat.reduceAdd, Nat.reduceSub, Nat.reduceMul, reduceCtorEq, XTS, XT2S, XT3S];(repeat (refine And.intro ?_ ?_; focus (clear hK'; intros; simp_all; done)));(try (refine hK' _ _ ?_; clear hK'; clear K')))
        |((with_reducible refine swp_cond ?_ ?_);rfl;refine ⟨_, rfl, fun h => ?_, fun h => ?_⟩ <;> (try (exfalso; exact absurd h (by decide)))))
      refine stop_callF rfl (by simp only [UN, LM, Nat.reduceBEq, Nat.reduceLeDiff, Int.reduceLE, Int.reduceLT, Int.reduceToNat, Nat.reduceAdd, Nat.reduceSub, Nat.reduceMul, reduceCtorEq]) rfl rfl (hp) ?_
      simp only [UN, LM, Nat.reduceBEq, Nat.reduceLeDiff, Int.reduceLE, Int.reduceLT, Int.reduceToNat, Nat.reduceAdd, Nat.reduceSub, Nat.reduceMul, reduceCtorEq, XTS, XT2S, XT3S, inX, dropS, ]
      (repeat (refine And.intro ?_ ?_; focus (clear hK'; intros; simp_all; done)))
      (try (refine hK' _ _ ?_; clear hK'; clear K'))
      repeat' (first
        |(with_reducible first|refine swp_seq ?_|refine swp_block ?_|refine swp_skip ?_|refine swp_ret ?_|refine swp_exit ?_|refine swp_label ?_|refine kseq_n ?_|refine kseq_x ?_|refine kseq_r ?_|refine kblk_n ?_|refine kblk_r ?_|refine kblk_xs ?_|refine kloop_x ?_|refine kloop_r ?_)
        |((with_reducible refine kblk_xn ?_ ?_);rfl)
        |((with_reducible refine swp_regionP ?_ ?_ (fun K' hK' => ?_));rfl;rfl;simp only [UN, LM, Nat.reduceBEq, Nat.reduceLeDiff, Int.reduceLE, Int.reduceLT, Int.reduceToNat, Nat.reduceAdd, Nat.reduceSub, Nat.reduceMul, reduceCtorEq, XTS, XT2S, XT3S];(repeat (refine And.intro ?_ ?_; focus (clear hK'; intros; simp_all; done)));(try (refine hK' _ _ ?_; clear hK'; clear K')))
        |((with_reducible refine swp_cond ?_ ?_);rfl;refine ⟨_, rfl, fun h => ?_, fun h => ?_⟩ <;> (try (exfalso; exact absurd h (by decide)))))
      refine stop_callF rfl (by simp only [UN, LM, Nat.reduceBEq, Nat.reduceLeDiff, Int.reduceLE, Int.reduceLT, Int.reduceToNat, Nat.reduceAdd, Nat.reduceSub, Nat.reduceMul, reduceCtorEq]) rfl rfl (hO) ?_
      simp only [UN, LM, Nat.reduceBEq, Nat.reduceLeDiff, Int.reduceLE, Int.reduceLT, Int.reduceToNat, Nat.reduceAdd, Nat.reduceSub, Nat.reduceMul, reduceCtorEq, XTS, XT2S, XT3S, inX, dropS, z1, z2, m1, m2, m3, b1, zO]
      (repeat (refine And.intro ?_ ?_; focus (clear hK'; intros; simp_all; done)))
      (try (refine hK' _ _ ?_; clear hK'; clear K'))
      refine stop_callF rfl (by simp only [UN, LM, Nat.reduceBEq, Nat.reduceLeDiff, Int.reduceLE, Int.reduceLT, Int.reduceToNat, Nat.reduceAdd, Nat.reduceSub, Nat.reduceMul, reduceCtorEq]) rfl rfl (hC) ?_
      simp only [UN, LM, Nat.reduceBEq, Nat.reduceLeDiff, Int.reduceLE, Int.reduceLT, Int.reduceToNat, Nat.reduceAdd, Nat.reduceSub, Nat.reduceMul, reduceCtorEq, XTS, XT2S, XT3S, inX, dropS, z3, zC, m4, ht]
      (repeat (refine And.intro ?_ ?_; focus (clear hK'; intros; simp_all; done)))
      (try (refine hK' _ _ ?_; clear hK'; clear K'))
      repeat' (first
        |(with_reducible first|refine swp_seq ?_|refine swp_block ?_|refine swp_skip ?_|refine swp_ret ?_|refine swp_exit ?_|refine swp_label ?_|refine kseq_n ?_|refine kseq_x ?_|refine kseq_r ?_|refine kblk_n ?_|refine kblk_r ?_|refine kblk_xs ?_|refine kloop_x ?_|refine kloop_r ?_)
        |((with_reducible refine kblk_xn ?_ ?_);rfl)
        |((with_reducible refine swp_regionP ?_ ?_ (fun K' hK' => ?_));rfl;rfl;simp only [UN, LM, Nat.reduceBEq, Nat.reduceLeDiff, Int.reduceLE, Int.reduceLT, Int.reduceToNat, Nat.reduceAdd, Nat.reduceSub, Nat.reduceMul, reduceCtorEq, XTS, XT2S, XT3S];(repeat (refine And.intro ?_ ?_; focus (clear hK'; intros; simp_all; done)));(try (refine hK' _ _ ?_; clear hK'; clear K')))
        |((with_reducible refine swp_cond ?_ ?_);rfl;refine ⟨_, rfl, fun h => ?_, fun h => ?_⟩ <;> (try (exfalso; exact absurd h (by decide)))))
      refine stop_call h0 rfl (by simp only [UN, LM, Nat.reduceBEq, Nat.reduceLeDiff, Int.reduceLE, Int.reduceLT, Int.reduceToNat, Nat.reduceAdd, Nat.reduceSub, Nat.reduceMul, reduceCtorEq]) rfl (by simp only [keepS, UN, LM, Nat.reduceBEq, Nat.reduceLeDiff, Int.reduceLE, Int.reduceLT, Int.reduceToNat, Nat.reduceAdd, Nat.reduceSub, Nat.reduceMul, reduceCtorEq]) (hbg) ?_
      simp only [UN, LM, Nat.reduceBEq, Nat.reduceLeDiff, Int.reduceLE, Int.reduceLT, Int.reduceToNat, Nat.reduceAdd, Nat.reduceSub, Nat.reduceMul, reduceCtorEq, XTS, XT2S, XT3S, inX, dropS, ]
      (repeat (refine And.intro ?_ ?_; focus (clear hK'; intros; simp_all; done)))
      (try (refine hK' _ _ ?_; clear hK'; clear K'))
      repeat' (first
        |(with_reducible first|refine swp_seq ?_|refine swp_block ?_|refine swp_skip ?_|refine swp_ret ?_|refine swp_exit ?_|refine swp_label ?_|refine kseq_n ?_|refine kseq_x ?_|refine kseq_r ?_|refine kblk_n ?_|refine kblk_r ?_|refine kblk_xs ?_|refine kloop_x ?_|refine kloop_r ?_)
        |((with_reducible refine kblk_xn ?_ ?_);rfl)
        |((with_reducible refine swp_regionP ?_ ?_ (fun K' hK' => ?_));rfl;rfl;simp only [UN, LM, Nat.reduceBEq, Nat.reduceLeDiff, Int.reduceLE, Int.reduceLT, Int.reduceToNat, Nat.reduceAdd, Nat.reduceSub, Nat.reduceMul, reduceCtorEq, XTS, XT2S, XT3S, hT1];(repeat (refine And.intro ?_ ?_; focus (clear hK'; intros; simp_all; done)));(try (refine hK' _ _ ?_; clear hK'; clear K')))
        |((with_reducible refine swp_cond ?_ ?_);rfl;refine ⟨_, rfl, fun h => ?_, fun h => ?_⟩ <;> (try (exfalso; exact absurd h (by decide)))))
      simp only [Kret, retL, retOne, oneV, UN, LM, Nat.reduceBEq, Nat.reduceLeDiff, Int.reduceLE, Int.reduceLT, Int.reduceToNat, Nat.reduceAdd, Nat.reduceSub, Nat.reduceMul, reduceCtorEq, XTS, XT2S, XT3S]
  · obtain rfl := hp1 hc
    have g0 : (c != 0) = true := by simpa using hc
    simp only [Ex.d, Ex.zero, Ex.ds] at hP
    clear hp1 hp2 hbig
    refine fn_of_swp (N := 65) Tryd.func11 rfl (by decide) rfl rfl (by simp) (fun C h0 => ?_)
    simp only [argE]
    repeat' (first
      |(with_reducible first|refine swp_seq ?_|refine swp_block ?_|refine swp_skip ?_|refine swp_ret ?_|refine swp_exit ?_|refine swp_label ?_|refine kseq_n ?_|refine kseq_x ?_|refine kseq_r ?_|refine kblk_n ?_|refine kblk_r ?_|refine kblk_xs ?_|refine kloop_x ?_|refine kloop_r ?_)
      |((with_reducible refine kblk_xn ?_ ?_);rfl)
      |((with_reducible refine swp_regionP ?_ ?_ (fun K' hK' => ?_));rfl;rfl;simp only [UN, LM, Nat.reduceBEq, Nat.reduceLeDiff, Int.reduceLE, Int.reduceLT, Int.reduceToNat, Nat.reduceAdd, Nat.reduceSub, Nat.reduceMul, reduceCtorEq, XTS, XT2S, XT3S];(repeat (refine And.intro ?_ ?_; focus (clear hK'; intros; simp_all; done)));(try (refine hK' _ _ ?_; clear hK'; clear K')))
      |((with_reducible refine swp_cond ?_ ?_);rfl;refine ⟨_, rfl, fun h => ?_, fun h => ?_⟩ <;> (try (exfalso; exact absurd h (by decide)))))
    refine stop_call h0 rfl (by simp only [UN, LM, Nat.reduceBEq, Nat.reduceLeDiff, Int.reduceLE, Int.reduceLT, Int.reduceToNat, Nat.reduceAdd, Nat.reduceSub, Nat.reduceMul, reduceCtorEq]) rfl (by simp only [keepS, UN, LM, Nat.reduceBEq, Nat.reduceLeDiff, Int.reduceLE, Int.reduceLT, Int.reduceToNat, Nat.reduceAdd, Nat.reduceSub, Nat.reduceMul, reduceCtorEq]) (hxx) ?_
    simp only [UN, LM, Nat.reduceBEq, Nat.reduceLeDiff, Int.reduceLE, Int.reduceLT, Int.reduceToNat, Nat.reduceAdd, Nat.reduceSub, Nat.reduceMul, reduceCtorEq, XTS, XT2S, XT3S, inX, dropS, ]
    (repeat (refine And.intro ?_ ?_; focus (clear hK'; intros; simp_all; done)))
    (try (refine hK' _ _ ?_; clear hK'; clear K'))
    repeat' (first
      |(with_reducible first|refine swp_seq ?_|refine swp_block ?_|refine swp_skip ?_|refine swp_ret ?_|refine swp_exit ?_|refine swp_label ?_|refine kseq_n ?_|refine kseq_x ?_|refine kseq_r ?_|refine kblk_n ?_|refine kblk_r ?_|refine kblk_xs ?_|refine kloop_x ?_|refine kloop_r ?_)
      |((with_reducible refine kblk_xn ?_ ?_);rfl)
      |((with_reducible refine swp_regionP ?_ ?_ (fun K' hK' => ?_));rfl;rfl;simp only [UN, LM, Nat.reduceBEq, Nat.reduceLeDiff, Int.reduceLE, Int.reduceLT, Int.reduceToNat, Nat.reduceAdd, Nat.reduceSub, Nat.reduceMul, reduceCtorEq, XTS, XT2S, XT3S, Bool.not_true, Bool.not_false, cond_true, cond_false];(repeat (refine And.intro ?_ ?_; focus (clear hK'; intros; simp_all; done)));(try (refine hK' _ _ ?_; clear hK'; clear K')))
      |((with_reducible refine swp_cond ?_ ?_);rfl;refine ⟨_, rfl, fun h => ?_, fun h => ?_⟩ <;> (try (exfalso; exact absurd h (by decide)))))
    refine stop_call h0 rfl (by simp only [UN, LM, Nat.reduceBEq, Nat.reduceLeDiff, Int.reduceLE, Int.reduceLT, Int.reduceToNat, Nat.reduceAdd, Nat.reduceSub, Nat.reduceMul, reduceCtorEq]) rfl (by simp only [keepS, UN, LM, Nat.reduceBEq, Nat.reduceLeDiff, Int.reduceLE, Int.reduceLT, Int.reduceToNat, Nat.reduceAdd, Nat.reduceSub, Nat.reduceMul, reduceCtorEq]) (hP) ?_
    simp only [UN, LM, Nat.reduceBEq, Nat.reduceLeDiff, Int.reduceLE, Int.reduceLT, Int.reduceToNat, Nat.reduceAdd, Nat.reduceSub, Nat.reduceMul, reduceCtorEq, XTS, XT2S, XT3S, inX, dropS, ]
    (repeat (refine And.intro ?_ ?_; focus (clear hK'; intros; simp_all; done)))
    (try (refine hK' _ _ ?_; clear hK'; clear K'))
    repeat' (first
      |(with_reducible first|refine swp_seq ?_|refine swp_block ?_|refine swp_skip ?_|refine swp_ret ?_|refine swp_exit ?_|refine swp_label ?_|refine kseq_n ?_|refine kseq_x ?_|refine kseq_r ?_|refine kblk_n ?_|refine kblk_r ?_|refine kblk_xs ?_|refine kloop_x ?_|refine kloop_r ?_)
      |((with_reducible refine kblk_xn ?_ ?_);rfl)
      |((with_reducible refine swp_regionP ?_ ?_ (fun K' hK' => ?_));rfl;rfl;simp only [UN, LM, Nat.reduceBEq, Nat.reduceLeDiff, Int.reduceLE, Int.reduceLT, Int.reduceToNat, Nat.reduceAdd, Nat.reduceSub, Nat.reduceMul, reduceCtorEq, XTS, XT2S, XT3S, g0];(repeat (refine And.intro ?_ ?_; focus (clear hK'; intros; simp_all; done)));(try (refine hK' _ _ ?_; clear hK'; clear K')))
      |((with_reducible refine swp_cond ?_ ?_);rfl;refine ⟨_, rfl, fun h => ?_, fun h => ?_⟩ <;> (try (exfalso; exact absurd h (by decide)))))
    simp only [Kret, retL, retOne, oneV, UN, LM, Nat.reduceBEq, Nat.reduceLeDiff, Int.reduceLE, Int.reduceLT, Int.reduceToNat, Nat.reduceAdd, Nat.reduceSub, Nat.reduceMul, reduceCtorEq, XTS, XT2S, XT3S]
end Go.Proofs.YtiobdkibbhpojaaDoor
