/- Clone, Same, Index, Contains over texts and bindings by a symbolic walk. -/
import Derived.Test.YtiobdkibbhpojaaDoorX14
import Derived.Test.YtiobdkibbhpojaaDoorSwC
set_option linter.unusedVariables false
set_option linter.unusedSimpArgs false
namespace Go.Proofs.YtiobdkibbhpojaaDoor
open Go.RowKit Go.Sw

set_option maxHeartbeats 4000000 in
set_option maxRecDepth 100000 in
theorem cloneB_fn (l : List Bd) (hl : l.length * 48 ≤ 140737488355328) : SFn Tryd.prog Γ0 29 [.d (envD l)] [] (.own 0) [(0, .row 4 (l.map bDf))] := by
  refine sfn_of_swp (N := 8) Tryd.func29 rfl (by decide) rfl rfl (by simp) (fun C h0 => ?_)
  simp only [argS]
  repeat' (first
    | (with_reducible first
       | refine swp_seq ?_ | refine swp_block ?_ | refine swp_skip ?_ | refine swp_exit ?_ | refine swp_label ?_
       | refine kseq_n ?_ | refine kseq_x ?_ | refine kseq_r ?_ | refine kblk_n ?_ | refine kblk_r ?_ | refine kblk_xs ?_ | refine kloop_x ?_ | refine kloop_r ?_)
    | (with_reducible refine kblk_xn ?_ ?_
       · rfl)
    | (with_reducible refine swp_regionP ?_ ?_ (fun K' hK' => ?_)
       · rfl
       · rfl
       simp only [LM, vcOps, stepO, val, vals, lk, put, putO, opn, opns, ok1, oks, okp, pickV, nbeq, nble, Nat.reduceBEq, Nat.reduceLeDiff, Int.reduceLE, Int.reduceLT, Int.reduceToNat, ofV, leafS, scs, SV.sc, SV.cells, nx, loadC, Nat.reduceAdd, Nat.reduceSub, Nat.reduceMul, upd, bin, binS, binB, eqA, aggOf, leavesV, eqV, eqL, un1, cnv, bnd, slO, lenV, lenT, mkF, callO, bltO, lenO, appO, srcO, notI, jkE, jkS, SV.jk, SV.jks, Box.jk, buildO, fillO, bslO, elemsO, SV.toD, SV.toDs, SV.owns, SV.ownss, D.cells, gVal, offE, offS, Int.cast_ofNat_Int, reduceCtorEq, D.fits, dscs, XTS]
       (repeat (refine And.intro ?_ ?_; focus (clear hK'; intros; simp_all; done)))
       (try (refine hK' _ _ ?_; clear hK'; clear K')))
    | (with_reducible refine swp_cond ?_ ?_
       · rfl
       refine ⟨_, rfl, fun h => ?_, fun h => ?_⟩
       <;> (try (exfalso; exact absurd h (by decide)))))
  refine stop_nilcmp un36 rfl rfl trivial (fun b hb => ?_)
  simp only [LM, vcOps, stepO, val, vals, lk, put, putO, opn, opns, ok1, oks, okp, pickV, nbeq, nble, Nat.reduceBEq, Nat.reduceLeDiff, Int.reduceLE, Int.reduceLT, Int.reduceToNat, ofV, leafS, scs, SV.sc, SV.cells, nx, loadC, Nat.reduceAdd, Nat.reduceSub, Nat.reduceMul, upd, bin, binS, binB, eqA, aggOf, leavesV, eqV, eqL, un1, cnv, bnd, slO, lenV, lenT, mkF, callO, bltO, lenO, appO, srcO, notI, jkE, jkS, SV.jk, SV.jks, Box.jk, buildO, fillO, bslO, elemsO, SV.toD, SV.toDs, SV.owns, SV.ownss, D.cells, gVal, offE, offS, Int.cast_ofNat_Int, reduceCtorEq, D.fits, dscs, XTS]
  refine hK' _ _ ?_
  clear hK' K'
  cases l with
  | nil =>
    repeat' (first
      | (with_reducible first
         | refine swp_seq ?_ | refine swp_block ?_ | refine swp_skip ?_ | refine swp_exit ?_ | refine swp_label ?_
         | refine kseq_n ?_ | refine kseq_x ?_ | refine kseq_r ?_ | refine kblk_n ?_ | refine kblk_r ?_ | refine kblk_xs ?_ | refine kloop_x ?_ | refine kloop_r ?_)
      | (with_reducible refine kblk_xn ?_ ?_
         · rfl)
      | (with_reducible refine swp_regionP ?_ ?_ (fun K' hK' => ?_)
         · rfl
         · rfl
         simp only [LM, vcOps, stepO, val, vals, lk, put, putO, opn, opns, ok1, oks, okp, pickV, nbeq, nble, Nat.reduceBEq, Nat.reduceLeDiff, Int.reduceLE, Int.reduceLT, Int.reduceToNat, ofV, leafS, scs, SV.sc, SV.cells, nx, loadC, Nat.reduceAdd, Nat.reduceSub, Nat.reduceMul, upd, bin, binS, binB, eqA, aggOf, leavesV, eqV, eqL, un1, cnv, bnd, slO, lenV, lenT, mkF, callO, bltO, lenO, appO, srcO, notI, jkE, jkS, SV.jk, SV.jks, Box.jk, buildO, fillO, bslO, elemsO, SV.toD, SV.toDs, SV.owns, SV.ownss, D.cells, gVal, offE, offS, Int.cast_ofNat_Int, reduceCtorEq, D.fits, dscs, XTS]
         (repeat (refine And.intro ?_ ?_; focus (clear hK'; intros; simp_all; done)))
         (try (refine hK' _ _ ?_; clear hK'; clear K')))
      | (with_reducible refine swp_cond ?_ ?_
         · rfl
         refine ⟨_, rfl, fun h => ?_, fun h => ?_⟩
         <;> (try (exfalso; exact absurd h (by decide)))))
    · refine swp_nil 2 0 4 rfl rfl (by decide) ?_
      simp only [LM, vcOps, stepO, val, vals, lk, put, putO, opn, opns, ok1, oks, okp, pickV, nbeq, nble, Nat.reduceBEq, Nat.reduceLeDiff, Int.reduceLE, Int.reduceLT, Int.reduceToNat, ofV, leafS, scs, SV.sc, SV.cells, nx, loadC, Nat.reduceAdd, Nat.reduceSub, Nat.reduceMul, upd, bin, binS, binB, eqA, aggOf, leavesV, eqV, eqL, un1, cnv, bnd, slO, lenV, lenT, mkF, callO, bltO, lenO, appO, srcO, notI, jkE, jkS, SV.jk, SV.jks, Box.jk, buildO, fillO, bslO, elemsO, SV.toD, SV.toDs, SV.owns, SV.ownss, D.cells, gVal, offE, offS, Int.cast_ofNat_Int, reduceCtorEq, D.fits, dscs]
      repeat' (first
        | (with_reducible first
           | refine swp_seq ?_ | refine swp_block ?_ | refine swp_skip ?_ | refine swp_ret ?_ | refine swp_exit ?_ | refine swp_label ?_
           | refine kseq_n ?_ | refine kseq_x ?_ | refine kseq_r ?_ | refine kblk_n ?_ | refine kblk_r ?_ | refine kblk_xs ?_ | refine kloop_x ?_ | refine kloop_r ?_)
        | (with_reducible refine kblk_xn ?_ ?_
           · rfl)
        | (with_reducible refine swp_regionP ?_ ?_ (fun K' hK' => ?_)
           · rfl
           · rfl
           simp only [LM, vcOps, stepO, val, vals, lk, put, putO, opn, opns, ok1, oks, okp, pickV, nbeq, nble, Nat.reduceBEq, Nat.reduceLeDiff, Int.reduceLE, Int.reduceLT, Int.reduceToNat, ofV, leafS, scs, SV.sc, SV.cells, nx, loadC, Nat.reduceAdd, Nat.reduceSub, Nat.reduceMul, upd, bin, binS, binB, eqA, aggOf, leavesV, eqV, eqL, un1, cnv, bnd, slO, lenV, lenT, mkF, callO, bltO, lenO, appO, srcO, notI, jkE, jkS, SV.jk, SV.jks, Box.jk, buildO, fillO, bslO, elemsO, SV.toD, SV.toDs, SV.owns, SV.ownss, D.cells, gVal, offE, offS, Int.cast_ofNat_Int, reduceCtorEq, D.fits, dscs, XTS]
           (repeat (refine And.intro ?_ ?_; focus (clear hK'; intros; simp_all; done)))
           (try (refine hK' _ _ ?_; clear hK'; clear K')))
        | (with_reducible refine swp_cond ?_ ?_
           · rfl
           refine ⟨_, rfl, fun h => ?_, fun h => ?_⟩
           <;> (try (exfalso; exact absurd h (by decide)))))
      simp only [KretS, retL, retOne, oneV, keepS, subS, BoxW, FZs, FZ, offl, LM, vcOps, stepO, val, vals, lk, put, putO, opn, opns, ok1, oks, okp, pickV, nbeq, nble, Nat.reduceBEq, Nat.reduceLeDiff, Int.reduceLE, Int.reduceLT, Int.reduceToNat, ofV, leafS, scs, SV.sc, SV.cells, nx, loadC, Nat.reduceAdd, Nat.reduceSub, Nat.reduceMul, upd, bin, binS, binB, eqA, aggOf, leavesV, eqV, eqL, un1, cnv, bnd, slO, lenV, lenT, mkF, callO, bltO, lenO, appO, srcO, notI, jkE, jkS, SV.jk, SV.jks, Box.jk, buildO, fillO, bslO, elemsO, SV.toD, SV.toDs, SV.owns, SV.ownss, D.cells, gVal, offE, offS, Int.cast_ofNat_Int, reduceCtorEq, D.fits, dscs, XTS, Option.isSome_some, h0, List.map_nil]
    · repeat' (first
        | (with_reducible first
           | refine swp_seq ?_ | refine swp_block ?_ | refine swp_skip ?_ | refine swp_exit ?_ | refine swp_label ?_
           | refine kseq_n ?_ | refine kseq_x ?_ | refine kseq_r ?_ | refine kblk_n ?_ | refine kblk_r ?_ | refine kblk_xs ?_ | refine kloop_x ?_ | refine kloop_r ?_)
        | (with_reducible refine kblk_xn ?_ ?_
           · rfl)
        | (with_reducible refine swp_regionP ?_ ?_ (fun K' hK' => ?_)
           · rfl
           · rfl
           simp only [LM, vcOps, stepO, val, vals, lk, put, putO, opn, opns, ok1, oks, okp, pickV, nbeq, nble, Nat.reduceBEq, Nat.reduceLeDiff, Int.reduceLE, Int.reduceLT, Int.reduceToNat, ofV, leafS, scs, SV.sc, SV.cells, nx, loadC, Nat.reduceAdd, Nat.reduceSub, Nat.reduceMul, upd, bin, binS, binB, eqA, aggOf, leavesV, eqV, eqL, un1, cnv, bnd, slO, lenV, lenT, mkF, callO, bltO, lenO, appO, srcO, notI, jkE, jkS, SV.jk, SV.jks, Box.jk, buildO, fillO, bslO, elemsO, SV.toD, SV.toDs, SV.owns, SV.ownss, D.cells, gVal, offE, offS, Int.cast_ofNat_Int, reduceCtorEq, D.fits, dscs, XTS]
           (repeat (refine And.intro ?_ ?_; focus (clear hK'; intros; simp_all; done)))
           (try (refine hK' _ _ ?_; clear hK'; clear K')))
        | (with_reducible refine swp_cond ?_ ?_
           · rfl
           refine ⟨_, rfl, fun h => ?_, fun h => ?_⟩
           <;> (try (exfalso; exact absurd h (by decide)))))
      refine swp_ret ?_
      simp only [KretS, retL, retOne, oneV, keepS, subS, BoxW, FZs, FZ, offl, LM, vcOps, stepO, val, vals, lk, put, putO, opn, opns, ok1, oks, okp, pickV, nbeq, nble, Nat.reduceBEq, Nat.reduceLeDiff, Int.reduceLE, Int.reduceLT, Int.reduceToNat, ofV, leafS, scs, SV.sc, SV.cells, nx, loadC, Nat.reduceAdd, Nat.reduceSub, Nat.reduceMul, upd, bin, binS, binB, eqA, aggOf, leavesV, eqV, eqL, un1, cnv, bnd, slO, lenV, lenT, mkF, callO, bltO, lenO, appO, srcO, notI, jkE, jkS, SV.jk, SV.jks, Box.jk, buildO, fillO, bslO, elemsO, SV.toD, SV.toDs, SV.owns, SV.ownss, D.cells, gVal, offE, offS, Int.cast_ofNat_Int, reduceCtorEq, D.fits, dscs, XTS, Option.isSome_some, h0, List.map_nil]
  | cons x l =>
    have hb := hb (by simp)
    subst hb
    have hm1 : (l.length + 1) * 48 ≤ 140737488355328 := by simpa using hl
    have hm2 : l.length + 1 ≤ maxLen := by unfold maxLen; omega
    have hfit : ∀ d ∈ (x :: l).map bDf, D.fits 4 d := by
      intro d hd
      obtain ⟨y, -, rfl⟩ := List.mem_map.1 hd
      exact ⟨rfl, trivial⟩
    simp only [List.map_cons] at hfit
    repeat' (first
      | (with_reducible first
         | refine swp_seq ?_ | refine swp_block ?_ | refine swp_skip ?_ | refine swp_ret ?_ | refine swp_exit ?_ | refine swp_label ?_
         | refine kseq_n ?_ | refine kseq_x ?_ | refine kseq_r ?_ | refine kblk_n ?_ | refine kblk_r ?_ | refine kblk_xs ?_ | refine kloop_x ?_ | refine kloop_r ?_)
      | (with_reducible refine kblk_xn ?_ ?_
         · rfl)
      | (with_reducible refine swp_regionP ?_ ?_ (fun K' hK' => ?_)
         · rfl
         · rfl
         simp only [LM, vcOps, stepO, val, vals, lk, put, putO, opn, opns, ok1, oks, okp, pickV, nbeq, nble, Nat.reduceBEq, Nat.reduceLeDiff, Int.reduceLE, Int.reduceLT, Int.reduceToNat, ofV, leafS, scs, SV.sc, SV.cells, nx, loadC, Nat.reduceAdd, Nat.reduceSub, Nat.reduceMul, upd, bin, binS, binB, eqA, aggOf, leavesV, eqV, eqL, un1, cnv, bnd, slO, lenV, lenT, mkF, callO, bltO, lenO, appO, srcO, notI, jkE, jkS, SV.jk, SV.jks, Box.jk, buildO, fillO, bslO, elemsO, SV.toD, SV.toDs, SV.owns, SV.ownss, D.cells, gVal, offE, offS, Int.cast_ofNat_Int, reduceCtorEq, D.fits, dscs, XTS, List.length_map, hm1, hm2]
         (repeat (refine And.intro ?_ ?_; focus (clear hK'; intros; simp_all; done)))
         (try (refine hK' _ _ ?_; clear hK'; clear K')))
      | (with_reducible refine swp_cond ?_ ?_
         · rfl
         refine ⟨_, rfl, fun h => ?_, fun h => ?_⟩
         <;> (try (exfalso; exact absurd h (by decide)))))
    refine ⟨hfit, ?_⟩
    refine hK' _ _ ?_
    clear hK' K'
    repeat' (first
      | (with_reducible first
         | refine swp_seq ?_ | refine swp_block ?_ | refine swp_skip ?_ | refine swp_ret ?_ | refine swp_exit ?_ | refine swp_label ?_
         | refine kseq_n ?_ | refine kseq_x ?_ | refine kseq_r ?_ | refine kblk_n ?_ | refine kblk_r ?_ | refine kblk_xs ?_ | refine kloop_x ?_ | refine kloop_r ?_)
      | (with_reducible refine kblk_xn ?_ ?_
         · rfl)
      | (with_reducible refine swp_regionP ?_ ?_ (fun K' hK' => ?_)
         · rfl
         · rfl
         simp only [LM, vcOps, stepO, val, vals, lk, put, putO, opn, opns, ok1, oks, okp, pickV, nbeq, nble, Nat.reduceBEq, Nat.reduceLeDiff, Int.reduceLE, Int.reduceLT, Int.reduceToNat, ofV, leafS, scs, SV.sc, SV.cells, nx, loadC, Nat.reduceAdd, Nat.reduceSub, Nat.reduceMul, upd, bin, binS, binB, eqA, aggOf, leavesV, eqV, eqL, un1, cnv, bnd, slO, lenV, lenT, mkF, callO, bltO, lenO, appO, srcO, notI, jkE, jkS, SV.jk, SV.jks, Box.jk, buildO, fillO, bslO, elemsO, SV.toD, SV.toDs, SV.owns, SV.ownss, D.cells, gVal, offE, offS, Int.cast_ofNat_Int, reduceCtorEq, D.fits, dscs, XTS]
         (repeat (refine And.intro ?_ ?_; focus (clear hK'; intros; simp_all; done)))
         (try (refine hK' _ _ ?_; clear hK'; clear K')))
      | (with_reducible refine swp_cond ?_ ?_
         · rfl
         refine ⟨_, rfl, fun h => ?_, fun h => ?_⟩
         <;> (try (exfalso; exact absurd h (by decide)))))
    simp only [KretS, retL, retOne, oneV, keepS, subS, BoxW, FZs, FZ, offl, LM, vcOps, stepO, val, vals, lk, put, putO, opn, opns, ok1, oks, okp, pickV, nbeq, nble, Nat.reduceBEq, Nat.reduceLeDiff, Int.reduceLE, Int.reduceLT, Int.reduceToNat, ofV, leafS, scs, SV.sc, SV.cells, nx, loadC, Nat.reduceAdd, Nat.reduceSub, Nat.reduceMul, upd, bin, binS, binB, eqA, aggOf, leavesV, eqV, eqL, un1, cnv, bnd, slO, lenV, lenT, mkF, callO, bltO, lenO, appO, srcO, notI, jkE, jkS, SV.jk, SV.jks, Box.jk, buildO, fillO, bslO, elemsO, SV.toD, SV.toDs, SV.owns, SV.ownss, D.cells, gVal, offE, offS, Int.cast_ofNat_Int, reduceCtorEq, D.fits, dscs, XTS, Option.isSome_some, h0, List.map_cons]
set_option maxHeartbeats 4000000 in
set_option maxRecDepth 100000 in
theorem cloneS_fn (l : List ByteArray) (hl : l.length * 16 ≤ 140737488355328) : SFn Tryd.prog Γ0 60 [.d (.slc (l.map sD))] [] (.own 0) [(0, .row 1 (l.map sD))] := by
  refine sfn_of_swp (N := 8) Tryd.func60 rfl (by decide) rfl rfl (by simp) (fun C h0 => ?_)
  simp only [argS]
  repeat' (first
    | (with_reducible first
       | refine swp_seq ?_ | refine swp_block ?_ | refine swp_skip ?_ | refine swp_exit ?_ | refine swp_label ?_
       | refine kseq_n ?_ | refine kseq_x ?_ | refine kseq_r ?_ | refine kblk_n ?_ | refine kblk_r ?_ | refine kblk_xs ?_ | refine kloop_x ?_ | refine kloop_r ?_)
    | (with_reducible refine kblk_xn ?_ ?_
       · rfl)
    | (with_reducible refine swp_regionP ?_ ?_ (fun K' hK' => ?_)
       · rfl
       · rfl
       simp only [LM, vcOps, stepO, val, vals, lk, put, putO, opn, opns, ok1, oks, okp, pickV, nbeq, nble, Nat.reduceBEq, Nat.reduceLeDiff, Int.reduceLE, Int.reduceLT, Int.reduceToNat, ofV, leafS, scs, SV.sc, SV.cells, nx, loadC, Nat.reduceAdd, Nat.reduceSub, Nat.reduceMul, upd, bin, binS, binB, eqA, aggOf, leavesV, eqV, eqL, un1, cnv, bnd, slO, lenV, lenT, mkF, callO, bltO, lenO, appO, srcO, notI, jkE, jkS, SV.jk, SV.jks, Box.jk, buildO, fillO, bslO, elemsO, SV.toD, SV.toDs, SV.owns, SV.ownss, D.cells, gVal, offE, offS, Int.cast_ofNat_Int, reduceCtorEq, D.fits, dscs, XTS]
       (repeat (refine And.intro ?_ ?_; focus (clear hK'; intros; simp_all; done)))
       (try (refine hK' _ _ ?_; clear hK'; clear K')))
    | (with_reducible refine swp_cond ?_ ?_
       · rfl
       refine ⟨_, rfl, fun h => ?_, fun h => ?_⟩
       <;> (try (exfalso; exact absurd h (by decide)))))
  refine stop_nilcmp un38 rfl rfl trivial (fun b hb => ?_)
  simp only [LM, vcOps, stepO, val, vals, lk, put, putO, opn, opns, ok1, oks, okp, pickV, nbeq, nble, Nat.reduceBEq, Nat.reduceLeDiff, Int.reduceLE, Int.reduceLT, Int.reduceToNat, ofV, leafS, scs, SV.sc, SV.cells, nx, loadC, Nat.reduceAdd, Nat.reduceSub, Nat.reduceMul, upd, bin, binS, binB, eqA, aggOf, leavesV, eqV, eqL, un1, cnv, bnd, slO, lenV, lenT, mkF, callO, bltO, lenO, appO, srcO, notI, jkE, jkS, SV.jk, SV.jks, Box.jk, buildO, fillO, bslO, elemsO, SV.toD, SV.toDs, SV.owns, SV.ownss, D.cells, gVal, offE, offS, Int.cast_ofNat_Int, reduceCtorEq, D.fits, dscs, XTS]
  refine hK' _ _ ?_
  clear hK' K'
  cases l with
  | nil =>
    repeat' (first
      | (with_reducible first
         | refine swp_seq ?_ | refine swp_block ?_ | refine swp_skip ?_ | refine swp_exit ?_ | refine swp_label ?_
         | refine kseq_n ?_ | refine kseq_x ?_ | refine kseq_r ?_ | refine kblk_n ?_ | refine kblk_r ?_ | refine kblk_xs ?_ | refine kloop_x ?_ | refine kloop_r ?_)
      | (with_reducible refine kblk_xn ?_ ?_
         · rfl)
      | (with_reducible refine swp_regionP ?_ ?_ (fun K' hK' => ?_)
         · rfl
         · rfl
         simp only [LM, vcOps, stepO, val, vals, lk, put, putO, opn, opns, ok1, oks, okp, pickV, nbeq, nble, Nat.reduceBEq, Nat.reduceLeDiff, Int.reduceLE, Int.reduceLT, Int.reduceToNat, ofV, leafS, scs, SV.sc, SV.cells, nx, loadC, Nat.reduceAdd, Nat.reduceSub, Nat.reduceMul, upd, bin, binS, binB, eqA, aggOf, leavesV, eqV, eqL, un1, cnv, bnd, slO, lenV, lenT, mkF, callO, bltO, lenO, appO, srcO, notI, jkE, jkS, SV.jk, SV.jks, Box.jk, buildO, fillO, bslO, elemsO, SV.toD, SV.toDs, SV.owns, SV.ownss, D.cells, gVal, offE, offS, Int.cast_ofNat_Int, reduceCtorEq, D.fits, dscs, XTS]
         (repeat (refine And.intro ?_ ?_; focus (clear hK'; intros; simp_all; done)))
         (try (refine hK' _ _ ?_; clear hK'; clear K')))
      | (with_reducible refine swp_cond ?_ ?_
         · rfl
         refine ⟨_, rfl, fun h => ?_, fun h => ?_⟩
         <;> (try (exfalso; exact absurd h (by decide)))))
    · refine swp_nil 2 0 1 rfl rfl (by decide) ?_
      simp only [LM, vcOps, stepO, val, vals, lk, put, putO, opn, opns, ok1, oks, okp, pickV, nbeq, nble, Nat.reduceBEq, Nat.reduceLeDiff, Int.reduceLE, Int.reduceLT, Int.reduceToNat, ofV, leafS, scs, SV.sc, SV.cells, nx, loadC, Nat.reduceAdd, Nat.reduceSub, Nat.reduceMul, upd, bin, binS, binB, eqA, aggOf, leavesV, eqV, eqL, un1, cnv, bnd, slO, lenV, lenT, mkF, callO, bltO, lenO, appO, srcO, notI, jkE, jkS, SV.jk, SV.jks, Box.jk, buildO, fillO, bslO, elemsO, SV.toD, SV.toDs, SV.owns, SV.ownss, D.cells, gVal, offE, offS, Int.cast_ofNat_Int, reduceCtorEq, D.fits, dscs]
      repeat' (first
        | (with_reducible first
           | refine swp_seq ?_ | refine swp_block ?_ | refine swp_skip ?_ | refine swp_ret ?_ | refine swp_exit ?_ | refine swp_label ?_
           | refine kseq_n ?_ | refine kseq_x ?_ | refine kseq_r ?_ | refine kblk_n ?_ | refine kblk_r ?_ | refine kblk_xs ?_ | refine kloop_x ?_ | refine kloop_r ?_)
        | (with_reducible refine kblk_xn ?_ ?_
           · rfl)
        | (with_reducible refine swp_regionP ?_ ?_ (fun K' hK' => ?_)
           · rfl
           · rfl
           simp only [LM, vcOps, stepO, val, vals, lk, put, putO, opn, opns, ok1, oks, okp, pickV, nbeq, nble, Nat.reduceBEq, Nat.reduceLeDiff, Int.reduceLE, Int.reduceLT, Int.reduceToNat, ofV, leafS, scs, SV.sc, SV.cells, nx, loadC, Nat.reduceAdd, Nat.reduceSub, Nat.reduceMul, upd, bin, binS, binB, eqA, aggOf, leavesV, eqV, eqL, un1, cnv, bnd, slO, lenV, lenT, mkF, callO, bltO, lenO, appO, srcO, notI, jkE, jkS, SV.jk, SV.jks, Box.jk, buildO, fillO, bslO, elemsO, SV.toD, SV.toDs, SV.owns, SV.ownss, D.cells, gVal, offE, offS, Int.cast_ofNat_Int, reduceCtorEq, D.fits, dscs, XTS]
           (repeat (refine And.intro ?_ ?_; focus (clear hK'; intros; simp_all; done)))
           (try (refine hK' _ _ ?_; clear hK'; clear K')))
        | (with_reducible refine swp_cond ?_ ?_
           · rfl
           refine ⟨_, rfl, fun h => ?_, fun h => ?_⟩
           <;> (try (exfalso; exact absurd h (by decide)))))
      simp only [KretS, retL, retOne, oneV, keepS, subS, BoxW, FZs, FZ, offl, LM, vcOps, stepO, val, vals, lk, put, putO, opn, opns, ok1, oks, okp, pickV, nbeq, nble, Nat.reduceBEq, Nat.reduceLeDiff, Int.reduceLE, Int.reduceLT, Int.reduceToNat, ofV, leafS, scs, SV.sc, SV.cells, nx, loadC, Nat.reduceAdd, Nat.reduceSub, Nat.reduceMul, upd, bin, binS, binB, eqA, aggOf, leavesV, eqV, eqL, un1, cnv, bnd, slO, lenV, lenT, mkF, callO, bltO, lenO, appO, srcO, notI, jkE, jkS, SV.jk, SV.jks, Box.jk, buildO, fillO, bslO, elemsO, SV.toD, SV.toDs, SV.owns, SV.ownss, D.cells, gVal, offE, offS, Int.cast_ofNat_Int, reduceCtorEq, D.fits, dscs, XTS, Option.isSome_some, h0, List.map_nil]
    · repeat' (first
        | (with_reducible first
           | refine swp_seq ?_ | refine swp_block ?_ | refine swp_skip ?_ | refine swp_exit ?_ | refine swp_label ?_
           | refine kseq_n ?_ | refine kseq_x ?_ | refine kseq_r ?_ | refine kblk_n ?_ | refine kblk_r ?_ | refine kblk_xs ?_ | refine kloop_x ?_ | refine kloop_r ?_)
        | (with_reducible refine kblk_xn ?_ ?_
           · rfl)
        | (with_reducible refine swp_regionP ?_ ?_ (fun K' hK' => ?_)
           · rfl
           · rfl
           simp only [LM, vcOps, stepO, val, vals, lk, put, putO, opn, opns, ok1, oks, okp, pickV, nbeq, nble, Nat.reduceBEq, Nat.reduceLeDiff, Int.reduceLE, Int.reduceLT, Int.reduceToNat, ofV, leafS, scs, SV.sc, SV.cells, nx, loadC, Nat.reduceAdd, Nat.reduceSub, Nat.reduceMul, upd, bin, binS, binB, eqA, aggOf, leavesV, eqV, eqL, un1, cnv, bnd, slO, lenV, lenT, mkF, callO, bltO, lenO, appO, srcO, notI, jkE, jkS, SV.jk, SV.jks, Box.jk, buildO, fillO, bslO, elemsO, SV.toD, SV.toDs, SV.owns, SV.ownss, D.cells, gVal, offE, offS, Int.cast_ofNat_Int, reduceCtorEq, D.fits, dscs, XTS]
           (repeat (refine And.intro ?_ ?_; focus (clear hK'; intros; simp_all; done)))
           (try (refine hK' _ _ ?_; clear hK'; clear K')))
        | (with_reducible refine swp_cond ?_ ?_
           · rfl
           refine ⟨_, rfl, fun h => ?_, fun h => ?_⟩
           <;> (try (exfalso; exact absurd h (by decide)))))
      refine swp_ret ?_
      simp only [KretS, retL, retOne, oneV, keepS, subS, BoxW, FZs, FZ, offl, LM, vcOps, stepO, val, vals, lk, put, putO, opn, opns, ok1, oks, okp, pickV, nbeq, nble, Nat.reduceBEq, Nat.reduceLeDiff, Int.reduceLE, Int.reduceLT, Int.reduceToNat, ofV, leafS, scs, SV.sc, SV.cells, nx, loadC, Nat.reduceAdd, Nat.reduceSub, Nat.reduceMul, upd, bin, binS, binB, eqA, aggOf, leavesV, eqV, eqL, un1, cnv, bnd, slO, lenV, lenT, mkF, callO, bltO, lenO, appO, srcO, notI, jkE, jkS, SV.jk, SV.jks, Box.jk, buildO, fillO, bslO, elemsO, SV.toD, SV.toDs, SV.owns, SV.ownss, D.cells, gVal, offE, offS, Int.cast_ofNat_Int, reduceCtorEq, D.fits, dscs, XTS, Option.isSome_some, h0, List.map_nil]
  | cons x l =>
    have hb := hb (by simp)
    subst hb
    have hm1 : (l.length + 1) * 16 ≤ 140737488355328 := by simpa using hl
    have hm2 : l.length + 1 ≤ maxLen := by unfold maxLen; omega
    have hfit : ∀ d ∈ (x :: l).map sD, D.fits 1 d := by
      intro d hd
      obtain ⟨y, -, rfl⟩ := List.mem_map.1 hd
      exact ⟨rfl, trivial⟩
    simp only [List.map_cons] at hfit
    repeat' (first
      | (with_reducible first
         | refine swp_seq ?_ | refine swp_block ?_ | refine swp_skip ?_ | refine swp_ret ?_ | refine swp_exit ?_ | refine swp_label ?_
         | refine kseq_n ?_ | refine kseq_x ?_ | refine kseq_r ?_ | refine kblk_n ?_ | refine kblk_r ?_ | refine kblk_xs ?_ | refine kloop_x ?_ | refine kloop_r ?_)
      | (with_reducible refine kblk_xn ?_ ?_
         · rfl)
      | (with_reducible refine swp_regionP ?_ ?_ (fun K' hK' => ?_)
         · rfl
         · rfl
         simp only [LM, vcOps, stepO, val, vals, lk, put, putO, opn, opns, ok1, oks, okp, pickV, nbeq, nble, Nat.reduceBEq, Nat.reduceLeDiff, Int.reduceLE, Int.reduceLT, Int.reduceToNat, ofV, leafS, scs, SV.sc, SV.cells, nx, loadC, Nat.reduceAdd, Nat.reduceSub, Nat.reduceMul, upd, bin, binS, binB, eqA, aggOf, leavesV, eqV, eqL, un1, cnv, bnd, slO, lenV, lenT, mkF, callO, bltO, lenO, appO, srcO, notI, jkE, jkS, SV.jk, SV.jks, Box.jk, buildO, fillO, bslO, elemsO, SV.toD, SV.toDs, SV.owns, SV.ownss, D.cells, gVal, offE, offS, Int.cast_ofNat_Int, reduceCtorEq, D.fits, dscs, XTS, List.length_map, hm1, hm2]
         (repeat (refine And.intro ?_ ?_; focus (clear hK'; intros; simp_all; done)))
         (try (refine hK' _ _ ?_; clear hK'; clear K')))
      | (with_reducible refine swp_cond ?_ ?_
         · rfl
         refine ⟨_, rfl, fun h => ?_, fun h => ?_⟩
         <;> (try (exfalso; exact absurd h (by decide)))))
    refine ⟨hfit, ?_⟩
    refine hK' _ _ ?_
    clear hK' K'
    repeat' (first
      | (with_reducible first
         | refine swp_seq ?_ | refine swp_block ?_ | refine swp_skip ?_ | refine swp_ret ?_ | refine swp_exit ?_ | refine swp_label ?_
         | refine kseq_n ?_ | refine kseq_x ?_ | refine kseq_r ?_ | refine kblk_n ?_ | refine kblk_r ?_ | refine kblk_xs ?_ | refine kloop_x ?_ | refine kloop_r ?_)
      | (with_reducible refine kblk_xn ?_ ?_
         · rfl)
      | (with_reducible refine swp_regionP ?_ ?_ (fun K' hK' => ?_)
         · rfl
         · rfl
         simp only [LM, vcOps, stepO, val, vals, lk, put, putO, opn, opns, ok1, oks, okp, pickV, nbeq, nble, Nat.reduceBEq, Nat.reduceLeDiff, Int.reduceLE, Int.reduceLT, Int.reduceToNat, ofV, leafS, scs, SV.sc, SV.cells, nx, loadC, Nat.reduceAdd, Nat.reduceSub, Nat.reduceMul, upd, bin, binS, binB, eqA, aggOf, leavesV, eqV, eqL, un1, cnv, bnd, slO, lenV, lenT, mkF, callO, bltO, lenO, appO, srcO, notI, jkE, jkS, SV.jk, SV.jks, Box.jk, buildO, fillO, bslO, elemsO, SV.toD, SV.toDs, SV.owns, SV.ownss, D.cells, gVal, offE, offS, Int.cast_ofNat_Int, reduceCtorEq, D.fits, dscs, XTS]
         (repeat (refine And.intro ?_ ?_; focus (clear hK'; intros; simp_all; done)))
         (try (refine hK' _ _ ?_; clear hK'; clear K')))
      | (with_reducible refine swp_cond ?_ ?_
         · rfl
         refine ⟨_, rfl, fun h => ?_, fun h => ?_⟩
         <;> (try (exfalso; exact absurd h (by decide)))))
    simp only [KretS, retL, retOne, oneV, keepS, subS, BoxW, FZs, FZ, offl, LM, vcOps, stepO, val, vals, lk, put, putO, opn, opns, ok1, oks, okp, pickV, nbeq, nble, Nat.reduceBEq, Nat.reduceLeDiff, Int.reduceLE, Int.reduceLT, Int.reduceToNat, ofV, leafS, scs, SV.sc, SV.cells, nx, loadC, Nat.reduceAdd, Nat.reduceSub, Nat.reduceMul, upd, bin, binS, binB, eqA, aggOf, leavesV, eqV, eqL, un1, cnv, bnd, slO, lenV, lenT, mkF, callO, bltO, lenO, appO, srcO, notI, jkE, jkS, SV.jk, SV.jks, Box.jk, buildO, fillO, bslO, elemsO, SV.toD, SV.toDs, SV.owns, SV.ownss, D.cells, gVal, offE, offS, Int.cast_ofNat_Int, reduceCtorEq, D.fits, dscs, XTS, Option.isSome_some, h0, List.map_cons]
/-- The first that is s. -/
def idxS (s : List UInt8) : List ByteArray → Nat → Int
  | [], _ => -1
  | b :: l, j => if s = b.toList then (j : Int) else idxS s l (j + 1)
theorem idxS_any (s : List UInt8) : ∀ (l : List ByteArray) (j : Nat), decide (0 ≤ idxS s l j) = l.any fun b => s == b.toList
  | [], j => rfl
  | b :: l, j => by
    unfold idxS
    by_cases h : s = b.toList
    · rw [if_pos h]; simp [h]
    · rw [if_neg h, idxS_any s l (j + 1)]; simp [h]

set_option maxHeartbeats 4000000 in
set_option maxRecDepth 100000 in
theorem indexS_fn (l : List ByteArray) (s : ByteArray) (hl : l.length ≤ 140737488355328) : DFn Tryd.prog Γ0 62 [.slc (l.map sD), sD s] (iD (idxS s.toList l 0)) := by
  refine fn_of_swp (N := 19) Tryd.func62 rfl (by decide) rfl rfl (by simp) (fun C h0 => ?_)
  simp only [argE]
  repeat' (first
    | (with_reducible first
       | refine swp_seq ?_ | refine swp_block ?_ | refine swp_skip ?_ | refine swp_ret ?_ | refine swp_exit ?_ | refine swp_label ?_
       | refine kseq_n ?_ | refine kseq_x ?_ | refine kseq_r ?_ | refine kblk_n ?_ | refine kblk_r ?_ | refine kblk_xs ?_ | refine kloop_x ?_ | refine kloop_r ?_)
    | (with_reducible refine kblk_xn ?_ ?_
       · rfl)
    | (with_reducible refine swp_regionP ?_ ?_ (fun K' hK' => ?_)
       · rfl
       · rfl
       simp only [LM, vcOps, stepO, val, vals, lk, put, putO, opn, opns, ok1, oks, okp, pickV, nbeq, nble, Nat.reduceBEq, Nat.reduceLeDiff, Int.reduceLE, Int.reduceLT, Int.reduceToNat, ofV, leafS, scs, SV.sc, SV.cells, nx, loadC, Nat.reduceAdd, Nat.reduceSub, Nat.reduceMul, upd, bin, binS, binB, eqA, aggOf, leavesV, eqV, eqL, un1, cnv, bnd, slO, lenV, lenT, mkF, callO, bltO, lenO, appO, srcO, notI, jkE, jkS, SV.jk, SV.jks, Box.jk, buildO, fillO, bslO, elemsO, SV.toD, SV.toDs, SV.owns, SV.ownss, D.cells, gVal, offE, offS, Int.cast_ofNat_Int, reduceCtorEq, D.fits, dscs, XTS, List.length_map]
       (repeat (refine And.intro ?_ ?_; focus (clear hK'; intros; simp_all; done)))
       (try (refine hK' _ _ ?_; clear hK'; clear K')))
    | (with_reducible refine swp_cond ?_ ?_
       · rfl
       refine ⟨_, rfl, fun h => ?_, fun h => ?_⟩
       <;> (try (exfalso; exact absurd h (by decide)))))
  refine swp_loop (α := Nat) (fun j => [(0, .d (.slc (l.map sD))), (1, .d (sD s)), (7, .d (iD l.length)), (8, .d (iD j))]) (fun _ => [])
    (fun j => j ≤ l.length ∧ idxS s.toList l 0 = idxS s.toList (l.drop j) j) (fun j => l.length - j) 0 ⟨Nat.zero_le _, rfl⟩ (by refine sub_of h0 ?_ ?_ ?_ <;> simp only [keepS, subS, subE, BoxW, FZs, FZ, offl, LM, vcOps, stepO, val, vals, lk, put, putO, opn, opns, ok1, oks, okp, pickV, nbeq, nble, Nat.reduceBEq, Nat.reduceLeDiff, Int.reduceLE, Int.reduceLT, Int.reduceToNat, ofV, leafS, scs, SV.sc, SV.cells, nx, loadC, Nat.reduceAdd, Nat.reduceSub, Nat.reduceMul, upd, bin, binS, binB, eqA, aggOf, leavesV, eqV, eqL, un1, cnv, bnd, slO, lenV, lenT, mkF, callO, bltO, lenO, appO, srcO, notI, jkE, jkS, SV.jk, SV.jks, Box.jk, buildO, fillO, bslO, elemsO, SV.toD, SV.toDs, SV.owns, SV.ownss, D.cells, gVal, offE, offS, Int.cast_ofNat_Int, reduceCtorEq, D.fits, dscs, XTS, Option.isSome_some, List.length_map]) (fun j hj => ?_)
  obtain ⟨hj, hch⟩ := hj
  have hb0 : (0 : Int) ≤ (j : Int) := by omega
  by_cases hlt : j < l.length
  · obtain ⟨b, hx⟩ : ∃ b, l[j]? = some b := ⟨l[j], by simp [hlt]⟩
    have hget : (l.map sD).getD j default = sD b := by simp [List.getD, hx]
    have hb1 : (j : Int) < (l.length : Int) := by omega
    have hw3 : IntKind.i64.wrap ((j : Int) + 1) = ((j + 1 : Nat) : Int) := by rw [wrap_in (by omega) (by omega)]; omega
    have hd : l.drop j = b :: l.drop (j + 1) := by
      obtain ⟨h1, h2⟩ := List.getElem?_eq_some_iff.1 hx
      rw [List.drop_eq_getElem_cons h1, h2]
    rw [hd] at hch
    simp only [idxS] at hch
    repeat' (first
      | (with_reducible first
         | refine swp_seq ?_ | refine swp_block ?_ | refine swp_skip ?_ | refine swp_ret ?_ | refine swp_exit ?_ | refine swp_label ?_
         | refine kseq_n ?_ | refine kseq_x ?_ | refine kseq_r ?_ | refine kblk_n ?_ | refine kblk_r ?_ | refine kblk_xs ?_ | refine kloop_x ?_ | refine kloop_r ?_)
      | (with_reducible refine kblk_xn ?_ ?_
         · rfl)
      | (with_reducible refine swp_regionP ?_ ?_ (fun K' hK' => ?_)
         · rfl
         · rfl
         simp only [LM, vcOps, stepO, val, vals, lk, put, putO, opn, opns, ok1, oks, okp, pickV, nbeq, nble, Nat.reduceBEq, Nat.reduceLeDiff, Int.reduceLE, Int.reduceLT, Int.reduceToNat, ofV, leafS, scs, SV.sc, SV.cells, nx, loadC, Nat.reduceAdd, Nat.reduceSub, Nat.reduceMul, upd, bin, binS, binB, eqA, aggOf, leavesV, eqV, eqL, un1, cnv, bnd, slO, lenV, lenT, mkF, callO, bltO, lenO, appO, srcO, notI, jkE, jkS, SV.jk, SV.jks, Box.jk, buildO, fillO, bslO, elemsO, SV.toD, SV.toDs, SV.owns, SV.ownss, D.cells, gVal, offE, offS, Int.cast_ofNat_Int, reduceCtorEq, D.fits, dscs, XTS, Int.toNat_natCast, hget, List.length_map, hb0, hb1, hw3]
         (repeat (refine And.intro ?_ ?_; focus (clear hK'; intros; simp_all; done)))
         (try (refine hK' _ _ ?_; clear hK'; clear K')))
      | (with_reducible refine swp_cond ?_ ?_
         · rfl
         refine ⟨_, rfl, fun h => ?_, fun h => ?_⟩
         <;> (try (exfalso; exact absurd h (by decide)))))
    · simp only [Kret, retL, retOne, oneV, LM, vcOps, stepO, val, vals, lk, put, putO, opn, opns, ok1, oks, okp, pickV, nbeq, nble, Nat.reduceBEq, Nat.reduceLeDiff, Int.reduceLE, Int.reduceLT, Int.reduceToNat, ofV, leafS, scs, SV.sc, SV.cells, nx, loadC, Nat.reduceAdd, Nat.reduceSub, Nat.reduceMul, upd, bin, binS, binB, eqA, aggOf, leavesV, eqV, eqL, un1, cnv, bnd, slO, lenV, lenT, mkF, callO, bltO, lenO, appO, srcO, notI, jkE, jkS, SV.jk, SV.jks, Box.jk, buildO, fillO, bslO, elemsO, SV.toD, SV.toDs, SV.owns, SV.ownss, D.cells, gVal, offE, offS, Int.cast_ofNat_Int, reduceCtorEq, D.fits, dscs, XTS]
      have h : s.toList = b.toList := by simpa using h
      rw [hch, if_pos h]
    · have h : ¬ s.toList = b.toList := by simpa using h
      rw [if_neg h] at hch
      refine ⟨j + 1, ⟨(by show j + 1 ≤ l.length; omega), hch⟩, (by show l.length - (j + 1) < l.length - j; omega), by refine sub_of h0 ?_ ?_ ?_ <;> simp only [keepS, subS, subE, BoxW, FZs, FZ, offl, LM, vcOps, stepO, val, vals, lk, put, putO, opn, opns, ok1, oks, okp, pickV, nbeq, nble, Nat.reduceBEq, Nat.reduceLeDiff, Int.reduceLE, Int.reduceLT, Int.reduceToNat, ofV, leafS, scs, SV.sc, SV.cells, nx, loadC, Nat.reduceAdd, Nat.reduceSub, Nat.reduceMul, upd, bin, binS, binB, eqA, aggOf, leavesV, eqV, eqL, un1, cnv, bnd, slO, lenV, lenT, mkF, callO, bltO, lenO, appO, srcO, notI, jkE, jkS, SV.jk, SV.jks, Box.jk, buildO, fillO, bslO, elemsO, SV.toD, SV.toDs, SV.owns, SV.ownss, D.cells, gVal, offE, offS, Int.cast_ofNat_Int, reduceCtorEq, D.fits, dscs, XTS, Option.isSome_some]⟩
  · have hb1 : ¬ (j : Int) < (l.length : Int) := by omega
    repeat' (first
      | (with_reducible first
         | refine swp_seq ?_ | refine swp_block ?_ | refine swp_skip ?_ | refine swp_ret ?_ | refine swp_exit ?_ | refine swp_label ?_
         | refine kseq_n ?_ | refine kseq_x ?_ | refine kseq_r ?_ | refine kblk_n ?_ | refine kblk_r ?_ | refine kblk_xs ?_ | refine kloop_x ?_ | refine kloop_r ?_)
      | (with_reducible refine kblk_xn ?_ ?_
         · rfl)
      | (with_reducible refine swp_regionP ?_ ?_ (fun K' hK' => ?_)
         · rfl
         · rfl
         simp only [LM, vcOps, stepO, val, vals, lk, put, putO, opn, opns, ok1, oks, okp, pickV, nbeq, nble, Nat.reduceBEq, Nat.reduceLeDiff, Int.reduceLE, Int.reduceLT, Int.reduceToNat, ofV, leafS, scs, SV.sc, SV.cells, nx, loadC, Nat.reduceAdd, Nat.reduceSub, Nat.reduceMul, upd, bin, binS, binB, eqA, aggOf, leavesV, eqV, eqL, un1, cnv, bnd, slO, lenV, lenT, mkF, callO, bltO, lenO, appO, srcO, notI, jkE, jkS, SV.jk, SV.jks, Box.jk, buildO, fillO, bslO, elemsO, SV.toD, SV.toDs, SV.owns, SV.ownss, D.cells, gVal, offE, offS, Int.cast_ofNat_Int, reduceCtorEq, D.fits, dscs, XTS, hb1]
         (repeat (refine And.intro ?_ ?_; focus (clear hK'; intros; simp_all; done)))
         (try (refine hK' _ _ ?_; clear hK'; clear K')))
      | (with_reducible refine swp_cond ?_ ?_
         · rfl
         refine ⟨_, rfl, fun h => ?_, fun h => ?_⟩
         <;> (try (exfalso; exact absurd h (by decide)))))
    simp only [Kret, retL, retOne, oneV, LM, vcOps, stepO, val, vals, lk, put, putO, opn, opns, ok1, oks, okp, pickV, nbeq, nble, Nat.reduceBEq, Nat.reduceLeDiff, Int.reduceLE, Int.reduceLT, Int.reduceToNat, ofV, leafS, scs, SV.sc, SV.cells, nx, loadC, Nat.reduceAdd, Nat.reduceSub, Nat.reduceMul, upd, bin, binS, binB, eqA, aggOf, leavesV, eqV, eqL, un1, cnv, bnd, slO, lenV, lenT, mkF, callO, bltO, lenO, appO, srcO, notI, jkE, jkS, SV.jk, SV.jks, Box.jk, buildO, fillO, bslO, elemsO, SV.toD, SV.toDs, SV.owns, SV.ownss, D.cells, gVal, offE, offS, Int.cast_ofNat_Int, reduceCtorEq, D.fits, dscs, XTS]
    rw [hch, List.drop_of_length_le (by omega)]
    rfl

set_option maxHeartbeats 4000000 in
set_option maxRecDepth 100000 in
theorem containsS_fn (l : List ByteArray) (s : ByteArray) (hl : l.length ≤ 140737488355328) : DFn Tryd.prog Γ0 31 [.slc (l.map sD), sD s] (.v (.bool (l.any fun b => s.toList == b.toList))) := by
  have hc := indexS_fn l s hl
  refine fn_of_swp (N := 9) Tryd.func31 rfl (by decide) rfl rfl (by simp) (fun C h0 => ?_)
  simp only [argE]
  repeat' (first
    | (with_reducible first
       | refine swp_seq ?_ | refine swp_block ?_ | refine swp_skip ?_ | refine swp_ret ?_ | refine swp_exit ?_ | refine swp_label ?_
       | refine kseq_n ?_ | refine kseq_x ?_ | refine kseq_r ?_ | refine kblk_n ?_ | refine kblk_r ?_ | refine kblk_xs ?_ | refine kloop_x ?_ | refine kloop_r ?_)
    | (with_reducible refine kblk_xn ?_ ?_
       · rfl)
    | (with_reducible refine swp_regionP ?_ ?_ (fun K' hK' => ?_)
       · rfl
       · rfl
       simp only [LM, vcOps, stepO, val, vals, lk, put, putO, opn, opns, ok1, oks, okp, pickV, nbeq, nble, Nat.reduceBEq, Nat.reduceLeDiff, Int.reduceLE, Int.reduceLT, Int.reduceToNat, ofV, leafS, scs, SV.sc, SV.cells, nx, loadC, Nat.reduceAdd, Nat.reduceSub, Nat.reduceMul, upd, bin, binS, binB, eqA, aggOf, leavesV, eqV, eqL, un1, cnv, bnd, slO, lenV, lenT, mkF, callO, bltO, lenO, appO, srcO, notI, jkE, jkS, SV.jk, SV.jks, Box.jk, buildO, fillO, bslO, elemsO, SV.toD, SV.toDs, SV.owns, SV.ownss, D.cells, gVal, offE, offS, Int.cast_ofNat_Int, reduceCtorEq, D.fits, dscs, XTS]
       (repeat (refine And.intro ?_ ?_; focus (clear hK'; intros; simp_all; done)))
       (try (refine hK' _ _ ?_; clear hK'; clear K')))
    | (with_reducible refine swp_cond ?_ ?_
       · rfl
       refine ⟨_, rfl, fun h => ?_, fun h => ?_⟩
       <;> (try (exfalso; exact absurd h (by decide)))))
  refine stop_callF rfl (by simp only [LM, vcOps, stepO, val, vals, lk, put, putO, opn, opns, ok1, oks, okp, pickV, nbeq, nble, Nat.reduceBEq, Nat.reduceLeDiff, Int.reduceLE, Int.reduceLT, Int.reduceToNat, ofV, leafS, scs, SV.sc, SV.cells, nx, loadC, Nat.reduceAdd, Nat.reduceSub, Nat.reduceMul, upd, bin, binS, binB, eqA, aggOf, leavesV, eqV, eqL, un1, cnv, bnd, slO, lenV, lenT, mkF, callO, bltO, lenO, appO, srcO, notI, jkE, jkS, SV.jk, SV.jks, Box.jk, buildO, fillO, bslO, elemsO, SV.toD, SV.toDs, SV.owns, SV.ownss, D.cells, gVal, offE, offS, Int.cast_ofNat_Int, reduceCtorEq, D.fits, dscs]) rfl rfl (hc) ?_
  simp only [LM, vcOps, stepO, val, vals, lk, put, putO, opn, opns, ok1, oks, okp, pickV, nbeq, nble, Nat.reduceBEq, Nat.reduceLeDiff, Int.reduceLE, Int.reduceLT, Int.reduceToNat, ofV, leafS, scs, SV.sc, SV.cells, nx, loadC, Nat.reduceAdd, Nat.reduceSub, Nat.reduceMul, upd, bin, binS, binB, eqA, aggOf, leavesV, eqV, eqL, un1, cnv, bnd, slO, lenV, lenT, mkF, callO, bltO, lenO, appO, srcO, notI, jkE, jkS, SV.jk, SV.jks, Box.jk, buildO, fillO, bslO, elemsO, SV.toD, SV.toDs, SV.owns, SV.ownss, D.cells, gVal, offE, offS, Int.cast_ofNat_Int, reduceCtorEq, D.fits, dscs, XTS, inX, dropS, ]
  (repeat (refine And.intro ?_ ?_; focus (clear hK'; intros; simp_all; done)))
  (try (refine hK' _ _ ?_; clear hK'; clear K'))
  repeat' (first
    | (with_reducible first
       | refine swp_seq ?_ | refine swp_block ?_ | refine swp_skip ?_ | refine swp_ret ?_ | refine swp_exit ?_ | refine swp_label ?_
       | refine kseq_n ?_ | refine kseq_x ?_ | refine kseq_r ?_ | refine kblk_n ?_ | refine kblk_r ?_ | refine kblk_xs ?_ | refine kloop_x ?_ | refine kloop_r ?_)
    | (with_reducible refine kblk_xn ?_ ?_
       · rfl)
    | (with_reducible refine swp_regionP ?_ ?_ (fun K' hK' => ?_)
       · rfl
       · rfl
       simp only [LM, vcOps, stepO, val, vals, lk, put, putO, opn, opns, ok1, oks, okp, pickV, nbeq, nble, Nat.reduceBEq, Nat.reduceLeDiff, Int.reduceLE, Int.reduceLT, Int.reduceToNat, ofV, leafS, scs, SV.sc, SV.cells, nx, loadC, Nat.reduceAdd, Nat.reduceSub, Nat.reduceMul, upd, bin, binS, binB, eqA, aggOf, leavesV, eqV, eqL, un1, cnv, bnd, slO, lenV, lenT, mkF, callO, bltO, lenO, appO, srcO, notI, jkE, jkS, SV.jk, SV.jks, Box.jk, buildO, fillO, bslO, elemsO, SV.toD, SV.toDs, SV.owns, SV.ownss, D.cells, gVal, offE, offS, Int.cast_ofNat_Int, reduceCtorEq, D.fits, dscs, XTS]
       (repeat (refine And.intro ?_ ?_; focus (clear hK'; intros; simp_all; done)))
       (try (refine hK' _ _ ?_; clear hK'; clear K')))
    | (with_reducible refine swp_cond ?_ ?_
       · rfl
       refine ⟨_, rfl, fun h => ?_, fun h => ?_⟩
       <;> (try (exfalso; exact absurd h (by decide)))))
  simp only [Kret, retL, retOne, oneV, LM, vcOps, stepO, val, vals, lk, put, putO, opn, opns, ok1, oks, okp, pickV, nbeq, nble, Nat.reduceBEq, Nat.reduceLeDiff, Int.reduceLE, Int.reduceLT, Int.reduceToNat, ofV, leafS, scs, SV.sc, SV.cells, nx, loadC, Nat.reduceAdd, Nat.reduceSub, Nat.reduceMul, upd, bin, binS, binB, eqA, aggOf, leavesV, eqV, eqL, un1, cnv, bnd, slO, lenV, lenT, mkF, callO, bltO, lenO, appO, srcO, notI, jkE, jkS, SV.jk, SV.jks, Box.jk, buildO, fillO, bslO, elemsO, SV.toD, SV.toDs, SV.owns, SV.ownss, D.cells, gVal, offE, offS, Int.cast_ofNat_Int, reduceCtorEq, D.fits, dscs, XTS]
  rw [← idxS_any s.toList l 0]

set_option maxHeartbeats 4000000 in
set_option maxRecDepth 100000 in
theorem sameS_fn (a b : List ByteArray) (hl : a.length ≤ 140737488355328) (hlen : a.length = b.length) (heq : ∀ j, j < a.length → (a.getD j ByteArray.empty).toList = (b.getD j ByteArray.empty).toList) : DFn Tryd.prog Γ0 28 [.slc (a.map sD), .slc (b.map sD)] (.v (.bool true)) := by
  refine fn_of_swp (N := 26) Tryd.func28 rfl (by decide) rfl rfl (by simp) (fun C h0 => ?_)
  simp only [argE]
  repeat' (first
    | (with_reducible first
       | refine swp_seq ?_ | refine swp_block ?_ | refine swp_skip ?_ | refine swp_ret ?_ | refine swp_exit ?_ | refine swp_label ?_
       | refine kseq_n ?_ | refine kseq_x ?_ | refine kseq_r ?_ | refine kblk_n ?_ | refine kblk_r ?_ | refine kblk_xs ?_ | refine kloop_x ?_ | refine kloop_r ?_)
    | (with_reducible refine kblk_xn ?_ ?_
       · rfl)
    | (with_reducible refine swp_regionP ?_ ?_ (fun K' hK' => ?_)
       · rfl
       · rfl
       simp only [LM, vcOps, stepO, val, vals, lk, put, putO, opn, opns, ok1, oks, okp, pickV, nbeq, nble, Nat.reduceBEq, Nat.reduceLeDiff, Int.reduceLE, Int.reduceLT, Int.reduceToNat, ofV, leafS, scs, SV.sc, SV.cells, nx, loadC, Nat.reduceAdd, Nat.reduceSub, Nat.reduceMul, upd, bin, binS, binB, eqA, aggOf, leavesV, eqV, eqL, un1, cnv, bnd, slO, lenV, lenT, mkF, callO, bltO, lenO, appO, srcO, notI, jkE, jkS, SV.jk, SV.jks, Box.jk, buildO, fillO, bslO, elemsO, SV.toD, SV.toDs, SV.owns, SV.ownss, D.cells, gVal, offE, offS, Int.cast_ofNat_Int, reduceCtorEq, D.fits, dscs, XTS, List.length_map]
       (repeat (refine And.intro ?_ ?_; focus (clear hK'; intros; simp_all; done)))
       (try (refine hK' _ _ ?_; clear hK'; clear K')))
    | (with_reducible refine swp_cond ?_ ?_
       · rfl
       refine ⟨_, rfl, fun h => ?_, fun h => ?_⟩
       <;> (try (exfalso; exact absurd h (by decide)))))
  · exfalso
    simp [hlen] at h
  refine swp_loop (α := Nat) (fun j => [(0, .d (.slc (a.map sD))), (1, .d (.slc (b.map sD))), (12, .d (iD a.length)), (13, .d (iD j))]) (fun _ => [])
    (fun j => j ≤ a.length) (fun j => a.length - j) 0 (Nat.zero_le _) (by refine sub_of h0 ?_ ?_ ?_ <;> simp only [keepS, subS, subE, BoxW, FZs, FZ, offl, LM, vcOps, stepO, val, vals, lk, put, putO, opn, opns, ok1, oks, okp, pickV, nbeq, nble, Nat.reduceBEq, Nat.reduceLeDiff, Int.reduceLE, Int.reduceLT, Int.reduceToNat, ofV, leafS, scs, SV.sc, SV.cells, nx, loadC, Nat.reduceAdd, Nat.reduceSub, Nat.reduceMul, upd, bin, binS, binB, eqA, aggOf, leavesV, eqV, eqL, un1, cnv, bnd, slO, lenV, lenT, mkF, callO, bltO, lenO, appO, srcO, notI, jkE, jkS, SV.jk, SV.jks, Box.jk, buildO, fillO, bslO, elemsO, SV.toD, SV.toDs, SV.owns, SV.ownss, D.cells, gVal, offE, offS, Int.cast_ofNat_Int, reduceCtorEq, D.fits, dscs, XTS, Option.isSome_some, List.length_map]) (fun j hj => ?_)
  have hb0 : (0 : Int) ≤ (j : Int) := by omega
  by_cases hlt : j < a.length
  · obtain ⟨x, hx⟩ : ∃ x, a[j]? = some x := ⟨a[j], by simp [hlt]⟩
    obtain ⟨y, hy⟩ : ∃ y, b[j]? = some y := ⟨b[j]'(by omega), by simp [hlen ▸ hlt]⟩
    have hgx : (a.map sD).getD j default = sD x := by simp [List.getD, hx]
    have hgy : (b.map sD).getD j default = sD y := by simp [List.getD, hy]
    have hxy : x.toList = y.toList := by have := heq j hlt; simpa [List.getD, hx, hy] using this
    have hb1 : (j : Int) < (a.length : Int) := by omega
    have hb2 : (j : Int) < (b.length : Int) := by omega
    have hw3 : IntKind.i64.wrap ((j : Int) + 1) = ((j + 1 : Nat) : Int) := by rw [wrap_in (by omega) (by omega)]; omega
    repeat' (first
      | (with_reducible first
         | refine swp_seq ?_ | refine swp_block ?_ | refine swp_skip ?_ | refine swp_ret ?_ | refine swp_exit ?_ | refine swp_label ?_
         | refine kseq_n ?_ | refine kseq_x ?_ | refine kseq_r ?_ | refine kblk_n ?_ | refine kblk_r ?_ | refine kblk_xs ?_ | refine kloop_x ?_ | refine kloop_r ?_)
      | (with_reducible refine kblk_xn ?_ ?_
         · rfl)
      | (with_reducible refine swp_regionP ?_ ?_ (fun K' hK' => ?_)
         · rfl
         · rfl
         simp only [LM, vcOps, stepO, val, vals, lk, put, putO, opn, opns, ok1, oks, okp, pickV, nbeq, nble, Nat.reduceBEq, Nat.reduceLeDiff, Int.reduceLE, Int.reduceLT, Int.reduceToNat, ofV, leafS, scs, SV.sc, SV.cells, nx, loadC, Nat.reduceAdd, Nat.reduceSub, Nat.reduceMul, upd, bin, binS, binB, eqA, aggOf, leavesV, eqV, eqL, un1, cnv, bnd, slO, lenV, lenT, mkF, callO, bltO, lenO, appO, srcO, notI, jkE, jkS, SV.jk, SV.jks, Box.jk, buildO, fillO, bslO, elemsO, SV.toD, SV.toDs, SV.owns, SV.ownss, D.cells, gVal, offE, offS, Int.cast_ofNat_Int, reduceCtorEq, D.fits, dscs, XTS, Int.toNat_natCast, hgx, hgy, List.length_map, hb0, hb1, hb2, hw3]
         (repeat (refine And.intro ?_ ?_; focus (clear hK'; intros; simp_all; done)))
         (try (refine hK' _ _ ?_; clear hK'; clear K')))
      | (with_reducible refine swp_cond ?_ ?_
         · rfl
         refine ⟨_, rfl, fun h => ?_, fun h => ?_⟩
         <;> (try (exfalso; exact absurd h (by decide)))))
    (with_reducible refine swp_draw ?_ ?_ ?_ ([]) (fun K' hK' => ?_)
     · kernel_rfl
     · rfl
     · rfl
     simp only [LM, vcOps, stepO, val, vals, lk, put, putO, opn, opns, ok1, oks, okp, pickV, nbeq, nble, Nat.reduceBEq, Nat.reduceLeDiff, Int.reduceLE, Int.reduceLT, Int.reduceToNat, ofV, leafS, scs, SV.sc, SV.cells, nx, loadC, Nat.reduceAdd, Nat.reduceSub, Nat.reduceMul, upd, bin, binS, binB, eqA, aggOf, leavesV, eqV, eqL, un1, cnv, bnd, slO, lenV, lenT, mkF, callO, bltO, lenO, appO, srcO, notI, jkE, jkS, SV.jk, SV.jks, Box.jk, buildO, fillO, bslO, elemsO, SV.toD, SV.toDs, SV.owns, SV.ownss, D.cells, gVal, offE, offS, Int.cast_ofNat_Int, reduceCtorEq, D.fits, dscs, XTS, vcA, stepA, callA, rst, lksA, Oper.looksAt, Op.operands, pureOp, Call.operands, List.filterMap_cons, List.filterMap_nil, Option.toList_none, Option.toList_some, Option.bind_some, Option.bind_none, List.getElem?_toArray, Array.toList_append, List.append_nil, D.flat, D.flats, true_or, or_true, forall_const, Int.toNat_natCast, hgx, hgy, List.length_map, hb0, hb1, hb2]
     (try (refine hK' _ _ ?_; clear hK'; clear K')))
    repeat' (first
      | (with_reducible first
         | refine swp_seq ?_ | refine swp_block ?_ | refine swp_skip ?_ | refine swp_ret ?_ | refine swp_exit ?_ | refine swp_label ?_
         | refine kseq_n ?_ | refine kseq_x ?_ | refine kseq_r ?_ | refine kblk_n ?_ | refine kblk_r ?_ | refine kblk_xs ?_ | refine kloop_x ?_ | refine kloop_r ?_)
      | (with_reducible refine kblk_xn ?_ ?_
         · rfl)
      | (with_reducible refine swp_regionP ?_ ?_ (fun K' hK' => ?_)
         · rfl
         · rfl
         simp only [LM, vcOps, stepO, val, vals, lk, put, putO, opn, opns, ok1, oks, okp, pickV, nbeq, nble, Nat.reduceBEq, Nat.reduceLeDiff, Int.reduceLE, Int.reduceLT, Int.reduceToNat, ofV, leafS, scs, SV.sc, SV.cells, nx, loadC, Nat.reduceAdd, Nat.reduceSub, Nat.reduceMul, upd, bin, binS, binB, eqA, aggOf, leavesV, eqV, eqL, un1, cnv, bnd, slO, lenV, lenT, mkF, callO, bltO, lenO, appO, srcO, notI, jkE, jkS, SV.jk, SV.jks, Box.jk, buildO, fillO, bslO, elemsO, SV.toD, SV.toDs, SV.owns, SV.ownss, D.cells, gVal, offE, offS, Int.cast_ofNat_Int, reduceCtorEq, D.fits, dscs, XTS, hw3, hxy]
         (repeat (refine And.intro ?_ ?_; focus (clear hK'; intros; simp_all; done)))
         (try (refine hK' _ _ ?_; clear hK'; clear K')))
      | (with_reducible refine swp_cond ?_ ?_
         · rfl
         refine ⟨_, rfl, fun h => ?_, fun h => ?_⟩
         <;> (try (exfalso; exact absurd h (by decide)))))
    · exfalso
      simp [hxy] at h
    · refine ⟨j + 1, (by show j + 1 ≤ a.length; omega), (by show a.length - (j + 1) < a.length - j; omega), by refine sub_of h0 ?_ ?_ ?_ <;> simp only [keepS, subS, subE, BoxW, FZs, FZ, offl, LM, vcOps, stepO, val, vals, lk, put, putO, opn, opns, ok1, oks, okp, pickV, nbeq, nble, Nat.reduceBEq, Nat.reduceLeDiff, Int.reduceLE, Int.reduceLT, Int.reduceToNat, ofV, leafS, scs, SV.sc, SV.cells, nx, loadC, Nat.reduceAdd, Nat.reduceSub, Nat.reduceMul, upd, bin, binS, binB, eqA, aggOf, leavesV, eqV, eqL, un1, cnv, bnd, slO, lenV, lenT, mkF, callO, bltO, lenO, appO, srcO, notI, jkE, jkS, SV.jk, SV.jks, Box.jk, buildO, fillO, bslO, elemsO, SV.toD, SV.toDs, SV.owns, SV.ownss, D.cells, gVal, offE, offS, Int.cast_ofNat_Int, reduceCtorEq, D.fits, dscs, XTS, Option.isSome_some]⟩
  · have hb1 : ¬ (j : Int) < (a.length : Int) := by omega
    repeat' (first
      | (with_reducible first
         | refine swp_seq ?_ | refine swp_block ?_ | refine swp_skip ?_ | refine swp_ret ?_ | refine swp_exit ?_ | refine swp_label ?_
         | refine kseq_n ?_ | refine kseq_x ?_ | refine kseq_r ?_ | refine kblk_n ?_ | refine kblk_r ?_ | refine kblk_xs ?_ | refine kloop_x ?_ | refine kloop_r ?_)
      | (with_reducible refine kblk_xn ?_ ?_
         · rfl)
      | (with_reducible refine swp_regionP ?_ ?_ (fun K' hK' => ?_)
         · rfl
         · rfl
         simp only [LM, vcOps, stepO, val, vals, lk, put, putO, opn, opns, ok1, oks, okp, pickV, nbeq, nble, Nat.reduceBEq, Nat.reduceLeDiff, Int.reduceLE, Int.reduceLT, Int.reduceToNat, ofV, leafS, scs, SV.sc, SV.cells, nx, loadC, Nat.reduceAdd, Nat.reduceSub, Nat.reduceMul, upd, bin, binS, binB, eqA, aggOf, leavesV, eqV, eqL, un1, cnv, bnd, slO, lenV, lenT, mkF, callO, bltO, lenO, appO, srcO, notI, jkE, jkS, SV.jk, SV.jks, Box.jk, buildO, fillO, bslO, elemsO, SV.toD, SV.toDs, SV.owns, SV.ownss, D.cells, gVal, offE, offS, Int.cast_ofNat_Int, reduceCtorEq, D.fits, dscs, XTS, hb1]
         (repeat (refine And.intro ?_ ?_; focus (clear hK'; intros; simp_all; done)))
         (try (refine hK' _ _ ?_; clear hK'; clear K')))
      | (with_reducible refine swp_cond ?_ ?_
         · rfl
         refine ⟨_, rfl, fun h => ?_, fun h => ?_⟩
         <;> (try (exfalso; exact absurd h (by decide)))))
    simp only [Kret, retL, retOne, oneV, LM, vcOps, stepO, val, vals, lk, put, putO, opn, opns, ok1, oks, okp, pickV, nbeq, nble, Nat.reduceBEq, Nat.reduceLeDiff, Int.reduceLE, Int.reduceLT, Int.reduceToNat, ofV, leafS, scs, SV.sc, SV.cells, nx, loadC, Nat.reduceAdd, Nat.reduceSub, Nat.reduceMul, upd, bin, binS, binB, eqA, aggOf, leavesV, eqV, eqL, un1, cnv, bnd, slO, lenV, lenT, mkF, callO, bltO, lenO, appO, srcO, notI, jkE, jkS, SV.jk, SV.jks, Box.jk, buildO, fillO, bslO, elemsO, SV.toD, SV.toDs, SV.owns, SV.ownss, D.cells, gVal, offE, offS, Int.cast_ofNat_Int, reduceCtorEq, D.fits, dscs, XTS]
end Go.Proofs.YtiobdkibbhpojaaDoor
