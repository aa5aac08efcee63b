/- exprs.sort by a symbolic walk. -/
import Derived.Test.YtiobdkibbhpojaaDoorX1
set_option linter.unusedVariables false
set_option linter.unusedSimpArgs false
namespace Go.Proofs.YtiobdkibbhpojaaDoor
open Go.Sw

set_option maxHeartbeats 1000000 in
set_option maxRecDepth 100000 in
theorem takes_fn (Γ : Gl) (s : ByteArray) : DFn Tryd.prog Γ 75 [sD s] (.tup [iD (inL s.toList), iD (outL s.toList)]) := by
  refine fn_of_swp (N := 17) Tryd.func75 rfl (by decide) rfl rfl (by simp) (fun C h0 => ?_)
  simp only [argE]
  repeat' (first
    | (with_reducible first
       | refine swp_seq ?_ | refine swp_block ?_ | refine swp_skip ?_ | refine swp_ret ?_ | refine swp_exit ?_ | refine swp_label ?_
       | refine kseq_n ?_ | refine kseq_x ?_ | refine kseq_r ?_ | refine kblk_n ?_ | refine kblk_r ?_ | refine kblk_xs ?_ | refine kloop_x ?_ | refine kloop_r ?_)
    | (with_reducible refine kblk_xn ?_ ?_
       · rfl)
    | (with_reducible refine swp_regionP ?_ ?_ (fun K' hK' => ?_)
       · rfl
       · rfl
       simp only [LM, vcOps, stepO, val, vals, lk, put, putO, opn, opns, ok1, oks, okp, pickV, nbeq, nble, Nat.reduceBEq, Nat.reduceLeDiff, Int.reduceLE, Int.reduceLT, Int.reduceToNat, ofV, leafS, scs, SV.sc, SV.cells, nx, loadC, Nat.reduceAdd, Nat.reduceSub, Nat.reduceMul, upd, bin, binS, binB, eqA, aggOf, leavesV, eqV, eqL, un1, cnv, bnd, slO, lenV, lenT, mkF, callO, bltO, lenO, appO, srcO, notI, jkE, jkS, SV.jk, SV.jks, Box.jk, buildO, fillO, bslO, elemsO, SV.toD, SV.toDs, SV.owns, SV.ownss, D.cells, gVal, offE, offS, Int.cast_ofNat_Int, reduceCtorEq, D.fits, dscs, XTS]
       (repeat (refine And.intro ?_ ?_; focus (clear hK'; intros; simp_all; done)))
       (try (refine hK' _ _ ?_; clear hK'; clear K')))
    | (with_reducible refine swp_cond ?_ ?_
       · rfl
       refine ⟨_, rfl, fun h => ?_, fun h => ?_⟩
       <;> (try (exfalso; exact absurd h (by decide)))))
  all_goals simp only [Kret, retL, retOne, oneV, LM, vcOps, stepO, val, vals, lk, put, putO, opn, opns, ok1, oks, okp, pickV, nbeq, nble, Nat.reduceBEq, Nat.reduceLeDiff, Int.reduceLE, Int.reduceLT, Int.reduceToNat, ofV, leafS, scs, SV.sc, SV.cells, nx, loadC, Nat.reduceAdd, Nat.reduceSub, Nat.reduceMul, upd, bin, binS, binB, eqA, aggOf, leavesV, eqV, eqL, un1, cnv, bnd, slO, lenV, lenT, mkF, callO, bltO, lenO, appO, srcO, notI, jkE, jkS, SV.jk, SV.jks, Box.jk, buildO, fillO, bslO, elemsO, SV.toD, SV.toDs, SV.owns, SV.ownss, D.cells, gVal, offE, offS, Int.cast_ofNat_Int, reduceCtorEq, D.fits, dscs, XTS]
  all_goals simp_all [inL, outL]

set_option maxHeartbeats 4000000 in
set_option maxRecDepth 100000 in
theorem sort_step (Γ : Gl) (names : List ByteArray) (sorts : List Int) (hlen : names.length = sorts.length) (hN : names.length ≤ 140737488355328) (k : Int) (nm : ByteArray) (t n : Int) (s : ByteArray) (l : List Ex) (hl : l.length ≤ 140737488355328)
    (ih : ∀ x ∈ l, DFn Tryd.prog Γ 46 [x.d, .slc (names.map sD), .slc (sorts.map iD)] (.tup [iD (srt names sorts x).1, iD (srt names sorts x).2])) :
    DFn Tryd.prog Γ 46 [(Ex.mk k nm t n s l).d, .slc (names.map sD), .slc (sorts.map iD)] (.tup [iD (srt names sorts (.mk k nm t n s l)).1, iD (srt names sorts (.mk k nm t n s l)).2]) := by
  have hll := Ex.ds_len l
  have hw : IntKind.i64.wrap (((names.map sD).length : Int) - 1) = (names.length : Int) - 1 := by rw [List.length_map]; exact wrap_in (by omega) (by omega)
  unfold Ex.d
  refine fn_of_swp (N := 80) Tryd.func46 rfl (by decide) rfl rfl (by simp) (fun C h0 => ?_)
  simp only [argE]
  repeat' (first
    | (with_reducible first
       | refine swp_seq ?_ | refine swp_block ?_ | refine swp_skip ?_ | refine swp_ret ?_ | refine swp_exit ?_ | refine swp_label ?_
       | refine kseq_n ?_ | refine kseq_x ?_ | refine kseq_r ?_ | refine kblk_n ?_ | refine kblk_r ?_ | refine kblk_xs ?_ | refine kloop_x ?_ | refine kloop_r ?_)
    | (with_reducible refine kblk_xn ?_ ?_
       · rfl)
    | (with_reducible refine swp_regionP ?_ ?_ (fun K' hK' => ?_)
       · rfl
       · rfl
       simp only [LM, vcOps, stepO, val, vals, lk, put, putO, opn, opns, ok1, oks, okp, pickV, nbeq, nble, Nat.reduceBEq, Nat.reduceLeDiff, Int.reduceLE, Int.reduceLT, Int.reduceToNat, ofV, leafS, scs, SV.sc, SV.cells, nx, loadC, Nat.reduceAdd, Nat.reduceSub, Nat.reduceMul, upd, bin, binS, binB, eqA, aggOf, leavesV, eqV, eqL, un1, cnv, bnd, slO, lenV, lenT, mkF, callO, bltO, lenO, appO, srcO, notI, jkE, jkS, SV.jk, SV.jks, Box.jk, buildO, fillO, bslO, elemsO, SV.toD, SV.toDs, SV.owns, SV.ownss, D.cells, gVal, offE, offS, Int.cast_ofNat_Int, reduceCtorEq, D.fits, dscs, XTS, hw]
       (repeat (refine And.intro ?_ ?_; focus (clear hK'; intros; simp_all; done)))
       (try (refine hK' _ _ ?_; clear hK'; clear K')))
    | (with_reducible refine swp_cond ?_ ?_
       · rfl
       refine ⟨_, rfl, fun h => ?_, fun h => ?_⟩
       <;> (try (exfalso; exact absurd h (by decide)))))
  · -- a literal
    simp only [Kret, retL, retOne, oneV, LM, vcOps, stepO, val, vals, lk, put, putO, opn, opns, ok1, oks, okp, pickV, nbeq, nble, Nat.reduceBEq, Nat.reduceLeDiff, Int.reduceLE, Int.reduceLT, Int.reduceToNat, ofV, leafS, scs, SV.sc, SV.cells, nx, loadC, Nat.reduceAdd, Nat.reduceSub, Nat.reduceMul, upd, bin, binS, binB, eqA, aggOf, leavesV, eqV, eqL, un1, cnv, bnd, slO, lenV, lenT, mkF, callO, bltO, lenO, appO, srcO, notI, jkE, jkS, SV.jk, SV.jks, Box.jk, buildO, fillO, bslO, elemsO, SV.toD, SV.toDs, SV.owns, SV.ownss, D.cells, gVal, offE, offS, Int.cast_ofNat_Int, reduceCtorEq, D.fits, dscs, XTS]
    have hk : k = 1 := by simpa using h
    subst hk
    simp [srt]
  · -- a name
    have hk : k = 2 := by simpa using h
    subst hk
    refine swp_loop (α := Nat) (fun j => [(1, .d (.slc (names.map sD))), (2, .d (.slc (sorts.map iD))), (3, .ref 0 0), (8, .d (iD ((j : Int) - 1)))]) (fun _ => [(0, .cells [.d (iD 2), .d (sD nm), .d (iD t), .d (iD n), .d (sD s), .d (.slc (Ex.ds l))])])
      (fun j => j ≤ names.length ∧ look names sorts nm.toList j = look names sorts nm.toList names.length) (fun j => j) names.length ⟨Nat.le_refl _, rfl⟩ (by refine sub_of h0 ?_ ?_ ?_ <;> simp only [keepS, subS, subE, BoxW, FZs, FZ, offl, LM, vcOps, stepO, val, vals, lk, put, putO, opn, opns, ok1, oks, okp, pickV, nbeq, nble, Nat.reduceBEq, Nat.reduceLeDiff, Int.reduceLE, Int.reduceLT, Int.reduceToNat, ofV, leafS, scs, SV.sc, SV.cells, nx, loadC, Nat.reduceAdd, Nat.reduceSub, Nat.reduceMul, upd, bin, binS, binB, eqA, aggOf, leavesV, eqV, eqL, un1, cnv, bnd, slO, lenV, lenT, mkF, callO, bltO, lenO, appO, srcO, notI, jkE, jkS, SV.jk, SV.jks, Box.jk, buildO, fillO, bslO, elemsO, SV.toD, SV.toDs, SV.owns, SV.ownss, D.cells, gVal, offE, offS, Int.cast_ofNat_Int, reduceCtorEq, D.fits, dscs, XTS, Option.isSome_some]) (fun j hj => ?_)
    obtain ⟨hj, hlk⟩ := hj
    cases j with
    | zero =>
      repeat' (first
        | (with_reducible first
           | refine swp_seq ?_ | refine swp_block ?_ | refine swp_skip ?_ | refine swp_ret ?_ | refine swp_exit ?_ | refine swp_label ?_
           | refine kseq_n ?_ | refine kseq_x ?_ | refine kseq_r ?_ | refine kblk_n ?_ | refine kblk_r ?_ | refine kblk_xs ?_ | refine kloop_x ?_ | refine kloop_r ?_)
        | (with_reducible refine kblk_xn ?_ ?_
           · rfl)
        | (with_reducible refine swp_regionP ?_ ?_ (fun K' hK' => ?_)
           · rfl
           · rfl
           simp only [LM, vcOps, stepO, val, vals, lk, put, putO, opn, opns, ok1, oks, okp, pickV, nbeq, nble, Nat.reduceBEq, Nat.reduceLeDiff, Int.reduceLE, Int.reduceLT, Int.reduceToNat, ofV, leafS, scs, SV.sc, SV.cells, nx, loadC, Nat.reduceAdd, Nat.reduceSub, Nat.reduceMul, upd, bin, binS, binB, eqA, aggOf, leavesV, eqV, eqL, un1, cnv, bnd, slO, lenV, lenT, mkF, callO, bltO, lenO, appO, srcO, notI, jkE, jkS, SV.jk, SV.jks, Box.jk, buildO, fillO, bslO, elemsO, SV.toD, SV.toDs, SV.owns, SV.ownss, D.cells, gVal, offE, offS, Int.cast_ofNat_Int, reduceCtorEq, D.fits, dscs, XTS]
           (repeat (refine And.intro ?_ ?_; focus (clear hK'; intros; simp_all; done)))
           (try (refine hK' _ _ ?_; clear hK'; clear K')))
        | (with_reducible refine swp_cond ?_ ?_
           · rfl
           refine ⟨_, rfl, fun h => ?_, fun h => ?_⟩
           <;> (try (exfalso; exact absurd h (by decide)))))
      simp only [Kret, retL, retOne, oneV, LM, vcOps, stepO, val, vals, lk, put, putO, opn, opns, ok1, oks, okp, pickV, nbeq, nble, Nat.reduceBEq, Nat.reduceLeDiff, Int.reduceLE, Int.reduceLT, Int.reduceToNat, ofV, leafS, scs, SV.sc, SV.cells, nx, loadC, Nat.reduceAdd, Nat.reduceSub, Nat.reduceMul, upd, bin, binS, binB, eqA, aggOf, leavesV, eqV, eqL, un1, cnv, bnd, slO, lenV, lenT, mkF, callO, bltO, lenO, appO, srcO, notI, jkE, jkS, SV.jk, SV.jks, Box.jk, buildO, fillO, bslO, elemsO, SV.toD, SV.toDs, SV.owns, SV.ownss, D.cells, gVal, offE, offS, Int.cast_ofNat_Int, reduceCtorEq, D.fits, dscs, XTS]
      simp [srt, ← hlk, look]
    | succ m =>
      have hm : (((m + 1 : Nat) : Int) - 1) = (m : Int) := by omega
      simp only [hm]
      have hm0 : (0 : Int) ≤ (m : Int) := by omega
      have hm1 : (m : Int) < (names.length : Int) := by omega
      have hm2 : (m : Int) < (sorts.length : Int) := by omega
      have hg1 : (names.map sD).getD m default = sD (names.getD m ByteArray.empty) := by
        have : m < names.length := by omega
        simp [List.getD, this]
      have hg2 : (sorts.map iD).getD m default = iD (sorts.getD m 0) := by
        have : m < sorts.length := by omega
        simp [List.getD, this]
      have hw2 : IntKind.i64.wrap ((m : Int) - 1) = (m : Int) - 1 := wrap_in (by omega) (by omega)
      repeat' (first
        | (with_reducible first
           | refine swp_seq ?_ | refine swp_block ?_ | refine swp_skip ?_ | refine swp_ret ?_ | refine swp_exit ?_ | refine swp_label ?_
           | refine kseq_n ?_ | refine kseq_x ?_ | refine kseq_r ?_ | refine kblk_n ?_ | refine kblk_r ?_ | refine kblk_xs ?_ | refine kloop_x ?_ | refine kloop_r ?_)
        | (with_reducible refine kblk_xn ?_ ?_
           · rfl)
        | (with_reducible refine swp_regionP ?_ ?_ (fun K' hK' => ?_)
           · rfl
           · rfl
           simp only [LM, vcOps, stepO, val, vals, lk, put, putO, opn, opns, ok1, oks, okp, pickV, nbeq, nble, Nat.reduceBEq, Nat.reduceLeDiff, Int.reduceLE, Int.reduceLT, Int.reduceToNat, ofV, leafS, scs, SV.sc, SV.cells, nx, loadC, Nat.reduceAdd, Nat.reduceSub, Nat.reduceMul, upd, bin, binS, binB, eqA, aggOf, leavesV, eqV, eqL, un1, cnv, bnd, slO, lenV, lenT, mkF, callO, bltO, lenO, appO, srcO, notI, jkE, jkS, SV.jk, SV.jks, Box.jk, buildO, fillO, bslO, elemsO, SV.toD, SV.toDs, SV.owns, SV.ownss, D.cells, gVal, offE, offS, Int.cast_ofNat_Int, reduceCtorEq, D.fits, dscs, XTS]
           (repeat (refine And.intro ?_ ?_; focus (clear hK'; intros; simp_all; done)))
           (try (refine hK' _ _ ?_; clear hK'; clear K')))
        | (with_reducible refine swp_cond ?_ ?_
           · rfl
           refine ⟨_, rfl, fun h => ?_, fun h => ?_⟩
           <;> (try (exfalso; exact absurd h (by decide)))))
      · clear h
        (with_reducible refine swp_draw ?_ ?_ ?_ ([]) (fun K' hK' => ?_)
         · kernel_rfl
         · rfl
         · rfl
         simp only [LM, vcOps, stepO, val, vals, lk, put, putO, opn, opns, ok1, oks, okp, pickV, nbeq, nble, Nat.reduceBEq, Nat.reduceLeDiff, Int.reduceLE, Int.reduceLT, Int.reduceToNat, ofV, leafS, scs, SV.sc, SV.cells, nx, loadC, Nat.reduceAdd, Nat.reduceSub, Nat.reduceMul, upd, bin, binS, binB, eqA, aggOf, leavesV, eqV, eqL, un1, cnv, bnd, slO, lenV, lenT, mkF, callO, bltO, lenO, appO, srcO, notI, jkE, jkS, SV.jk, SV.jks, Box.jk, buildO, fillO, bslO, elemsO, SV.toD, SV.toDs, SV.owns, SV.ownss, D.cells, gVal, offE, offS, Int.cast_ofNat_Int, reduceCtorEq, D.fits, dscs, XTS, vcA, stepA, callA, rst, lksA, Oper.looksAt, Op.operands, pureOp, Call.operands, List.filterMap_cons, List.filterMap_nil, Option.toList_none, Option.toList_some, Option.bind_some, Option.bind_none, List.getElem?_toArray, Array.toList_append, List.append_nil, D.flat, D.flats, true_or, or_true, forall_const, Int.toNat_natCast, hm0, hm1, hg1, List.length_map]
         (try (refine hK' _ _ ?_; clear hK'; clear K')))
        repeat' (first
          | (with_reducible first
             | refine swp_seq ?_ | refine swp_block ?_ | refine swp_skip ?_ | refine swp_ret ?_ | refine swp_exit ?_ | refine swp_label ?_
             | refine kseq_n ?_ | refine kseq_x ?_ | refine kseq_r ?_ | refine kblk_n ?_ | refine kblk_r ?_ | refine kblk_xs ?_ | refine kloop_x ?_ | refine kloop_r ?_)
          | (with_reducible refine kblk_xn ?_ ?_
             · rfl)
          | (with_reducible refine swp_regionP ?_ ?_ (fun K' hK' => ?_)
             · rfl
             · rfl
             simp only [LM, vcOps, stepO, val, vals, lk, put, putO, opn, opns, ok1, oks, okp, pickV, nbeq, nble, Nat.reduceBEq, Nat.reduceLeDiff, Int.reduceLE, Int.reduceLT, Int.reduceToNat, ofV, leafS, scs, SV.sc, SV.cells, nx, loadC, Nat.reduceAdd, Nat.reduceSub, Nat.reduceMul, upd, bin, binS, binB, eqA, aggOf, leavesV, eqV, eqL, un1, cnv, bnd, slO, lenV, lenT, mkF, callO, bltO, lenO, appO, srcO, notI, jkE, jkS, SV.jk, SV.jks, Box.jk, buildO, fillO, bslO, elemsO, SV.toD, SV.toDs, SV.owns, SV.ownss, D.cells, gVal, offE, offS, Int.cast_ofNat_Int, reduceCtorEq, D.fits, dscs, XTS, Int.toNat_natCast, hm0, hm2, hg2, hw2, List.length_map]
             (repeat (refine And.intro ?_ ?_; focus (clear hK'; intros; simp_all; done)))
             (try (refine hK' _ _ ?_; clear hK'; clear K')))
          | (with_reducible refine swp_cond ?_ ?_
             · rfl
             refine ⟨_, rfl, fun h => ?_, fun h => ?_⟩
             <;> (try (exfalso; exact absurd h (by decide)))))
        · simp only [Kret, retL, retOne, oneV, LM, vcOps, stepO, val, vals, lk, put, putO, opn, opns, ok1, oks, okp, pickV, nbeq, nble, Nat.reduceBEq, Nat.reduceLeDiff, Int.reduceLE, Int.reduceLT, Int.reduceToNat, ofV, leafS, scs, SV.sc, SV.cells, nx, loadC, Nat.reduceAdd, Nat.reduceSub, Nat.reduceMul, upd, bin, binS, binB, eqA, aggOf, leavesV, eqV, eqL, un1, cnv, bnd, slO, lenV, lenT, mkF, callO, bltO, lenO, appO, srcO, notI, jkE, jkS, SV.jk, SV.jks, Box.jk, buildO, fillO, bslO, elemsO, SV.toD, SV.toDs, SV.owns, SV.ownss, D.cells, gVal, offE, offS, Int.cast_ofNat_Int, reduceCtorEq, D.fits, dscs, XTS]
          have : (names.getD m ByteArray.empty).toList = nm.toList := by simpa using h
          have e : srt names sorts (.mk 2 nm t n s l) = (sorts.getD m 0, 0) := by
            unfold srt
            rw [if_neg (by decide), if_pos rfl, ← hlk]
            unfold look
            rw [if_pos this]
          rw [e]
        · refine ⟨m, ⟨(by show m ≤ names.length; omega), ?_⟩, (by show m < m + 1; omega), by refine sub_of h0 ?_ ?_ ?_ <;> simp only [keepS, subS, subE, BoxW, FZs, FZ, offl, LM, vcOps, stepO, val, vals, lk, put, putO, opn, opns, ok1, oks, okp, pickV, nbeq, nble, Nat.reduceBEq, Nat.reduceLeDiff, Int.reduceLE, Int.reduceLT, Int.reduceToNat, ofV, leafS, scs, SV.sc, SV.cells, nx, loadC, Nat.reduceAdd, Nat.reduceSub, Nat.reduceMul, upd, bin, binS, binB, eqA, aggOf, leavesV, eqV, eqL, un1, cnv, bnd, slO, lenV, lenT, mkF, callO, bltO, lenO, appO, srcO, notI, jkE, jkS, SV.jk, SV.jks, Box.jk, buildO, fillO, bslO, elemsO, SV.toD, SV.toDs, SV.owns, SV.ownss, D.cells, gVal, offE, offS, Int.cast_ofNat_Int, reduceCtorEq, D.fits, dscs, XTS, Option.isSome_some]⟩
          have : ¬ (names.getD m ByteArray.empty).toList = nm.toList := by simpa using h
          show look names sorts nm.toList m = look names sorts nm.toList names.length
          rw [← hlk]
          conv => rhs; unfold look
          rw [if_neg this]
      · exact absurd h (by simp)
  · -- an operator
    rename_i hk1
    have hk1' : k ≠ 1 := by simpa using hk1
    have hk2' : k ≠ 2 := by simpa using h
    have hs : srt names sorts (.mk k nm t n s l) = srts names sorts l (inL nm.toList) (inL nm.toList == 0) (outL nm.toList) := by simp [srt, hk1', hk2']
    refine stop_callF rfl (by simp only [LM, vcOps, stepO, val, vals, lk, put, putO, opn, opns, ok1, oks, okp, pickV, nbeq, nble, Nat.reduceBEq, Nat.reduceLeDiff, Int.reduceLE, Int.reduceLT, Int.reduceToNat, ofV, leafS, scs, SV.sc, SV.cells, nx, loadC, Nat.reduceAdd, Nat.reduceSub, Nat.reduceMul, upd, bin, binS, binB, eqA, aggOf, leavesV, eqV, eqL, un1, cnv, bnd, slO, lenV, lenT, mkF, callO, bltO, lenO, appO, srcO, notI, jkE, jkS, SV.jk, SV.jks, Box.jk, buildO, fillO, bslO, elemsO, SV.toD, SV.toDs, SV.owns, SV.ownss, D.cells, gVal, offE, offS, Int.cast_ofNat_Int, reduceCtorEq, D.fits, dscs]) rfl rfl (takes_fn Γ nm) ?_
    simp only [LM, vcOps, stepO, val, vals, lk, put, putO, opn, opns, ok1, oks, okp, pickV, nbeq, nble, Nat.reduceBEq, Nat.reduceLeDiff, Int.reduceLE, Int.reduceLT, Int.reduceToNat, ofV, leafS, scs, SV.sc, SV.cells, nx, loadC, Nat.reduceAdd, Nat.reduceSub, Nat.reduceMul, upd, bin, binS, binB, eqA, aggOf, leavesV, eqV, eqL, un1, cnv, bnd, slO, lenV, lenT, mkF, callO, bltO, lenO, appO, srcO, notI, jkE, jkS, SV.jk, SV.jks, Box.jk, buildO, fillO, bslO, elemsO, SV.toD, SV.toDs, SV.owns, SV.ownss, D.cells, gVal, offE, offS, Int.cast_ofNat_Int, reduceCtorEq, D.fits, dscs, XTS, inX, dropS, ]
    (repeat (refine And.intro ?_ ?_; focus (clear hK'; intros; simp_all; done)))
    (try (refine hK' _ _ ?_; clear hK'; clear K'))
    repeat' (first
      | (with_reducible first
         | refine swp_seq ?_ | refine swp_block ?_ | refine swp_skip ?_ | refine swp_ret ?_ | refine swp_exit ?_ | refine swp_label ?_
         | refine kseq_n ?_ | refine kseq_x ?_ | refine kseq_r ?_ | refine kblk_n ?_ | refine kblk_r ?_ | refine kblk_xs ?_ | refine kloop_x ?_ | refine kloop_r ?_)
      | (with_reducible refine kblk_xn ?_ ?_
         · rfl)
      | (with_reducible refine swp_regionP ?_ ?_ (fun K' hK' => ?_)
         · rfl
         · rfl
         simp only [LM, vcOps, stepO, val, vals, lk, put, putO, opn, opns, ok1, oks, okp, pickV, nbeq, nble, Nat.reduceBEq, Nat.reduceLeDiff, Int.reduceLE, Int.reduceLT, Int.reduceToNat, ofV, leafS, scs, SV.sc, SV.cells, nx, loadC, Nat.reduceAdd, Nat.reduceSub, Nat.reduceMul, upd, bin, binS, binB, eqA, aggOf, leavesV, eqV, eqL, un1, cnv, bnd, slO, lenV, lenT, mkF, callO, bltO, lenO, appO, srcO, notI, jkE, jkS, SV.jk, SV.jks, Box.jk, buildO, fillO, bslO, elemsO, SV.toD, SV.toDs, SV.owns, SV.ownss, D.cells, gVal, offE, offS, Int.cast_ofNat_Int, reduceCtorEq, D.fits, dscs, XTS, hll]
         (repeat (refine And.intro ?_ ?_; focus (clear hK'; intros; simp_all; done)))
         (try (refine hK' _ _ ?_; clear hK'; clear K')))
      | (with_reducible refine swp_cond ?_ ?_
         · rfl
         refine ⟨_, rfl, fun h => ?_, fun h => ?_⟩
         <;> (try (exfalso; exact absurd h (by decide)))))
    refine swp_loop (α := Nat × Int) (fun q => [(1, .d (.slc (names.map sD))), (2, .d (.slc (sorts.map iD))), (9, .d (iD q.2)), (10, .d (iD (outL nm.toList))), (11, .d (.v (.bool (inL nm.toList == 0)))), (52, .d (.slc (Ex.ds l))), (53, .d (iD l.length)), (54, .d (iD q.1))]) (fun _ => [])
      (fun q => q.1 ≤ l.length ∧ srts names sorts l (inL nm.toList) (inL nm.toList == 0) (outL nm.toList) = srts names sorts (l.drop q.1) q.2 (inL nm.toList == 0 && q.1 == 0) (outL nm.toList)) (fun q => l.length - q.1) (0, inL nm.toList) ⟨Nat.zero_le _, by simp⟩ (by refine sub_of h0 ?_ ?_ ?_ <;> simp only [keepS, subS, subE, BoxW, FZs, FZ, offl, LM, vcOps, stepO, val, vals, lk, put, putO, opn, opns, ok1, oks, okp, pickV, nbeq, nble, Nat.reduceBEq, Nat.reduceLeDiff, Int.reduceLE, Int.reduceLT, Int.reduceToNat, ofV, leafS, scs, SV.sc, SV.cells, nx, loadC, Nat.reduceAdd, Nat.reduceSub, Nat.reduceMul, upd, bin, binS, binB, eqA, aggOf, leavesV, eqV, eqL, un1, cnv, bnd, slO, lenV, lenT, mkF, callO, bltO, lenO, appO, srcO, notI, jkE, jkS, SV.jk, SV.jks, Box.jk, buildO, fillO, bslO, elemsO, SV.toD, SV.toDs, SV.owns, SV.ownss, D.cells, gVal, offE, offS, Int.cast_ofNat_Int, reduceCtorEq, D.fits, dscs, XTS, Option.isSome_some, hll]) (fun q hq => ?_)
    obtain ⟨j, cin⟩ := q
    obtain ⟨hj, hch⟩ := hq
    simp only at hj hch
    have hb0 : (0 : Int) ≤ (j : Int) := by omega
    by_cases hlt : j < l.length
    · obtain ⟨x, hx⟩ : ∃ x, l[j]? = some x := ⟨l[j], by simp [hlt]⟩
      have hcall := ih x (List.mem_of_getElem? hx)
      have hget := Ex.ds_get l j x hx
      have hb1 : (j : Int) < (l.length : Int) := by omega
      have hw3 : IntKind.i64.wrap ((j : Int) + 1) = ((j + 1 : Nat) : Int) := by rw [wrap_in (by omega) (by omega)]; omega
      obtain ⟨s1, e1, hse⟩ : ∃ s1 e1, srt names sorts x = (s1, e1) := ⟨_, _, rfl⟩
      have hcs : ∀ (c : Int) (f : Bool) (o : Int), srts names sorts (l.drop j) c f o = if e1 ≠ 0 then (0, e1) else if s1 ≠ (if f then s1 else c) then (0, 5) else srts names sorts (l.drop (j + 1)) (if f then s1 else c) false o := by
        intro c f o
        obtain ⟨h1, h2⟩ := List.getElem?_eq_some_iff.1 hx
        rw [List.drop_eq_getElem_cons h1, h2]
        simp only [srts, hse]
      have hj0 : (((j : Int)) == 0) = (j == 0) := by cases j <;> simp; omega
      rw [hse] at hcall
      rw [hcs] at hch
      obtain ⟨k', nm', t', n', s', l'⟩ := x
      simp only [Ex.d] at hget
      repeat' (first
        | (with_reducible first
           | refine swp_seq ?_ | refine swp_block ?_ | refine swp_skip ?_ | refine swp_ret ?_ | refine swp_exit ?_ | refine swp_label ?_
           | refine kseq_n ?_ | refine kseq_x ?_ | refine kseq_r ?_ | refine kblk_n ?_ | refine kblk_r ?_ | refine kblk_xs ?_ | refine kloop_x ?_ | refine kloop_r ?_)
        | (with_reducible refine kblk_xn ?_ ?_
           · rfl)
        | (with_reducible refine swp_regionP ?_ ?_ (fun K' hK' => ?_)
           · rfl
           · rfl
           simp only [LM, vcOps, stepO, val, vals, lk, put, putO, opn, opns, ok1, oks, okp, pickV, nbeq, nble, Nat.reduceBEq, Nat.reduceLeDiff, Int.reduceLE, Int.reduceLT, Int.reduceToNat, ofV, leafS, scs, SV.sc, SV.cells, nx, loadC, Nat.reduceAdd, Nat.reduceSub, Nat.reduceMul, upd, bin, binS, binB, eqA, aggOf, leavesV, eqV, eqL, un1, cnv, bnd, slO, lenV, lenT, mkF, callO, bltO, lenO, appO, srcO, notI, jkE, jkS, SV.jk, SV.jks, Box.jk, buildO, fillO, bslO, elemsO, SV.toD, SV.toDs, SV.owns, SV.ownss, D.cells, gVal, offE, offS, Int.cast_ofNat_Int, reduceCtorEq, D.fits, dscs, XTS, Int.toNat_natCast, hget, hll, hb0, hb1]
           (repeat (refine And.intro ?_ ?_; focus (clear hK'; intros; simp_all; done)))
           (try (refine hK' _ _ ?_; clear hK'; clear K')))
        | (with_reducible refine swp_cond ?_ ?_
           · rfl
           refine ⟨_, rfl, fun h => ?_, fun h => ?_⟩
           <;> (try (exfalso; exact absurd h (by decide)))))
      refine stop_callF rfl (by simp only [LM, vcOps, stepO, val, vals, lk, put, putO, opn, opns, ok1, oks, okp, pickV, nbeq, nble, Nat.reduceBEq, Nat.reduceLeDiff, Int.reduceLE, Int.reduceLT, Int.reduceToNat, ofV, leafS, scs, SV.sc, SV.cells, nx, loadC, Nat.reduceAdd, Nat.reduceSub, Nat.reduceMul, upd, bin, binS, binB, eqA, aggOf, leavesV, eqV, eqL, un1, cnv, bnd, slO, lenV, lenT, mkF, callO, bltO, lenO, appO, srcO, notI, jkE, jkS, SV.jk, SV.jks, Box.jk, buildO, fillO, bslO, elemsO, SV.toD, SV.toDs, SV.owns, SV.ownss, D.cells, gVal, offE, offS, Int.cast_ofNat_Int, reduceCtorEq, D.fits, dscs]) rfl rfl (hcall ) ?_
      simp only [LM, vcOps, stepO, val, vals, lk, put, putO, opn, opns, ok1, oks, okp, pickV, nbeq, nble, Nat.reduceBEq, Nat.reduceLeDiff, Int.reduceLE, Int.reduceLT, Int.reduceToNat, ofV, leafS, scs, SV.sc, SV.cells, nx, loadC, Nat.reduceAdd, Nat.reduceSub, Nat.reduceMul, upd, bin, binS, binB, eqA, aggOf, leavesV, eqV, eqL, un1, cnv, bnd, slO, lenV, lenT, mkF, callO, bltO, lenO, appO, srcO, notI, jkE, jkS, SV.jk, SV.jks, Box.jk, buildO, fillO, bslO, elemsO, SV.toD, SV.toDs, SV.owns, SV.ownss, D.cells, gVal, offE, offS, Int.cast_ofNat_Int, reduceCtorEq, D.fits, dscs, XTS, inX, dropS,  Int.toNat_natCast]
      (repeat (refine And.intro ?_ ?_; focus (clear hK'; intros; simp_all; done)))
      (try (refine hK' _ _ ?_; clear hK'; clear K'))
      repeat' (first
        | (with_reducible first
           | refine swp_seq ?_ | refine swp_block ?_ | refine swp_skip ?_ | refine swp_ret ?_ | refine swp_exit ?_ | refine swp_label ?_
           | refine kseq_n ?_ | refine kseq_x ?_ | refine kseq_r ?_ | refine kblk_n ?_ | refine kblk_r ?_ | refine kblk_xs ?_ | refine kloop_x ?_ | refine kloop_r ?_)
        | (with_reducible refine kblk_xn ?_ ?_
           · rfl)
        | (with_reducible refine swp_regionP ?_ ?_ (fun K' hK' => ?_)
           · rfl
           · rfl
           simp only [LM, vcOps, stepO, val, vals, lk, put, putO, opn, opns, ok1, oks, okp, pickV, nbeq, nble, Nat.reduceBEq, Nat.reduceLeDiff, Int.reduceLE, Int.reduceLT, Int.reduceToNat, ofV, leafS, scs, SV.sc, SV.cells, nx, loadC, Nat.reduceAdd, Nat.reduceSub, Nat.reduceMul, upd, bin, binS, binB, eqA, aggOf, leavesV, eqV, eqL, un1, cnv, bnd, slO, lenV, lenT, mkF, callO, bltO, lenO, appO, srcO, notI, jkE, jkS, SV.jk, SV.jks, Box.jk, buildO, fillO, bslO, elemsO, SV.toD, SV.toDs, SV.owns, SV.ownss, D.cells, gVal, offE, offS, Int.cast_ofNat_Int, reduceCtorEq, D.fits, dscs, XTS, hw3, hj0, Bool.cond_false_right]
           (repeat (refine And.intro ?_ ?_; focus (clear hK'; intros; simp_all; done)))
           (try (refine hK' _ _ ?_; clear hK'; clear K')))
        | (with_reducible refine swp_cond ?_ ?_
           · rfl
           refine ⟨_, rfl, fun h => ?_, fun h => ?_⟩
           <;> (try (exfalso; exact absurd h (by decide)))))
      · -- an error
        simp only [Kret, retL, retOne, oneV, LM, vcOps, stepO, val, vals, lk, put, putO, opn, opns, ok1, oks, okp, pickV, nbeq, nble, Nat.reduceBEq, Nat.reduceLeDiff, Int.reduceLE, Int.reduceLT, Int.reduceToNat, ofV, leafS, scs, SV.sc, SV.cells, nx, loadC, Nat.reduceAdd, Nat.reduceSub, Nat.reduceMul, upd, bin, binS, binB, eqA, aggOf, leavesV, eqV, eqL, un1, cnv, bnd, slO, lenV, lenT, mkF, callO, bltO, lenO, appO, srcO, notI, jkE, jkS, SV.jk, SV.jks, Box.jk, buildO, fillO, bslO, elemsO, SV.toD, SV.toDs, SV.owns, SV.ownss, D.cells, gVal, offE, offS, Int.cast_ofNat_Int, reduceCtorEq, D.fits, dscs, XTS]
        have he' : e1 ≠ 0 := by simpa using h
        rw [hs, hch, if_pos he']
      · simp at h
      · rename_i he hb
        refine ⟨(j + 1, s1), ⟨(by show j + 1 ≤ l.length; omega), ?_⟩, (by show l.length - (j + 1) < l.length - j; omega), by refine sub_of h0 ?_ ?_ ?_ <;> simp only [keepS, subS, subE, BoxW, FZs, FZ, offl, LM, vcOps, stepO, val, vals, lk, put, putO, opn, opns, ok1, oks, okp, pickV, nbeq, nble, Nat.reduceBEq, Nat.reduceLeDiff, Int.reduceLE, Int.reduceLT, Int.reduceToNat, ofV, leafS, scs, SV.sc, SV.cells, nx, loadC, Nat.reduceAdd, Nat.reduceSub, Nat.reduceMul, upd, bin, binS, binB, eqA, aggOf, leavesV, eqV, eqL, un1, cnv, bnd, slO, lenV, lenT, mkF, callO, bltO, lenO, appO, srcO, notI, jkE, jkS, SV.jk, SV.jks, Box.jk, buildO, fillO, bslO, elemsO, SV.toD, SV.toDs, SV.owns, SV.ownss, D.cells, gVal, offE, offS, Int.cast_ofNat_Int, reduceCtorEq, D.fits, dscs, XTS, Option.isSome_some]⟩
        have he' : ¬ e1 ≠ 0 := by simpa using he
        rw [hb, if_neg he'] at hch
        simp only [if_true, ne_eq, not_true_eq_false, if_false] at hch
        rw [hch]
        simp
      · rename_i he hb
        simp only [Kret, retL, retOne, oneV, LM, vcOps, stepO, val, vals, lk, put, putO, opn, opns, ok1, oks, okp, pickV, nbeq, nble, Nat.reduceBEq, Nat.reduceLeDiff, Int.reduceLE, Int.reduceLT, Int.reduceToNat, ofV, leafS, scs, SV.sc, SV.cells, nx, loadC, Nat.reduceAdd, Nat.reduceSub, Nat.reduceMul, upd, bin, binS, binB, eqA, aggOf, leavesV, eqV, eqL, un1, cnv, bnd, slO, lenV, lenT, mkF, callO, bltO, lenO, appO, srcO, notI, jkE, jkS, SV.jk, SV.jks, Box.jk, buildO, fillO, bslO, elemsO, SV.toD, SV.toDs, SV.owns, SV.ownss, D.cells, gVal, offE, offS, Int.cast_ofNat_Int, reduceCtorEq, D.fits, dscs, XTS]
        have he' : ¬ e1 ≠ 0 := by simpa using he
        rw [hb, if_neg he'] at hch
        have hs' : s1 ≠ cin := by simpa using h
        simp only [Bool.false_eq_true, if_false, if_pos hs'] at hch
        rw [hs, hch]
      · rename_i he hb
        have he' : ¬ e1 ≠ 0 := by simpa using he
        have hs' : ¬ s1 ≠ cin := by simpa using h
        refine ⟨(j + 1, cin), ⟨(by show j + 1 ≤ l.length; omega), ?_⟩, (by show l.length - (j + 1) < l.length - j; omega), by refine sub_of h0 ?_ ?_ ?_ <;> simp only [keepS, subS, subE, BoxW, FZs, FZ, offl, LM, vcOps, stepO, val, vals, lk, put, putO, opn, opns, ok1, oks, okp, pickV, nbeq, nble, Nat.reduceBEq, Nat.reduceLeDiff, Int.reduceLE, Int.reduceLT, Int.reduceToNat, ofV, leafS, scs, SV.sc, SV.cells, nx, loadC, Nat.reduceAdd, Nat.reduceSub, Nat.reduceMul, upd, bin, binS, binB, eqA, aggOf, leavesV, eqV, eqL, un1, cnv, bnd, slO, lenV, lenT, mkF, callO, bltO, lenO, appO, srcO, notI, jkE, jkS, SV.jk, SV.jks, Box.jk, buildO, fillO, bslO, elemsO, SV.toD, SV.toDs, SV.owns, SV.ownss, D.cells, gVal, offE, offS, Int.cast_ofNat_Int, reduceCtorEq, D.fits, dscs, XTS, Option.isSome_some]⟩
        rw [hb, if_neg he'] at hch
        simp only [Bool.false_eq_true, if_false, if_neg hs'] at hch
        rw [hch]
        simp
    · have hb1 : ¬ (j : Int) < (l.length : Int) := by omega
      repeat' (first
        | (with_reducible first
           | refine swp_seq ?_ | refine swp_block ?_ | refine swp_skip ?_ | refine swp_ret ?_ | refine swp_exit ?_ | refine swp_label ?_
           | refine kseq_n ?_ | refine kseq_x ?_ | refine kseq_r ?_ | refine kblk_n ?_ | refine kblk_r ?_ | refine kblk_xs ?_ | refine kloop_x ?_ | refine kloop_r ?_)
        | (with_reducible refine kblk_xn ?_ ?_
           · rfl)
        | (with_reducible refine swp_regionP ?_ ?_ (fun K' hK' => ?_)
           · rfl
           · rfl
           simp only [LM, vcOps, stepO, val, vals, lk, put, putO, opn, opns, ok1, oks, okp, pickV, nbeq, nble, Nat.reduceBEq, Nat.reduceLeDiff, Int.reduceLE, Int.reduceLT, Int.reduceToNat, ofV, leafS, scs, SV.sc, SV.cells, nx, loadC, Nat.reduceAdd, Nat.reduceSub, Nat.reduceMul, upd, bin, binS, binB, eqA, aggOf, leavesV, eqV, eqL, un1, cnv, bnd, slO, lenV, lenT, mkF, callO, bltO, lenO, appO, srcO, notI, jkE, jkS, SV.jk, SV.jks, Box.jk, buildO, fillO, bslO, elemsO, SV.toD, SV.toDs, SV.owns, SV.ownss, D.cells, gVal, offE, offS, Int.cast_ofNat_Int, reduceCtorEq, D.fits, dscs, XTS, hb1]
           (repeat (refine And.intro ?_ ?_; focus (clear hK'; intros; simp_all; done)))
           (try (refine hK' _ _ ?_; clear hK'; clear K')))
        | (with_reducible refine swp_cond ?_ ?_
           · rfl
           refine ⟨_, rfl, fun h => ?_, fun h => ?_⟩
           <;> (try (exfalso; exact absurd h (by decide)))))
      · simp only [Kret, retL, retOne, oneV, LM, vcOps, stepO, val, vals, lk, put, putO, opn, opns, ok1, oks, okp, pickV, nbeq, nble, Nat.reduceBEq, Nat.reduceLeDiff, Int.reduceLE, Int.reduceLT, Int.reduceToNat, ofV, leafS, scs, SV.sc, SV.cells, nx, loadC, Nat.reduceAdd, Nat.reduceSub, Nat.reduceMul, upd, bin, binS, binB, eqA, aggOf, leavesV, eqV, eqL, un1, cnv, bnd, slO, lenV, lenT, mkF, callO, bltO, lenO, appO, srcO, notI, jkE, jkS, SV.jk, SV.jks, Box.jk, buildO, fillO, bslO, elemsO, SV.toD, SV.toDs, SV.owns, SV.ownss, D.cells, gVal, offE, offS, Int.cast_ofNat_Int, reduceCtorEq, D.fits, dscs, XTS]
        rw [hs, hch, List.drop_of_length_le (by omega)]
        rfl
end Go.Proofs.YtiobdkibbhpojaaDoor
