/- The law ExprsFree by a symbolic walk. -/
-- TYPES2
import Derived.Test.YtiobdkibbhpojaaDoorX25
import Derived.Test.YtiobdkibbhpojaaDoorX24
import Derived.Test.YtiobdkibbhpojaaDoorX13
import Derived.Test.YtiobdkibbhpojaaDoorSwC
set_option linter.unusedVariables false
set_option linter.unusedSimpArgs false
namespace Go.Proofs.YtiobdkibbhpojaaDoor
open Go.RowKit Go.Sw

/-- A binding in a box. -/
def bBox (b : Bd) : Box := .cells [.d (sD b.nm), .d (iD b.t), .d (iD b.n), .d (sD b.s)]
set_option maxHeartbeats 4000000 in
set_option maxRecDepth 100000 in
theorem alike_fn (b c : Bd) : SFn Tryd.prog Γ0 30 [.d (bDf c), .ref 0 0] [(0, bBox b)] (.d (.v (.bool (c.nm.toList == b.nm.toList)))) [(0, bBox b)] := by
  unfold bBox
  refine sfn_of_swp (N := 9) Tryd.func30 rfl (by decide) rfl rfl (by simp) (fun C h0 => ?_)
  simp only [argS]
  repeat' (first
    | (with_reducible first
       | refine swp_seq ?_ | refine swp_block ?_ | refine swp_skip ?_ | refine swp_ret ?_ | refine swp_exit ?_ | refine swp_label ?_
       | refine kseq_n ?_ | refine kseq_x ?_ | refine kseq_r ?_ | refine kblk_n ?_ | refine kblk_r ?_ | refine kblk_xs ?_ | refine kloop_x ?_ | refine kloop_r ?_)
    | (with_reducible refine kblk_xn ?_ ?_
       · rfl)
    | (with_reducible refine swp_regionP ?_ ?_ (fun K' hK' => ?_)
       · rfl
       · rfl
       simp only [LM, vcOps, stepO, val, vals, lk, put, putO, opn, opns, ok1, oks, okp, pickV, nbeq, nble, Nat.reduceBEq, Nat.reduceLeDiff, Int.reduceLE, Int.reduceLT, Int.reduceToNat, ofV, leafS, scs, SV.sc, SV.cells, nx, loadC, Nat.reduceAdd, Nat.reduceSub, Nat.reduceMul, upd, bin, binS, binB, eqA, aggOf, leavesV, eqV, eqL, un1, cnv, bnd, slO, lenV, lenT, mkF, callO, bltO, lenO, appO, srcO, notI, jkE, jkS, SV.jk, SV.jks, Box.jk, buildO, fillO, bslO, elemsO, SV.toD, SV.toDs, SV.owns, SV.ownss, D.cells, gVal, offE, offS, Int.cast_ofNat_Int, reduceCtorEq, D.fits, dscs, XTS, XT2S]
       (repeat (refine And.intro ?_ ?_; focus (clear hK'; intros; simp_all; done)))
       (try (refine hK' _ _ ?_; clear hK'; clear K')))
    | (with_reducible refine swp_cond ?_ ?_
       · rfl
       refine ⟨_, rfl, fun h => ?_, fun h => ?_⟩
       <;> (try (exfalso; exact absurd h (by decide)))))
  simp only [KretS, retL, retOne, oneV, keepS, subS, BoxW, FZs, FZ, offl, LM, vcOps, stepO, val, vals, lk, put, putO, opn, opns, ok1, oks, okp, pickV, nbeq, nble, Nat.reduceBEq, Nat.reduceLeDiff, Int.reduceLE, Int.reduceLT, Int.reduceToNat, ofV, leafS, scs, SV.sc, SV.cells, nx, loadC, Nat.reduceAdd, Nat.reduceSub, Nat.reduceMul, upd, bin, binS, binB, eqA, aggOf, leavesV, eqV, eqL, un1, cnv, bnd, slO, lenV, lenT, mkF, callO, bltO, lenO, appO, srcO, notI, jkE, jkS, SV.jk, SV.jks, Box.jk, buildO, fillO, bslO, elemsO, SV.toD, SV.toDs, SV.owns, SV.ownss, D.cells, gVal, offE, offS, Int.cast_ofNat_Int, reduceCtorEq, D.fits, dscs, XTS, XT2S, Option.isSome_some, h0]
set_option maxHeartbeats 4000000 in
set_option maxRecDepth 100000 in
theorem indexC_fn (a : Bd) (env : List Bd) (henv : env.length ≤ 140737488355328) :
    SFn Tryd.prog Γ0 48 [.d (envD env), .clo 30 [.ref 0 0]] [(0, bBox a)] (.d (iD (idxF (fun c => c.nm.toList == a.nm.toList) env 0))) [(0, bBox a)] := by
  have hfn := alike_fn a
  unfold bBox at hfn ⊢
  refine sfn_of_swp (N := 19) Tryd.func48 rfl (by decide) rfl rfl (by simp) (fun C h0 => ?_)
  simp only [argS]
  repeat' (first
    | (with_reducible first
       | refine swp_seq ?_ | refine swp_block ?_ | refine swp_skip ?_ | refine swp_ret ?_ | refine swp_exit ?_ | refine swp_label ?_
       | refine kseq_n ?_ | refine kseq_x ?_ | refine kseq_r ?_ | refine kblk_n ?_ | refine kblk_r ?_ | refine kblk_xs ?_ | refine kloop_x ?_ | refine kloop_r ?_)
    | (with_reducible refine kblk_xn ?_ ?_
       · rfl)
    | (with_reducible refine swp_regionP ?_ ?_ (fun K' hK' => ?_)
       · rfl
       · rfl
       simp only [LM, vcOps, stepO, val, vals, lk, put, putO, opn, opns, ok1, oks, okp, pickV, nbeq, nble, Nat.reduceBEq, Nat.reduceLeDiff, Int.reduceLE, Int.reduceLT, Int.reduceToNat, ofV, leafS, scs, SV.sc, SV.cells, nx, loadC, Nat.reduceAdd, Nat.reduceSub, Nat.reduceMul, upd, bin, binS, binB, eqA, aggOf, leavesV, eqV, eqL, un1, cnv, bnd, slO, lenV, lenT, mkF, callO, bltO, lenO, appO, srcO, notI, jkE, jkS, SV.jk, SV.jks, Box.jk, buildO, fillO, bslO, elemsO, SV.toD, SV.toDs, SV.owns, SV.ownss, D.cells, gVal, offE, offS, Int.cast_ofNat_Int, reduceCtorEq, D.fits, dscs, XTS, XT2S, List.length_map]
       (repeat (refine And.intro ?_ ?_; focus (clear hK'; intros; simp_all; done)))
       (try (refine hK' _ _ ?_; clear hK'; clear K')))
    | (with_reducible refine swp_cond ?_ ?_
       · rfl
       refine ⟨_, rfl, fun h => ?_, fun h => ?_⟩
       <;> (try (exfalso; exact absurd h (by decide)))))
  refine swp_loop (α := Nat) (fun j => [(0, .d (envD env)), (1, .clo 30 [.ref 0 0]), (7, .d (iD env.length)), (8, .d (iD j))]) (fun _ => [(0, .cells [.d (sD a.nm), .d (iD a.t), .d (iD a.n), .d (sD a.s)])])
    (fun j => j ≤ env.length ∧ idxF (fun c => c.nm.toList == a.nm.toList) env 0 = idxF (fun c => c.nm.toList == a.nm.toList) (env.drop j) j) (fun j => env.length - j) 0 ⟨Nat.zero_le _, rfl⟩ (by refine sub_of h0 ?_ ?_ ?_ <;> simp only [keepS, subS, subE, BoxW, FZs, FZ, offl, LM, vcOps, stepO, val, vals, lk, put, putO, opn, opns, ok1, oks, okp, pickV, nbeq, nble, Nat.reduceBEq, Nat.reduceLeDiff, Int.reduceLE, Int.reduceLT, Int.reduceToNat, ofV, leafS, scs, SV.sc, SV.cells, nx, loadC, Nat.reduceAdd, Nat.reduceSub, Nat.reduceMul, upd, bin, binS, binB, eqA, aggOf, leavesV, eqV, eqL, un1, cnv, bnd, slO, lenV, lenT, mkF, callO, bltO, lenO, appO, srcO, notI, jkE, jkS, SV.jk, SV.jks, Box.jk, buildO, fillO, bslO, elemsO, SV.toD, SV.toDs, SV.owns, SV.ownss, D.cells, gVal, offE, offS, Int.cast_ofNat_Int, reduceCtorEq, D.fits, dscs, XTS, XT2S, Option.isSome_some, List.length_map]) (fun j hj => ?_)
  obtain ⟨hj, hch⟩ := hj
  have hb0 : (0 : Int) ≤ (j : Int) := by omega
  by_cases hlt : j < env.length
  · obtain ⟨b, hx⟩ : ∃ b, env[j]? = some b := ⟨env[j], by simp [hlt]⟩
    have hcall := hfn b
    have hget : (env.map bDf).getD j default = bDf b := by simp [List.getD, hx]
    have hb1 : (j : Int) < (env.length : Int) := by omega
    have hw3 : IntKind.i64.wrap ((j : Int) + 1) = ((j + 1 : Nat) : Int) := by rw [wrap_in (by omega) (by omega)]; omega
    have hd : env.drop j = b :: env.drop (j + 1) := by
      obtain ⟨h1, h2⟩ := List.getElem?_eq_some_iff.1 hx
      rw [List.drop_eq_getElem_cons h1, h2]
    rw [hd] at hch
    simp only [idxF] at hch
    repeat' (first
      | (with_reducible first
         | refine swp_seq ?_ | refine swp_block ?_ | refine swp_skip ?_ | refine swp_ret ?_ | refine swp_exit ?_ | refine swp_label ?_
         | refine kseq_n ?_ | refine kseq_x ?_ | refine kseq_r ?_ | refine kblk_n ?_ | refine kblk_r ?_ | refine kblk_xs ?_ | refine kloop_x ?_ | refine kloop_r ?_)
      | (with_reducible refine kblk_xn ?_ ?_
         · rfl)
      | (with_reducible refine swp_regionP ?_ ?_ (fun K' hK' => ?_)
         · rfl
         · rfl
         simp only [LM, vcOps, stepO, val, vals, lk, put, putO, opn, opns, ok1, oks, okp, pickV, nbeq, nble, Nat.reduceBEq, Nat.reduceLeDiff, Int.reduceLE, Int.reduceLT, Int.reduceToNat, ofV, leafS, scs, SV.sc, SV.cells, nx, loadC, Nat.reduceAdd, Nat.reduceSub, Nat.reduceMul, upd, bin, binS, binB, eqA, aggOf, leavesV, eqV, eqL, un1, cnv, bnd, slO, lenV, lenT, mkF, callO, bltO, lenO, appO, srcO, notI, jkE, jkS, SV.jk, SV.jks, Box.jk, buildO, fillO, bslO, elemsO, SV.toD, SV.toDs, SV.owns, SV.ownss, D.cells, gVal, offE, offS, Int.cast_ofNat_Int, reduceCtorEq, D.fits, dscs, XTS, XT2S, Int.toNat_natCast, hget, List.length_map, hb0, hb1]
         (repeat (refine And.intro ?_ ?_; focus (clear hK'; intros; simp_all; done)))
         (try (refine hK' _ _ ?_; clear hK'; clear K')))
      | (with_reducible refine swp_cond ?_ ?_
         · rfl
         refine ⟨_, rfl, fun h => ?_, fun h => ?_⟩
         <;> (try (exfalso; exact absurd h (by decide)))))
    refine stop_callV rfl rfl (by simp only [LM, vcOps, stepO, val, vals, lk, put, putO, opn, opns, ok1, oks, okp, pickV, nbeq, nble, Nat.reduceBEq, Nat.reduceLeDiff, Int.reduceLE, Int.reduceLT, Int.reduceToNat, ofV, leafS, scs, SV.sc, SV.cells, nx, loadC, Nat.reduceAdd, Nat.reduceSub, Nat.reduceMul, upd, bin, binS, binB, eqA, aggOf, leavesV, eqV, eqL, un1, cnv, bnd, slO, lenV, lenT, mkF, callO, bltO, lenO, appO, srcO, notI, jkE, jkS, SV.jk, SV.jks, Box.jk, buildO, fillO, bslO, elemsO, SV.toD, SV.toDs, SV.owns, SV.ownss, D.cells, gVal, offE, offS, Int.cast_ofNat_Int, reduceCtorEq, D.fits, dscs]) (by simp only [argF, argOne, hin, hins, LM, vcOps, stepO, val, vals, lk, put, putO, opn, opns, ok1, oks, okp, pickV, nbeq, nble, Nat.reduceBEq, Nat.reduceLeDiff, Int.reduceLE, Int.reduceLT, Int.reduceToNat, ofV, leafS, scs, SV.sc, SV.cells, nx, loadC, Nat.reduceAdd, Nat.reduceSub, Nat.reduceMul, upd, bin, binS, binB, eqA, aggOf, leavesV, eqV, eqL, un1, cnv, bnd, slO, lenV, lenT, mkF, callO, bltO, lenO, appO, srcO, notI, jkE, jkS, SV.jk, SV.jks, Box.jk, buildO, fillO, bslO, elemsO, SV.toD, SV.toDs, SV.owns, SV.ownss, D.cells, gVal, offE, offS, Int.cast_ofNat_Int, reduceCtorEq, D.fits, dscs, Option.isSome_some]) (by simp only [subC, LM, vcOps, stepO, val, vals, lk, put, putO, opn, opns, ok1, oks, okp, pickV, nbeq, nble, Nat.reduceBEq, Nat.reduceLeDiff, Int.reduceLE, Int.reduceLT, Int.reduceToNat, ofV, leafS, scs, SV.sc, SV.cells, nx, loadC, Nat.reduceAdd, Nat.reduceSub, Nat.reduceMul, upd, bin, binS, binB, eqA, aggOf, leavesV, eqV, eqL, un1, cnv, bnd, slO, lenV, lenT, mkF, callO, bltO, lenO, appO, srcO, notI, jkE, jkS, SV.jk, SV.jks, Box.jk, buildO, fillO, bslO, elemsO, SV.toD, SV.toDs, SV.owns, SV.ownss, D.cells, gVal, offE, offS, Int.cast_ofNat_Int, reduceCtorEq, D.fits, dscs]) (by simp only [hinB, hin, hins, LM, vcOps, stepO, val, vals, lk, put, putO, opn, opns, ok1, oks, okp, pickV, nbeq, nble, Nat.reduceBEq, Nat.reduceLeDiff, Int.reduceLE, Int.reduceLT, Int.reduceToNat, ofV, leafS, scs, SV.sc, SV.cells, nx, loadC, Nat.reduceAdd, Nat.reduceSub, Nat.reduceMul, upd, bin, binS, binB, eqA, aggOf, leavesV, eqV, eqL, un1, cnv, bnd, slO, lenV, lenT, mkF, callO, bltO, lenO, appO, srcO, notI, jkE, jkS, SV.jk, SV.jks, Box.jk, buildO, fillO, bslO, elemsO, SV.toD, SV.toDs, SV.owns, SV.ownss, D.cells, gVal, offE, offS, Int.cast_ofNat_Int, reduceCtorEq, D.fits, dscs, Option.isSome_some]) (by simp only [sameD, newS, lk, nbeq, Nat.reduceBEq, cond_false, cond_true, Option.isNone_none, and_self, true_and, and_true]) (hcall) ?_
    simp only [LM, vcOps, stepO, val, vals, lk, put, putO, opn, opns, ok1, oks, okp, pickV, nbeq, nble, Nat.reduceBEq, Nat.reduceLeDiff, Int.reduceLE, Int.reduceLT, Int.reduceToNat, ofV, leafS, scs, SV.sc, SV.cells, nx, loadC, Nat.reduceAdd, Nat.reduceSub, Nat.reduceMul, upd, bin, binS, binB, eqA, aggOf, leavesV, eqV, eqL, un1, cnv, bnd, slO, lenV, lenT, mkF, callO, bltO, lenO, appO, srcO, notI, jkE, jkS, SV.jk, SV.jks, Box.jk, buildO, fillO, bslO, elemsO, SV.toD, SV.toDs, SV.owns, SV.ownss, D.cells, gVal, offE, offS, Int.cast_ofNat_Int, reduceCtorEq, D.fits, dscs, XTS, XT2S, mrg, rowsOf, inX, jkS, ]
    (try (refine hK' _ _ ?_; clear hK'; clear K'))
    repeat' (first
      | (with_reducible first
         | refine swp_seq ?_ | refine swp_block ?_ | refine swp_skip ?_ | refine swp_ret ?_ | refine swp_exit ?_ | refine swp_label ?_
         | refine kseq_n ?_ | refine kseq_x ?_ | refine kseq_r ?_ | refine kblk_n ?_ | refine kblk_r ?_ | refine kblk_xs ?_ | refine kloop_x ?_ | refine kloop_r ?_)
      | (with_reducible refine kblk_xn ?_ ?_
         · rfl)
      | (with_reducible refine swp_regionP ?_ ?_ (fun K' hK' => ?_)
         · rfl
         · rfl
         simp only [LM, vcOps, stepO, val, vals, lk, put, putO, opn, opns, ok1, oks, okp, pickV, nbeq, nble, Nat.reduceBEq, Nat.reduceLeDiff, Int.reduceLE, Int.reduceLT, Int.reduceToNat, ofV, leafS, scs, SV.sc, SV.cells, nx, loadC, Nat.reduceAdd, Nat.reduceSub, Nat.reduceMul, upd, bin, binS, binB, eqA, aggOf, leavesV, eqV, eqL, un1, cnv, bnd, slO, lenV, lenT, mkF, callO, bltO, lenO, appO, srcO, notI, jkE, jkS, SV.jk, SV.jks, Box.jk, buildO, fillO, bslO, elemsO, SV.toD, SV.toDs, SV.owns, SV.ownss, D.cells, gVal, offE, offS, Int.cast_ofNat_Int, reduceCtorEq, D.fits, dscs, XTS, XT2S, hw3]
         (repeat (refine And.intro ?_ ?_; focus (clear hK'; intros; simp_all; done)))
         (try (refine hK' _ _ ?_; clear hK'; clear K')))
      | (with_reducible refine swp_cond ?_ ?_
         · rfl
         refine ⟨_, rfl, fun h => ?_, fun h => ?_⟩
         <;> (try (exfalso; exact absurd h (by decide)))))
    · simp only [KretS, retL, retOne, oneV, keepS, subS, BoxW, FZs, FZ, offl, LM, vcOps, stepO, val, vals, lk, put, putO, opn, opns, ok1, oks, okp, pickV, nbeq, nble, Nat.reduceBEq, Nat.reduceLeDiff, Int.reduceLE, Int.reduceLT, Int.reduceToNat, ofV, leafS, scs, SV.sc, SV.cells, nx, loadC, Nat.reduceAdd, Nat.reduceSub, Nat.reduceMul, upd, bin, binS, binB, eqA, aggOf, leavesV, eqV, eqL, un1, cnv, bnd, slO, lenV, lenT, mkF, callO, bltO, lenO, appO, srcO, notI, jkE, jkS, SV.jk, SV.jks, Box.jk, buildO, fillO, bslO, elemsO, SV.toD, SV.toDs, SV.owns, SV.ownss, D.cells, gVal, offE, offS, Int.cast_ofNat_Int, reduceCtorEq, D.fits, dscs, XTS, XT2S, Option.isSome_some, h0]
      rw [hch, if_pos h]
    · rw [if_neg (by simpa using h)] at hch
      refine ⟨j + 1, ⟨(by show j + 1 ≤ env.length; omega), hch⟩, (by show env.length - (j + 1) < env.length - j; omega), by refine sub_of h0 ?_ ?_ ?_ <;> simp only [keepS, subS, subE, BoxW, FZs, FZ, offl, LM, vcOps, stepO, val, vals, lk, put, putO, opn, opns, ok1, oks, okp, pickV, nbeq, nble, Nat.reduceBEq, Nat.reduceLeDiff, Int.reduceLE, Int.reduceLT, Int.reduceToNat, ofV, leafS, scs, SV.sc, SV.cells, nx, loadC, Nat.reduceAdd, Nat.reduceSub, Nat.reduceMul, upd, bin, binS, binB, eqA, aggOf, leavesV, eqV, eqL, un1, cnv, bnd, slO, lenV, lenT, mkF, callO, bltO, lenO, appO, srcO, notI, jkE, jkS, SV.jk, SV.jks, Box.jk, buildO, fillO, bslO, elemsO, SV.toD, SV.toDs, SV.owns, SV.ownss, D.cells, gVal, offE, offS, Int.cast_ofNat_Int, reduceCtorEq, D.fits, dscs, XTS, XT2S, Option.isSome_some]⟩
  · have hb1 : ¬ (j : Int) < (env.length : Int) := by omega
    repeat' (first
      | (with_reducible first
         | refine swp_seq ?_ | refine swp_block ?_ | refine swp_skip ?_ | refine swp_ret ?_ | refine swp_exit ?_ | refine swp_label ?_
         | refine kseq_n ?_ | refine kseq_x ?_ | refine kseq_r ?_ | refine kblk_n ?_ | refine kblk_r ?_ | refine kblk_xs ?_ | refine kloop_x ?_ | refine kloop_r ?_)
      | (with_reducible refine kblk_xn ?_ ?_
         · rfl)
      | (with_reducible refine swp_regionP ?_ ?_ (fun K' hK' => ?_)
         · rfl
         · rfl
         simp only [LM, vcOps, stepO, val, vals, lk, put, putO, opn, opns, ok1, oks, okp, pickV, nbeq, nble, Nat.reduceBEq, Nat.reduceLeDiff, Int.reduceLE, Int.reduceLT, Int.reduceToNat, ofV, leafS, scs, SV.sc, SV.cells, nx, loadC, Nat.reduceAdd, Nat.reduceSub, Nat.reduceMul, upd, bin, binS, binB, eqA, aggOf, leavesV, eqV, eqL, un1, cnv, bnd, slO, lenV, lenT, mkF, callO, bltO, lenO, appO, srcO, notI, jkE, jkS, SV.jk, SV.jks, Box.jk, buildO, fillO, bslO, elemsO, SV.toD, SV.toDs, SV.owns, SV.ownss, D.cells, gVal, offE, offS, Int.cast_ofNat_Int, reduceCtorEq, D.fits, dscs, XTS, XT2S, hb1]
         (repeat (refine And.intro ?_ ?_; focus (clear hK'; intros; simp_all; done)))
         (try (refine hK' _ _ ?_; clear hK'; clear K')))
      | (with_reducible refine swp_cond ?_ ?_
         · rfl
         refine ⟨_, rfl, fun h => ?_, fun h => ?_⟩
         <;> (try (exfalso; exact absurd h (by decide)))))
    simp only [KretS, retL, retOne, oneV, keepS, subS, BoxW, FZs, FZ, offl, LM, vcOps, stepO, val, vals, lk, put, putO, opn, opns, ok1, oks, okp, pickV, nbeq, nble, Nat.reduceBEq, Nat.reduceLeDiff, Int.reduceLE, Int.reduceLT, Int.reduceToNat, ofV, leafS, scs, SV.sc, SV.cells, nx, loadC, Nat.reduceAdd, Nat.reduceSub, Nat.reduceMul, upd, bin, binS, binB, eqA, aggOf, leavesV, eqV, eqL, un1, cnv, bnd, slO, lenV, lenT, mkF, callO, bltO, lenO, appO, srcO, notI, jkE, jkS, SV.jk, SV.jks, Box.jk, buildO, fillO, bslO, elemsO, SV.toD, SV.toDs, SV.owns, SV.ownss, D.cells, gVal, offE, offS, Int.cast_ofNat_Int, reduceCtorEq, D.fits, dscs, XTS, XT2S, Option.isSome_some, h0]
    rw [hch, List.drop_of_length_le (by omega)]
    rfl

set_option maxHeartbeats 4000000 in
set_option maxRecDepth 100000 in
theorem containsC_fn (a : Bd) (env : List Bd) (henv : env.length ≤ 140737488355328) :
    SFn Tryd.prog Γ0 19 [.d (envD env), .clo 30 [.ref 0 0]] [(0, bBox a)] (.d (.v (.bool (env.any fun c => c.nm.toList == a.nm.toList)))) [(0, bBox a)] := by
  have hc := indexC_fn a env henv
  unfold bBox at hc ⊢
  refine sfn_of_swp (N := 9) Tryd.func19 rfl (by decide) rfl rfl (by simp) (fun C h0 => ?_)
  simp only [argS]
  repeat' (first
    | (with_reducible first
       | refine swp_seq ?_ | refine swp_block ?_ | refine swp_skip ?_ | refine swp_ret ?_ | refine swp_exit ?_ | refine swp_label ?_
       | refine kseq_n ?_ | refine kseq_x ?_ | refine kseq_r ?_ | refine kblk_n ?_ | refine kblk_r ?_ | refine kblk_xs ?_ | refine kloop_x ?_ | refine kloop_r ?_)
    | (with_reducible refine kblk_xn ?_ ?_
       · rfl)
    | (with_reducible refine swp_regionP ?_ ?_ (fun K' hK' => ?_)
       · rfl
       · rfl
       simp only [LM, vcOps, stepO, val, vals, lk, put, putO, opn, opns, ok1, oks, okp, pickV, nbeq, nble, Nat.reduceBEq, Nat.reduceLeDiff, Int.reduceLE, Int.reduceLT, Int.reduceToNat, ofV, leafS, scs, SV.sc, SV.cells, nx, loadC, Nat.reduceAdd, Nat.reduceSub, Nat.reduceMul, upd, bin, binS, binB, eqA, aggOf, leavesV, eqV, eqL, un1, cnv, bnd, slO, lenV, lenT, mkF, callO, bltO, lenO, appO, srcO, notI, jkE, jkS, SV.jk, SV.jks, Box.jk, buildO, fillO, bslO, elemsO, SV.toD, SV.toDs, SV.owns, SV.ownss, D.cells, gVal, offE, offS, Int.cast_ofNat_Int, reduceCtorEq, D.fits, dscs, XTS, XT2S]
       (repeat (refine And.intro ?_ ?_; focus (clear hK'; intros; simp_all; done)))
       (try (refine hK' _ _ ?_; clear hK'; clear K')))
    | (with_reducible refine swp_cond ?_ ?_
       · rfl
       refine ⟨_, rfl, fun h => ?_, fun h => ?_⟩
       <;> (try (exfalso; exact absurd h (by decide)))))
  refine stop_callS rfl (by simp only [LM, vcOps, stepO, val, vals, lk, put, putO, opn, opns, ok1, oks, okp, pickV, nbeq, nble, Nat.reduceBEq, Nat.reduceLeDiff, Int.reduceLE, Int.reduceLT, Int.reduceToNat, ofV, leafS, scs, SV.sc, SV.cells, nx, loadC, Nat.reduceAdd, Nat.reduceSub, Nat.reduceMul, upd, bin, binS, binB, eqA, aggOf, leavesV, eqV, eqL, un1, cnv, bnd, slO, lenV, lenT, mkF, callO, bltO, lenO, appO, srcO, notI, jkE, jkS, SV.jk, SV.jks, Box.jk, buildO, fillO, bslO, elemsO, SV.toD, SV.toDs, SV.owns, SV.ownss, D.cells, gVal, offE, offS, Int.cast_ofNat_Int, reduceCtorEq, D.fits, dscs]) (by simp only [argF, argOne, hin, hins, LM, vcOps, stepO, val, vals, lk, put, putO, opn, opns, ok1, oks, okp, pickV, nbeq, nble, Nat.reduceBEq, Nat.reduceLeDiff, Int.reduceLE, Int.reduceLT, Int.reduceToNat, ofV, leafS, scs, SV.sc, SV.cells, nx, loadC, Nat.reduceAdd, Nat.reduceSub, Nat.reduceMul, upd, bin, binS, binB, eqA, aggOf, leavesV, eqV, eqL, un1, cnv, bnd, slO, lenV, lenT, mkF, callO, bltO, lenO, appO, srcO, notI, jkE, jkS, SV.jk, SV.jks, Box.jk, buildO, fillO, bslO, elemsO, SV.toD, SV.toDs, SV.owns, SV.ownss, D.cells, gVal, offE, offS, Int.cast_ofNat_Int, reduceCtorEq, D.fits, dscs, Option.isSome_some]) (by simp only [subC, LM, vcOps, stepO, val, vals, lk, put, putO, opn, opns, ok1, oks, okp, pickV, nbeq, nble, Nat.reduceBEq, Nat.reduceLeDiff, Int.reduceLE, Int.reduceLT, Int.reduceToNat, ofV, leafS, scs, SV.sc, SV.cells, nx, loadC, Nat.reduceAdd, Nat.reduceSub, Nat.reduceMul, upd, bin, binS, binB, eqA, aggOf, leavesV, eqV, eqL, un1, cnv, bnd, slO, lenV, lenT, mkF, callO, bltO, lenO, appO, srcO, notI, jkE, jkS, SV.jk, SV.jks, Box.jk, buildO, fillO, bslO, elemsO, SV.toD, SV.toDs, SV.owns, SV.ownss, D.cells, gVal, offE, offS, Int.cast_ofNat_Int, reduceCtorEq, D.fits, dscs]) (by simp only [hinB, hin, hins, LM, vcOps, stepO, val, vals, lk, put, putO, opn, opns, ok1, oks, okp, pickV, nbeq, nble, Nat.reduceBEq, Nat.reduceLeDiff, Int.reduceLE, Int.reduceLT, Int.reduceToNat, ofV, leafS, scs, SV.sc, SV.cells, nx, loadC, Nat.reduceAdd, Nat.reduceSub, Nat.reduceMul, upd, bin, binS, binB, eqA, aggOf, leavesV, eqV, eqL, un1, cnv, bnd, slO, lenV, lenT, mkF, callO, bltO, lenO, appO, srcO, notI, jkE, jkS, SV.jk, SV.jks, Box.jk, buildO, fillO, bslO, elemsO, SV.toD, SV.toDs, SV.owns, SV.ownss, D.cells, gVal, offE, offS, Int.cast_ofNat_Int, reduceCtorEq, D.fits, dscs, Option.isSome_some]) (by simp only [sameD, newS, lk, nbeq, Nat.reduceBEq, cond_false, cond_true, Option.isNone_none, and_self, true_and, and_true]) (hc) ?_
  simp only [LM, vcOps, stepO, val, vals, lk, put, putO, opn, opns, ok1, oks, okp, pickV, nbeq, nble, Nat.reduceBEq, Nat.reduceLeDiff, Int.reduceLE, Int.reduceLT, Int.reduceToNat, ofV, leafS, scs, SV.sc, SV.cells, nx, loadC, Nat.reduceAdd, Nat.reduceSub, Nat.reduceMul, upd, bin, binS, binB, eqA, aggOf, leavesV, eqV, eqL, un1, cnv, bnd, slO, lenV, lenT, mkF, callO, bltO, lenO, appO, srcO, notI, jkE, jkS, SV.jk, SV.jks, Box.jk, buildO, fillO, bslO, elemsO, SV.toD, SV.toDs, SV.owns, SV.ownss, D.cells, gVal, offE, offS, Int.cast_ofNat_Int, reduceCtorEq, D.fits, dscs, XTS, XT2S, mrg, rowsOf, inX, jkS, ]
  (try (refine hK' _ _ ?_; clear hK'; clear K'))
  repeat' (first
    | (with_reducible first
       | refine swp_seq ?_ | refine swp_block ?_ | refine swp_skip ?_ | refine swp_ret ?_ | refine swp_exit ?_ | refine swp_label ?_
       | refine kseq_n ?_ | refine kseq_x ?_ | refine kseq_r ?_ | refine kblk_n ?_ | refine kblk_r ?_ | refine kblk_xs ?_ | refine kloop_x ?_ | refine kloop_r ?_)
    | (with_reducible refine kblk_xn ?_ ?_
       · rfl)
    | (with_reducible refine swp_regionP ?_ ?_ (fun K' hK' => ?_)
       · rfl
       · rfl
       simp only [LM, vcOps, stepO, val, vals, lk, put, putO, opn, opns, ok1, oks, okp, pickV, nbeq, nble, Nat.reduceBEq, Nat.reduceLeDiff, Int.reduceLE, Int.reduceLT, Int.reduceToNat, ofV, leafS, scs, SV.sc, SV.cells, nx, loadC, Nat.reduceAdd, Nat.reduceSub, Nat.reduceMul, upd, bin, binS, binB, eqA, aggOf, leavesV, eqV, eqL, un1, cnv, bnd, slO, lenV, lenT, mkF, callO, bltO, lenO, appO, srcO, notI, jkE, jkS, SV.jk, SV.jks, Box.jk, buildO, fillO, bslO, elemsO, SV.toD, SV.toDs, SV.owns, SV.ownss, D.cells, gVal, offE, offS, Int.cast_ofNat_Int, reduceCtorEq, D.fits, dscs, XTS, XT2S]
       (repeat (refine And.intro ?_ ?_; focus (clear hK'; intros; simp_all; done)))
       (try (refine hK' _ _ ?_; clear hK'; clear K')))
    | (with_reducible refine swp_cond ?_ ?_
       · rfl
       refine ⟨_, rfl, fun h => ?_, fun h => ?_⟩
       <;> (try (exfalso; exact absurd h (by decide)))))
  simp only [KretS, retL, retOne, oneV, keepS, subS, BoxW, FZs, FZ, offl, LM, vcOps, stepO, val, vals, lk, put, putO, opn, opns, ok1, oks, okp, pickV, nbeq, nble, Nat.reduceBEq, Nat.reduceLeDiff, Int.reduceLE, Int.reduceLT, Int.reduceToNat, ofV, leafS, scs, SV.sc, SV.cells, nx, loadC, Nat.reduceAdd, Nat.reduceSub, Nat.reduceMul, upd, bin, binS, binB, eqA, aggOf, leavesV, eqV, eqL, un1, cnv, bnd, slO, lenV, lenT, mkF, callO, bltO, lenO, appO, srcO, notI, jkE, jkS, SV.jk, SV.jks, Box.jk, buildO, fillO, bslO, elemsO, SV.toD, SV.toDs, SV.owns, SV.ownss, D.cells, gVal, offE, offS, Int.cast_ofNat_Int, reduceCtorEq, D.fits, dscs, XTS, XT2S, Option.isSome_some, h0]
  rw [← idxF_any _ env 0]

theorem refval (v : Va) : DFn Tryd.prog Γ0 21 [vD v] (iD (vcheck v.t v.n v.s)) := by
  by_cases h : v.s.size ≤ 100
  · obtain ⟨L, hL⟩ := letSaid v.s h
    exact refval_fn v L fun _ => hL
  · exact refval_fn v [] fun h' => absurd h' h
theorem selB_drop (q : Bd → Bool) (l : List Bd) (j : Nat) (b : Bd) (h : l[j]? = some b) : selB q (l.drop j) = (if (q b && !((l.drop (j + 1)).any fun c => c.nm.toList == b.nm.toList)) = true then [b] else []) ++ selB q (l.drop (j + 1)) := by
  have hd : l.drop j = b :: l.drop (j + 1) := by
    obtain ⟨h1, h2⟩ := List.getElem?_eq_some_iff.1 h
    rw [List.drop_eq_getElem_cons h1, h2]
  rw [hd, selB]
  split <;> rfl

theorem maxB : 3000000 ≤ maxLen := by unfold maxLen; omega
theorem b48 (m : Nat) (h : m ≤ 3000000) : m * 48 ≤ 140737488355328 := by omega

set_option maxHeartbeats 16000000 in
set_option maxRecDepth 100000 in
theorem freeW (x : Ex) (env other : List Bd) (henv : env.length ≤ 1048576) (hoth : other.length ≤ 1048576) : DFn Tryd.prog Γ0 8 [x.d, envD env, envD other] (.v (.bool true)) := by
  have hN0 := Names_fn (nameX ⟨#[113]⟩)
  rw [nameX_chk _ q_name, nameX_names _ q_name] at hN0
  have hS0 := sameS_fn [⟨#[113]⟩] [⟨#[113]⟩] (by simp) rfl (fun j _ => rfl)
  have hN := Names_fn x
  have hn0 : eCheck x ≠ 0 → namesX x = [] := fun h => by unfold namesX; rw [if_neg h]
  have hnl : (namesX x).length ≤ 140737488355328 := by
    unfold namesX
    split
    · rename_i hc
      have h1 := compS_len (sortS (coll x))
      rw [sortS_len] at h1
      have h2 := coll_len x
      have h3 := size_of_chk x hc
      omega
    · simp
  have hC : ∀ b : Bd, DFn Tryd.prog Γ0 31 [.slc ((namesX x).map sD), sD b.nm] (.v (.bool (nmIn x b))) := fun b => containsS_fn (namesX x) b.nm hnl
  have hK1 : SFn Tryd.prog Γ0 29 [.d (envD env)] [] (.own 1) [(1, .row 4 (env.map bDf))] := (cloneB_fn env (by omega)).up 1
  have hK2 : SFn Tryd.prog Γ0 29 [.d (envD other)] [] (.own 2) [(2, .row 4 (other.map bDf))] := (cloneB_fn other (by omega)).up 2
  have hE1 := Eval_fn x env (by omega)
  have hsl := selB_len (nmIn x) env
  have hE2 := Eval_fn x (other ++ selB (nmIn x) env) (by rw [List.length_append]; omega)
  have hE3 := Eval_fn x (selB (nmIn x) env) (by omega)
  have hlaw := free_law x env other
  rw [show envD (other ++ selB (nmIn x) env) = .slc ((other ++ selB (nmIn x) env).map bDf) from rfl] at hE2
  simp only [List.map_cons, List.map_nil] at hS0 hN0
  generalize namesX x = NX at hN hn0 hnl hC
  generalize nmIn x = Q at hC hE2 hE3 hlaw hsl
  generalize evalV x env = V1 at hE1 hlaw
  generalize evalN x env = E1 at hE1 hlaw
  generalize evalV x (other ++ selB Q env) = V2 at hE2 hlaw
  generalize evalN x (other ++ selB Q env) = E2 at hE2 hlaw
  generalize evalV x (selB Q env) = V3 at hE3 hlaw
  generalize evalN x (selB Q env) = E3 at hE3 hlaw
  generalize eCheck x = CX at hN hn0 hlaw
  obtain ⟨k, nm, t, n, s, l⟩ := x
  simp only [Ex.d, nameX, Ex.ds] at hN0 hN hE1 hE2 hE3 ⊢
  have hm1 : (env.length + other.length) * 48 ≤ 140737488355328 := by omega
  have hm2 : env.length + other.length ≤ maxLen := by unfold maxLen; omega
  refine fn_of_swp (N := 142) Tryd.func8 rfl (by decide) rfl rfl (by simp) (fun C h0 => ?_)
  simp only [argE]
  repeat' (first
    | (with_reducible first
       | refine swp_seq ?_ | refine swp_block ?_ | refine swp_skip ?_ | refine swp_ret ?_ | refine swp_exit ?_ | refine swp_label ?_
       | refine kseq_n ?_ | refine kseq_x ?_ | refine kseq_r ?_ | refine kblk_n ?_ | refine kblk_r ?_ | refine kblk_xs ?_ | refine kloop_x ?_ | refine kloop_r ?_)
    | (with_reducible refine kblk_xn ?_ ?_
       · rfl)
    | (with_reducible refine swp_regionP ?_ ?_ (fun K' hK' => ?_)
       · rfl
       · rfl
       simp only [LM, vcOps, stepO, val, vals, lk, put, putO, opn, opns, ok1, oks, okp, pickV, nbeq, nble, Nat.reduceBEq, Nat.reduceLeDiff, Int.reduceLE, Int.reduceLT, Int.reduceToNat, ofV, leafS, scs, SV.sc, SV.cells, nx, loadC, Nat.reduceAdd, Nat.reduceSub, Nat.reduceMul, upd, bin, binS, binB, eqA, aggOf, leavesV, eqV, eqL, un1, cnv, bnd, slO, lenV, lenT, mkF, callO, bltO, lenO, appO, srcO, notI, jkE, jkS, SV.jk, SV.jks, Box.jk, buildO, fillO, bslO, elemsO, SV.toD, SV.toDs, SV.owns, SV.ownss, D.cells, gVal, offE, offS, Int.cast_ofNat_Int, reduceCtorEq, D.fits, dscs, XTS, XT2S]
       (repeat (refine And.intro ?_ ?_; focus (clear hK'; intros; simp_all; done)))
       (try (refine hK' _ _ ?_; clear hK'; clear K')))
    | (with_reducible refine swp_cond ?_ ?_
       · rfl
       refine ⟨_, rfl, fun h => ?_, fun h => ?_⟩
       <;> (try (exfalso; exact absurd h (by decide)))))
  refine stop_call h0 rfl (by simp only [LM, vcOps, stepO, val, vals, lk, put, putO, opn, opns, ok1, oks, okp, pickV, nbeq, nble, Nat.reduceBEq, Nat.reduceLeDiff, Int.reduceLE, Int.reduceLT, Int.reduceToNat, ofV, leafS, scs, SV.sc, SV.cells, nx, loadC, Nat.reduceAdd, Nat.reduceSub, Nat.reduceMul, upd, bin, binS, binB, eqA, aggOf, leavesV, eqV, eqL, un1, cnv, bnd, slO, lenV, lenT, mkF, callO, bltO, lenO, appO, srcO, notI, jkE, jkS, SV.jk, SV.jks, Box.jk, buildO, fillO, bslO, elemsO, SV.toD, SV.toDs, SV.owns, SV.ownss, D.cells, gVal, offE, offS, Int.cast_ofNat_Int, reduceCtorEq, D.fits, dscs]) rfl (by simp only [keepS, LM, vcOps, stepO, val, vals, lk, put, putO, opn, opns, ok1, oks, okp, pickV, nbeq, nble, Nat.reduceBEq, Nat.reduceLeDiff, Int.reduceLE, Int.reduceLT, Int.reduceToNat, ofV, leafS, scs, SV.sc, SV.cells, nx, loadC, Nat.reduceAdd, Nat.reduceSub, Nat.reduceMul, upd, bin, binS, binB, eqA, aggOf, leavesV, eqV, eqL, un1, cnv, bnd, slO, lenV, lenT, mkF, callO, bltO, lenO, appO, srcO, notI, jkE, jkS, SV.jk, SV.jks, Box.jk, buildO, fillO, bslO, elemsO, SV.toD, SV.toDs, SV.owns, SV.ownss, D.cells, gVal, offE, offS, Int.cast_ofNat_Int, reduceCtorEq, D.fits, dscs]) (hN0) ?_
  simp only [LM, vcOps, stepO, val, vals, lk, put, putO, opn, opns, ok1, oks, okp, pickV, nbeq, nble, Nat.reduceBEq, Nat.reduceLeDiff, Int.reduceLE, Int.reduceLT, Int.reduceToNat, ofV, leafS, scs, SV.sc, SV.cells, nx, loadC, Nat.reduceAdd, Nat.reduceSub, Nat.reduceMul, upd, bin, binS, binB, eqA, aggOf, leavesV, eqV, eqL, un1, cnv, bnd, slO, lenV, lenT, mkF, callO, bltO, lenO, appO, srcO, notI, jkE, jkS, SV.jk, SV.jks, Box.jk, buildO, fillO, bslO, elemsO, SV.toD, SV.toDs, SV.owns, SV.ownss, D.cells, gVal, offE, offS, Int.cast_ofNat_Int, reduceCtorEq, D.fits, dscs, XTS, XT2S, inX, dropS, ]
  (repeat (refine And.intro ?_ ?_; focus (clear hK'; intros; simp_all; done)))
  (try (refine hK' _ _ ?_; clear hK'; clear K'))
  repeat' (first
    | (with_reducible first
       | refine swp_seq ?_ | refine swp_block ?_ | refine swp_skip ?_ | refine swp_ret ?_ | refine swp_exit ?_ | refine swp_label ?_
       | refine kseq_n ?_ | refine kseq_x ?_ | refine kseq_r ?_ | refine kblk_n ?_ | refine kblk_r ?_ | refine kblk_xs ?_ | refine kloop_x ?_ | refine kloop_r ?_)
    | (with_reducible refine kblk_xn ?_ ?_
       · rfl)
    | (with_reducible refine swp_regionP ?_ ?_ (fun K' hK' => ?_)
       · rfl
       · rfl
       simp only [LM, vcOps, stepO, val, vals, lk, put, putO, opn, opns, ok1, oks, okp, pickV, nbeq, nble, Nat.reduceBEq, Nat.reduceLeDiff, Int.reduceLE, Int.reduceLT, Int.reduceToNat, ofV, leafS, scs, SV.sc, SV.cells, nx, loadC, Nat.reduceAdd, Nat.reduceSub, Nat.reduceMul, upd, bin, binS, binB, eqA, aggOf, leavesV, eqV, eqL, un1, cnv, bnd, slO, lenV, lenT, mkF, callO, bltO, lenO, appO, srcO, notI, jkE, jkS, SV.jk, SV.jks, Box.jk, buildO, fillO, bslO, elemsO, SV.toD, SV.toDs, SV.owns, SV.ownss, D.cells, gVal, offE, offS, Int.cast_ofNat_Int, reduceCtorEq, D.fits, dscs, XTS, XT2S, one_max]
       (repeat (refine And.intro ?_ ?_; focus (clear hK'; intros; simp_all; done)))
       (try (refine hK' _ _ ?_; clear hK'; clear K')))
    | (with_reducible refine swp_cond ?_ ?_
       · rfl
       refine ⟨_, rfl, fun h => ?_, fun h => ?_⟩
       <;> (try (exfalso; exact absurd h (by decide)))))
  (with_reducible refine swp_region ?_ (fun K' hK' => ?_)
   · rfl
   simp only [LM, vcOps, stepO, val, vals, lk, put, putO, opn, opns, ok1, oks, okp, pickV, nbeq, nble, Nat.reduceBEq, Nat.reduceLeDiff, Int.reduceLE, Int.reduceLT, Int.reduceToNat, ofV, leafS, scs, SV.sc, SV.cells, nx, loadC, Nat.reduceAdd, Nat.reduceSub, Nat.reduceMul, upd, bin, binS, binB, eqA, aggOf, leavesV, eqV, eqL, un1, cnv, bnd, slO, lenV, lenT, mkF, callO, bltO, lenO, appO, srcO, notI, jkE, jkS, SV.jk, SV.jks, Box.jk, buildO, fillO, bslO, elemsO, SV.toD, SV.toDs, SV.owns, SV.ownss, D.cells, gVal, offE, offS, Int.cast_ofNat_Int, reduceCtorEq, D.fits, dscs, XTS, XT2S, one_max]
   (repeat (refine And.intro ?_ ?_; focus (clear hK'; intros; simp_all; done))))
  refine stop_guard rfl ?_
  refine stop_call h0 rfl (by simp only [LM, vcOps, stepO, val, vals, lk, put, putO, opn, opns, ok1, oks, okp, pickV, nbeq, nble, Nat.reduceBEq, Nat.reduceLeDiff, Int.reduceLE, Int.reduceLT, Int.reduceToNat, ofV, leafS, scs, SV.sc, SV.cells, nx, loadC, Nat.reduceAdd, Nat.reduceSub, Nat.reduceMul, upd, bin, binS, binB, eqA, aggOf, leavesV, eqV, eqL, un1, cnv, bnd, slO, lenV, lenT, mkF, callO, bltO, lenO, appO, srcO, notI, jkE, jkS, SV.jk, SV.jks, Box.jk, buildO, fillO, bslO, elemsO, SV.toD, SV.toDs, SV.owns, SV.ownss, D.cells, gVal, offE, offS, Int.cast_ofNat_Int, reduceCtorEq, D.fits, dscs] <;> decide) rfl (by simp only [keepS, LM, vcOps, stepO, val, vals, lk, put, putO, opn, opns, ok1, oks, okp, pickV, nbeq, nble, Nat.reduceBEq, Nat.reduceLeDiff, Int.reduceLE, Int.reduceLT, Int.reduceToNat, ofV, leafS, scs, SV.sc, SV.cells, nx, loadC, Nat.reduceAdd, Nat.reduceSub, Nat.reduceMul, upd, bin, binS, binB, eqA, aggOf, leavesV, eqV, eqL, un1, cnv, bnd, slO, lenV, lenT, mkF, callO, bltO, lenO, appO, srcO, notI, jkE, jkS, SV.jk, SV.jks, Box.jk, buildO, fillO, bslO, elemsO, SV.toD, SV.toDs, SV.owns, SV.ownss, D.cells, gVal, offE, offS, Int.cast_ofNat_Int, reduceCtorEq, D.fits, dscs]) (hS0) ?_
  simp only [LM, vcOps, stepO, val, vals, lk, put, putO, opn, opns, ok1, oks, okp, pickV, nbeq, nble, Nat.reduceBEq, Nat.reduceLeDiff, Int.reduceLE, Int.reduceLT, Int.reduceToNat, ofV, leafS, scs, SV.sc, SV.cells, nx, loadC, Nat.reduceAdd, Nat.reduceSub, Nat.reduceMul, upd, bin, binS, binB, eqA, aggOf, leavesV, eqV, eqL, un1, cnv, bnd, slO, lenV, lenT, mkF, callO, bltO, lenO, appO, srcO, notI, jkE, jkS, SV.jk, SV.jks, Box.jk, buildO, fillO, bslO, elemsO, SV.toD, SV.toDs, SV.owns, SV.ownss, D.cells, gVal, offE, offS, Int.cast_ofNat_Int, reduceCtorEq, D.fits, dscs, XTS, XT2S, inX, dropS, ]
  (repeat (refine And.intro ?_ ?_; focus (clear hK'; intros; simp_all; done)))
  (try (refine hK' _ _ ?_; clear hK'; clear K'))
  repeat' (first
    | (with_reducible first
       | refine swp_seq ?_ | refine swp_block ?_ | refine swp_skip ?_ | refine swp_ret ?_ | refine swp_exit ?_ | refine swp_label ?_
       | refine kseq_n ?_ | refine kseq_x ?_ | refine kseq_r ?_ | refine kblk_n ?_ | refine kblk_r ?_ | refine kblk_xs ?_ | refine kloop_x ?_ | refine kloop_r ?_)
    | (with_reducible refine kblk_xn ?_ ?_
       · rfl)
    | (with_reducible refine swp_regionP ?_ ?_ (fun K' hK' => ?_)
       · rfl
       · rfl
       simp only [LM, vcOps, stepO, val, vals, lk, put, putO, opn, opns, ok1, oks, okp, pickV, nbeq, nble, Nat.reduceBEq, Nat.reduceLeDiff, Int.reduceLE, Int.reduceLT, Int.reduceToNat, ofV, leafS, scs, SV.sc, SV.cells, nx, loadC, Nat.reduceAdd, Nat.reduceSub, Nat.reduceMul, upd, bin, binS, binB, eqA, aggOf, leavesV, eqV, eqL, un1, cnv, bnd, slO, lenV, lenT, mkF, callO, bltO, lenO, appO, srcO, notI, jkE, jkS, SV.jk, SV.jks, Box.jk, buildO, fillO, bslO, elemsO, SV.toD, SV.toDs, SV.owns, SV.ownss, D.cells, gVal, offE, offS, Int.cast_ofNat_Int, reduceCtorEq, D.fits, dscs, XTS, XT2S]
       (repeat (refine And.intro ?_ ?_; focus (clear hK'; intros; simp_all; done)))
       (try (refine hK' _ _ ?_; clear hK'; clear K')))
    | (with_reducible refine swp_cond ?_ ?_
       · rfl
       refine ⟨_, rfl, fun h => ?_, fun h => ?_⟩
       <;> (try (exfalso; exact absurd h (by decide)))))
  refine stop_call h0 rfl (by simp only [LM, vcOps, stepO, val, vals, lk, put, putO, opn, opns, ok1, oks, okp, pickV, nbeq, nble, Nat.reduceBEq, Nat.reduceLeDiff, Int.reduceLE, Int.reduceLT, Int.reduceToNat, ofV, leafS, scs, SV.sc, SV.cells, nx, loadC, Nat.reduceAdd, Nat.reduceSub, Nat.reduceMul, upd, bin, binS, binB, eqA, aggOf, leavesV, eqV, eqL, un1, cnv, bnd, slO, lenV, lenT, mkF, callO, bltO, lenO, appO, srcO, notI, jkE, jkS, SV.jk, SV.jks, Box.jk, buildO, fillO, bslO, elemsO, SV.toD, SV.toDs, SV.owns, SV.ownss, D.cells, gVal, offE, offS, Int.cast_ofNat_Int, reduceCtorEq, D.fits, dscs]) rfl (by simp only [keepS, LM, vcOps, stepO, val, vals, lk, put, putO, opn, opns, ok1, oks, okp, pickV, nbeq, nble, Nat.reduceBEq, Nat.reduceLeDiff, Int.reduceLE, Int.reduceLT, Int.reduceToNat, ofV, leafS, scs, SV.sc, SV.cells, nx, loadC, Nat.reduceAdd, Nat.reduceSub, Nat.reduceMul, upd, bin, binS, binB, eqA, aggOf, leavesV, eqV, eqL, un1, cnv, bnd, slO, lenV, lenT, mkF, callO, bltO, lenO, appO, srcO, notI, jkE, jkS, SV.jk, SV.jks, Box.jk, buildO, fillO, bslO, elemsO, SV.toD, SV.toDs, SV.owns, SV.ownss, D.cells, gVal, offE, offS, Int.cast_ofNat_Int, reduceCtorEq, D.fits, dscs]) (hN) ?_
  simp only [LM, vcOps, stepO, val, vals, lk, put, putO, opn, opns, ok1, oks, okp, pickV, nbeq, nble, Nat.reduceBEq, Nat.reduceLeDiff, Int.reduceLE, Int.reduceLT, Int.reduceToNat, ofV, leafS, scs, SV.sc, SV.cells, nx, loadC, Nat.reduceAdd, Nat.reduceSub, Nat.reduceMul, upd, bin, binS, binB, eqA, aggOf, leavesV, eqV, eqL, un1, cnv, bnd, slO, lenV, lenT, mkF, callO, bltO, lenO, appO, srcO, notI, jkE, jkS, SV.jk, SV.jks, Box.jk, buildO, fillO, bslO, elemsO, SV.toD, SV.toDs, SV.owns, SV.ownss, D.cells, gVal, offE, offS, Int.cast_ofNat_Int, reduceCtorEq, D.fits, dscs, XTS, XT2S, inX, dropS, ]
  (repeat (refine And.intro ?_ ?_; focus (clear hK'; intros; simp_all; done)))
  (try (refine hK' _ _ ?_; clear hK'; clear K'))
  repeat' (first
    | (with_reducible first
       | refine swp_seq ?_ | refine swp_block ?_ | refine swp_skip ?_ | refine swp_ret ?_ | refine swp_exit ?_ | refine swp_label ?_
       | refine kseq_n ?_ | refine kseq_x ?_ | refine kseq_r ?_ | refine kblk_n ?_ | refine kblk_r ?_ | refine kblk_xs ?_ | refine kloop_x ?_ | refine kloop_r ?_)
    | (with_reducible refine kblk_xn ?_ ?_
       · rfl)
    | (with_reducible refine swp_regionP ?_ ?_ (fun K' hK' => ?_)
       · rfl
       · rfl
       simp only [LM, vcOps, stepO, val, vals, lk, put, putO, opn, opns, ok1, oks, okp, pickV, nbeq, nble, Nat.reduceBEq, Nat.reduceLeDiff, Int.reduceLE, Int.reduceLT, Int.reduceToNat, ofV, leafS, scs, SV.sc, SV.cells, nx, loadC, Nat.reduceAdd, Nat.reduceSub, Nat.reduceMul, upd, bin, binS, binB, eqA, aggOf, leavesV, eqV, eqL, un1, cnv, bnd, slO, lenV, lenT, mkF, callO, bltO, lenO, appO, srcO, notI, jkE, jkS, SV.jk, SV.jks, Box.jk, buildO, fillO, bslO, elemsO, SV.toD, SV.toDs, SV.owns, SV.ownss, D.cells, gVal, offE, offS, Int.cast_ofNat_Int, reduceCtorEq, D.fits, dscs, XTS, XT2S]
       (repeat (refine And.intro ?_ ?_; focus (clear hK'; intros; simp_all; done)))
       (try (refine hK' _ _ ?_; clear hK'; clear K')))
    | (with_reducible refine swp_cond ?_ ?_
       · rfl
       refine ⟨_, rfl, fun h => ?_, fun h => ?_⟩
       <;> (try (exfalso; exact absurd h (by decide)))))
  · simp only [Kret, retL, retOne, oneV, LM, vcOps, stepO, val, vals, lk, put, putO, opn, opns, ok1, oks, okp, pickV, nbeq, nble, Nat.reduceBEq, Nat.reduceLeDiff, Int.reduceLE, Int.reduceLT, Int.reduceToNat, ofV, leafS, scs, SV.sc, SV.cells, nx, loadC, Nat.reduceAdd, Nat.reduceSub, Nat.reduceMul, upd, bin, binS, binB, eqA, aggOf, leavesV, eqV, eqL, un1, cnv, bnd, slO, lenV, lenT, mkF, callO, bltO, lenO, appO, srcO, notI, jkE, jkS, SV.jk, SV.jks, Box.jk, buildO, fillO, bslO, elemsO, SV.toD, SV.toDs, SV.owns, SV.ownss, D.cells, gVal, offE, offS, Int.cast_ofNat_Int, reduceCtorEq, D.fits, dscs, XTS, XT2S, List.length_map]
    have := hn0 (by simpa using h)
    simp [this]
  have hCX : CX = 0 := by simpa using h
  have hlaw := hlaw hCX
  clear hn0
  have hnat : ((env.length : Int) + (other.length : Int)) = ((env.length + other.length : Nat) : Int) := by omega
  refine stop_mid [(1, .d (envD env)), (2, .d (envD other)), (3, .ref 0 0), (9, .d (.slc (NX.map sD))), (52, .own 1), (53, .d (iD ((env.length + other.length : Nat) : Int))), (54, .d (iD 0))]
    [(0, .cells [.d (iD k), .d (sD nm), .d (iD t), .d (iD n), .d (sD s), .d (.slc (Ex.ds l))]), (1, .row 4 ((env ++ other).map bDf))] hK' ?_ ?_
  · clear hK'
    have hfit : ∀ d ∈ other.map bDf, D.fits 4 d := by
      intro d hd
      obtain ⟨y, -, rfl⟩ := List.mem_map.1 hd
      exact ⟨rfl, trivial⟩
    rw [List.map_append]
    cases other with
    | nil =>
      refine stop_callS rfl (by simp only [LM, vcOps, stepO, val, vals, lk, put, putO, opn, opns, ok1, oks, okp, pickV, nbeq, nble, Nat.reduceBEq, Nat.reduceLeDiff, Int.reduceLE, Int.reduceLT, Int.reduceToNat, ofV, leafS, scs, SV.sc, SV.cells, nx, loadC, Nat.reduceAdd, Nat.reduceSub, Nat.reduceMul, upd, bin, binS, binB, eqA, aggOf, leavesV, eqV, eqL, un1, cnv, bnd, slO, lenV, lenT, mkF, callO, bltO, lenO, appO, srcO, notI, jkE, jkS, SV.jk, SV.jks, Box.jk, buildO, fillO, bslO, elemsO, SV.toD, SV.toDs, SV.owns, SV.ownss, D.cells, gVal, offE, offS, Int.cast_ofNat_Int, reduceCtorEq, D.fits, dscs]) (by simp only [argF, argOne, hin, hins, LM, vcOps, stepO, val, vals, lk, put, putO, opn, opns, ok1, oks, okp, pickV, nbeq, nble, Nat.reduceBEq, Nat.reduceLeDiff, Int.reduceLE, Int.reduceLT, Int.reduceToNat, ofV, leafS, scs, SV.sc, SV.cells, nx, loadC, Nat.reduceAdd, Nat.reduceSub, Nat.reduceMul, upd, bin, binS, binB, eqA, aggOf, leavesV, eqV, eqL, un1, cnv, bnd, slO, lenV, lenT, mkF, callO, bltO, lenO, appO, srcO, notI, jkE, jkS, SV.jk, SV.jks, Box.jk, buildO, fillO, bslO, elemsO, SV.toD, SV.toDs, SV.owns, SV.ownss, D.cells, gVal, offE, offS, Int.cast_ofNat_Int, reduceCtorEq, D.fits, dscs, Option.isSome_some]) (by simp only [subC, LM, vcOps, stepO, val, vals, lk, put, putO, opn, opns, ok1, oks, okp, pickV, nbeq, nble, Nat.reduceBEq, Nat.reduceLeDiff, Int.reduceLE, Int.reduceLT, Int.reduceToNat, ofV, leafS, scs, SV.sc, SV.cells, nx, loadC, Nat.reduceAdd, Nat.reduceSub, Nat.reduceMul, upd, bin, binS, binB, eqA, aggOf, leavesV, eqV, eqL, un1, cnv, bnd, slO, lenV, lenT, mkF, callO, bltO, lenO, appO, srcO, notI, jkE, jkS, SV.jk, SV.jks, Box.jk, buildO, fillO, bslO, elemsO, SV.toD, SV.toDs, SV.owns, SV.ownss, D.cells, gVal, offE, offS, Int.cast_ofNat_Int, reduceCtorEq, D.fits, dscs]) (by simp only [hinB, hin, hins, LM, vcOps, stepO, val, vals, lk, put, putO, opn, opns, ok1, oks, okp, pickV, nbeq, nble, Nat.reduceBEq, Nat.reduceLeDiff, Int.reduceLE, Int.reduceLT, Int.reduceToNat, ofV, leafS, scs, SV.sc, SV.cells, nx, loadC, Nat.reduceAdd, Nat.reduceSub, Nat.reduceMul, upd, bin, binS, binB, eqA, aggOf, leavesV, eqV, eqL, un1, cnv, bnd, slO, lenV, lenT, mkF, callO, bltO, lenO, appO, srcO, notI, jkE, jkS, SV.jk, SV.jks, Box.jk, buildO, fillO, bslO, elemsO, SV.toD, SV.toDs, SV.owns, SV.ownss, D.cells, gVal, offE, offS, Int.cast_ofNat_Int, reduceCtorEq, D.fits, dscs, Option.isSome_some]) (by simp only [sameD, newS, lk, nbeq, Nat.reduceBEq, cond_false, cond_true, Option.isNone_none, and_self, true_and, and_true]) (hK1 ) ?_
      simp only [LM, vcOps, stepO, val, vals, lk, put, putO, opn, opns, ok1, oks, okp, pickV, nbeq, nble, Nat.reduceBEq, Nat.reduceLeDiff, Int.reduceLE, Int.reduceLT, Int.reduceToNat, ofV, leafS, scs, SV.sc, SV.cells, nx, loadC, Nat.reduceAdd, Nat.reduceSub, Nat.reduceMul, upd, bin, binS, binB, eqA, aggOf, leavesV, eqV, eqL, un1, cnv, bnd, slO, lenV, lenT, mkF, callO, bltO, lenO, appO, srcO, notI, jkE, jkS, SV.jk, SV.jks, Box.jk, buildO, fillO, bslO, elemsO, SV.toD, SV.toDs, SV.owns, SV.ownss, D.cells, gVal, offE, offS, Int.cast_ofNat_Int, reduceCtorEq, D.fits, dscs, XTS, XT2S, mrg, rowsOf, inX, jkS,  List.length_map]
      (try (refine hK' _ _ ?_; clear hK'; clear K'))
      refine ⟨fun d hd => (by cases hd), ?_⟩
      refine sub_of h0 ?_ ?_ ?_ <;> simp only [keepS, subS, subE, BoxW, FZs, FZ, offl, LM, vcOps, stepO, val, vals, lk, put, putO, opn, opns, ok1, oks, okp, pickV, nbeq, nble, Nat.reduceBEq, Nat.reduceLeDiff, Int.reduceLE, Int.reduceLT, Int.reduceToNat, ofV, leafS, scs, SV.sc, SV.cells, nx, loadC, Nat.reduceAdd, Nat.reduceSub, Nat.reduceMul, upd, bin, binS, binB, eqA, aggOf, leavesV, eqV, eqL, un1, cnv, bnd, slO, lenV, lenT, mkF, callO, bltO, lenO, appO, srcO, notI, jkE, jkS, SV.jk, SV.jks, Box.jk, buildO, fillO, bslO, elemsO, SV.toD, SV.toDs, SV.owns, SV.ownss, D.cells, gVal, offE, offS, Int.cast_ofNat_Int, reduceCtorEq, D.fits, dscs, XTS, XT2S, Option.isSome_some, List.length_map]
    | cons o os =>
      simp only [List.map_cons] at hfit
      simp only [List.length_cons] at hm1 hm2
      refine stop_callS rfl (by simp only [LM, vcOps, stepO, val, vals, lk, put, putO, opn, opns, ok1, oks, okp, pickV, nbeq, nble, Nat.reduceBEq, Nat.reduceLeDiff, Int.reduceLE, Int.reduceLT, Int.reduceToNat, ofV, leafS, scs, SV.sc, SV.cells, nx, loadC, Nat.reduceAdd, Nat.reduceSub, Nat.reduceMul, upd, bin, binS, binB, eqA, aggOf, leavesV, eqV, eqL, un1, cnv, bnd, slO, lenV, lenT, mkF, callO, bltO, lenO, appO, srcO, notI, jkE, jkS, SV.jk, SV.jks, Box.jk, buildO, fillO, bslO, elemsO, SV.toD, SV.toDs, SV.owns, SV.ownss, D.cells, gVal, offE, offS, Int.cast_ofNat_Int, reduceCtorEq, D.fits, dscs]) (by simp only [argF, argOne, hin, hins, LM, vcOps, stepO, val, vals, lk, put, putO, opn, opns, ok1, oks, okp, pickV, nbeq, nble, Nat.reduceBEq, Nat.reduceLeDiff, Int.reduceLE, Int.reduceLT, Int.reduceToNat, ofV, leafS, scs, SV.sc, SV.cells, nx, loadC, Nat.reduceAdd, Nat.reduceSub, Nat.reduceMul, upd, bin, binS, binB, eqA, aggOf, leavesV, eqV, eqL, un1, cnv, bnd, slO, lenV, lenT, mkF, callO, bltO, lenO, appO, srcO, notI, jkE, jkS, SV.jk, SV.jks, Box.jk, buildO, fillO, bslO, elemsO, SV.toD, SV.toDs, SV.owns, SV.ownss, D.cells, gVal, offE, offS, Int.cast_ofNat_Int, reduceCtorEq, D.fits, dscs, Option.isSome_some]) (by simp only [subC, LM, vcOps, stepO, val, vals, lk, put, putO, opn, opns, ok1, oks, okp, pickV, nbeq, nble, Nat.reduceBEq, Nat.reduceLeDiff, Int.reduceLE, Int.reduceLT, Int.reduceToNat, ofV, leafS, scs, SV.sc, SV.cells, nx, loadC, Nat.reduceAdd, Nat.reduceSub, Nat.reduceMul, upd, bin, binS, binB, eqA, aggOf, leavesV, eqV, eqL, un1, cnv, bnd, slO, lenV, lenT, mkF, callO, bltO, lenO, appO, srcO, notI, jkE, jkS, SV.jk, SV.jks, Box.jk, buildO, fillO, bslO, elemsO, SV.toD, SV.toDs, SV.owns, SV.ownss, D.cells, gVal, offE, offS, Int.cast_ofNat_Int, reduceCtorEq, D.fits, dscs]) (by simp only [hinB, hin, hins, LM, vcOps, stepO, val, vals, lk, put, putO, opn, opns, ok1, oks, okp, pickV, nbeq, nble, Nat.reduceBEq, Nat.reduceLeDiff, Int.reduceLE, Int.reduceLT, Int.reduceToNat, ofV, leafS, scs, SV.sc, SV.cells, nx, loadC, Nat.reduceAdd, Nat.reduceSub, Nat.reduceMul, upd, bin, binS, binB, eqA, aggOf, leavesV, eqV, eqL, un1, cnv, bnd, slO, lenV, lenT, mkF, callO, bltO, lenO, appO, srcO, notI, jkE, jkS, SV.jk, SV.jks, Box.jk, buildO, fillO, bslO, elemsO, SV.toD, SV.toDs, SV.owns, SV.ownss, D.cells, gVal, offE, offS, Int.cast_ofNat_Int, reduceCtorEq, D.fits, dscs, Option.isSome_some]) (by simp only [sameD, newS, lk, nbeq, Nat.reduceBEq, cond_false, cond_true, Option.isNone_none, and_self, true_and, and_true]) (hK1 ) ?_
      simp only [LM, vcOps, stepO, val, vals, lk, put, putO, opn, opns, ok1, oks, okp, pickV, nbeq, nble, Nat.reduceBEq, Nat.reduceLeDiff, Int.reduceLE, Int.reduceLT, Int.reduceToNat, ofV, leafS, scs, SV.sc, SV.cells, nx, loadC, Nat.reduceAdd, Nat.reduceSub, Nat.reduceMul, upd, bin, binS, binB, eqA, aggOf, leavesV, eqV, eqL, un1, cnv, bnd, slO, lenV, lenT, mkF, callO, bltO, lenO, appO, srcO, notI, jkE, jkS, SV.jk, SV.jks, Box.jk, buildO, fillO, bslO, elemsO, SV.toD, SV.toDs, SV.owns, SV.ownss, D.cells, gVal, offE, offS, Int.cast_ofNat_Int, reduceCtorEq, D.fits, dscs, XTS, XT2S, mrg, rowsOf, inX, jkS,  List.length_map, hm1, hm2]
      (try (refine hK' _ _ ?_; clear hK'; clear K'))
      refine ⟨hfit, ?_⟩
      refine sub_of h0 ?_ ?_ ?_ <;> simp only [keepS, subS, subE, BoxW, FZs, FZ, offl, LM, vcOps, stepO, val, vals, lk, put, putO, opn, opns, ok1, oks, okp, pickV, nbeq, nble, Nat.reduceBEq, Nat.reduceLeDiff, Int.reduceLE, Int.reduceLT, Int.reduceToNat, ofV, leafS, scs, SV.sc, SV.cells, nx, loadC, Nat.reduceAdd, Nat.reduceSub, Nat.reduceMul, upd, bin, binS, binB, eqA, aggOf, leavesV, eqV, eqL, un1, cnv, bnd, slO, lenV, lenT, mkF, callO, bltO, lenO, appO, srcO, notI, jkE, jkS, SV.jk, SV.jks, Box.jk, buildO, fillO, bslO, elemsO, SV.toD, SV.toDs, SV.owns, SV.ownss, D.cells, gVal, offE, offS, Int.cast_ofNat_Int, reduceCtorEq, D.fits, dscs, XTS, XT2S, Option.isSome_some, List.length_map, List.length_append]
  clear hK' hN hK1 hm1 hm2
  have hlenA : ((env ++ other).map bDf).length = env.length + other.length := by simp
  repeat' (first
    | (with_reducible first
       | refine swp_seq ?_ | refine swp_block ?_ | refine swp_skip ?_ | refine swp_ret ?_ | refine swp_exit ?_ | refine swp_label ?_
       | refine kseq_n ?_ | refine kseq_x ?_ | refine kseq_r ?_ | refine kblk_n ?_ | refine kblk_r ?_ | refine kblk_xs ?_ | refine kloop_x ?_ | refine kloop_r ?_)
    | (with_reducible refine kblk_xn ?_ ?_
       · rfl)
    | (with_reducible refine swp_regionP ?_ ?_ (fun K' hK' => ?_)
       · rfl
       · rfl
       simp only [LM, vcOps, stepO, val, vals, lk, put, putO, opn, opns, ok1, oks, okp, pickV, nbeq, nble, Nat.reduceBEq, Nat.reduceLeDiff, Int.reduceLE, Int.reduceLT, Int.reduceToNat, ofV, leafS, scs, SV.sc, SV.cells, nx, loadC, Nat.reduceAdd, Nat.reduceSub, Nat.reduceMul, upd, bin, binS, binB, eqA, aggOf, leavesV, eqV, eqL, un1, cnv, bnd, slO, lenV, lenT, mkF, callO, bltO, lenO, appO, srcO, notI, jkE, jkS, SV.jk, SV.jks, Box.jk, buildO, fillO, bslO, elemsO, SV.toD, SV.toDs, SV.owns, SV.ownss, D.cells, gVal, offE, offS, Int.cast_ofNat_Int, reduceCtorEq, D.fits, dscs, XTS, XT2S]
       (repeat (refine And.intro ?_ ?_; focus (clear hK'; intros; simp_all; done)))
       (try (refine hK' _ _ ?_; clear hK'; clear K')))
    | (with_reducible refine swp_cond ?_ ?_
       · rfl
       refine ⟨_, rfl, fun h => ?_, fun h => ?_⟩
       <;> (try (exfalso; exact absurd h (by decide)))))
  refine swp_loop (α := Nat) (fun j => [(1, .d (envD env)), (2, .d (envD other)), (3, .ref 0 0), (9, .d (.slc (NX.map sD))), (52, .own 1), (53, .d (iD ((env.length + other.length : Nat) : Int))), (54, .d (iD j))])
    (fun _ => [(0, .cells [.d (iD k), .d (sD nm), .d (iD t), .d (iD n), .d (sD s), .d (.slc (Ex.ds l))]), (1, .row 4 ((env ++ other).map bDf))])
    (fun j => j ≤ env.length + other.length ∧ ∀ b ∈ (env ++ other).take j, vcheck b.t b.n b.s = 0) (fun j => env.length + other.length - j) 0 ⟨Nat.zero_le _, by simp⟩ (by refine sub_of h0 ?_ ?_ ?_ <;> simp only [keepS, subS, subE, BoxW, FZs, FZ, offl, LM, vcOps, stepO, val, vals, lk, put, putO, opn, opns, ok1, oks, okp, pickV, nbeq, nble, Nat.reduceBEq, Nat.reduceLeDiff, Int.reduceLE, Int.reduceLT, Int.reduceToNat, ofV, leafS, scs, SV.sc, SV.cells, nx, loadC, Nat.reduceAdd, Nat.reduceSub, Nat.reduceMul, upd, bin, binS, binB, eqA, aggOf, leavesV, eqV, eqL, un1, cnv, bnd, slO, lenV, lenT, mkF, callO, bltO, lenO, appO, srcO, notI, jkE, jkS, SV.jk, SV.jks, Box.jk, buildO, fillO, bslO, elemsO, SV.toD, SV.toDs, SV.owns, SV.ownss, D.cells, gVal, offE, offS, Int.cast_ofNat_Int, reduceCtorEq, D.fits, dscs, XTS, XT2S, Option.isSome_some]) (fun j hj => ?_)
  obtain ⟨hj, hgd⟩ := hj
  have hb0 : (0 : Int) ≤ (j : Int) := by omega
  by_cases hlt : j < env.length + other.length
  · obtain ⟨b, hx⟩ : ∃ b, (env ++ other)[j]? = some b := ⟨(env ++ other)[j]'(by simpa using hlt), by simp [hlt]⟩
    have hget : ((env ++ other).map bDf).getD j default = bDf b := by simp only [List.getD, List.getElem?_map, hx]; rfl
    have hb1 : (j : Int) < ((env.length + other.length : Nat) : Int) := by omega
    have hw3 : IntKind.i64.wrap ((j : Int) + 1) = ((j + 1 : Nat) : Int) := by rw [wrap_in (by omega) (by omega)]; omega
    have hv := refval ⟨b.t, b.n, b.s⟩
    simp only at hv
    repeat' (first
      | (with_reducible first
         | refine swp_seq ?_ | refine swp_block ?_ | refine swp_skip ?_ | refine swp_ret ?_ | refine swp_exit ?_ | refine swp_label ?_
         | refine kseq_n ?_ | refine kseq_x ?_ | refine kseq_r ?_ | refine kblk_n ?_ | refine kblk_r ?_ | refine kblk_xs ?_ | refine kloop_x ?_ | refine kloop_r ?_)
      | (with_reducible refine kblk_xn ?_ ?_
         · rfl)
      | (with_reducible refine swp_regionP ?_ ?_ (fun K' hK' => ?_)
         · rfl
         · rfl
         simp only [LM, vcOps, stepO, val, vals, lk, put, putO, opn, opns, ok1, oks, okp, pickV, nbeq, nble, Nat.reduceBEq, Nat.reduceLeDiff, Int.reduceLE, Int.reduceLT, Int.reduceToNat, ofV, leafS, scs, SV.sc, SV.cells, nx, loadC, Nat.reduceAdd, Nat.reduceSub, Nat.reduceMul, upd, bin, binS, binB, eqA, aggOf, leavesV, eqV, eqL, un1, cnv, bnd, slO, lenV, lenT, mkF, callO, bltO, lenO, appO, srcO, notI, jkE, jkS, SV.jk, SV.jks, Box.jk, buildO, fillO, bslO, elemsO, SV.toD, SV.toDs, SV.owns, SV.ownss, D.cells, gVal, offE, offS, Int.cast_ofNat_Int, reduceCtorEq, D.fits, dscs, XTS, XT2S, Int.toNat_natCast, hget, hlenA, hb0, hb1]
         (repeat (refine And.intro ?_ ?_; focus (clear hK'; intros; simp_all; done)))
         (try (refine hK' _ _ ?_; clear hK'; clear K')))
      | (with_reducible refine swp_cond ?_ ?_
         · rfl
         refine ⟨_, rfl, fun h => ?_, fun h => ?_⟩
         <;> (try (exfalso; exact absurd h (by decide)))))
    refine stop_callF rfl (by simp only [LM, vcOps, stepO, val, vals, lk, put, putO, opn, opns, ok1, oks, okp, pickV, nbeq, nble, Nat.reduceBEq, Nat.reduceLeDiff, Int.reduceLE, Int.reduceLT, Int.reduceToNat, ofV, leafS, scs, SV.sc, SV.cells, nx, loadC, Nat.reduceAdd, Nat.reduceSub, Nat.reduceMul, upd, bin, binS, binB, eqA, aggOf, leavesV, eqV, eqL, un1, cnv, bnd, slO, lenV, lenT, mkF, callO, bltO, lenO, appO, srcO, notI, jkE, jkS, SV.jk, SV.jks, Box.jk, buildO, fillO, bslO, elemsO, SV.toD, SV.toDs, SV.owns, SV.ownss, D.cells, gVal, offE, offS, Int.cast_ofNat_Int, reduceCtorEq, D.fits, dscs]) rfl rfl (hv) ?_
    simp only [LM, vcOps, stepO, val, vals, lk, put, putO, opn, opns, ok1, oks, okp, pickV, nbeq, nble, Nat.reduceBEq, Nat.reduceLeDiff, Int.reduceLE, Int.reduceLT, Int.reduceToNat, ofV, leafS, scs, SV.sc, SV.cells, nx, loadC, Nat.reduceAdd, Nat.reduceSub, Nat.reduceMul, upd, bin, binS, binB, eqA, aggOf, leavesV, eqV, eqL, un1, cnv, bnd, slO, lenV, lenT, mkF, callO, bltO, lenO, appO, srcO, notI, jkE, jkS, SV.jk, SV.jks, Box.jk, buildO, fillO, bslO, elemsO, SV.toD, SV.toDs, SV.owns, SV.ownss, D.cells, gVal, offE, offS, Int.cast_ofNat_Int, reduceCtorEq, D.fits, dscs, XTS, XT2S, inX, dropS, ]
    (repeat (refine And.intro ?_ ?_; focus (clear hK'; intros; simp_all; done)))
    (try (refine hK' _ _ ?_; clear hK'; clear K'))
    repeat' (first
      | (with_reducible first
         | refine swp_seq ?_ | refine swp_block ?_ | refine swp_skip ?_ | refine swp_ret ?_ | refine swp_exit ?_ | refine swp_label ?_
         | refine kseq_n ?_ | refine kseq_x ?_ | refine kseq_r ?_ | refine kblk_n ?_ | refine kblk_r ?_ | refine kblk_xs ?_ | refine kloop_x ?_ | refine kloop_r ?_)
      | (with_reducible refine kblk_xn ?_ ?_
         · rfl)
      | (with_reducible refine swp_regionP ?_ ?_ (fun K' hK' => ?_)
         · rfl
         · rfl
         simp only [LM, vcOps, stepO, val, vals, lk, put, putO, opn, opns, ok1, oks, okp, pickV, nbeq, nble, Nat.reduceBEq, Nat.reduceLeDiff, Int.reduceLE, Int.reduceLT, Int.reduceToNat, ofV, leafS, scs, SV.sc, SV.cells, nx, loadC, Nat.reduceAdd, Nat.reduceSub, Nat.reduceMul, upd, bin, binS, binB, eqA, aggOf, leavesV, eqV, eqL, un1, cnv, bnd, slO, lenV, lenT, mkF, callO, bltO, lenO, appO, srcO, notI, jkE, jkS, SV.jk, SV.jks, Box.jk, buildO, fillO, bslO, elemsO, SV.toD, SV.toDs, SV.owns, SV.ownss, D.cells, gVal, offE, offS, Int.cast_ofNat_Int, reduceCtorEq, D.fits, dscs, XTS, XT2S, hw3]
         (repeat (refine And.intro ?_ ?_; focus (clear hK'; intros; simp_all; done)))
         (try (refine hK' _ _ ?_; clear hK'; clear K')))
      | (with_reducible refine swp_cond ?_ ?_
         · rfl
         refine ⟨_, rfl, fun h => ?_, fun h => ?_⟩
         <;> (try (exfalso; exact absurd h (by decide)))))
    · simp only [Kret, retL, retOne, oneV, LM, vcOps, stepO, val, vals, lk, put, putO, opn, opns, ok1, oks, okp, pickV, nbeq, nble, Nat.reduceBEq, Nat.reduceLeDiff, Int.reduceLE, Int.reduceLT, Int.reduceToNat, ofV, leafS, scs, SV.sc, SV.cells, nx, loadC, Nat.reduceAdd, Nat.reduceSub, Nat.reduceMul, upd, bin, binS, binB, eqA, aggOf, leavesV, eqV, eqL, un1, cnv, bnd, slO, lenV, lenT, mkF, callO, bltO, lenO, appO, srcO, notI, jkE, jkS, SV.jk, SV.jks, Box.jk, buildO, fillO, bslO, elemsO, SV.toD, SV.toDs, SV.owns, SV.ownss, D.cells, gVal, offE, offS, Int.cast_ofNat_Int, reduceCtorEq, D.fits, dscs, XTS, XT2S]
    · have h : vcheck b.t b.n b.s = 0 := by simpa using h
      refine ⟨j + 1, ⟨(by show j + 1 ≤ env.length + other.length; omega), fun c hc => ?_⟩, (by show env.length + other.length - (j + 1) < env.length + other.length - j; omega), by refine sub_of h0 ?_ ?_ ?_ <;> simp only [keepS, subS, subE, BoxW, FZs, FZ, offl, LM, vcOps, stepO, val, vals, lk, put, putO, opn, opns, ok1, oks, okp, pickV, nbeq, nble, Nat.reduceBEq, Nat.reduceLeDiff, Int.reduceLE, Int.reduceLT, Int.reduceToNat, ofV, leafS, scs, SV.sc, SV.cells, nx, loadC, Nat.reduceAdd, Nat.reduceSub, Nat.reduceMul, upd, bin, binS, binB, eqA, aggOf, leavesV, eqV, eqL, un1, cnv, bnd, slO, lenV, lenT, mkF, callO, bltO, lenO, appO, srcO, notI, jkE, jkS, SV.jk, SV.jks, Box.jk, buildO, fillO, bslO, elemsO, SV.toD, SV.toDs, SV.owns, SV.ownss, D.cells, gVal, offE, offS, Int.cast_ofNat_Int, reduceCtorEq, D.fits, dscs, XTS, XT2S, Option.isSome_some]⟩
      rw [List.take_add_one, hx] at hc
      rcases List.mem_append.1 hc with hc | hc
      · exact hgd c hc
      · obtain rfl : c = b := by simpa using hc
        exact h
  have hb1 : ¬ (j : Int) < ((env.length + other.length : Nat) : Int) := by omega
  rw [List.take_of_length_le (by rw [List.length_append]; omega)] at hgd
  have hlaw := hlaw hgd
  repeat' (first
    | (with_reducible first
       | refine swp_seq ?_ | refine swp_block ?_ | refine swp_skip ?_ | refine swp_ret ?_ | refine swp_exit ?_ | refine swp_label ?_
       | refine kseq_n ?_ | refine kseq_x ?_ | refine kseq_r ?_ | refine kblk_n ?_ | refine kblk_r ?_ | refine kblk_xs ?_ | refine kloop_x ?_ | refine kloop_r ?_)
    | (with_reducible refine kblk_xn ?_ ?_
       · rfl)
    | (with_reducible refine swp_regionP ?_ ?_ (fun K' hK' => ?_)
       · rfl
       · rfl
       simp only [LM, vcOps, stepO, val, vals, lk, put, putO, opn, opns, ok1, oks, okp, pickV, nbeq, nble, Nat.reduceBEq, Nat.reduceLeDiff, Int.reduceLE, Int.reduceLT, Int.reduceToNat, ofV, leafS, scs, SV.sc, SV.cells, nx, loadC, Nat.reduceAdd, Nat.reduceSub, Nat.reduceMul, upd, bin, binS, binB, eqA, aggOf, leavesV, eqV, eqL, un1, cnv, bnd, slO, lenV, lenT, mkF, callO, bltO, lenO, appO, srcO, notI, jkE, jkS, SV.jk, SV.jks, Box.jk, buildO, fillO, bslO, elemsO, SV.toD, SV.toDs, SV.owns, SV.ownss, D.cells, gVal, offE, offS, Int.cast_ofNat_Int, reduceCtorEq, D.fits, dscs, XTS, XT2S, hb1]
       (repeat (refine And.intro ?_ ?_; focus (clear hK'; intros; simp_all; done)))
       (try (refine hK' _ _ ?_; clear hK'; clear K')))
    | (with_reducible refine swp_cond ?_ ?_
       · rfl
       refine ⟨_, rfl, fun h => ?_, fun h => ?_⟩
       <;> (try (exfalso; exact absurd h (by decide)))))
  clear hb1 hgd hlt hj hb0 hlenA
  refine stop_callS rfl (by simp only [LM, vcOps, stepO, val, vals, lk, put, putO, opn, opns, ok1, oks, okp, pickV, nbeq, nble, Nat.reduceBEq, Nat.reduceLeDiff, Int.reduceLE, Int.reduceLT, Int.reduceToNat, ofV, leafS, scs, SV.sc, SV.cells, nx, loadC, Nat.reduceAdd, Nat.reduceSub, Nat.reduceMul, upd, bin, binS, binB, eqA, aggOf, leavesV, eqV, eqL, un1, cnv, bnd, slO, lenV, lenT, mkF, callO, bltO, lenO, appO, srcO, notI, jkE, jkS, SV.jk, SV.jks, Box.jk, buildO, fillO, bslO, elemsO, SV.toD, SV.toDs, SV.owns, SV.ownss, D.cells, gVal, offE, offS, Int.cast_ofNat_Int, reduceCtorEq, D.fits, dscs]) (by simp only [argF, argOne, hin, hins, LM, vcOps, stepO, val, vals, lk, put, putO, opn, opns, ok1, oks, okp, pickV, nbeq, nble, Nat.reduceBEq, Nat.reduceLeDiff, Int.reduceLE, Int.reduceLT, Int.reduceToNat, ofV, leafS, scs, SV.sc, SV.cells, nx, loadC, Nat.reduceAdd, Nat.reduceSub, Nat.reduceMul, upd, bin, binS, binB, eqA, aggOf, leavesV, eqV, eqL, un1, cnv, bnd, slO, lenV, lenT, mkF, callO, bltO, lenO, appO, srcO, notI, jkE, jkS, SV.jk, SV.jks, Box.jk, buildO, fillO, bslO, elemsO, SV.toD, SV.toDs, SV.owns, SV.ownss, D.cells, gVal, offE, offS, Int.cast_ofNat_Int, reduceCtorEq, D.fits, dscs, Option.isSome_some]) (by simp only [subC, LM, vcOps, stepO, val, vals, lk, put, putO, opn, opns, ok1, oks, okp, pickV, nbeq, nble, Nat.reduceBEq, Nat.reduceLeDiff, Int.reduceLE, Int.reduceLT, Int.reduceToNat, ofV, leafS, scs, SV.sc, SV.cells, nx, loadC, Nat.reduceAdd, Nat.reduceSub, Nat.reduceMul, upd, bin, binS, binB, eqA, aggOf, leavesV, eqV, eqL, un1, cnv, bnd, slO, lenV, lenT, mkF, callO, bltO, lenO, appO, srcO, notI, jkE, jkS, SV.jk, SV.jks, Box.jk, buildO, fillO, bslO, elemsO, SV.toD, SV.toDs, SV.owns, SV.ownss, D.cells, gVal, offE, offS, Int.cast_ofNat_Int, reduceCtorEq, D.fits, dscs]) (by simp only [hinB, hin, hins, LM, vcOps, stepO, val, vals, lk, put, putO, opn, opns, ok1, oks, okp, pickV, nbeq, nble, Nat.reduceBEq, Nat.reduceLeDiff, Int.reduceLE, Int.reduceLT, Int.reduceToNat, ofV, leafS, scs, SV.sc, SV.cells, nx, loadC, Nat.reduceAdd, Nat.reduceSub, Nat.reduceMul, upd, bin, binS, binB, eqA, aggOf, leavesV, eqV, eqL, un1, cnv, bnd, slO, lenV, lenT, mkF, callO, bltO, lenO, appO, srcO, notI, jkE, jkS, SV.jk, SV.jks, Box.jk, buildO, fillO, bslO, elemsO, SV.toD, SV.toDs, SV.owns, SV.ownss, D.cells, gVal, offE, offS, Int.cast_ofNat_Int, reduceCtorEq, D.fits, dscs, Option.isSome_some]) (by simp only [sameD, newS, lk, nbeq, Nat.reduceBEq, cond_false, cond_true, Option.isNone_none, and_self, true_and, and_true]) (hK2 ) ?_
  simp only [LM, vcOps, stepO, val, vals, lk, put, putO, opn, opns, ok1, oks, okp, pickV, nbeq, nble, Nat.reduceBEq, Nat.reduceLeDiff, Int.reduceLE, Int.reduceLT, Int.reduceToNat, ofV, leafS, scs, SV.sc, SV.cells, nx, loadC, Nat.reduceAdd, Nat.reduceSub, Nat.reduceMul, upd, bin, binS, binB, eqA, aggOf, leavesV, eqV, eqL, un1, cnv, bnd, slO, lenV, lenT, mkF, callO, bltO, lenO, appO, srcO, notI, jkE, jkS, SV.jk, SV.jks, Box.jk, buildO, fillO, bslO, elemsO, SV.toD, SV.toDs, SV.owns, SV.ownss, D.cells, gVal, offE, offS, Int.cast_ofNat_Int, reduceCtorEq, D.fits, dscs, XTS, XT2S, mrg, rowsOf, inX, jkS,  List.length_map]
  (try (refine hK' _ _ ?_; clear hK'; clear K'))
  repeat' (first
    | (with_reducible first
       | refine swp_seq ?_ | refine swp_block ?_ | refine swp_skip ?_ | refine swp_ret ?_ | refine swp_exit ?_ | refine swp_label ?_
       | refine kseq_n ?_ | refine kseq_x ?_ | refine kseq_r ?_ | refine kblk_n ?_ | refine kblk_r ?_ | refine kblk_xs ?_ | refine kloop_x ?_ | refine kloop_r ?_)
    | (with_reducible refine kblk_xn ?_ ?_
       · rfl)
    | (with_reducible refine swp_regionP ?_ ?_ (fun K' hK' => ?_)
       · rfl
       · rfl
       simp only [LM, vcOps, stepO, val, vals, lk, put, putO, opn, opns, ok1, oks, okp, pickV, nbeq, nble, Nat.reduceBEq, Nat.reduceLeDiff, Int.reduceLE, Int.reduceLT, Int.reduceToNat, ofV, leafS, scs, SV.sc, SV.cells, nx, loadC, Nat.reduceAdd, Nat.reduceSub, Nat.reduceMul, upd, bin, binS, binB, eqA, aggOf, leavesV, eqV, eqL, un1, cnv, bnd, slO, lenV, lenT, mkF, callO, bltO, lenO, appO, srcO, notI, jkE, jkS, SV.jk, SV.jks, Box.jk, buildO, fillO, bslO, elemsO, SV.toD, SV.toDs, SV.owns, SV.ownss, D.cells, gVal, offE, offS, Int.cast_ofNat_Int, reduceCtorEq, D.fits, dscs, XTS, XT2S, List.length_map]
       (repeat (refine And.intro ?_ ?_; focus (clear hK'; intros; simp_all; done)))
       (try (refine hK' _ _ ?_; clear hK'; clear K')))
    | (with_reducible refine swp_cond ?_ ?_
       · rfl
       refine ⟨_, rfl, fun h => ?_, fun h => ?_⟩
       <;> (try (exfalso; exact absurd h (by decide)))))
  refine swp_nil 14 3 4 rfl rfl (by decide) ?_
  simp only [LM, vcOps, stepO, val, vals, lk, put, putO, opn, opns, ok1, oks, okp, pickV, nbeq, nble, Nat.reduceBEq, Nat.reduceLeDiff, Int.reduceLE, Int.reduceLT, Int.reduceToNat, ofV, leafS, scs, SV.sc, SV.cells, nx, loadC, Nat.reduceAdd, Nat.reduceSub, Nat.reduceMul, upd, bin, binS, binB, eqA, aggOf, leavesV, eqV, eqL, un1, cnv, bnd, slO, lenV, lenT, mkF, callO, bltO, lenO, appO, srcO, notI, jkE, jkS, SV.jk, SV.jks, Box.jk, buildO, fillO, bslO, elemsO, SV.toD, SV.toDs, SV.owns, SV.ownss, D.cells, gVal, offE, offS, Int.cast_ofNat_Int, reduceCtorEq, D.fits, dscs]
  refine swp_loop (α := Nat × List Bd) (fun x => [(1, .d (envD env)), (2, .d (envD other)), (3, .ref 0 0), (9, .d (.slc (NX.map sD))), (13, .own 2), (14, .own 3), (65, .d (envD env)), (66, .d (iD env.length)), (67, .d (iD x.1))])
    (fun x => [(0, .cells [.d (iD k), .d (sD nm), .d (iD t), .d (iD n), .d (sD s), .d (.slc (Ex.ds l))]), (2, .row 4 ((other ++ x.2).map bDf)), (3, .row 4 (x.2.map bDf))])
    (fun x => x.1 ≤ env.length ∧ selB Q env = x.2 ++ selB Q (env.drop x.1) ∧ x.2.length ≤ x.1) (fun x => env.length - x.1) (0, []) ⟨Nat.zero_le _, rfl, Nat.le_refl _⟩ (by simp only [List.append_nil, List.map_nil]; refine sub_of h0 ?_ ?_ ?_ <;> simp only [keepS, subS, subE, BoxW, FZs, FZ, offl, LM, vcOps, stepO, val, vals, lk, put, putO, opn, opns, ok1, oks, okp, pickV, nbeq, nble, Nat.reduceBEq, Nat.reduceLeDiff, Int.reduceLE, Int.reduceLT, Int.reduceToNat, ofV, leafS, scs, SV.sc, SV.cells, nx, loadC, Nat.reduceAdd, Nat.reduceSub, Nat.reduceMul, upd, bin, binS, binB, eqA, aggOf, leavesV, eqV, eqL, un1, cnv, bnd, slO, lenV, lenT, mkF, callO, bltO, lenO, appO, srcO, notI, jkE, jkS, SV.jk, SV.jks, Box.jk, buildO, fillO, bslO, elemsO, SV.toD, SV.toDs, SV.owns, SV.ownss, D.cells, gVal, offE, offS, Int.cast_ofNat_Int, reduceCtorEq, D.fits, dscs, XTS, XT2S, Option.isSome_some, List.length_map, List.map_nil]) (fun x hj => ?_)
  obtain ⟨j, S⟩ := x
  obtain ⟨hj, hsel, hSl⟩ := hj
  simp only at hj hsel hSl
  have hb0 : (0 : Int) ≤ (j : Int) := by omega
  by_cases hlt : j < env.length
  · obtain ⟨b, hx⟩ : ∃ b, env[j]? = some b := ⟨env[j], by simp [hlt]⟩
    have hget : (env.map bDf).getD j default = bDf b := by simp only [List.getD, List.getElem?_map, hx]; rfl
    have hb1 : (j : Int) < (env.length : Int) := by omega
    have hb2 : ((j + 1 : Nat) : Int) ≤ (env.length : Int) := by omega
    have hb3 : (0 : Int) ≤ ((j + 1 : Nat) : Int) := by omega
    have hw3 : IntKind.i64.wrap ((j : Int) + 1) = ((j + 1 : Nat) : Int) := by rw [wrap_in (by omega) (by omega)]; omega
    have hcc : SFn Tryd.prog Γ0 19 [.d (.slc ((env.map bDf).drop (j + 1))), .clo 30 [.ref 4 0]] [(4, .cells [.d (sD b.nm), .d (iD b.t), .d (iD b.n), .d (sD b.s)])] (.d (.v (.bool ((env.drop (j + 1)).any fun c => c.nm.toList == b.nm.toList)))) [(4, .cells [.d (sD b.nm), .d (iD b.t), .d (iD b.n), .d (sD b.s)])] := by
      rw [← List.map_drop]
      exact (containsC_fn b (env.drop (j + 1)) (by rw [List.length_drop]; omega)).up 4
    have hdr := selB_drop Q env j b hx
    have hCb := hC b
    generalize (env.drop (j + 1)).any (fun c => c.nm.toList == b.nm.toList) = AN at hcc hdr
    generalize Q b = QB at hCb hdr
    have hl1 : ((other ++ S).map bDf).length = other.length + S.length := by simp
    have hl2 : (S.map bDf).length = S.length := by simp
    have hm4 : other.length + S.length + 1 ≤ 3000000 := by omega
    have hm6 : S.length + 1 ≤ 3000000 := by omega
    have hm3 := b48 _ hm4
    have hm5 := b48 _ hm6
    have hm4 := Nat.le_trans hm4 maxB
    have hm6 := Nat.le_trans hm6 maxB
    repeat' (first
      | (with_reducible first
         | refine swp_seq ?_ | refine swp_block ?_ | refine swp_skip ?_ | refine swp_ret ?_ | refine swp_exit ?_ | refine swp_label ?_
         | refine kseq_n ?_ | refine kseq_x ?_ | refine kseq_r ?_ | refine kblk_n ?_ | refine kblk_r ?_ | refine kblk_xs ?_ | refine kloop_x ?_ | refine kloop_r ?_)
      | (with_reducible refine kblk_xn ?_ ?_
         · rfl)
      | (with_reducible refine swp_regionP ?_ ?_ (fun K' hK' => ?_)
         · rfl
         · rfl
         simp only [LM, vcOps, stepO, val, vals, lk, put, putO, opn, opns, ok1, oks, okp, pickV, nbeq, nble, Nat.reduceBEq, Nat.reduceLeDiff, Int.reduceLE, Int.reduceLT, Int.reduceToNat, ofV, leafS, scs, SV.sc, SV.cells, nx, loadC, Nat.reduceAdd, Nat.reduceSub, Nat.reduceMul, upd, bin, binS, binB, eqA, aggOf, leavesV, eqV, eqL, un1, cnv, bnd, slO, lenV, lenT, mkF, callO, bltO, lenO, appO, srcO, notI, jkE, jkS, SV.jk, SV.jks, Box.jk, buildO, fillO, bslO, elemsO, SV.toD, SV.toDs, SV.owns, SV.ownss, D.cells, gVal, offE, offS, Int.cast_ofNat_Int, reduceCtorEq, D.fits, dscs, XTS, XT2S, Int.toNat_natCast, hget, List.length_map, hb0, hb1, hw3, hb2, hb3]
         (repeat (refine And.intro ?_ ?_; focus (clear hK'; intros; simp_all; done)))
         (try (refine hK' _ _ ?_; clear hK'; clear K')))
      | (with_reducible refine swp_cond ?_ ?_
         · rfl
         refine ⟨_, rfl, fun h => ?_, fun h => ?_⟩
         <;> (try (exfalso; exact absurd h (by decide)))))
    refine ⟨fun d hd => (by obtain ⟨y, -, rfl⟩ := List.mem_map.1 hd; rfl), ?_⟩
    refine stop_callS rfl (by simp only [LM, vcOps, stepO, val, vals, lk, put, putO, opn, opns, ok1, oks, okp, pickV, nbeq, nble, Nat.reduceBEq, Nat.reduceLeDiff, Int.reduceLE, Int.reduceLT, Int.reduceToNat, ofV, leafS, scs, SV.sc, SV.cells, nx, loadC, Nat.reduceAdd, Nat.reduceSub, Nat.reduceMul, upd, bin, binS, binB, eqA, aggOf, leavesV, eqV, eqL, un1, cnv, bnd, slO, lenV, lenT, mkF, callO, bltO, lenO, appO, srcO, notI, jkE, jkS, SV.jk, SV.jks, Box.jk, buildO, fillO, bslO, elemsO, SV.toD, SV.toDs, SV.owns, SV.ownss, D.cells, gVal, offE, offS, Int.cast_ofNat_Int, reduceCtorEq, D.fits, dscs]) (by simp only [argF, argOne, hin, hins, LM, vcOps, stepO, val, vals, lk, put, putO, opn, opns, ok1, oks, okp, pickV, nbeq, nble, Nat.reduceBEq, Nat.reduceLeDiff, Int.reduceLE, Int.reduceLT, Int.reduceToNat, ofV, leafS, scs, SV.sc, SV.cells, nx, loadC, Nat.reduceAdd, Nat.reduceSub, Nat.reduceMul, upd, bin, binS, binB, eqA, aggOf, leavesV, eqV, eqL, un1, cnv, bnd, slO, lenV, lenT, mkF, callO, bltO, lenO, appO, srcO, notI, jkE, jkS, SV.jk, SV.jks, Box.jk, buildO, fillO, bslO, elemsO, SV.toD, SV.toDs, SV.owns, SV.ownss, D.cells, gVal, offE, offS, Int.cast_ofNat_Int, reduceCtorEq, D.fits, dscs, Option.isSome_some]) (by simp only [subC, LM, vcOps, stepO, val, vals, lk, put, putO, opn, opns, ok1, oks, okp, pickV, nbeq, nble, Nat.reduceBEq, Nat.reduceLeDiff, Int.reduceLE, Int.reduceLT, Int.reduceToNat, ofV, leafS, scs, SV.sc, SV.cells, nx, loadC, Nat.reduceAdd, Nat.reduceSub, Nat.reduceMul, upd, bin, binS, binB, eqA, aggOf, leavesV, eqV, eqL, un1, cnv, bnd, slO, lenV, lenT, mkF, callO, bltO, lenO, appO, srcO, notI, jkE, jkS, SV.jk, SV.jks, Box.jk, buildO, fillO, bslO, elemsO, SV.toD, SV.toDs, SV.owns, SV.ownss, D.cells, gVal, offE, offS, Int.cast_ofNat_Int, reduceCtorEq, D.fits, dscs]) (by simp only [hinB, hin, hins, LM, vcOps, stepO, val, vals, lk, put, putO, opn, opns, ok1, oks, okp, pickV, nbeq, nble, Nat.reduceBEq, Nat.reduceLeDiff, Int.reduceLE, Int.reduceLT, Int.reduceToNat, ofV, leafS, scs, SV.sc, SV.cells, nx, loadC, Nat.reduceAdd, Nat.reduceSub, Nat.reduceMul, upd, bin, binS, binB, eqA, aggOf, leavesV, eqV, eqL, un1, cnv, bnd, slO, lenV, lenT, mkF, callO, bltO, lenO, appO, srcO, notI, jkE, jkS, SV.jk, SV.jks, Box.jk, buildO, fillO, bslO, elemsO, SV.toD, SV.toDs, SV.owns, SV.ownss, D.cells, gVal, offE, offS, Int.cast_ofNat_Int, reduceCtorEq, D.fits, dscs, Option.isSome_some]) (by simp only [sameD, newS, lk, nbeq, Nat.reduceBEq, cond_false, cond_true, Option.isNone_none, and_self, true_and, and_true]) (hcc) ?_
    simp only [LM, vcOps, stepO, val, vals, lk, put, putO, opn, opns, ok1, oks, okp, pickV, nbeq, nble, Nat.reduceBEq, Nat.reduceLeDiff, Int.reduceLE, Int.reduceLT, Int.reduceToNat, ofV, leafS, scs, SV.sc, SV.cells, nx, loadC, Nat.reduceAdd, Nat.reduceSub, Nat.reduceMul, upd, bin, binS, binB, eqA, aggOf, leavesV, eqV, eqL, un1, cnv, bnd, slO, lenV, lenT, mkF, callO, bltO, lenO, appO, srcO, notI, jkE, jkS, SV.jk, SV.jks, Box.jk, buildO, fillO, bslO, elemsO, SV.toD, SV.toDs, SV.owns, SV.ownss, D.cells, gVal, offE, offS, Int.cast_ofNat_Int, reduceCtorEq, D.fits, dscs, XTS, XT2S, mrg, rowsOf, inX, jkS, ]
    (try (refine hK' _ _ ?_; clear hK'; clear K'))
    repeat' (first
      | (with_reducible first
         | refine swp_seq ?_ | refine swp_block ?_ | refine swp_skip ?_ | refine swp_ret ?_ | refine swp_exit ?_ | refine swp_label ?_
         | refine kseq_n ?_ | refine kseq_x ?_ | refine kseq_r ?_ | refine kblk_n ?_ | refine kblk_r ?_ | refine kblk_xs ?_ | refine kloop_x ?_ | refine kloop_r ?_)
      | (with_reducible refine kblk_xn ?_ ?_
         · rfl)
      | (with_reducible refine swp_regionP ?_ ?_ (fun K' hK' => ?_)
         · rfl
         · rfl
         simp only [LM, vcOps, stepO, val, vals, lk, put, putO, opn, opns, ok1, oks, okp, pickV, nbeq, nble, Nat.reduceBEq, Nat.reduceLeDiff, Int.reduceLE, Int.reduceLT, Int.reduceToNat, ofV, leafS, scs, SV.sc, SV.cells, nx, loadC, Nat.reduceAdd, Nat.reduceSub, Nat.reduceMul, upd, bin, binS, binB, eqA, aggOf, leavesV, eqV, eqL, un1, cnv, bnd, slO, lenV, lenT, mkF, callO, bltO, lenO, appO, srcO, notI, jkE, jkS, SV.jk, SV.jks, Box.jk, buildO, fillO, bslO, elemsO, SV.toD, SV.toDs, SV.owns, SV.ownss, D.cells, gVal, offE, offS, Int.cast_ofNat_Int, reduceCtorEq, D.fits, dscs, XTS, XT2S]
         (repeat (refine And.intro ?_ ?_; focus (clear hK'; intros; simp_all; done)))
         (try (refine hK' _ _ ?_; clear hK'; clear K')))
      | (with_reducible refine swp_cond ?_ ?_
         · rfl
         refine ⟨_, rfl, fun h => ?_, fun h => ?_⟩
         <;> (try (exfalso; exact absurd h (by decide)))))
    refine stop_callF rfl (by simp only [LM, vcOps, stepO, val, vals, lk, put, putO, opn, opns, ok1, oks, okp, pickV, nbeq, nble, Nat.reduceBEq, Nat.reduceLeDiff, Int.reduceLE, Int.reduceLT, Int.reduceToNat, ofV, leafS, scs, SV.sc, SV.cells, nx, loadC, Nat.reduceAdd, Nat.reduceSub, Nat.reduceMul, upd, bin, binS, binB, eqA, aggOf, leavesV, eqV, eqL, un1, cnv, bnd, slO, lenV, lenT, mkF, callO, bltO, lenO, appO, srcO, notI, jkE, jkS, SV.jk, SV.jks, Box.jk, buildO, fillO, bslO, elemsO, SV.toD, SV.toDs, SV.owns, SV.ownss, D.cells, gVal, offE, offS, Int.cast_ofNat_Int, reduceCtorEq, D.fits, dscs]) rfl rfl (hCb) ?_
    simp only [LM, vcOps, stepO, val, vals, lk, put, putO, opn, opns, ok1, oks, okp, pickV, nbeq, nble, Nat.reduceBEq, Nat.reduceLeDiff, Int.reduceLE, Int.reduceLT, Int.reduceToNat, ofV, leafS, scs, SV.sc, SV.cells, nx, loadC, Nat.reduceAdd, Nat.reduceSub, Nat.reduceMul, upd, bin, binS, binB, eqA, aggOf, leavesV, eqV, eqL, un1, cnv, bnd, slO, lenV, lenT, mkF, callO, bltO, lenO, appO, srcO, notI, jkE, jkS, SV.jk, SV.jks, Box.jk, buildO, fillO, bslO, elemsO, SV.toD, SV.toDs, SV.owns, SV.ownss, D.cells, gVal, offE, offS, Int.cast_ofNat_Int, reduceCtorEq, D.fits, dscs, XTS, XT2S, inX, dropS, ]
    (repeat (refine And.intro ?_ ?_; focus (clear hK'; intros; simp_all; done)))
    (try (refine hK' _ _ ?_; clear hK'; clear K'))
    repeat' (first
      | (with_reducible first
         | refine swp_seq ?_ | refine swp_block ?_ | refine swp_skip ?_ | refine swp_ret ?_ | refine swp_exit ?_ | refine swp_label ?_
         | refine kseq_n ?_ | refine kseq_x ?_ | refine kseq_r ?_ | refine kblk_n ?_ | refine kblk_r ?_ | refine kblk_xs ?_ | refine kloop_x ?_ | refine kloop_r ?_)
      | (with_reducible refine kblk_xn ?_ ?_
         · rfl)
      | (with_reducible refine swp_regionP ?_ ?_ (fun K' hK' => ?_)
         · rfl
         · rfl
         simp only [LM, vcOps, stepO, val, vals, lk, put, putO, opn, opns, ok1, oks, okp, pickV, nbeq, nble, Nat.reduceBEq, Nat.reduceLeDiff, Int.reduceLE, Int.reduceLT, Int.reduceToNat, ofV, leafS, scs, SV.sc, SV.cells, nx, loadC, Nat.reduceAdd, Nat.reduceSub, Nat.reduceMul, upd, bin, binS, binB, eqA, aggOf, leavesV, eqV, eqL, un1, cnv, bnd, slO, lenV, lenT, mkF, callO, bltO, lenO, appO, srcO, notI, jkE, jkS, SV.jk, SV.jks, Box.jk, buildO, fillO, bslO, elemsO, SV.toD, SV.toDs, SV.owns, SV.ownss, D.cells, gVal, offE, offS, Int.cast_ofNat_Int, reduceCtorEq, D.fits, dscs, XTS, XT2S]
         (repeat (refine And.intro ?_ ?_; focus (clear hK'; intros; simp_all; done)))
         (try (refine hK' _ _ ?_; clear hK'; clear K')))
      | (with_reducible refine swp_cond ?_ ?_
         · rfl
         refine ⟨_, rfl, fun h => ?_, fun h => ?_⟩
         <;> (try (exfalso; exact absurd h (by decide)))))
    · have h : (QB && !AN) = true := by revert h; cases QB <;> cases AN <;> decide
      rw [if_pos h] at hdr
      have hr1 : (other ++ (S ++ [b])).map bDf = (other ++ S).map bDf ++ [bDf b] := by simp
      have hr2 : (S ++ [b]).map bDf = S.map bDf ++ [bDf b] := by simp
      (with_reducible refine swp_drawW ?_ ?_ ?_ (⟨[], []⟩) _ rfl (fun K' hK' => ?_)
       · kernel_rfl
       · rfl
       · rfl
       simp only [LM, vcOps, stepO, val, vals, lk, put, putO, opn, opns, ok1, oks, okp, pickV, nbeq, nble, Nat.reduceBEq, Nat.reduceLeDiff, Int.reduceLE, Int.reduceLT, Int.reduceToNat, ofV, leafS, scs, SV.sc, SV.cells, nx, loadC, Nat.reduceAdd, Nat.reduceSub, Nat.reduceMul, upd, bin, binS, binB, eqA, aggOf, leavesV, eqV, eqL, un1, cnv, bnd, slO, lenV, lenT, mkF, callO, bltO, lenO, appO, srcO, notI, jkE, jkS, SV.jk, SV.jks, Box.jk, buildO, fillO, bslO, elemsO, SV.toD, SV.toDs, SV.owns, SV.ownss, D.cells, gVal, offE, offS, Int.cast_ofNat_Int, reduceCtorEq, D.fits, dscs, XTS, XT2S, vcW, stepW, callR, effO, srcE, Eff.env, Eff.st, writeOp, callA, pureOp, Bool.or_true, Bool.true_or, Bool.or_self, Bool.or_false, Bool.false_or, D.flat, D.flats, true_or, or_true, forall_const, hl1, hl2, hm3, hm4, hm5, hm6]
       (repeat (refine And.intro ?_ ?_; focus (clear hK'; intros; simp_all; done)))
       (refine And.intro (by kernel_rfl) ?_)
       (try (refine hK' _ _ ?_; clear hK'; clear K')))
      repeat' (first
        | (with_reducible first
           | refine swp_seq ?_ | refine swp_block ?_ | refine swp_skip ?_ | refine swp_ret ?_ | refine swp_exit ?_ | refine swp_label ?_
           | refine kseq_n ?_ | refine kseq_x ?_ | refine kseq_r ?_ | refine kblk_n ?_ | refine kblk_r ?_ | refine kblk_xs ?_ | refine kloop_x ?_ | refine kloop_r ?_)
        | (with_reducible refine kblk_xn ?_ ?_
           · rfl)
        | (with_reducible refine swp_regionP ?_ ?_ (fun K' hK' => ?_)
           · rfl
           · rfl
           simp only [LM, vcOps, stepO, val, vals, lk, put, putO, opn, opns, ok1, oks, okp, pickV, nbeq, nble, Nat.reduceBEq, Nat.reduceLeDiff, Int.reduceLE, Int.reduceLT, Int.reduceToNat, ofV, leafS, scs, SV.sc, SV.cells, nx, loadC, Nat.reduceAdd, Nat.reduceSub, Nat.reduceMul, upd, bin, binS, binB, eqA, aggOf, leavesV, eqV, eqL, un1, cnv, bnd, slO, lenV, lenT, mkF, callO, bltO, lenO, appO, srcO, notI, jkE, jkS, SV.jk, SV.jks, Box.jk, buildO, fillO, bslO, elemsO, SV.toD, SV.toDs, SV.owns, SV.ownss, D.cells, gVal, offE, offS, Int.cast_ofNat_Int, reduceCtorEq, D.fits, dscs, XTS, XT2S, hw3]
           (repeat (refine And.intro ?_ ?_; focus (clear hK'; intros; simp_all; done)))
           (try (refine hK' _ _ ?_; clear hK'; clear K')))
        | (with_reducible refine swp_cond ?_ ?_
           · rfl
           refine ⟨_, rfl, fun h => ?_, fun h => ?_⟩
           <;> (try (exfalso; exact absurd h (by decide)))))
      refine ⟨(j + 1, S ++ [b]), ⟨(by show j + 1 ≤ env.length; omega), (by rw [hsel, hdr, List.append_assoc]), (by simp only [List.length_append, List.length_singleton]; omega)⟩, (by show env.length - (j + 1) < env.length - j; omega), by simp only [hr1, hr2]; refine sub_of h0 ?_ ?_ ?_ <;> simp only [keepS, subS, subE, BoxW, FZs, FZ, offl, LM, vcOps, stepO, val, vals, lk, put, putO, opn, opns, ok1, oks, okp, pickV, nbeq, nble, Nat.reduceBEq, Nat.reduceLeDiff, Int.reduceLE, Int.reduceLT, Int.reduceToNat, ofV, leafS, scs, SV.sc, SV.cells, nx, loadC, Nat.reduceAdd, Nat.reduceSub, Nat.reduceMul, upd, bin, binS, binB, eqA, aggOf, leavesV, eqV, eqL, un1, cnv, bnd, slO, lenV, lenT, mkF, callO, bltO, lenO, appO, srcO, notI, jkE, jkS, SV.jk, SV.jks, Box.jk, buildO, fillO, bslO, elemsO, SV.toD, SV.toDs, SV.owns, SV.ownss, D.cells, gVal, offE, offS, Int.cast_ofNat_Int, reduceCtorEq, D.fits, dscs, XTS, XT2S, Option.isSome_some, List.length_map]⟩
    · have h : ¬ (QB && !AN) = true := by revert h; cases QB <;> cases AN <;> decide
      rw [if_neg h, List.nil_append] at hdr
      repeat' (first
        | (with_reducible first
           | refine swp_seq ?_ | refine swp_block ?_ | refine swp_skip ?_ | refine swp_ret ?_ | refine swp_exit ?_ | refine swp_label ?_
           | refine kseq_n ?_ | refine kseq_x ?_ | refine kseq_r ?_ | refine kblk_n ?_ | refine kblk_r ?_ | refine kblk_xs ?_ | refine kloop_x ?_ | refine kloop_r ?_)
        | (with_reducible refine kblk_xn ?_ ?_
           · rfl)
        | (with_reducible refine swp_regionP ?_ ?_ (fun K' hK' => ?_)
           · rfl
           · rfl
           simp only [LM, vcOps, stepO, val, vals, lk, put, putO, opn, opns, ok1, oks, okp, pickV, nbeq, nble, Nat.reduceBEq, Nat.reduceLeDiff, Int.reduceLE, Int.reduceLT, Int.reduceToNat, ofV, leafS, scs, SV.sc, SV.cells, nx, loadC, Nat.reduceAdd, Nat.reduceSub, Nat.reduceMul, upd, bin, binS, binB, eqA, aggOf, leavesV, eqV, eqL, un1, cnv, bnd, slO, lenV, lenT, mkF, callO, bltO, lenO, appO, srcO, notI, jkE, jkS, SV.jk, SV.jks, Box.jk, buildO, fillO, bslO, elemsO, SV.toD, SV.toDs, SV.owns, SV.ownss, D.cells, gVal, offE, offS, Int.cast_ofNat_Int, reduceCtorEq, D.fits, dscs, XTS, XT2S, hw3]
           (repeat (refine And.intro ?_ ?_; focus (clear hK'; intros; simp_all; done)))
           (try (refine hK' _ _ ?_; clear hK'; clear K')))
        | (with_reducible refine swp_cond ?_ ?_
           · rfl
           refine ⟨_, rfl, fun h => ?_, fun h => ?_⟩
           <;> (try (exfalso; exact absurd h (by decide)))))
      refine ⟨(j + 1, S), ⟨(by show j + 1 ≤ env.length; omega), (by rw [hsel, hdr]), (by show S.length ≤ j + 1; omega)⟩, (by show env.length - (j + 1) < env.length - j; omega), by refine sub_of h0 ?_ ?_ ?_ <;> simp only [keepS, subS, subE, BoxW, FZs, FZ, offl, LM, vcOps, stepO, val, vals, lk, put, putO, opn, opns, ok1, oks, okp, pickV, nbeq, nble, Nat.reduceBEq, Nat.reduceLeDiff, Int.reduceLE, Int.reduceLT, Int.reduceToNat, ofV, leafS, scs, SV.sc, SV.cells, nx, loadC, Nat.reduceAdd, Nat.reduceSub, Nat.reduceMul, upd, bin, binS, binB, eqA, aggOf, leavesV, eqV, eqL, un1, cnv, bnd, slO, lenV, lenT, mkF, callO, bltO, lenO, appO, srcO, notI, jkE, jkS, SV.jk, SV.jks, Box.jk, buildO, fillO, bslO, elemsO, SV.toD, SV.toDs, SV.owns, SV.ownss, D.cells, gVal, offE, offS, Int.cast_ofNat_Int, reduceCtorEq, D.fits, dscs, XTS, XT2S, Option.isSome_some, List.length_map, hw3]⟩
  have hb1 : ¬ (j : Int) < (env.length : Int) := by omega
  rw [List.drop_of_length_le (by omega)] at hsel
  have hsel : S = selB Q env := by rw [hsel]; simp [selB]
  subst hsel
  clear hSl hK2 hlt hj
  repeat' (first
    | (with_reducible first
       | refine swp_seq ?_ | refine swp_block ?_ | refine swp_skip ?_ | refine swp_ret ?_ | refine swp_exit ?_ | refine swp_label ?_
       | refine kseq_n ?_ | refine kseq_x ?_ | refine kseq_r ?_ | refine kblk_n ?_ | refine kblk_r ?_ | refine kblk_xs ?_ | refine kloop_x ?_ | refine kloop_r ?_)
    | (with_reducible refine kblk_xn ?_ ?_
       · rfl)
    | (with_reducible refine swp_regionP ?_ ?_ (fun K' hK' => ?_)
       · rfl
       · rfl
       simp only [LM, vcOps, stepO, val, vals, lk, put, putO, opn, opns, ok1, oks, okp, pickV, nbeq, nble, Nat.reduceBEq, Nat.reduceLeDiff, Int.reduceLE, Int.reduceLT, Int.reduceToNat, ofV, leafS, scs, SV.sc, SV.cells, nx, loadC, Nat.reduceAdd, Nat.reduceSub, Nat.reduceMul, upd, bin, binS, binB, eqA, aggOf, leavesV, eqV, eqL, un1, cnv, bnd, slO, lenV, lenT, mkF, callO, bltO, lenO, appO, srcO, notI, jkE, jkS, SV.jk, SV.jks, Box.jk, buildO, fillO, bslO, elemsO, SV.toD, SV.toDs, SV.owns, SV.ownss, D.cells, gVal, offE, offS, Int.cast_ofNat_Int, reduceCtorEq, D.fits, dscs, XTS, XT2S, hb1, List.length_map]
       (repeat (refine And.intro ?_ ?_; focus (clear hK'; intros; simp_all; done)))
       (try (refine hK' _ _ ?_; clear hK'; clear K')))
    | (with_reducible refine swp_cond ?_ ?_
       · rfl
       refine ⟨_, rfl, fun h => ?_, fun h => ?_⟩
       <;> (try (exfalso; exact absurd h (by decide)))))
  clear hb1 hb0
  refine swp_loop (α := Nat) (fun j => [(1, .d (envD env)), (3, .ref 0 0), (9, .d (.slc (NX.map sD))), (13, .own 2), (14, .own 3), (95, .d (envD other)), (96, .d (iD other.length)), (97, .d (iD j))])
    (fun _ => [(0, .cells [.d (iD k), .d (sD nm), .d (iD t), .d (iD n), .d (sD s), .d (.slc (Ex.ds l))]), (2, .row 4 ((other ++ selB Q env).map bDf)), (3, .row 4 ((selB Q env).map bDf))])
    (fun j => j ≤ other.length ∧ ∀ b ∈ other.take j, Q b = false) (fun j => other.length - j) 0 ⟨Nat.zero_le _, by simp⟩ (by refine sub_of h0 ?_ ?_ ?_ <;> simp only [keepS, subS, subE, BoxW, FZs, FZ, offl, LM, vcOps, stepO, val, vals, lk, put, putO, opn, opns, ok1, oks, okp, pickV, nbeq, nble, Nat.reduceBEq, Nat.reduceLeDiff, Int.reduceLE, Int.reduceLT, Int.reduceToNat, ofV, leafS, scs, SV.sc, SV.cells, nx, loadC, Nat.reduceAdd, Nat.reduceSub, Nat.reduceMul, upd, bin, binS, binB, eqA, aggOf, leavesV, eqV, eqL, un1, cnv, bnd, slO, lenV, lenT, mkF, callO, bltO, lenO, appO, srcO, notI, jkE, jkS, SV.jk, SV.jks, Box.jk, buildO, fillO, bslO, elemsO, SV.toD, SV.toDs, SV.owns, SV.ownss, D.cells, gVal, offE, offS, Int.cast_ofNat_Int, reduceCtorEq, D.fits, dscs, XTS, XT2S, Option.isSome_some, List.length_map]) (fun j hj => ?_)
  obtain ⟨hj, hgd⟩ := hj
  have hb0 : (0 : Int) ≤ (j : Int) := by omega
  by_cases hlt : j < other.length
  · obtain ⟨b, hx⟩ : ∃ b, other[j]? = some b := ⟨other[j], by simp [hlt]⟩
    have hget : (other.map bDf).getD j default = bDf b := by simp only [List.getD, List.getElem?_map, hx]; rfl
    have hb1 : (j : Int) < (other.length : Int) := by omega
    have hw3 : IntKind.i64.wrap ((j : Int) + 1) = ((j + 1 : Nat) : Int) := by rw [wrap_in (by omega) (by omega)]; omega
    have hCb := hC b
    repeat' (first
      | (with_reducible first
         | refine swp_seq ?_ | refine swp_block ?_ | refine swp_skip ?_ | refine swp_ret ?_ | refine swp_exit ?_ | refine swp_label ?_
         | refine kseq_n ?_ | refine kseq_x ?_ | refine kseq_r ?_ | refine kblk_n ?_ | refine kblk_r ?_ | refine kblk_xs ?_ | refine kloop_x ?_ | refine kloop_r ?_)
      | (with_reducible refine kblk_xn ?_ ?_
         · rfl)
      | (with_reducible refine swp_regionP ?_ ?_ (fun K' hK' => ?_)
         · rfl
         · rfl
         simp only [LM, vcOps, stepO, val, vals, lk, put, putO, opn, opns, ok1, oks, okp, pickV, nbeq, nble, Nat.reduceBEq, Nat.reduceLeDiff, Int.reduceLE, Int.reduceLT, Int.reduceToNat, ofV, leafS, scs, SV.sc, SV.cells, nx, loadC, Nat.reduceAdd, Nat.reduceSub, Nat.reduceMul, upd, bin, binS, binB, eqA, aggOf, leavesV, eqV, eqL, un1, cnv, bnd, slO, lenV, lenT, mkF, callO, bltO, lenO, appO, srcO, notI, jkE, jkS, SV.jk, SV.jks, Box.jk, buildO, fillO, bslO, elemsO, SV.toD, SV.toDs, SV.owns, SV.ownss, D.cells, gVal, offE, offS, Int.cast_ofNat_Int, reduceCtorEq, D.fits, dscs, XTS, XT2S, Int.toNat_natCast, hget, List.length_map, hb0, hb1]
         (repeat (refine And.intro ?_ ?_; focus (clear hK'; intros; simp_all; done)))
         (try (refine hK' _ _ ?_; clear hK'; clear K')))
      | (with_reducible refine swp_cond ?_ ?_
         · rfl
         refine ⟨_, rfl, fun h => ?_, fun h => ?_⟩
         <;> (try (exfalso; exact absurd h (by decide)))))
    refine stop_callF rfl (by simp only [LM, vcOps, stepO, val, vals, lk, put, putO, opn, opns, ok1, oks, okp, pickV, nbeq, nble, Nat.reduceBEq, Nat.reduceLeDiff, Int.reduceLE, Int.reduceLT, Int.reduceToNat, ofV, leafS, scs, SV.sc, SV.cells, nx, loadC, Nat.reduceAdd, Nat.reduceSub, Nat.reduceMul, upd, bin, binS, binB, eqA, aggOf, leavesV, eqV, eqL, un1, cnv, bnd, slO, lenV, lenT, mkF, callO, bltO, lenO, appO, srcO, notI, jkE, jkS, SV.jk, SV.jks, Box.jk, buildO, fillO, bslO, elemsO, SV.toD, SV.toDs, SV.owns, SV.ownss, D.cells, gVal, offE, offS, Int.cast_ofNat_Int, reduceCtorEq, D.fits, dscs]) rfl rfl (hCb) ?_
    simp only [LM, vcOps, stepO, val, vals, lk, put, putO, opn, opns, ok1, oks, okp, pickV, nbeq, nble, Nat.reduceBEq, Nat.reduceLeDiff, Int.reduceLE, Int.reduceLT, Int.reduceToNat, ofV, leafS, scs, SV.sc, SV.cells, nx, loadC, Nat.reduceAdd, Nat.reduceSub, Nat.reduceMul, upd, bin, binS, binB, eqA, aggOf, leavesV, eqV, eqL, un1, cnv, bnd, slO, lenV, lenT, mkF, callO, bltO, lenO, appO, srcO, notI, jkE, jkS, SV.jk, SV.jks, Box.jk, buildO, fillO, bslO, elemsO, SV.toD, SV.toDs, SV.owns, SV.ownss, D.cells, gVal, offE, offS, Int.cast_ofNat_Int, reduceCtorEq, D.fits, dscs, XTS, XT2S, inX, dropS, ]
    (repeat (refine And.intro ?_ ?_; focus (clear hK'; intros; simp_all; done)))
    (try (refine hK' _ _ ?_; clear hK'; clear K'))
    repeat' (first
      | (with_reducible first
         | refine swp_seq ?_ | refine swp_block ?_ | refine swp_skip ?_ | refine swp_ret ?_ | refine swp_exit ?_ | refine swp_label ?_
         | refine kseq_n ?_ | refine kseq_x ?_ | refine kseq_r ?_ | refine kblk_n ?_ | refine kblk_r ?_ | refine kblk_xs ?_ | refine kloop_x ?_ | refine kloop_r ?_)
      | (with_reducible refine kblk_xn ?_ ?_
         · rfl)
      | (with_reducible refine swp_regionP ?_ ?_ (fun K' hK' => ?_)
         · rfl
         · rfl
         simp only [LM, vcOps, stepO, val, vals, lk, put, putO, opn, opns, ok1, oks, okp, pickV, nbeq, nble, Nat.reduceBEq, Nat.reduceLeDiff, Int.reduceLE, Int.reduceLT, Int.reduceToNat, ofV, leafS, scs, SV.sc, SV.cells, nx, loadC, Nat.reduceAdd, Nat.reduceSub, Nat.reduceMul, upd, bin, binS, binB, eqA, aggOf, leavesV, eqV, eqL, un1, cnv, bnd, slO, lenV, lenT, mkF, callO, bltO, lenO, appO, srcO, notI, jkE, jkS, SV.jk, SV.jks, Box.jk, buildO, fillO, bslO, elemsO, SV.toD, SV.toDs, SV.owns, SV.ownss, D.cells, gVal, offE, offS, Int.cast_ofNat_Int, reduceCtorEq, D.fits, dscs, XTS, XT2S, hw3]
         (repeat (refine And.intro ?_ ?_; focus (clear hK'; intros; simp_all; done)))
         (try (refine hK' _ _ ?_; clear hK'; clear K')))
      | (with_reducible refine swp_cond ?_ ?_
         · rfl
         refine ⟨_, rfl, fun h => ?_, fun h => ?_⟩
         <;> (try (exfalso; exact absurd h (by decide)))))
    · simp only [Kret, retL, retOne, oneV, LM, vcOps, stepO, val, vals, lk, put, putO, opn, opns, ok1, oks, okp, pickV, nbeq, nble, Nat.reduceBEq, Nat.reduceLeDiff, Int.reduceLE, Int.reduceLT, Int.reduceToNat, ofV, leafS, scs, SV.sc, SV.cells, nx, loadC, Nat.reduceAdd, Nat.reduceSub, Nat.reduceMul, upd, bin, binS, binB, eqA, aggOf, leavesV, eqV, eqL, un1, cnv, bnd, slO, lenV, lenT, mkF, callO, bltO, lenO, appO, srcO, notI, jkE, jkS, SV.jk, SV.jks, Box.jk, buildO, fillO, bslO, elemsO, SV.toD, SV.toDs, SV.owns, SV.ownss, D.cells, gVal, offE, offS, Int.cast_ofNat_Int, reduceCtorEq, D.fits, dscs, XTS, XT2S]
    · refine ⟨j + 1, ⟨(by show j + 1 ≤ other.length; omega), fun c hc => ?_⟩, (by show other.length - (j + 1) < other.length - j; omega), by refine sub_of h0 ?_ ?_ ?_ <;> simp only [keepS, subS, subE, BoxW, FZs, FZ, offl, LM, vcOps, stepO, val, vals, lk, put, putO, opn, opns, ok1, oks, okp, pickV, nbeq, nble, Nat.reduceBEq, Nat.reduceLeDiff, Int.reduceLE, Int.reduceLT, Int.reduceToNat, ofV, leafS, scs, SV.sc, SV.cells, nx, loadC, Nat.reduceAdd, Nat.reduceSub, Nat.reduceMul, upd, bin, binS, binB, eqA, aggOf, leavesV, eqV, eqL, un1, cnv, bnd, slO, lenV, lenT, mkF, callO, bltO, lenO, appO, srcO, notI, jkE, jkS, SV.jk, SV.jks, Box.jk, buildO, fillO, bslO, elemsO, SV.toD, SV.toDs, SV.owns, SV.ownss, D.cells, gVal, offE, offS, Int.cast_ofNat_Int, reduceCtorEq, D.fits, dscs, XTS, XT2S, Option.isSome_some, List.length_map]⟩
      rw [List.take_add_one, hx] at hc
      rcases List.mem_append.1 hc with hc | hc
      · exact hgd c hc
      · obtain rfl : c = b := by simpa using hc
        exact h
  have hb1 : ¬ (j : Int) < (other.length : Int) := by omega
  rw [List.take_of_length_le (by omega)] at hgd
  obtain ⟨⟨rfl, rfl⟩, rfl, rfl⟩ := hlaw hgd
  clear hlaw hgd hC hlt hj hb0
  obtain ⟨et, en, es⟩ := V1
  have he23 := eqs23 et en et en es es
  simp only [beq_self_eq_true] at he23
  repeat' (first
    | (with_reducible first
       | refine swp_seq ?_ | refine swp_block ?_ | refine swp_skip ?_ | refine swp_ret ?_ | refine swp_exit ?_ | refine swp_label ?_
       | refine kseq_n ?_ | refine kseq_x ?_ | refine kseq_r ?_ | refine kblk_n ?_ | refine kblk_r ?_ | refine kblk_xs ?_ | refine kloop_x ?_ | refine kloop_r ?_)
    | (with_reducible refine kblk_xn ?_ ?_
       · rfl)
    | (with_reducible refine swp_regionP ?_ ?_ (fun K' hK' => ?_)
       · rfl
       · rfl
       simp only [LM, vcOps, stepO, val, vals, lk, put, putO, opn, opns, ok1, oks, okp, pickV, nbeq, nble, Nat.reduceBEq, Nat.reduceLeDiff, Int.reduceLE, Int.reduceLT, Int.reduceToNat, ofV, leafS, scs, SV.sc, SV.cells, nx, loadC, Nat.reduceAdd, Nat.reduceSub, Nat.reduceMul, upd, bin, binS, binB, eqA, aggOf, leavesV, eqV, eqL, un1, cnv, bnd, slO, lenV, lenT, mkF, callO, bltO, lenO, appO, srcO, notI, jkE, jkS, SV.jk, SV.jks, Box.jk, buildO, fillO, bslO, elemsO, SV.toD, SV.toDs, SV.owns, SV.ownss, D.cells, gVal, offE, offS, Int.cast_ofNat_Int, reduceCtorEq, D.fits, dscs, XTS, XT2S, hb1]
       (repeat (refine And.intro ?_ ?_; focus (clear hK'; intros; simp_all; done)))
       (try (refine hK' _ _ ?_; clear hK'; clear K')))
    | (with_reducible refine swp_cond ?_ ?_
       · rfl
       refine ⟨_, rfl, fun h => ?_, fun h => ?_⟩
       <;> (try (exfalso; exact absurd h (by decide)))))
  refine stop_call h0 rfl (by simp only [LM, vcOps, stepO, val, vals, lk, put, putO, opn, opns, ok1, oks, okp, pickV, nbeq, nble, Nat.reduceBEq, Nat.reduceLeDiff, Int.reduceLE, Int.reduceLT, Int.reduceToNat, ofV, leafS, scs, SV.sc, SV.cells, nx, loadC, Nat.reduceAdd, Nat.reduceSub, Nat.reduceMul, upd, bin, binS, binB, eqA, aggOf, leavesV, eqV, eqL, un1, cnv, bnd, slO, lenV, lenT, mkF, callO, bltO, lenO, appO, srcO, notI, jkE, jkS, SV.jk, SV.jks, Box.jk, buildO, fillO, bslO, elemsO, SV.toD, SV.toDs, SV.owns, SV.ownss, D.cells, gVal, offE, offS, Int.cast_ofNat_Int, reduceCtorEq, D.fits, dscs]) rfl (by simp only [keepS, LM, vcOps, stepO, val, vals, lk, put, putO, opn, opns, ok1, oks, okp, pickV, nbeq, nble, Nat.reduceBEq, Nat.reduceLeDiff, Int.reduceLE, Int.reduceLT, Int.reduceToNat, ofV, leafS, scs, SV.sc, SV.cells, nx, loadC, Nat.reduceAdd, Nat.reduceSub, Nat.reduceMul, upd, bin, binS, binB, eqA, aggOf, leavesV, eqV, eqL, un1, cnv, bnd, slO, lenV, lenT, mkF, callO, bltO, lenO, appO, srcO, notI, jkE, jkS, SV.jk, SV.jks, Box.jk, buildO, fillO, bslO, elemsO, SV.toD, SV.toDs, SV.owns, SV.ownss, D.cells, gVal, offE, offS, Int.cast_ofNat_Int, reduceCtorEq, D.fits, dscs]) (hE1) ?_
  simp only [LM, vcOps, stepO, val, vals, lk, put, putO, opn, opns, ok1, oks, okp, pickV, nbeq, nble, Nat.reduceBEq, Nat.reduceLeDiff, Int.reduceLE, Int.reduceLT, Int.reduceToNat, ofV, leafS, scs, SV.sc, SV.cells, nx, loadC, Nat.reduceAdd, Nat.reduceSub, Nat.reduceMul, upd, bin, binS, binB, eqA, aggOf, leavesV, eqV, eqL, un1, cnv, bnd, slO, lenV, lenT, mkF, callO, bltO, lenO, appO, srcO, notI, jkE, jkS, SV.jk, SV.jks, Box.jk, buildO, fillO, bslO, elemsO, SV.toD, SV.toDs, SV.owns, SV.ownss, D.cells, gVal, offE, offS, Int.cast_ofNat_Int, reduceCtorEq, D.fits, dscs, XTS, XT2S, inX, dropS, ]
  (repeat (refine And.intro ?_ ?_; focus (clear hK'; intros; simp_all; done)))
  (try (refine hK' _ _ ?_; clear hK'; clear K'))
  repeat' (first
    | (with_reducible first
       | refine swp_seq ?_ | refine swp_block ?_ | refine swp_skip ?_ | refine swp_ret ?_ | refine swp_exit ?_ | refine swp_label ?_
       | refine kseq_n ?_ | refine kseq_x ?_ | refine kseq_r ?_ | refine kblk_n ?_ | refine kblk_r ?_ | refine kblk_xs ?_ | refine kloop_x ?_ | refine kloop_r ?_)
    | (with_reducible refine kblk_xn ?_ ?_
       · rfl)
    | (with_reducible refine swp_regionP ?_ ?_ (fun K' hK' => ?_)
       · rfl
       · rfl
       simp only [LM, vcOps, stepO, val, vals, lk, put, putO, opn, opns, ok1, oks, okp, pickV, nbeq, nble, Nat.reduceBEq, Nat.reduceLeDiff, Int.reduceLE, Int.reduceLT, Int.reduceToNat, ofV, leafS, scs, SV.sc, SV.cells, nx, loadC, Nat.reduceAdd, Nat.reduceSub, Nat.reduceMul, upd, bin, binS, binB, eqA, aggOf, leavesV, eqV, eqL, un1, cnv, bnd, slO, lenV, lenT, mkF, callO, bltO, lenO, appO, srcO, notI, jkE, jkS, SV.jk, SV.jks, Box.jk, buildO, fillO, bslO, elemsO, SV.toD, SV.toDs, SV.owns, SV.ownss, D.cells, gVal, offE, offS, Int.cast_ofNat_Int, reduceCtorEq, D.fits, dscs, XTS, XT2S]
       (repeat (refine And.intro ?_ ?_; focus (clear hK'; intros; simp_all; done)))
       (try (refine hK' _ _ ?_; clear hK'; clear K')))
    | (with_reducible refine swp_cond ?_ ?_
       · rfl
       refine ⟨_, rfl, fun h => ?_, fun h => ?_⟩
       <;> (try (exfalso; exact absurd h (by decide)))))
  refine stop_call h0 rfl (by simp only [LM, vcOps, stepO, val, vals, lk, put, putO, opn, opns, ok1, oks, okp, pickV, nbeq, nble, Nat.reduceBEq, Nat.reduceLeDiff, Int.reduceLE, Int.reduceLT, Int.reduceToNat, ofV, leafS, scs, SV.sc, SV.cells, nx, loadC, Nat.reduceAdd, Nat.reduceSub, Nat.reduceMul, upd, bin, binS, binB, eqA, aggOf, leavesV, eqV, eqL, un1, cnv, bnd, slO, lenV, lenT, mkF, callO, bltO, lenO, appO, srcO, notI, jkE, jkS, SV.jk, SV.jks, Box.jk, buildO, fillO, bslO, elemsO, SV.toD, SV.toDs, SV.owns, SV.ownss, D.cells, gVal, offE, offS, Int.cast_ofNat_Int, reduceCtorEq, D.fits, dscs]) rfl (by simp only [keepS, LM, vcOps, stepO, val, vals, lk, put, putO, opn, opns, ok1, oks, okp, pickV, nbeq, nble, Nat.reduceBEq, Nat.reduceLeDiff, Int.reduceLE, Int.reduceLT, Int.reduceToNat, ofV, leafS, scs, SV.sc, SV.cells, nx, loadC, Nat.reduceAdd, Nat.reduceSub, Nat.reduceMul, upd, bin, binS, binB, eqA, aggOf, leavesV, eqV, eqL, un1, cnv, bnd, slO, lenV, lenT, mkF, callO, bltO, lenO, appO, srcO, notI, jkE, jkS, SV.jk, SV.jks, Box.jk, buildO, fillO, bslO, elemsO, SV.toD, SV.toDs, SV.owns, SV.ownss, D.cells, gVal, offE, offS, Int.cast_ofNat_Int, reduceCtorEq, D.fits, dscs]) (hE2) ?_
  simp only [LM, vcOps, stepO, val, vals, lk, put, putO, opn, opns, ok1, oks, okp, pickV, nbeq, nble, Nat.reduceBEq, Nat.reduceLeDiff, Int.reduceLE, Int.reduceLT, Int.reduceToNat, ofV, leafS, scs, SV.sc, SV.cells, nx, loadC, Nat.reduceAdd, Nat.reduceSub, Nat.reduceMul, upd, bin, binS, binB, eqA, aggOf, leavesV, eqV, eqL, un1, cnv, bnd, slO, lenV, lenT, mkF, callO, bltO, lenO, appO, srcO, notI, jkE, jkS, SV.jk, SV.jks, Box.jk, buildO, fillO, bslO, elemsO, SV.toD, SV.toDs, SV.owns, SV.ownss, D.cells, gVal, offE, offS, Int.cast_ofNat_Int, reduceCtorEq, D.fits, dscs, XTS, XT2S, inX, dropS, ]
  (repeat (refine And.intro ?_ ?_; focus (clear hK'; intros; simp_all; done)))
  (try (refine hK' _ _ ?_; clear hK'; clear K'))
  repeat' (first
    | (with_reducible first
       | refine swp_seq ?_ | refine swp_block ?_ | refine swp_skip ?_ | refine swp_ret ?_ | refine swp_exit ?_ | refine swp_label ?_
       | refine kseq_n ?_ | refine kseq_x ?_ | refine kseq_r ?_ | refine kblk_n ?_ | refine kblk_r ?_ | refine kblk_xs ?_ | refine kloop_x ?_ | refine kloop_r ?_)
    | (with_reducible refine kblk_xn ?_ ?_
       · rfl)
    | (with_reducible refine swp_regionP ?_ ?_ (fun K' hK' => ?_)
       · rfl
       · rfl
       simp only [LM, vcOps, stepO, val, vals, lk, put, putO, opn, opns, ok1, oks, okp, pickV, nbeq, nble, Nat.reduceBEq, Nat.reduceLeDiff, Int.reduceLE, Int.reduceLT, Int.reduceToNat, ofV, leafS, scs, SV.sc, SV.cells, nx, loadC, Nat.reduceAdd, Nat.reduceSub, Nat.reduceMul, upd, bin, binS, binB, eqA, aggOf, leavesV, eqV, eqL, un1, cnv, bnd, slO, lenV, lenT, mkF, callO, bltO, lenO, appO, srcO, notI, jkE, jkS, SV.jk, SV.jks, Box.jk, buildO, fillO, bslO, elemsO, SV.toD, SV.toDs, SV.owns, SV.ownss, D.cells, gVal, offE, offS, Int.cast_ofNat_Int, reduceCtorEq, D.fits, dscs, XTS, XT2S]
       (repeat (refine And.intro ?_ ?_; focus (clear hK'; intros; simp_all; done)))
       (try (refine hK' _ _ ?_; clear hK'; clear K')))
    | (with_reducible refine swp_cond ?_ ?_
       · rfl
       refine ⟨_, rfl, fun h => ?_, fun h => ?_⟩
       <;> (try (exfalso; exact absurd h (by decide)))))
  refine stop_call h0 rfl (by simp only [LM, vcOps, stepO, val, vals, lk, put, putO, opn, opns, ok1, oks, okp, pickV, nbeq, nble, Nat.reduceBEq, Nat.reduceLeDiff, Int.reduceLE, Int.reduceLT, Int.reduceToNat, ofV, leafS, scs, SV.sc, SV.cells, nx, loadC, Nat.reduceAdd, Nat.reduceSub, Nat.reduceMul, upd, bin, binS, binB, eqA, aggOf, leavesV, eqV, eqL, un1, cnv, bnd, slO, lenV, lenT, mkF, callO, bltO, lenO, appO, srcO, notI, jkE, jkS, SV.jk, SV.jks, Box.jk, buildO, fillO, bslO, elemsO, SV.toD, SV.toDs, SV.owns, SV.ownss, D.cells, gVal, offE, offS, Int.cast_ofNat_Int, reduceCtorEq, D.fits, dscs]) rfl (by simp only [keepS, LM, vcOps, stepO, val, vals, lk, put, putO, opn, opns, ok1, oks, okp, pickV, nbeq, nble, Nat.reduceBEq, Nat.reduceLeDiff, Int.reduceLE, Int.reduceLT, Int.reduceToNat, ofV, leafS, scs, SV.sc, SV.cells, nx, loadC, Nat.reduceAdd, Nat.reduceSub, Nat.reduceMul, upd, bin, binS, binB, eqA, aggOf, leavesV, eqV, eqL, un1, cnv, bnd, slO, lenV, lenT, mkF, callO, bltO, lenO, appO, srcO, notI, jkE, jkS, SV.jk, SV.jks, Box.jk, buildO, fillO, bslO, elemsO, SV.toD, SV.toDs, SV.owns, SV.ownss, D.cells, gVal, offE, offS, Int.cast_ofNat_Int, reduceCtorEq, D.fits, dscs]) (hE3) ?_
  simp only [LM, vcOps, stepO, val, vals, lk, put, putO, opn, opns, ok1, oks, okp, pickV, nbeq, nble, Nat.reduceBEq, Nat.reduceLeDiff, Int.reduceLE, Int.reduceLT, Int.reduceToNat, ofV, leafS, scs, SV.sc, SV.cells, nx, loadC, Nat.reduceAdd, Nat.reduceSub, Nat.reduceMul, upd, bin, binS, binB, eqA, aggOf, leavesV, eqV, eqL, un1, cnv, bnd, slO, lenV, lenT, mkF, callO, bltO, lenO, appO, srcO, notI, jkE, jkS, SV.jk, SV.jks, Box.jk, buildO, fillO, bslO, elemsO, SV.toD, SV.toDs, SV.owns, SV.ownss, D.cells, gVal, offE, offS, Int.cast_ofNat_Int, reduceCtorEq, D.fits, dscs, XTS, XT2S, inX, dropS, ]
  (repeat (refine And.intro ?_ ?_; focus (clear hK'; intros; simp_all; done)))
  (try (refine hK' _ _ ?_; clear hK'; clear K'))
  repeat' (first
    | (with_reducible first
       | refine swp_seq ?_ | refine swp_block ?_ | refine swp_skip ?_ | refine swp_ret ?_ | refine swp_exit ?_ | refine swp_label ?_
       | refine kseq_n ?_ | refine kseq_x ?_ | refine kseq_r ?_ | refine kblk_n ?_ | refine kblk_r ?_ | refine kblk_xs ?_ | refine kloop_x ?_ | refine kloop_r ?_)
    | (with_reducible refine kblk_xn ?_ ?_
       · rfl)
    | (with_reducible refine swp_regionP ?_ ?_ (fun K' hK' => ?_)
       · rfl
       · rfl
       simp only [LM, vcOps, stepO, val, vals, lk, put, putO, opn, opns, ok1, oks, okp, pickV, nbeq, nble, Nat.reduceBEq, Nat.reduceLeDiff, Int.reduceLE, Int.reduceLT, Int.reduceToNat, ofV, leafS, scs, SV.sc, SV.cells, nx, loadC, Nat.reduceAdd, Nat.reduceSub, Nat.reduceMul, upd, bin, binS, binB, eqA, aggOf, leavesV, eqV, eqL, un1, cnv, bnd, slO, lenV, lenT, mkF, callO, bltO, lenO, appO, srcO, notI, jkE, jkS, SV.jk, SV.jks, Box.jk, buildO, fillO, bslO, elemsO, SV.toD, SV.toDs, SV.owns, SV.ownss, D.cells, gVal, offE, offS, Int.cast_ofNat_Int, reduceCtorEq, D.fits, dscs, XTS, XT2S, he23]
       (repeat (refine And.intro ?_ ?_; focus (clear hK'; intros; simp_all; done)))
       (try (refine hK' _ _ ?_; clear hK'; clear K')))
    | (with_reducible refine swp_cond ?_ ?_
       · rfl
       refine ⟨_, rfl, fun h => ?_, fun h => ?_⟩
       <;> (try (exfalso; exact absurd h (by decide)))))
  simp only [Kret, retL, retOne, oneV, LM, vcOps, stepO, val, vals, lk, put, putO, opn, opns, ok1, oks, okp, pickV, nbeq, nble, Nat.reduceBEq, Nat.reduceLeDiff, Int.reduceLE, Int.reduceLT, Int.reduceToNat, ofV, leafS, scs, SV.sc, SV.cells, nx, loadC, Nat.reduceAdd, Nat.reduceSub, Nat.reduceMul, upd, bin, binS, binB, eqA, aggOf, leavesV, eqV, eqL, un1, cnv, bnd, slO, lenV, lenT, mkF, callO, bltO, lenO, appO, srcO, notI, jkE, jkS, SV.jk, SV.jks, Box.jk, buildO, fillO, bslO, elemsO, SV.toD, SV.toDs, SV.owns, SV.ownss, D.cells, gVal, offE, offS, Int.cast_ofNat_Int, reduceCtorEq, D.fits, dscs, XTS, XT2S]
  simp
end Go.Proofs.YtiobdkibbhpojaaDoor
