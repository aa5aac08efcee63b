/- slices.ContainsFunc over bindings by a symbolic walk. -/
import Derived.Test.YtiobdkibbhpojaaDoorX7
import Derived.Test.YtiobdkibbhpojaaDoorSwB
set_option linter.unusedVariables false
set_option linter.unusedSimpArgs false
namespace Go.Proofs.YtiobdkibbhpojaaDoor
open Go.RowKit Go.Sw

/-- The first of those for which it is so. -/
def idxF (p : Bd → Bool) : List Bd → Nat → Int
  | [], _ => -1
  | b :: l, j => if p b = true then (j : Int) else idxF p l (j + 1)
theorem idxF_any (p : Bd → Bool) : ∀ (l : List Bd) (j : Nat), decide (0 ≤ idxF p l j) = l.any p
  | [], j => rfl
  | b :: l, j => by
    unfold idxF
    by_cases h : p b = true
    · rw [if_pos h]; simp [h]
    · rw [if_neg h, idxF_any p l (j + 1)]; simp [h]

set_option maxHeartbeats 4000000 in
set_option maxRecDepth 100000 in
theorem indexF_fn (Γ : Gl) (f : FuncId) (p : Bd → Bool) (env : List Bd) (henv : env.length ≤ 140737488355328) (hf : ∀ b ∈ env, DFn Tryd.prog Γ f [bDf b] (.v (.bool (p b)))) :
    SFn Tryd.prog Γ 48 [.d (envD env), .clo f []] [] (.d (iD (idxF p env 0))) [] := by
  refine sfn_of_swp (N := 19) Tryd.func48 rfl (by decide) rfl rfl (by simp) (fun C h0 => ?_)
  simp only [argS]
  repeat' (first
    | (with_reducible first
       | refine swp_seq ?_ | refine swp_block ?_ | refine swp_skip ?_ | refine swp_ret ?_ | refine swp_exit ?_ | refine swp_label ?_
       | refine kseq_n ?_ | refine kseq_x ?_ | refine kseq_r ?_ | refine kblk_n ?_ | refine kblk_r ?_ | refine kblk_xs ?_ | refine kloop_x ?_ | refine kloop_r ?_)
    | (with_reducible refine kblk_xn ?_ ?_
       · rfl)
    | (with_reducible refine swp_regionP ?_ ?_ (fun K' hK' => ?_)
       · rfl
       · rfl
       simp only [LM, vcOps, stepO, val, vals, lk, put, putO, opn, opns, ok1, oks, okp, pickV, nbeq, nble, Nat.reduceBEq, Nat.reduceLeDiff, Int.reduceLE, Int.reduceLT, Int.reduceToNat, ofV, leafS, scs, SV.sc, SV.cells, nx, loadC, Nat.reduceAdd, Nat.reduceSub, Nat.reduceMul, upd, bin, binS, binB, eqA, aggOf, leavesV, eqV, eqL, un1, cnv, bnd, slO, lenV, lenT, mkF, callO, bltO, lenO, appO, srcO, notI, jkE, jkS, SV.jk, SV.jks, Box.jk, buildO, fillO, bslO, elemsO, SV.toD, SV.toDs, SV.owns, SV.ownss, D.cells, gVal, offE, offS, Int.cast_ofNat_Int, reduceCtorEq, D.fits, dscs, XTS, List.length_map]
       (repeat (refine And.intro ?_ ?_; focus (clear hK'; intros; simp_all; done)))
       (try (refine hK' _ _ ?_; clear hK'; clear K')))
    | (with_reducible refine swp_cond ?_ ?_
       · rfl
       refine ⟨_, rfl, fun h => ?_, fun h => ?_⟩
       <;> (try (exfalso; exact absurd h (by decide)))))
  refine swp_loop (α := Nat) (fun j => [(0, .d (envD env)), (1, .clo f []), (7, .d (iD env.length)), (8, .d (iD j))]) (fun _ => [])
    (fun j => j ≤ env.length ∧ idxF p env 0 = idxF p (env.drop j) j) (fun j => env.length - j) 0 ⟨Nat.zero_le _, rfl⟩ (by refine sub_of h0 ?_ ?_ ?_ <;> simp only [keepS, subS, subE, BoxW, FZs, FZ, offl, LM, vcOps, stepO, val, vals, lk, put, putO, opn, opns, ok1, oks, okp, pickV, nbeq, nble, Nat.reduceBEq, Nat.reduceLeDiff, Int.reduceLE, Int.reduceLT, Int.reduceToNat, ofV, leafS, scs, SV.sc, SV.cells, nx, loadC, Nat.reduceAdd, Nat.reduceSub, Nat.reduceMul, upd, bin, binS, binB, eqA, aggOf, leavesV, eqV, eqL, un1, cnv, bnd, slO, lenV, lenT, mkF, callO, bltO, lenO, appO, srcO, notI, jkE, jkS, SV.jk, SV.jks, Box.jk, buildO, fillO, bslO, elemsO, SV.toD, SV.toDs, SV.owns, SV.ownss, D.cells, gVal, offE, offS, Int.cast_ofNat_Int, reduceCtorEq, D.fits, dscs, XTS, Option.isSome_some, List.length_map]) (fun j hj => ?_)
  obtain ⟨hj, hch⟩ := hj
  have hb0 : (0 : Int) ≤ (j : Int) := by omega
  by_cases hlt : j < env.length
  · obtain ⟨b, hx⟩ : ∃ b, env[j]? = some b := ⟨env[j], by simp [hlt]⟩
    have hcall := hf b (List.mem_of_getElem? hx)
    have hget : (env.map bDf).getD j default = bDf b := by simp [List.getD, hx]
    have hb1 : (j : Int) < (env.length : Int) := by omega
    have hw3 : IntKind.i64.wrap ((j : Int) + 1) = ((j + 1 : Nat) : Int) := by rw [wrap_in (by omega) (by omega)]; omega
    have hd : env.drop j = b :: env.drop (j + 1) := by
      obtain ⟨h1, h2⟩ := List.getElem?_eq_some_iff.1 hx
      rw [List.drop_eq_getElem_cons h1, h2]
    rw [hd] at hch
    simp only [idxF] at hch
    repeat' (first
      | (with_reducible first
         | refine swp_seq ?_ | refine swp_block ?_ | refine swp_skip ?_ | refine swp_ret ?_ | refine swp_exit ?_ | refine swp_label ?_
         | refine kseq_n ?_ | refine kseq_x ?_ | refine kseq_r ?_ | refine kblk_n ?_ | refine kblk_r ?_ | refine kblk_xs ?_ | refine kloop_x ?_ | refine kloop_r ?_)
      | (with_reducible refine kblk_xn ?_ ?_
         · rfl)
      | (with_reducible refine swp_regionP ?_ ?_ (fun K' hK' => ?_)
         · rfl
         · rfl
         simp only [LM, vcOps, stepO, val, vals, lk, put, putO, opn, opns, ok1, oks, okp, pickV, nbeq, nble, Nat.reduceBEq, Nat.reduceLeDiff, Int.reduceLE, Int.reduceLT, Int.reduceToNat, ofV, leafS, scs, SV.sc, SV.cells, nx, loadC, Nat.reduceAdd, Nat.reduceSub, Nat.reduceMul, upd, bin, binS, binB, eqA, aggOf, leavesV, eqV, eqL, un1, cnv, bnd, slO, lenV, lenT, mkF, callO, bltO, lenO, appO, srcO, notI, jkE, jkS, SV.jk, SV.jks, Box.jk, buildO, fillO, bslO, elemsO, SV.toD, SV.toDs, SV.owns, SV.ownss, D.cells, gVal, offE, offS, Int.cast_ofNat_Int, reduceCtorEq, D.fits, dscs, XTS, Int.toNat_natCast, hget, List.length_map, hb0, hb1]
         (repeat (refine And.intro ?_ ?_; focus (clear hK'; intros; simp_all; done)))
         (try (refine hK' _ _ ?_; clear hK'; clear K')))
      | (with_reducible refine swp_cond ?_ ?_
         · rfl
         refine ⟨_, rfl, fun h => ?_, fun h => ?_⟩
         <;> (try (exfalso; exact absurd h (by decide)))))
    refine stop_callC (caps := []) rfl (by simp only [LM, vcOps, stepO, val, vals, lk, put, putO, opn, opns, ok1, oks, okp, pickV, nbeq, nble, Nat.reduceBEq, Nat.reduceLeDiff, Int.reduceLE, Int.reduceLT, Int.reduceToNat, ofV, leafS, scs, SV.sc, SV.cells, nx, loadC, Nat.reduceAdd, Nat.reduceSub, Nat.reduceMul, upd, bin, binS, binB, eqA, aggOf, leavesV, eqV, eqL, un1, cnv, bnd, slO, lenV, lenT, mkF, callO, bltO, lenO, appO, srcO, notI, jkE, jkS, SV.jk, SV.jks, Box.jk, buildO, fillO, bslO, elemsO, SV.toD, SV.toDs, SV.owns, SV.ownss, D.cells, gVal, offE, offS, Int.cast_ofNat_Int, reduceCtorEq, D.fits, dscs]) (by simp only [LM, vcOps, stepO, val, vals, lk, put, putO, opn, opns, ok1, oks, okp, pickV, nbeq, nble, Nat.reduceBEq, Nat.reduceLeDiff, Int.reduceLE, Int.reduceLT, Int.reduceToNat, ofV, leafS, scs, SV.sc, SV.cells, nx, loadC, Nat.reduceAdd, Nat.reduceSub, Nat.reduceMul, upd, bin, binS, binB, eqA, aggOf, leavesV, eqV, eqL, un1, cnv, bnd, slO, lenV, lenT, mkF, callO, bltO, lenO, appO, srcO, notI, jkE, jkS, SV.jk, SV.jks, Box.jk, buildO, fillO, bslO, elemsO, SV.toD, SV.toDs, SV.owns, SV.ownss, D.cells, gVal, offE, offS, Int.cast_ofNat_Int, reduceCtorEq, D.fits, dscs]) rfl rfl (hcall) ?_
    simp only [LM, vcOps, stepO, val, vals, lk, put, putO, opn, opns, ok1, oks, okp, pickV, nbeq, nble, Nat.reduceBEq, Nat.reduceLeDiff, Int.reduceLE, Int.reduceLT, Int.reduceToNat, ofV, leafS, scs, SV.sc, SV.cells, nx, loadC, Nat.reduceAdd, Nat.reduceSub, Nat.reduceMul, upd, bin, binS, binB, eqA, aggOf, leavesV, eqV, eqL, un1, cnv, bnd, slO, lenV, lenT, mkF, callO, bltO, lenO, appO, srcO, notI, jkE, jkS, SV.jk, SV.jks, Box.jk, buildO, fillO, bslO, elemsO, SV.toD, SV.toDs, SV.owns, SV.ownss, D.cells, gVal, offE, offS, Int.cast_ofNat_Int, reduceCtorEq, D.fits, dscs, XTS]
    (try (refine hK' _ _ ?_; clear hK'; clear K'))
    repeat' (first
      | (with_reducible first
         | refine swp_seq ?_ | refine swp_block ?_ | refine swp_skip ?_ | refine swp_ret ?_ | refine swp_exit ?_ | refine swp_label ?_
         | refine kseq_n ?_ | refine kseq_x ?_ | refine kseq_r ?_ | refine kblk_n ?_ | refine kblk_r ?_ | refine kblk_xs ?_ | refine kloop_x ?_ | refine kloop_r ?_)
      | (with_reducible refine kblk_xn ?_ ?_
         · rfl)
      | (with_reducible refine swp_regionP ?_ ?_ (fun K' hK' => ?_)
         · rfl
         · rfl
         simp only [LM, vcOps, stepO, val, vals, lk, put, putO, opn, opns, ok1, oks, okp, pickV, nbeq, nble, Nat.reduceBEq, Nat.reduceLeDiff, Int.reduceLE, Int.reduceLT, Int.reduceToNat, ofV, leafS, scs, SV.sc, SV.cells, nx, loadC, Nat.reduceAdd, Nat.reduceSub, Nat.reduceMul, upd, bin, binS, binB, eqA, aggOf, leavesV, eqV, eqL, un1, cnv, bnd, slO, lenV, lenT, mkF, callO, bltO, lenO, appO, srcO, notI, jkE, jkS, SV.jk, SV.jks, Box.jk, buildO, fillO, bslO, elemsO, SV.toD, SV.toDs, SV.owns, SV.ownss, D.cells, gVal, offE, offS, Int.cast_ofNat_Int, reduceCtorEq, D.fits, dscs, XTS, hw3]
         (repeat (refine And.intro ?_ ?_; focus (clear hK'; intros; simp_all; done)))
         (try (refine hK' _ _ ?_; clear hK'; clear K')))
      | (with_reducible refine swp_cond ?_ ?_
         · rfl
         refine ⟨_, rfl, fun h => ?_, fun h => ?_⟩
         <;> (try (exfalso; exact absurd h (by decide)))))
    · simp only [KretS, retL, retOne, oneV, keepS, subS, BoxW, FZs, FZ, offl, LM, vcOps, stepO, val, vals, lk, put, putO, opn, opns, ok1, oks, okp, pickV, nbeq, nble, Nat.reduceBEq, Nat.reduceLeDiff, Int.reduceLE, Int.reduceLT, Int.reduceToNat, ofV, leafS, scs, SV.sc, SV.cells, nx, loadC, Nat.reduceAdd, Nat.reduceSub, Nat.reduceMul, upd, bin, binS, binB, eqA, aggOf, leavesV, eqV, eqL, un1, cnv, bnd, slO, lenV, lenT, mkF, callO, bltO, lenO, appO, srcO, notI, jkE, jkS, SV.jk, SV.jks, Box.jk, buildO, fillO, bslO, elemsO, SV.toD, SV.toDs, SV.owns, SV.ownss, D.cells, gVal, offE, offS, Int.cast_ofNat_Int, reduceCtorEq, D.fits, dscs, XTS, Option.isSome_some, h0]
      have h : p b = true := by simpa using h
      rw [hch, if_pos h]
    · have h : ¬ p b = true := by simpa using h
      rw [if_neg h] at hch
      refine ⟨j + 1, ⟨(by show j + 1 ≤ env.length; omega), hch⟩, (by show env.length - (j + 1) < env.length - j; omega), by refine sub_of h0 ?_ ?_ ?_ <;> simp only [keepS, subS, subE, BoxW, FZs, FZ, offl, LM, vcOps, stepO, val, vals, lk, put, putO, opn, opns, ok1, oks, okp, pickV, nbeq, nble, Nat.reduceBEq, Nat.reduceLeDiff, Int.reduceLE, Int.reduceLT, Int.reduceToNat, ofV, leafS, scs, SV.sc, SV.cells, nx, loadC, Nat.reduceAdd, Nat.reduceSub, Nat.reduceMul, upd, bin, binS, binB, eqA, aggOf, leavesV, eqV, eqL, un1, cnv, bnd, slO, lenV, lenT, mkF, callO, bltO, lenO, appO, srcO, notI, jkE, jkS, SV.jk, SV.jks, Box.jk, buildO, fillO, bslO, elemsO, SV.toD, SV.toDs, SV.owns, SV.ownss, D.cells, gVal, offE, offS, Int.cast_ofNat_Int, reduceCtorEq, D.fits, dscs, XTS, Option.isSome_some]⟩
  · have hb1 : ¬ (j : Int) < (env.length : Int) := by omega
    repeat' (first
      | (with_reducible first
         | refine swp_seq ?_ | refine swp_block ?_ | refine swp_skip ?_ | refine swp_ret ?_ | refine swp_exit ?_ | refine swp_label ?_
         | refine kseq_n ?_ | refine kseq_x ?_ | refine kseq_r ?_ | refine kblk_n ?_ | refine kblk_r ?_ | refine kblk_xs ?_ | refine kloop_x ?_ | refine kloop_r ?_)
      | (with_reducible refine kblk_xn ?_ ?_
         · rfl)
      | (with_reducible refine swp_regionP ?_ ?_ (fun K' hK' => ?_)
         · rfl
         · rfl
         simp only [LM, vcOps, stepO, val, vals, lk, put, putO, opn, opns, ok1, oks, okp, pickV, nbeq, nble, Nat.reduceBEq, Nat.reduceLeDiff, Int.reduceLE, Int.reduceLT, Int.reduceToNat, ofV, leafS, scs, SV.sc, SV.cells, nx, loadC, Nat.reduceAdd, Nat.reduceSub, Nat.reduceMul, upd, bin, binS, binB, eqA, aggOf, leavesV, eqV, eqL, un1, cnv, bnd, slO, lenV, lenT, mkF, callO, bltO, lenO, appO, srcO, notI, jkE, jkS, SV.jk, SV.jks, Box.jk, buildO, fillO, bslO, elemsO, SV.toD, SV.toDs, SV.owns, SV.ownss, D.cells, gVal, offE, offS, Int.cast_ofNat_Int, reduceCtorEq, D.fits, dscs, XTS, hb1]
         (repeat (refine And.intro ?_ ?_; focus (clear hK'; intros; simp_all; done)))
         (try (refine hK' _ _ ?_; clear hK'; clear K')))
      | (with_reducible refine swp_cond ?_ ?_
         · rfl
         refine ⟨_, rfl, fun h => ?_, fun h => ?_⟩
         <;> (try (exfalso; exact absurd h (by decide)))))
    simp only [KretS, retL, retOne, oneV, keepS, subS, BoxW, FZs, FZ, offl, LM, vcOps, stepO, val, vals, lk, put, putO, opn, opns, ok1, oks, okp, pickV, nbeq, nble, Nat.reduceBEq, Nat.reduceLeDiff, Int.reduceLE, Int.reduceLT, Int.reduceToNat, ofV, leafS, scs, SV.sc, SV.cells, nx, loadC, Nat.reduceAdd, Nat.reduceSub, Nat.reduceMul, upd, bin, binS, binB, eqA, aggOf, leavesV, eqV, eqL, un1, cnv, bnd, slO, lenV, lenT, mkF, callO, bltO, lenO, appO, srcO, notI, jkE, jkS, SV.jk, SV.jks, Box.jk, buildO, fillO, bslO, elemsO, SV.toD, SV.toDs, SV.owns, SV.ownss, D.cells, gVal, offE, offS, Int.cast_ofNat_Int, reduceCtorEq, D.fits, dscs, XTS, Option.isSome_some, h0]
    rw [hch, List.drop_of_length_le (by omega)]
    rfl

set_option maxHeartbeats 4000000 in
set_option maxRecDepth 100000 in
theorem containsF_fn (Γ : Gl) (f : FuncId) (p : Bd → Bool) (env : List Bd) (henv : env.length ≤ 140737488355328) (hf : ∀ b ∈ env, DFn Tryd.prog Γ f [bDf b] (.v (.bool (p b)))) :
    SFn Tryd.prog Γ 19 [.d (envD env), .clo f []] [] (.d (.v (.bool (env.any p)))) [] := by
  have hc := indexF_fn Γ f p env henv hf
  refine sfn_of_swp (N := 9) Tryd.func19 rfl (by decide) rfl rfl (by simp) (fun C h0 => ?_)
  simp only [argS]
  repeat' (first
    | (with_reducible first
       | refine swp_seq ?_ | refine swp_block ?_ | refine swp_skip ?_ | refine swp_ret ?_ | refine swp_exit ?_ | refine swp_label ?_
       | refine kseq_n ?_ | refine kseq_x ?_ | refine kseq_r ?_ | refine kblk_n ?_ | refine kblk_r ?_ | refine kblk_xs ?_ | refine kloop_x ?_ | refine kloop_r ?_)
    | (with_reducible refine kblk_xn ?_ ?_
       · rfl)
    | (with_reducible refine swp_regionP ?_ ?_ (fun K' hK' => ?_)
       · rfl
       · rfl
       simp only [LM, vcOps, stepO, val, vals, lk, put, putO, opn, opns, ok1, oks, okp, pickV, nbeq, nble, Nat.reduceBEq, Nat.reduceLeDiff, Int.reduceLE, Int.reduceLT, Int.reduceToNat, ofV, leafS, scs, SV.sc, SV.cells, nx, loadC, Nat.reduceAdd, Nat.reduceSub, Nat.reduceMul, upd, bin, binS, binB, eqA, aggOf, leavesV, eqV, eqL, un1, cnv, bnd, slO, lenV, lenT, mkF, callO, bltO, lenO, appO, srcO, notI, jkE, jkS, SV.jk, SV.jks, Box.jk, buildO, fillO, bslO, elemsO, SV.toD, SV.toDs, SV.owns, SV.ownss, D.cells, gVal, offE, offS, Int.cast_ofNat_Int, reduceCtorEq, D.fits, dscs, XTS]
       (repeat (refine And.intro ?_ ?_; focus (clear hK'; intros; simp_all; done)))
       (try (refine hK' _ _ ?_; clear hK'; clear K')))
    | (with_reducible refine swp_cond ?_ ?_
       · rfl
       refine ⟨_, rfl, fun h => ?_, fun h => ?_⟩
       <;> (try (exfalso; exact absurd h (by decide)))))
  refine stop_callS rfl (by simp only [LM, vcOps, stepO, val, vals, lk, put, putO, opn, opns, ok1, oks, okp, pickV, nbeq, nble, Nat.reduceBEq, Nat.reduceLeDiff, Int.reduceLE, Int.reduceLT, Int.reduceToNat, ofV, leafS, scs, SV.sc, SV.cells, nx, loadC, Nat.reduceAdd, Nat.reduceSub, Nat.reduceMul, upd, bin, binS, binB, eqA, aggOf, leavesV, eqV, eqL, un1, cnv, bnd, slO, lenV, lenT, mkF, callO, bltO, lenO, appO, srcO, notI, jkE, jkS, SV.jk, SV.jks, Box.jk, buildO, fillO, bslO, elemsO, SV.toD, SV.toDs, SV.owns, SV.ownss, D.cells, gVal, offE, offS, Int.cast_ofNat_Int, reduceCtorEq, D.fits, dscs]) (by simp only [argF, argOne, hin, hins, LM, vcOps, stepO, val, vals, lk, put, putO, opn, opns, ok1, oks, okp, pickV, nbeq, nble, Nat.reduceBEq, Nat.reduceLeDiff, Int.reduceLE, Int.reduceLT, Int.reduceToNat, ofV, leafS, scs, SV.sc, SV.cells, nx, loadC, Nat.reduceAdd, Nat.reduceSub, Nat.reduceMul, upd, bin, binS, binB, eqA, aggOf, leavesV, eqV, eqL, un1, cnv, bnd, slO, lenV, lenT, mkF, callO, bltO, lenO, appO, srcO, notI, jkE, jkS, SV.jk, SV.jks, Box.jk, buildO, fillO, bslO, elemsO, SV.toD, SV.toDs, SV.owns, SV.ownss, D.cells, gVal, offE, offS, Int.cast_ofNat_Int, reduceCtorEq, D.fits, dscs, Option.isSome_some]) (by simp only [subC, LM, vcOps, stepO, val, vals, lk, put, putO, opn, opns, ok1, oks, okp, pickV, nbeq, nble, Nat.reduceBEq, Nat.reduceLeDiff, Int.reduceLE, Int.reduceLT, Int.reduceToNat, ofV, leafS, scs, SV.sc, SV.cells, nx, loadC, Nat.reduceAdd, Nat.reduceSub, Nat.reduceMul, upd, bin, binS, binB, eqA, aggOf, leavesV, eqV, eqL, un1, cnv, bnd, slO, lenV, lenT, mkF, callO, bltO, lenO, appO, srcO, notI, jkE, jkS, SV.jk, SV.jks, Box.jk, buildO, fillO, bslO, elemsO, SV.toD, SV.toDs, SV.owns, SV.ownss, D.cells, gVal, offE, offS, Int.cast_ofNat_Int, reduceCtorEq, D.fits, dscs]) (by simp only [hinB, hin, hins, LM, vcOps, stepO, val, vals, lk, put, putO, opn, opns, ok1, oks, okp, pickV, nbeq, nble, Nat.reduceBEq, Nat.reduceLeDiff, Int.reduceLE, Int.reduceLT, Int.reduceToNat, ofV, leafS, scs, SV.sc, SV.cells, nx, loadC, Nat.reduceAdd, Nat.reduceSub, Nat.reduceMul, upd, bin, binS, binB, eqA, aggOf, leavesV, eqV, eqL, un1, cnv, bnd, slO, lenV, lenT, mkF, callO, bltO, lenO, appO, srcO, notI, jkE, jkS, SV.jk, SV.jks, Box.jk, buildO, fillO, bslO, elemsO, SV.toD, SV.toDs, SV.owns, SV.ownss, D.cells, gVal, offE, offS, Int.cast_ofNat_Int, reduceCtorEq, D.fits, dscs, Option.isSome_some]) (by simp only [sameD, newS, lk, nbeq, Nat.reduceBEq, cond_false, cond_true, Option.isNone_none, and_self, true_and, and_true]) (hc) ?_
  simp only [LM, vcOps, stepO, val, vals, lk, put, putO, opn, opns, ok1, oks, okp, pickV, nbeq, nble, Nat.reduceBEq, Nat.reduceLeDiff, Int.reduceLE, Int.reduceLT, Int.reduceToNat, ofV, leafS, scs, SV.sc, SV.cells, nx, loadC, Nat.reduceAdd, Nat.reduceSub, Nat.reduceMul, upd, bin, binS, binB, eqA, aggOf, leavesV, eqV, eqL, un1, cnv, bnd, slO, lenV, lenT, mkF, callO, bltO, lenO, appO, srcO, notI, jkE, jkS, SV.jk, SV.jks, Box.jk, buildO, fillO, bslO, elemsO, SV.toD, SV.toDs, SV.owns, SV.ownss, D.cells, gVal, offE, offS, Int.cast_ofNat_Int, reduceCtorEq, D.fits, dscs, XTS, mrg, rowsOf, inX, jkS, ]
  (try (refine hK' _ _ ?_; clear hK'; clear K'))
  repeat' (first
    | (with_reducible first
       | refine swp_seq ?_ | refine swp_block ?_ | refine swp_skip ?_ | refine swp_ret ?_ | refine swp_exit ?_ | refine swp_label ?_
       | refine kseq_n ?_ | refine kseq_x ?_ | refine kseq_r ?_ | refine kblk_n ?_ | refine kblk_r ?_ | refine kblk_xs ?_ | refine kloop_x ?_ | refine kloop_r ?_)
    | (with_reducible refine kblk_xn ?_ ?_
       · rfl)
    | (with_reducible refine swp_regionP ?_ ?_ (fun K' hK' => ?_)
       · rfl
       · rfl
       simp only [LM, vcOps, stepO, val, vals, lk, put, putO, opn, opns, ok1, oks, okp, pickV, nbeq, nble, Nat.reduceBEq, Nat.reduceLeDiff, Int.reduceLE, Int.reduceLT, Int.reduceToNat, ofV, leafS, scs, SV.sc, SV.cells, nx, loadC, Nat.reduceAdd, Nat.reduceSub, Nat.reduceMul, upd, bin, binS, binB, eqA, aggOf, leavesV, eqV, eqL, un1, cnv, bnd, slO, lenV, lenT, mkF, callO, bltO, lenO, appO, srcO, notI, jkE, jkS, SV.jk, SV.jks, Box.jk, buildO, fillO, bslO, elemsO, SV.toD, SV.toDs, SV.owns, SV.ownss, D.cells, gVal, offE, offS, Int.cast_ofNat_Int, reduceCtorEq, D.fits, dscs, XTS]
       (repeat (refine And.intro ?_ ?_; focus (clear hK'; intros; simp_all; done)))
       (try (refine hK' _ _ ?_; clear hK'; clear K')))
    | (with_reducible refine swp_cond ?_ ?_
       · rfl
       refine ⟨_, rfl, fun h => ?_, fun h => ?_⟩
       <;> (try (exfalso; exact absurd h (by decide)))))
  simp only [KretS, retL, retOne, oneV, keepS, subS, BoxW, FZs, FZ, offl, LM, vcOps, stepO, val, vals, lk, put, putO, opn, opns, ok1, oks, okp, pickV, nbeq, nble, Nat.reduceBEq, Nat.reduceLeDiff, Int.reduceLE, Int.reduceLT, Int.reduceToNat, ofV, leafS, scs, SV.sc, SV.cells, nx, loadC, Nat.reduceAdd, Nat.reduceSub, Nat.reduceMul, upd, bin, binS, binB, eqA, aggOf, leavesV, eqV, eqL, un1, cnv, bnd, slO, lenV, lenT, mkF, callO, bltO, lenO, appO, srcO, notI, jkE, jkS, SV.jk, SV.jks, Box.jk, buildO, fillO, bslO, elemsO, SV.toD, SV.toDs, SV.owns, SV.ownss, D.cells, gVal, offE, offS, Int.cast_ofNat_Int, reduceCtorEq, D.fits, dscs, XTS, Option.isSome_some, h0]
  rw [← idxF_any p env 0]
end Go.Proofs.YtiobdkibbhpojaaDoor
