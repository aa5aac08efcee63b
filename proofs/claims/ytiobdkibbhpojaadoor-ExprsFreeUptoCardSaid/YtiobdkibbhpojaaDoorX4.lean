/- exprs.eval by a symbolic walk. -/
import Derived.Test.YtiobdkibbhpojaaDoorX1
set_option linter.unusedVariables false
set_option linter.unusedSimpArgs false
namespace Go.Proofs.YtiobdkibbhpojaaDoor
open Go.RowKit Go.Sw

def truthV (b : Bool) : Va := ⟨2, if b then 1 else 0, ⟨#[]⟩⟩
/-- An operator of one part. -/
def ev1 (l : List UInt8) (a : Va) : Va := if l = [110, 111, 116] then truthV (a.n == 0) else if l = [35] then ⟨1, Lib.runeCount a.s, ⟨#[]⟩⟩ else ⟨1, wrap64 (-a.n), ⟨#[]⟩⟩
def sameV (a b : Va) : Bool := a.t == b.t && a.n == b.n && a.s.toList == b.s.toList
def ordV (a b : Va) : Int := ordN (vcheck a.t a.n a.s) (vcheck b.t b.n b.s) (vord a.t a.n a.s b.t b.n b.s)
def ordVE (a b : Va) : Int := ordE (vcheck a.t a.n a.s) (vcheck b.t b.n b.s)
def joinV (a b : Va) : Va := if textE [a, b] = 0 then ⟨3, 0, strL (cutS (a.s ++ b.s).data.toList)⟩ else ⟨0, 0, ⟨#[]⟩⟩
/-- An operator of two parts. -/
def ev2 (l : List UInt8) (a b : Va) : Va :=
  if l = [111, 114] then truthV (decide (0 < wrap64 (a.n + b.n)))
  else if l = [97, 110, 100] then truthV (wrap64 (a.n + b.n) == 2)
  else if l = [61, 61] then truthV (sameV a b)
  else if l = [60] ∨ l = [60, 61] then truthV (decide (ordV a b < 0) || (ordV a b == 0 && l == [60, 61]))
  else if l = [43, 43] then joinV a b else ⟨1, reckonL l a.n b.n, ⟨#[]⟩⟩

theorem truth_fn (b : Bool) : DFn Tryd.prog Γ0 77 [.v (.bool b)] (vD (truthV b)) := dfn_of (by kernel_rfl) rfl rfl fun w _ => truth_any b w
theorem reckon_fn (s : ByteArray) (a b : Int) : DFn Tryd.prog Γ0 78 [sD s, iD a, iD b] (iD (reckonL s.toList a b)) := dfn_of (by kernel_rfl) rfl rfl fun w _ => (reckon_any s a b w).mono fun e w' ⟨h1, h2⟩ => ⟨h1, h2 ▸ Below.refl _ _⟩
abbrev envD (l : List Bd) : D := .slc (l.map bDf)

set_option maxHeartbeats 4000000 in
set_option maxRecDepth 100000 in
theorem eval_lit (env : List Bd) (nm : ByteArray) (t n : Int) (s : ByteArray) (l : List Ex) : DFn Tryd.prog Γ0 47 [(Ex.mk 1 nm t n s l).d, envD env] (vD ⟨t, n, s⟩) := by
  unfold Ex.d
  refine fn_of_swp (N := 130) Tryd.func47 rfl (by decide) rfl rfl (by simp) (fun C h0 => ?_)
  simp only [argE]
  repeat' (first
    | (with_reducible first
       | refine swp_seq ?_ | refine swp_block ?_ | refine swp_skip ?_ | refine swp_ret ?_ | refine swp_exit ?_ | refine swp_label ?_
       | refine kseq_n ?_ | refine kseq_x ?_ | refine kseq_r ?_ | refine kblk_n ?_ | refine kblk_r ?_ | refine kblk_xs ?_ | refine kloop_x ?_ | refine kloop_r ?_)
    | (with_reducible refine kblk_xn ?_ ?_
       · rfl)
    | (with_reducible refine swp_regionP ?_ ?_ (fun K' hK' => ?_)
       · rfl
       · rfl
       simp only [LM, vcOps, stepO, val, vals, lk, put, putO, opn, opns, ok1, oks, okp, pickV, nbeq, nble, Nat.reduceBEq, Nat.reduceLeDiff, Int.reduceLE, Int.reduceLT, Int.reduceToNat, ofV, leafS, scs, SV.sc, SV.cells, nx, loadC, Nat.reduceAdd, Nat.reduceSub, Nat.reduceMul, upd, bin, binS, binB, eqA, aggOf, leavesV, eqV, eqL, un1, cnv, bnd, slO, lenV, lenT, mkF, callO, bltO, lenO, appO, srcO, notI, jkE, jkS, SV.jk, SV.jks, Box.jk, buildO, fillO, bslO, elemsO, SV.toD, SV.toDs, SV.owns, SV.ownss, D.cells, gVal, offE, offS, Int.cast_ofNat_Int, reduceCtorEq, D.fits, dscs, XTS]
       (repeat (refine And.intro ?_ ?_; focus (clear hK'; intros; simp_all; done)))
       (try (refine hK' _ _ ?_; clear hK'; clear K')))
    | (with_reducible refine swp_cond ?_ ?_
       · rfl
       refine ⟨_, rfl, fun h => ?_, fun h => ?_⟩
       <;> (try (exfalso; exact absurd h (by decide)))))
  all_goals simp only [Kret, retL, retOne, oneV, LM, vcOps, stepO, val, vals, lk, put, putO, opn, opns, ok1, oks, okp, pickV, nbeq, nble, Nat.reduceBEq, Nat.reduceLeDiff, Int.reduceLE, Int.reduceLT, Int.reduceToNat, ofV, leafS, scs, SV.sc, SV.cells, nx, loadC, Nat.reduceAdd, Nat.reduceSub, Nat.reduceMul, upd, bin, binS, binB, eqA, aggOf, leavesV, eqV, eqL, un1, cnv, bnd, slO, lenV, lenT, mkF, callO, bltO, lenO, appO, srcO, notI, jkE, jkS, SV.jk, SV.jks, Box.jk, buildO, fillO, bslO, elemsO, SV.toD, SV.toDs, SV.owns, SV.ownss, D.cells, gVal, offE, offS, Int.cast_ofNat_Int, reduceCtorEq, D.fits, dscs, XTS]

set_option maxHeartbeats 4000000 in
set_option maxRecDepth 100000 in
theorem eval_one (env : List Bd) (k : Int) (nm : ByteArray) (t n : Int) (s : ByteArray) (y : Ex) (v : Va) (hk1 : k ≠ 1) (hk2 : k ≠ 2) (hs : v.s.size < 9223372036854775807) (hy : DFn Tryd.prog Γ0 47 [y.d, envD env] (vD v)) :
    DFn Tryd.prog Γ0 47 [(Ex.mk k nm t n s [y]).d, envD env] (vD (ev1 nm.toList v)) := by
  have kk1 : (k == 1) = false := by simpa using hk1
  have kk2 : (k == 2) = false := by simpa using hk2
  obtain ⟨k', nm', t', n', s', l'⟩ := y
  unfold Ex.d Ex.ds Ex.ds
  simp only [Ex.d] at hy ⊢
  refine fn_of_swp (N := 130) Tryd.func47 rfl (by decide) rfl rfl (by simp) (fun C h0 => ?_)
  simp only [argE]
  repeat' (first
    | (with_reducible first
       | refine swp_seq ?_ | refine swp_block ?_ | refine swp_skip ?_ | refine swp_ret ?_ | refine swp_exit ?_ | refine swp_label ?_
       | refine kseq_n ?_ | refine kseq_x ?_ | refine kseq_r ?_ | refine kblk_n ?_ | refine kblk_r ?_ | refine kblk_xs ?_ | refine kloop_x ?_ | refine kloop_r ?_)
    | (with_reducible refine kblk_xn ?_ ?_
       · rfl)
    | (with_reducible refine swp_regionP ?_ ?_ (fun K' hK' => ?_)
       · rfl
       · rfl
       simp only [LM, vcOps, stepO, val, vals, lk, put, putO, opn, opns, ok1, oks, okp, pickV, nbeq, nble, Nat.reduceBEq, Nat.reduceLeDiff, Int.reduceLE, Int.reduceLT, Int.reduceToNat, ofV, leafS, scs, SV.sc, SV.cells, nx, loadC, Nat.reduceAdd, Nat.reduceSub, Nat.reduceMul, upd, bin, binS, binB, eqA, aggOf, leavesV, eqV, eqL, un1, cnv, bnd, slO, lenV, lenT, mkF, callO, bltO, lenO, appO, srcO, notI, jkE, jkS, SV.jk, SV.jks, Box.jk, buildO, fillO, bslO, elemsO, SV.toD, SV.toDs, SV.owns, SV.ownss, D.cells, gVal, offE, offS, Int.cast_ofNat_Int, reduceCtorEq, D.fits, dscs, XTS, kk1, kk2, List.getD_cons_zero, Int.natCast_one]
       (repeat (refine And.intro ?_ ?_; focus (clear hK'; intros; simp_all; done)))
       (try (refine hK' _ _ ?_; clear hK'; clear K')))
    | (with_reducible refine swp_cond ?_ ?_
       · rfl
       refine ⟨_, rfl, fun h => ?_, fun h => ?_⟩
       <;> (try (exfalso; exact absurd h (by decide)))))
  refine stop_call h0 rfl (by simp only [LM, vcOps, stepO, val, vals, lk, put, putO, opn, opns, ok1, oks, okp, pickV, nbeq, nble, Nat.reduceBEq, Nat.reduceLeDiff, Int.reduceLE, Int.reduceLT, Int.reduceToNat, ofV, leafS, scs, SV.sc, SV.cells, nx, loadC, Nat.reduceAdd, Nat.reduceSub, Nat.reduceMul, upd, bin, binS, binB, eqA, aggOf, leavesV, eqV, eqL, un1, cnv, bnd, slO, lenV, lenT, mkF, callO, bltO, lenO, appO, srcO, notI, jkE, jkS, SV.jk, SV.jks, Box.jk, buildO, fillO, bslO, elemsO, SV.toD, SV.toDs, SV.owns, SV.ownss, D.cells, gVal, offE, offS, Int.cast_ofNat_Int, reduceCtorEq, D.fits, dscs]) rfl (by simp only [keepS, LM, vcOps, stepO, val, vals, lk, put, putO, opn, opns, ok1, oks, okp, pickV, nbeq, nble, Nat.reduceBEq, Nat.reduceLeDiff, Int.reduceLE, Int.reduceLT, Int.reduceToNat, ofV, leafS, scs, SV.sc, SV.cells, nx, loadC, Nat.reduceAdd, Nat.reduceSub, Nat.reduceMul, upd, bin, binS, binB, eqA, aggOf, leavesV, eqV, eqL, un1, cnv, bnd, slO, lenV, lenT, mkF, callO, bltO, lenO, appO, srcO, notI, jkE, jkS, SV.jk, SV.jks, Box.jk, buildO, fillO, bslO, elemsO, SV.toD, SV.toDs, SV.owns, SV.ownss, D.cells, gVal, offE, offS, Int.cast_ofNat_Int, reduceCtorEq, D.fits, dscs]) (hy) ?_
  simp only [LM, vcOps, stepO, val, vals, lk, put, putO, opn, opns, ok1, oks, okp, pickV, nbeq, nble, Nat.reduceBEq, Nat.reduceLeDiff, Int.reduceLE, Int.reduceLT, Int.reduceToNat, ofV, leafS, scs, SV.sc, SV.cells, nx, loadC, Nat.reduceAdd, Nat.reduceSub, Nat.reduceMul, upd, bin, binS, binB, eqA, aggOf, leavesV, eqV, eqL, un1, cnv, bnd, slO, lenV, lenT, mkF, callO, bltO, lenO, appO, srcO, notI, jkE, jkS, SV.jk, SV.jks, Box.jk, buildO, fillO, bslO, elemsO, SV.toD, SV.toDs, SV.owns, SV.ownss, D.cells, gVal, offE, offS, Int.cast_ofNat_Int, reduceCtorEq, D.fits, dscs, XTS, inX, dropS, ]
  (repeat (refine And.intro ?_ ?_; focus (clear hK'; intros; simp_all; done)))
  (try (refine hK' _ _ ?_; clear hK'; clear K'))
  repeat' (first
    | (with_reducible first
       | refine swp_seq ?_ | refine swp_block ?_ | refine swp_skip ?_ | refine swp_ret ?_ | refine swp_exit ?_ | refine swp_label ?_
       | refine kseq_n ?_ | refine kseq_x ?_ | refine kseq_r ?_ | refine kblk_n ?_ | refine kblk_r ?_ | refine kblk_xs ?_ | refine kloop_x ?_ | refine kloop_r ?_)
    | (with_reducible refine kblk_xn ?_ ?_
       · rfl)
    | (with_reducible refine swp_regionP ?_ ?_ (fun K' hK' => ?_)
       · rfl
       · rfl
       simp only [LM, vcOps, stepO, val, vals, lk, put, putO, opn, opns, ok1, oks, okp, pickV, nbeq, nble, Nat.reduceBEq, Nat.reduceLeDiff, Int.reduceLE, Int.reduceLT, Int.reduceToNat, ofV, leafS, scs, SV.sc, SV.cells, nx, loadC, Nat.reduceAdd, Nat.reduceSub, Nat.reduceMul, upd, bin, binS, binB, eqA, aggOf, leavesV, eqV, eqL, un1, cnv, bnd, slO, lenV, lenT, mkF, callO, bltO, lenO, appO, srcO, notI, jkE, jkS, SV.jk, SV.jks, Box.jk, buildO, fillO, bslO, elemsO, SV.toD, SV.toDs, SV.owns, SV.ownss, D.cells, gVal, offE, offS, Int.cast_ofNat_Int, reduceCtorEq, D.fits, dscs, XTS]
       (repeat (refine And.intro ?_ ?_; focus (clear hK'; intros; simp_all; done)))
       (try (refine hK' _ _ ?_; clear hK'; clear K')))
    | (with_reducible refine swp_cond ?_ ?_
       · rfl
       refine ⟨_, rfl, fun h => ?_, fun h => ?_⟩
       <;> (try (exfalso; exact absurd h (by decide)))))
  · refine stop_call h0 rfl (by simp only [LM, vcOps, stepO, val, vals, lk, put, putO, opn, opns, ok1, oks, okp, pickV, nbeq, nble, Nat.reduceBEq, Nat.reduceLeDiff, Int.reduceLE, Int.reduceLT, Int.reduceToNat, ofV, leafS, scs, SV.sc, SV.cells, nx, loadC, Nat.reduceAdd, Nat.reduceSub, Nat.reduceMul, upd, bin, binS, binB, eqA, aggOf, leavesV, eqV, eqL, un1, cnv, bnd, slO, lenV, lenT, mkF, callO, bltO, lenO, appO, srcO, notI, jkE, jkS, SV.jk, SV.jks, Box.jk, buildO, fillO, bslO, elemsO, SV.toD, SV.toDs, SV.owns, SV.ownss, D.cells, gVal, offE, offS, Int.cast_ofNat_Int, reduceCtorEq, D.fits, dscs]) rfl (by simp only [keepS, LM, vcOps, stepO, val, vals, lk, put, putO, opn, opns, ok1, oks, okp, pickV, nbeq, nble, Nat.reduceBEq, Nat.reduceLeDiff, Int.reduceLE, Int.reduceLT, Int.reduceToNat, ofV, leafS, scs, SV.sc, SV.cells, nx, loadC, Nat.reduceAdd, Nat.reduceSub, Nat.reduceMul, upd, bin, binS, binB, eqA, aggOf, leavesV, eqV, eqL, un1, cnv, bnd, slO, lenV, lenT, mkF, callO, bltO, lenO, appO, srcO, notI, jkE, jkS, SV.jk, SV.jks, Box.jk, buildO, fillO, bslO, elemsO, SV.toD, SV.toDs, SV.owns, SV.ownss, D.cells, gVal, offE, offS, Int.cast_ofNat_Int, reduceCtorEq, D.fits, dscs]) (truth_fn (v.n == 0)) ?_
    simp only [LM, vcOps, stepO, val, vals, lk, put, putO, opn, opns, ok1, oks, okp, pickV, nbeq, nble, Nat.reduceBEq, Nat.reduceLeDiff, Int.reduceLE, Int.reduceLT, Int.reduceToNat, ofV, leafS, scs, SV.sc, SV.cells, nx, loadC, Nat.reduceAdd, Nat.reduceSub, Nat.reduceMul, upd, bin, binS, binB, eqA, aggOf, leavesV, eqV, eqL, un1, cnv, bnd, slO, lenV, lenT, mkF, callO, bltO, lenO, appO, srcO, notI, jkE, jkS, SV.jk, SV.jks, Box.jk, buildO, fillO, bslO, elemsO, SV.toD, SV.toDs, SV.owns, SV.ownss, D.cells, gVal, offE, offS, Int.cast_ofNat_Int, reduceCtorEq, D.fits, dscs, XTS, inX, dropS, ]
    (repeat (refine And.intro ?_ ?_; focus (clear hK'; intros; simp_all; done)))
    (try (refine hK' _ _ ?_; clear hK'; clear K'))
    repeat' (first
      | (with_reducible first
         | refine swp_seq ?_ | refine swp_block ?_ | refine swp_skip ?_ | refine swp_ret ?_ | refine swp_exit ?_ | refine swp_label ?_
         | refine kseq_n ?_ | refine kseq_x ?_ | refine kseq_r ?_ | refine kblk_n ?_ | refine kblk_r ?_ | refine kblk_xs ?_ | refine kloop_x ?_ | refine kloop_r ?_)
      | (with_reducible refine kblk_xn ?_ ?_
         · rfl)
      | (with_reducible refine swp_regionP ?_ ?_ (fun K' hK' => ?_)
         · rfl
         · rfl
         simp only [LM, vcOps, stepO, val, vals, lk, put, putO, opn, opns, ok1, oks, okp, pickV, nbeq, nble, Nat.reduceBEq, Nat.reduceLeDiff, Int.reduceLE, Int.reduceLT, Int.reduceToNat, ofV, leafS, scs, SV.sc, SV.cells, nx, loadC, Nat.reduceAdd, Nat.reduceSub, Nat.reduceMul, upd, bin, binS, binB, eqA, aggOf, leavesV, eqV, eqL, un1, cnv, bnd, slO, lenV, lenT, mkF, callO, bltO, lenO, appO, srcO, notI, jkE, jkS, SV.jk, SV.jks, Box.jk, buildO, fillO, bslO, elemsO, SV.toD, SV.toDs, SV.owns, SV.ownss, D.cells, gVal, offE, offS, Int.cast_ofNat_Int, reduceCtorEq, D.fits, dscs, XTS]
         (repeat (refine And.intro ?_ ?_; focus (clear hK'; intros; simp_all; done)))
         (try (refine hK' _ _ ?_; clear hK'; clear K')))
      | (with_reducible refine swp_cond ?_ ?_
         · rfl
         refine ⟨_, rfl, fun h => ?_, fun h => ?_⟩
         <;> (try (exfalso; exact absurd h (by decide)))))
    simp only [Kret, retL, retOne, oneV, LM, vcOps, stepO, val, vals, lk, put, putO, opn, opns, ok1, oks, okp, pickV, nbeq, nble, Nat.reduceBEq, Nat.reduceLeDiff, Int.reduceLE, Int.reduceLT, Int.reduceToNat, ofV, leafS, scs, SV.sc, SV.cells, nx, loadC, Nat.reduceAdd, Nat.reduceSub, Nat.reduceMul, upd, bin, binS, binB, eqA, aggOf, leavesV, eqV, eqL, un1, cnv, bnd, slO, lenV, lenT, mkF, callO, bltO, lenO, appO, srcO, notI, jkE, jkS, SV.jk, SV.jks, Box.jk, buildO, fillO, bslO, elemsO, SV.toD, SV.toDs, SV.owns, SV.ownss, D.cells, gVal, offE, offS, Int.cast_ofNat_Int, reduceCtorEq, D.fits, dscs, XTS]
    simp_all [ev1]
  · refine stop_call h0 rfl (by simp only [LM, vcOps, stepO, val, vals, lk, put, putO, opn, opns, ok1, oks, okp, pickV, nbeq, nble, Nat.reduceBEq, Nat.reduceLeDiff, Int.reduceLE, Int.reduceLT, Int.reduceToNat, ofV, leafS, scs, SV.sc, SV.cells, nx, loadC, Nat.reduceAdd, Nat.reduceSub, Nat.reduceMul, upd, bin, binS, binB, eqA, aggOf, leavesV, eqV, eqL, un1, cnv, bnd, slO, lenV, lenT, mkF, callO, bltO, lenO, appO, srcO, notI, jkE, jkS, SV.jk, SV.jks, Box.jk, buildO, fillO, bslO, elemsO, SV.toD, SV.toDs, SV.owns, SV.ownss, D.cells, gVal, offE, offS, Int.cast_ofNat_Int, reduceCtorEq, D.fits, dscs]) rfl (by simp only [keepS, LM, vcOps, stepO, val, vals, lk, put, putO, opn, opns, ok1, oks, okp, pickV, nbeq, nble, Nat.reduceBEq, Nat.reduceLeDiff, Int.reduceLE, Int.reduceLT, Int.reduceToNat, ofV, leafS, scs, SV.sc, SV.cells, nx, loadC, Nat.reduceAdd, Nat.reduceSub, Nat.reduceMul, upd, bin, binS, binB, eqA, aggOf, leavesV, eqV, eqL, un1, cnv, bnd, slO, lenV, lenT, mkF, callO, bltO, lenO, appO, srcO, notI, jkE, jkS, SV.jk, SV.jks, Box.jk, buildO, fillO, bslO, elemsO, SV.toD, SV.toDs, SV.owns, SV.ownss, D.cells, gVal, offE, offS, Int.cast_ofNat_Int, reduceCtorEq, D.fits, dscs]) (count_fn v.s hs) ?_
    simp only [LM, vcOps, stepO, val, vals, lk, put, putO, opn, opns, ok1, oks, okp, pickV, nbeq, nble, Nat.reduceBEq, Nat.reduceLeDiff, Int.reduceLE, Int.reduceLT, Int.reduceToNat, ofV, leafS, scs, SV.sc, SV.cells, nx, loadC, Nat.reduceAdd, Nat.reduceSub, Nat.reduceMul, upd, bin, binS, binB, eqA, aggOf, leavesV, eqV, eqL, un1, cnv, bnd, slO, lenV, lenT, mkF, callO, bltO, lenO, appO, srcO, notI, jkE, jkS, SV.jk, SV.jks, Box.jk, buildO, fillO, bslO, elemsO, SV.toD, SV.toDs, SV.owns, SV.ownss, D.cells, gVal, offE, offS, Int.cast_ofNat_Int, reduceCtorEq, D.fits, dscs, XTS, inX, dropS, ]
    (repeat (refine And.intro ?_ ?_; focus (clear hK'; intros; simp_all; done)))
    (try (refine hK' _ _ ?_; clear hK'; clear K'))
    repeat' (first
      | (with_reducible first
         | refine swp_seq ?_ | refine swp_block ?_ | refine swp_skip ?_ | refine swp_ret ?_ | refine swp_exit ?_ | refine swp_label ?_
         | refine kseq_n ?_ | refine kseq_x ?_ | refine kseq_r ?_ | refine kblk_n ?_ | refine kblk_r ?_ | refine kblk_xs ?_ | refine kloop_x ?_ | refine kloop_r ?_)
      | (with_reducible refine kblk_xn ?_ ?_
         · rfl)
      | (with_reducible refine swp_regionP ?_ ?_ (fun K' hK' => ?_)
         · rfl
         · rfl
         simp only [LM, vcOps, stepO, val, vals, lk, put, putO, opn, opns, ok1, oks, okp, pickV, nbeq, nble, Nat.reduceBEq, Nat.reduceLeDiff, Int.reduceLE, Int.reduceLT, Int.reduceToNat, ofV, leafS, scs, SV.sc, SV.cells, nx, loadC, Nat.reduceAdd, Nat.reduceSub, Nat.reduceMul, upd, bin, binS, binB, eqA, aggOf, leavesV, eqV, eqL, un1, cnv, bnd, slO, lenV, lenT, mkF, callO, bltO, lenO, appO, srcO, notI, jkE, jkS, SV.jk, SV.jks, Box.jk, buildO, fillO, bslO, elemsO, SV.toD, SV.toDs, SV.owns, SV.ownss, D.cells, gVal, offE, offS, Int.cast_ofNat_Int, reduceCtorEq, D.fits, dscs, XTS]
         (repeat (refine And.intro ?_ ?_; focus (clear hK'; intros; simp_all; done)))
         (try (refine hK' _ _ ?_; clear hK'; clear K')))
      | (with_reducible refine swp_cond ?_ ?_
         · rfl
         refine ⟨_, rfl, fun h => ?_, fun h => ?_⟩
         <;> (try (exfalso; exact absurd h (by decide)))))
    simp only [Kret, retL, retOne, oneV, LM, vcOps, stepO, val, vals, lk, put, putO, opn, opns, ok1, oks, okp, pickV, nbeq, nble, Nat.reduceBEq, Nat.reduceLeDiff, Int.reduceLE, Int.reduceLT, Int.reduceToNat, ofV, leafS, scs, SV.sc, SV.cells, nx, loadC, Nat.reduceAdd, Nat.reduceSub, Nat.reduceMul, upd, bin, binS, binB, eqA, aggOf, leavesV, eqV, eqL, un1, cnv, bnd, slO, lenV, lenT, mkF, callO, bltO, lenO, appO, srcO, notI, jkE, jkS, SV.jk, SV.jks, Box.jk, buildO, fillO, bslO, elemsO, SV.toD, SV.toDs, SV.owns, SV.ownss, D.cells, gVal, offE, offS, Int.cast_ofNat_Int, reduceCtorEq, D.fits, dscs, XTS]
    simp_all [ev1]
  · simp only [Kret, retL, retOne, oneV, LM, vcOps, stepO, val, vals, lk, put, putO, opn, opns, ok1, oks, okp, pickV, nbeq, nble, Nat.reduceBEq, Nat.reduceLeDiff, Int.reduceLE, Int.reduceLT, Int.reduceToNat, ofV, leafS, scs, SV.sc, SV.cells, nx, loadC, Nat.reduceAdd, Nat.reduceSub, Nat.reduceMul, upd, bin, binS, binB, eqA, aggOf, leavesV, eqV, eqL, un1, cnv, bnd, slO, lenV, lenT, mkF, callO, bltO, lenO, appO, srcO, notI, jkE, jkS, SV.jk, SV.jks, Box.jk, buildO, fillO, bslO, elemsO, SV.toD, SV.toDs, SV.owns, SV.ownss, D.cells, gVal, offE, offS, Int.cast_ofNat_Int, reduceCtorEq, D.fits, dscs, XTS]
    simp_all [ev1, IntKind.wrap_i64, wrap64]

/-- what text lets by. -/
theorem text_one {t n : Int} {s : ByteArray} (h : textE [⟨t, n, s⟩] = 0) : t = 3 ∧ n = 0 ∧ s.size ≤ 100 ∧ Lib.validD s.data.toList = true := by
  simp only [textE, Va.bad, vcheck] at h
  (repeat' split at h) <;> simp_all <;> omega
theorem text_of {s : ByteArray} (h1 : s.size ≤ 100) (h2 : Lib.validD s.data.toList = true) : textE [⟨3, 0, s⟩] = 0 := by
  have : ¬ (100 : Int) < (s.size : Int) := by omega
  simp [textE, Va.bad, vcheck, h2, this]
theorem text_two {u v : Va} : textE [u, v] = if textE [u] ≠ 0 then textE [u] else textE [v] := by
  simp only [textE]
  (repeat' split) <;> simp_all

/-- the letters of a text. -/
theorem text_out {s : ByteArray} (h : Lib.validD s.data.toList = true) : ∃ cs : List Nat, (∀ c ∈ cs, Utf.good c) ∧ s = strL (Utf.encs cs) := by
  obtain ⟨cs, h1, h2⟩ := Utf.valid_out _ h
  exact ⟨cs, h1, strL_eq h2⟩
theorem text_in {cs : List Nat} (hg : ∀ c ∈ cs, Utf.good c) : Lib.validD (strL (Utf.encs cs)).data.toList = true := by
  rw [strL_list]; exact Utf.valid_encs cs hg
theorem strL_size (l : List UInt8) : (strL l).size = l.length := by rw [← Utf.sizeL, strL_list]
theorem strL_app (a b : List UInt8) : strL a ++ strL b = strL (a ++ b) := strL_eq (by simp [strL_list])

theorem first_start (a b : List Nat) (ha : ∀ c ∈ a, Utf.good c) (hb : ∀ c ∈ b, Utf.good c) (h : 0 < (Utf.encs (a ++ b)).length) : Utf.startB ((Utf.encs (a ++ b)).getD 0 0) = true := by
  refine Utf.start_first (a ++ b) (fun c hc => by rcases List.mem_append.1 hc with h | h; exact ha c h; exact hb c h) _ ?_
  rw [List.getElem?_eq_getElem h]
  simp [List.getD, h]
theorem joined_fn (a b : Va) : DFn Tryd.prog Γ0 15 [vD a, vD b] (.tup [vD (joinV a b), iD (textE [a, b])]) := by
  refine dfn_of (by kernel_rfl) rfl rfl fun w ht => ?_
  obtain ⟨t, n, s⟩ := a
  obtain ⟨t', n', s'⟩ := b
  by_cases h : textE [⟨t, n, s⟩, ⟨t', n', s'⟩] = 0
  · have h2 := h
    rw [text_two] at h2
    have h1 : textE [⟨t, n, s⟩] = 0 := by by_cases h3 : textE [⟨t, n, s⟩] = 0 <;> simp_all
    rw [h1] at h2
    simp only [ne_eq, not_true_eq_false, if_false] at h2
    obtain ⟨rfl, rfl, l1, v1⟩ := text_one h1
    obtain ⟨rfl, rfl, l2, v2⟩ := text_one h2
    have hj := joined_ok valid_said 3 0 3 0 s s' h l1 l2 (fun hbig => by
      obtain ⟨ca, ga, rfl⟩ := text_out v1
      obtain ⟨cb, gb, rfl⟩ := text_out v2
      have e : (strL (Utf.encs ca) ++ strL (Utf.encs cb)).data.toList = Utf.encs (ca ++ cb) := by rw [strL_app, strL_list, Utf.encs_append]
      rw [e]
      exact first_start ca cb ga gb (by rw [← e, Utf.sizeL]; omega)) w ht
    have e : joinV ⟨3, 0, s⟩ ⟨3, 0, s'⟩ = ⟨3, 0, strL (cutS (s ++ s').data.toList)⟩ := by simp only [joinV, if_pos h]
    rw [e, h]
    exact hj
  · have hj := joined_bad valid_said t n t' n' s s' _ rfl h w ht
    have e : joinV ⟨t, n, s⟩ ⟨t', n', s'⟩ = ⟨0, 0, ⟨#[]⟩⟩ := by simp only [joinV, if_neg h]
    rw [e]
    exact hj

set_option maxHeartbeats 8000000 in
set_option maxRecDepth 100000 in
theorem eval_two (env : List Bd) (k : Int) (nm : ByteArray) (t n : Int) (s : ByteArray) (y z : Ex) (v u : Va) (hk1 : k ≠ 1) (hk2 : k ≠ 2)
    (hy : DFn Tryd.prog Γ0 47 [y.d, envD env] (vD v)) (hz : DFn Tryd.prog Γ0 47 [z.d, envD env] (vD u)) :
    DFn Tryd.prog Γ0 47 [(Ex.mk k nm t n s [y, z]).d, envD env] (vD (ev2 nm.toList v u)) := by
  have kk1 : (k == 1) = false := by simpa using hk1
  have kk2 : (k == 2) = false := by simpa using hk2
  have hord : DFn Tryd.prog Γ0 12 [vD v, vD u] (.tup [iD (ordV v u), iD (ordVE v u)]) := order_fn v u
  have hjn := joined_fn v u
  obtain ⟨k', nm', t', n', s', l'⟩ := y
  obtain ⟨k2, nm2, t2, n2, s2, l2⟩ := z
  unfold Ex.d Ex.ds Ex.ds Ex.ds
  simp only [Ex.d] at hy hz ⊢
  refine fn_of_swp (N := 130) Tryd.func47 rfl (by decide) rfl rfl (by simp) (fun C h0 => ?_)
  simp only [argE]
  repeat' (first
    | (with_reducible first
       | refine swp_seq ?_ | refine swp_block ?_ | refine swp_skip ?_ | refine swp_ret ?_ | refine swp_exit ?_ | refine swp_label ?_
       | refine kseq_n ?_ | refine kseq_x ?_ | refine kseq_r ?_ | refine kblk_n ?_ | refine kblk_r ?_ | refine kblk_xs ?_ | refine kloop_x ?_ | refine kloop_r ?_)
    | (with_reducible refine kblk_xn ?_ ?_
       · rfl)
    | (with_reducible refine swp_regionP ?_ ?_ (fun K' hK' => ?_)
       · rfl
       · rfl
       simp only [LM, vcOps, stepO, val, vals, lk, put, putO, opn, opns, ok1, oks, okp, pickV, nbeq, nble, Nat.reduceBEq, Nat.reduceLeDiff, Int.reduceLE, Int.reduceLT, Int.reduceToNat, ofV, leafS, scs, SV.sc, SV.cells, nx, loadC, Nat.reduceAdd, Nat.reduceSub, Nat.reduceMul, upd, bin, binS, binB, eqA, aggOf, leavesV, eqV, eqL, un1, cnv, bnd, slO, lenV, lenT, mkF, callO, bltO, lenO, appO, srcO, notI, jkE, jkS, SV.jk, SV.jks, Box.jk, buildO, fillO, bslO, elemsO, SV.toD, SV.toDs, SV.owns, SV.ownss, D.cells, gVal, offE, offS, Int.cast_ofNat_Int, reduceCtorEq, D.fits, dscs, XTS, kk1, kk2, List.getD_cons_zero, List.getD_cons_succ, Int.natCast_one]
       (repeat (refine And.intro ?_ ?_; focus (clear hK'; intros; simp_all; done)))
       (try (refine hK' _ _ ?_; clear hK'; clear K')))
    | (with_reducible refine swp_cond ?_ ?_
       · rfl
       refine ⟨_, rfl, fun h => ?_, fun h => ?_⟩
       <;> (try (exfalso; exact absurd h (by decide)))))
  refine stop_call h0 rfl (by simp only [LM, vcOps, stepO, val, vals, lk, put, putO, opn, opns, ok1, oks, okp, pickV, nbeq, nble, Nat.reduceBEq, Nat.reduceLeDiff, Int.reduceLE, Int.reduceLT, Int.reduceToNat, ofV, leafS, scs, SV.sc, SV.cells, nx, loadC, Nat.reduceAdd, Nat.reduceSub, Nat.reduceMul, upd, bin, binS, binB, eqA, aggOf, leavesV, eqV, eqL, un1, cnv, bnd, slO, lenV, lenT, mkF, callO, bltO, lenO, appO, srcO, notI, jkE, jkS, SV.jk, SV.jks, Box.jk, buildO, fillO, bslO, elemsO, SV.toD, SV.toDs, SV.owns, SV.ownss, D.cells, gVal, offE, offS, Int.cast_ofNat_Int, reduceCtorEq, D.fits, dscs]) rfl (by simp only [keepS, LM, vcOps, stepO, val, vals, lk, put, putO, opn, opns, ok1, oks, okp, pickV, nbeq, nble, Nat.reduceBEq, Nat.reduceLeDiff, Int.reduceLE, Int.reduceLT, Int.reduceToNat, ofV, leafS, scs, SV.sc, SV.cells, nx, loadC, Nat.reduceAdd, Nat.reduceSub, Nat.reduceMul, upd, bin, binS, binB, eqA, aggOf, leavesV, eqV, eqL, un1, cnv, bnd, slO, lenV, lenT, mkF, callO, bltO, lenO, appO, srcO, notI, jkE, jkS, SV.jk, SV.jks, Box.jk, buildO, fillO, bslO, elemsO, SV.toD, SV.toDs, SV.owns, SV.ownss, D.cells, gVal, offE, offS, Int.cast_ofNat_Int, reduceCtorEq, D.fits, dscs]) (hy) ?_
  simp only [LM, vcOps, stepO, val, vals, lk, put, putO, opn, opns, ok1, oks, okp, pickV, nbeq, nble, Nat.reduceBEq, Nat.reduceLeDiff, Int.reduceLE, Int.reduceLT, Int.reduceToNat, ofV, leafS, scs, SV.sc, SV.cells, nx, loadC, Nat.reduceAdd, Nat.reduceSub, Nat.reduceMul, upd, bin, binS, binB, eqA, aggOf, leavesV, eqV, eqL, un1, cnv, bnd, slO, lenV, lenT, mkF, callO, bltO, lenO, appO, srcO, notI, jkE, jkS, SV.jk, SV.jks, Box.jk, buildO, fillO, bslO, elemsO, SV.toD, SV.toDs, SV.owns, SV.ownss, D.cells, gVal, offE, offS, Int.cast_ofNat_Int, reduceCtorEq, D.fits, dscs, XTS, inX, dropS, ]
  (repeat (refine And.intro ?_ ?_; focus (clear hK'; intros; simp_all; done)))
  (try (refine hK' _ _ ?_; clear hK'; clear K'))
  repeat' (first
    | (with_reducible first
       | refine swp_seq ?_ | refine swp_block ?_ | refine swp_skip ?_ | refine swp_ret ?_ | refine swp_exit ?_ | refine swp_label ?_
       | refine kseq_n ?_ | refine kseq_x ?_ | refine kseq_r ?_ | refine kblk_n ?_ | refine kblk_r ?_ | refine kblk_xs ?_ | refine kloop_x ?_ | refine kloop_r ?_)
    | (with_reducible refine kblk_xn ?_ ?_
       · rfl)
    | (with_reducible refine swp_regionP ?_ ?_ (fun K' hK' => ?_)
       · rfl
       · rfl
       simp only [LM, vcOps, stepO, val, vals, lk, put, putO, opn, opns, ok1, oks, okp, pickV, nbeq, nble, Nat.reduceBEq, Nat.reduceLeDiff, Int.reduceLE, Int.reduceLT, Int.reduceToNat, ofV, leafS, scs, SV.sc, SV.cells, nx, loadC, Nat.reduceAdd, Nat.reduceSub, Nat.reduceMul, upd, bin, binS, binB, eqA, aggOf, leavesV, eqV, eqL, un1, cnv, bnd, slO, lenV, lenT, mkF, callO, bltO, lenO, appO, srcO, notI, jkE, jkS, SV.jk, SV.jks, Box.jk, buildO, fillO, bslO, elemsO, SV.toD, SV.toDs, SV.owns, SV.ownss, D.cells, gVal, offE, offS, Int.cast_ofNat_Int, reduceCtorEq, D.fits, dscs, XTS, List.getD_cons_zero, List.getD_cons_succ]
       (repeat (refine And.intro ?_ ?_; focus (clear hK'; intros; simp_all; done)))
       (try (refine hK' _ _ ?_; clear hK'; clear K')))
    | (with_reducible refine swp_cond ?_ ?_
       · rfl
       refine ⟨_, rfl, fun h => ?_, fun h => ?_⟩
       <;> (try (exfalso; exact absurd h (by decide)))))
  refine stop_call h0 rfl (by simp only [LM, vcOps, stepO, val, vals, lk, put, putO, opn, opns, ok1, oks, okp, pickV, nbeq, nble, Nat.reduceBEq, Nat.reduceLeDiff, Int.reduceLE, Int.reduceLT, Int.reduceToNat, ofV, leafS, scs, SV.sc, SV.cells, nx, loadC, Nat.reduceAdd, Nat.reduceSub, Nat.reduceMul, upd, bin, binS, binB, eqA, aggOf, leavesV, eqV, eqL, un1, cnv, bnd, slO, lenV, lenT, mkF, callO, bltO, lenO, appO, srcO, notI, jkE, jkS, SV.jk, SV.jks, Box.jk, buildO, fillO, bslO, elemsO, SV.toD, SV.toDs, SV.owns, SV.ownss, D.cells, gVal, offE, offS, Int.cast_ofNat_Int, reduceCtorEq, D.fits, dscs]) rfl (by simp only [keepS, LM, vcOps, stepO, val, vals, lk, put, putO, opn, opns, ok1, oks, okp, pickV, nbeq, nble, Nat.reduceBEq, Nat.reduceLeDiff, Int.reduceLE, Int.reduceLT, Int.reduceToNat, ofV, leafS, scs, SV.sc, SV.cells, nx, loadC, Nat.reduceAdd, Nat.reduceSub, Nat.reduceMul, upd, bin, binS, binB, eqA, aggOf, leavesV, eqV, eqL, un1, cnv, bnd, slO, lenV, lenT, mkF, callO, bltO, lenO, appO, srcO, notI, jkE, jkS, SV.jk, SV.jks, Box.jk, buildO, fillO, bslO, elemsO, SV.toD, SV.toDs, SV.owns, SV.ownss, D.cells, gVal, offE, offS, Int.cast_ofNat_Int, reduceCtorEq, D.fits, dscs]) (hz) ?_
  simp only [LM, vcOps, stepO, val, vals, lk, put, putO, opn, opns, ok1, oks, okp, pickV, nbeq, nble, Nat.reduceBEq, Nat.reduceLeDiff, Int.reduceLE, Int.reduceLT, Int.reduceToNat, ofV, leafS, scs, SV.sc, SV.cells, nx, loadC, Nat.reduceAdd, Nat.reduceSub, Nat.reduceMul, upd, bin, binS, binB, eqA, aggOf, leavesV, eqV, eqL, un1, cnv, bnd, slO, lenV, lenT, mkF, callO, bltO, lenO, appO, srcO, notI, jkE, jkS, SV.jk, SV.jks, Box.jk, buildO, fillO, bslO, elemsO, SV.toD, SV.toDs, SV.owns, SV.ownss, D.cells, gVal, offE, offS, Int.cast_ofNat_Int, reduceCtorEq, D.fits, dscs, XTS, inX, dropS, ]
  (repeat (refine And.intro ?_ ?_; focus (clear hK'; intros; simp_all; done)))
  (try (refine hK' _ _ ?_; clear hK'; clear K'))
  repeat' (first
    | (with_reducible first
       | refine swp_seq ?_ | refine swp_block ?_ | refine swp_skip ?_ | refine swp_ret ?_ | refine swp_exit ?_ | refine swp_label ?_
       | refine kseq_n ?_ | refine kseq_x ?_ | refine kseq_r ?_ | refine kblk_n ?_ | refine kblk_r ?_ | refine kblk_xs ?_ | refine kloop_x ?_ | refine kloop_r ?_)
    | (with_reducible refine kblk_xn ?_ ?_
       · rfl)
    | (with_reducible refine swp_regionP ?_ ?_ (fun K' hK' => ?_)
       · rfl
       · rfl
       simp only [LM, vcOps, stepO, val, vals, lk, put, putO, opn, opns, ok1, oks, okp, pickV, nbeq, nble, Nat.reduceBEq, Nat.reduceLeDiff, Int.reduceLE, Int.reduceLT, Int.reduceToNat, ofV, leafS, scs, SV.sc, SV.cells, nx, loadC, Nat.reduceAdd, Nat.reduceSub, Nat.reduceMul, upd, bin, binS, binB, eqA, aggOf, leavesV, eqV, eqL, un1, cnv, bnd, slO, lenV, lenT, mkF, callO, bltO, lenO, appO, srcO, notI, jkE, jkS, SV.jk, SV.jks, Box.jk, buildO, fillO, bslO, elemsO, SV.toD, SV.toDs, SV.owns, SV.ownss, D.cells, gVal, offE, offS, Int.cast_ofNat_Int, reduceCtorEq, D.fits, dscs, XTS, eqs23]
       (repeat (refine And.intro ?_ ?_; focus (clear hK'; intros; simp_all; done)))
       (try (refine hK' _ _ ?_; clear hK'; clear K')))
    | (with_reducible refine swp_cond ?_ ?_
       · rfl
       refine ⟨_, rfl, fun h => ?_, fun h => ?_⟩
       <;> (try (exfalso; exact absurd h (by decide)))))
  · refine stop_call h0 rfl (by simp only [LM, vcOps, stepO, val, vals, lk, put, putO, opn, opns, ok1, oks, okp, pickV, nbeq, nble, Nat.reduceBEq, Nat.reduceLeDiff, Int.reduceLE, Int.reduceLT, Int.reduceToNat, ofV, leafS, scs, SV.sc, SV.cells, nx, loadC, Nat.reduceAdd, Nat.reduceSub, Nat.reduceMul, upd, bin, binS, binB, eqA, aggOf, leavesV, eqV, eqL, un1, cnv, bnd, slO, lenV, lenT, mkF, callO, bltO, lenO, appO, srcO, notI, jkE, jkS, SV.jk, SV.jks, Box.jk, buildO, fillO, bslO, elemsO, SV.toD, SV.toDs, SV.owns, SV.ownss, D.cells, gVal, offE, offS, Int.cast_ofNat_Int, reduceCtorEq, D.fits, dscs]) rfl (by simp only [keepS, LM, vcOps, stepO, val, vals, lk, put, putO, opn, opns, ok1, oks, okp, pickV, nbeq, nble, Nat.reduceBEq, Nat.reduceLeDiff, Int.reduceLE, Int.reduceLT, Int.reduceToNat, ofV, leafS, scs, SV.sc, SV.cells, nx, loadC, Nat.reduceAdd, Nat.reduceSub, Nat.reduceMul, upd, bin, binS, binB, eqA, aggOf, leavesV, eqV, eqL, un1, cnv, bnd, slO, lenV, lenT, mkF, callO, bltO, lenO, appO, srcO, notI, jkE, jkS, SV.jk, SV.jks, Box.jk, buildO, fillO, bslO, elemsO, SV.toD, SV.toDs, SV.owns, SV.ownss, D.cells, gVal, offE, offS, Int.cast_ofNat_Int, reduceCtorEq, D.fits, dscs]) (truth_fn _) ?_
    simp only [LM, vcOps, stepO, val, vals, lk, put, putO, opn, opns, ok1, oks, okp, pickV, nbeq, nble, Nat.reduceBEq, Nat.reduceLeDiff, Int.reduceLE, Int.reduceLT, Int.reduceToNat, ofV, leafS, scs, SV.sc, SV.cells, nx, loadC, Nat.reduceAdd, Nat.reduceSub, Nat.reduceMul, upd, bin, binS, binB, eqA, aggOf, leavesV, eqV, eqL, un1, cnv, bnd, slO, lenV, lenT, mkF, callO, bltO, lenO, appO, srcO, notI, jkE, jkS, SV.jk, SV.jks, Box.jk, buildO, fillO, bslO, elemsO, SV.toD, SV.toDs, SV.owns, SV.ownss, D.cells, gVal, offE, offS, Int.cast_ofNat_Int, reduceCtorEq, D.fits, dscs, XTS, inX, dropS, ]
    (repeat (refine And.intro ?_ ?_; focus (clear hK'; intros; simp_all; done)))
    (try (refine hK' _ _ ?_; clear hK'; clear K'))
    repeat' (first
      | (with_reducible first
         | refine swp_seq ?_ | refine swp_block ?_ | refine swp_skip ?_ | refine swp_ret ?_ | refine swp_exit ?_ | refine swp_label ?_
         | refine kseq_n ?_ | refine kseq_x ?_ | refine kseq_r ?_ | refine kblk_n ?_ | refine kblk_r ?_ | refine kblk_xs ?_ | refine kloop_x ?_ | refine kloop_r ?_)
      | (with_reducible refine kblk_xn ?_ ?_
         · rfl)
      | (with_reducible refine swp_regionP ?_ ?_ (fun K' hK' => ?_)
         · rfl
         · rfl
         simp only [LM, vcOps, stepO, val, vals, lk, put, putO, opn, opns, ok1, oks, okp, pickV, nbeq, nble, Nat.reduceBEq, Nat.reduceLeDiff, Int.reduceLE, Int.reduceLT, Int.reduceToNat, ofV, leafS, scs, SV.sc, SV.cells, nx, loadC, Nat.reduceAdd, Nat.reduceSub, Nat.reduceMul, upd, bin, binS, binB, eqA, aggOf, leavesV, eqV, eqL, un1, cnv, bnd, slO, lenV, lenT, mkF, callO, bltO, lenO, appO, srcO, notI, jkE, jkS, SV.jk, SV.jks, Box.jk, buildO, fillO, bslO, elemsO, SV.toD, SV.toDs, SV.owns, SV.ownss, D.cells, gVal, offE, offS, Int.cast_ofNat_Int, reduceCtorEq, D.fits, dscs, XTS]
         (repeat (refine And.intro ?_ ?_; focus (clear hK'; intros; simp_all; done)))
         (try (refine hK' _ _ ?_; clear hK'; clear K')))
      | (with_reducible refine swp_cond ?_ ?_
         · rfl
         refine ⟨_, rfl, fun h => ?_, fun h => ?_⟩
         <;> (try (exfalso; exact absurd h (by decide)))))
    simp only [Kret, retL, retOne, oneV, LM, vcOps, stepO, val, vals, lk, put, putO, opn, opns, ok1, oks, okp, pickV, nbeq, nble, Nat.reduceBEq, Nat.reduceLeDiff, Int.reduceLE, Int.reduceLT, Int.reduceToNat, ofV, leafS, scs, SV.sc, SV.cells, nx, loadC, Nat.reduceAdd, Nat.reduceSub, Nat.reduceMul, upd, bin, binS, binB, eqA, aggOf, leavesV, eqV, eqL, un1, cnv, bnd, slO, lenV, lenT, mkF, callO, bltO, lenO, appO, srcO, notI, jkE, jkS, SV.jk, SV.jks, Box.jk, buildO, fillO, bslO, elemsO, SV.toD, SV.toDs, SV.owns, SV.ownss, D.cells, gVal, offE, offS, Int.cast_ofNat_Int, reduceCtorEq, D.fits, dscs, XTS]
    simp_all [ev2, IntKind.wrap_i64, wrap64]
  · refine stop_call h0 rfl (by simp only [LM, vcOps, stepO, val, vals, lk, put, putO, opn, opns, ok1, oks, okp, pickV, nbeq, nble, Nat.reduceBEq, Nat.reduceLeDiff, Int.reduceLE, Int.reduceLT, Int.reduceToNat, ofV, leafS, scs, SV.sc, SV.cells, nx, loadC, Nat.reduceAdd, Nat.reduceSub, Nat.reduceMul, upd, bin, binS, binB, eqA, aggOf, leavesV, eqV, eqL, un1, cnv, bnd, slO, lenV, lenT, mkF, callO, bltO, lenO, appO, srcO, notI, jkE, jkS, SV.jk, SV.jks, Box.jk, buildO, fillO, bslO, elemsO, SV.toD, SV.toDs, SV.owns, SV.ownss, D.cells, gVal, offE, offS, Int.cast_ofNat_Int, reduceCtorEq, D.fits, dscs]) rfl (by simp only [keepS, LM, vcOps, stepO, val, vals, lk, put, putO, opn, opns, ok1, oks, okp, pickV, nbeq, nble, Nat.reduceBEq, Nat.reduceLeDiff, Int.reduceLE, Int.reduceLT, Int.reduceToNat, ofV, leafS, scs, SV.sc, SV.cells, nx, loadC, Nat.reduceAdd, Nat.reduceSub, Nat.reduceMul, upd, bin, binS, binB, eqA, aggOf, leavesV, eqV, eqL, un1, cnv, bnd, slO, lenV, lenT, mkF, callO, bltO, lenO, appO, srcO, notI, jkE, jkS, SV.jk, SV.jks, Box.jk, buildO, fillO, bslO, elemsO, SV.toD, SV.toDs, SV.owns, SV.ownss, D.cells, gVal, offE, offS, Int.cast_ofNat_Int, reduceCtorEq, D.fits, dscs]) (truth_fn _) ?_
    simp only [LM, vcOps, stepO, val, vals, lk, put, putO, opn, opns, ok1, oks, okp, pickV, nbeq, nble, Nat.reduceBEq, Nat.reduceLeDiff, Int.reduceLE, Int.reduceLT, Int.reduceToNat, ofV, leafS, scs, SV.sc, SV.cells, nx, loadC, Nat.reduceAdd, Nat.reduceSub, Nat.reduceMul, upd, bin, binS, binB, eqA, aggOf, leavesV, eqV, eqL, un1, cnv, bnd, slO, lenV, lenT, mkF, callO, bltO, lenO, appO, srcO, notI, jkE, jkS, SV.jk, SV.jks, Box.jk, buildO, fillO, bslO, elemsO, SV.toD, SV.toDs, SV.owns, SV.ownss, D.cells, gVal, offE, offS, Int.cast_ofNat_Int, reduceCtorEq, D.fits, dscs, XTS, inX, dropS, ]
    (repeat (refine And.intro ?_ ?_; focus (clear hK'; intros; simp_all; done)))
    (try (refine hK' _ _ ?_; clear hK'; clear K'))
    repeat' (first
      | (with_reducible first
         | refine swp_seq ?_ | refine swp_block ?_ | refine swp_skip ?_ | refine swp_ret ?_ | refine swp_exit ?_ | refine swp_label ?_
         | refine kseq_n ?_ | refine kseq_x ?_ | refine kseq_r ?_ | refine kblk_n ?_ | refine kblk_r ?_ | refine kblk_xs ?_ | refine kloop_x ?_ | refine kloop_r ?_)
      | (with_reducible refine kblk_xn ?_ ?_
         · rfl)
      | (with_reducible refine swp_regionP ?_ ?_ (fun K' hK' => ?_)
         · rfl
         · rfl
         simp only [LM, vcOps, stepO, val, vals, lk, put, putO, opn, opns, ok1, oks, okp, pickV, nbeq, nble, Nat.reduceBEq, Nat.reduceLeDiff, Int.reduceLE, Int.reduceLT, Int.reduceToNat, ofV, leafS, scs, SV.sc, SV.cells, nx, loadC, Nat.reduceAdd, Nat.reduceSub, Nat.reduceMul, upd, bin, binS, binB, eqA, aggOf, leavesV, eqV, eqL, un1, cnv, bnd, slO, lenV, lenT, mkF, callO, bltO, lenO, appO, srcO, notI, jkE, jkS, SV.jk, SV.jks, Box.jk, buildO, fillO, bslO, elemsO, SV.toD, SV.toDs, SV.owns, SV.ownss, D.cells, gVal, offE, offS, Int.cast_ofNat_Int, reduceCtorEq, D.fits, dscs, XTS]
         (repeat (refine And.intro ?_ ?_; focus (clear hK'; intros; simp_all; done)))
         (try (refine hK' _ _ ?_; clear hK'; clear K')))
      | (with_reducible refine swp_cond ?_ ?_
         · rfl
         refine ⟨_, rfl, fun h => ?_, fun h => ?_⟩
         <;> (try (exfalso; exact absurd h (by decide)))))
    simp only [Kret, retL, retOne, oneV, LM, vcOps, stepO, val, vals, lk, put, putO, opn, opns, ok1, oks, okp, pickV, nbeq, nble, Nat.reduceBEq, Nat.reduceLeDiff, Int.reduceLE, Int.reduceLT, Int.reduceToNat, ofV, leafS, scs, SV.sc, SV.cells, nx, loadC, Nat.reduceAdd, Nat.reduceSub, Nat.reduceMul, upd, bin, binS, binB, eqA, aggOf, leavesV, eqV, eqL, un1, cnv, bnd, slO, lenV, lenT, mkF, callO, bltO, lenO, appO, srcO, notI, jkE, jkS, SV.jk, SV.jks, Box.jk, buildO, fillO, bslO, elemsO, SV.toD, SV.toDs, SV.owns, SV.ownss, D.cells, gVal, offE, offS, Int.cast_ofNat_Int, reduceCtorEq, D.fits, dscs, XTS]
    simp_all [ev2, IntKind.wrap_i64, wrap64]
  · refine stop_call h0 rfl (by simp only [LM, vcOps, stepO, val, vals, lk, put, putO, opn, opns, ok1, oks, okp, pickV, nbeq, nble, Nat.reduceBEq, Nat.reduceLeDiff, Int.reduceLE, Int.reduceLT, Int.reduceToNat, ofV, leafS, scs, SV.sc, SV.cells, nx, loadC, Nat.reduceAdd, Nat.reduceSub, Nat.reduceMul, upd, bin, binS, binB, eqA, aggOf, leavesV, eqV, eqL, un1, cnv, bnd, slO, lenV, lenT, mkF, callO, bltO, lenO, appO, srcO, notI, jkE, jkS, SV.jk, SV.jks, Box.jk, buildO, fillO, bslO, elemsO, SV.toD, SV.toDs, SV.owns, SV.ownss, D.cells, gVal, offE, offS, Int.cast_ofNat_Int, reduceCtorEq, D.fits, dscs]) rfl (by simp only [keepS, LM, vcOps, stepO, val, vals, lk, put, putO, opn, opns, ok1, oks, okp, pickV, nbeq, nble, Nat.reduceBEq, Nat.reduceLeDiff, Int.reduceLE, Int.reduceLT, Int.reduceToNat, ofV, leafS, scs, SV.sc, SV.cells, nx, loadC, Nat.reduceAdd, Nat.reduceSub, Nat.reduceMul, upd, bin, binS, binB, eqA, aggOf, leavesV, eqV, eqL, un1, cnv, bnd, slO, lenV, lenT, mkF, callO, bltO, lenO, appO, srcO, notI, jkE, jkS, SV.jk, SV.jks, Box.jk, buildO, fillO, bslO, elemsO, SV.toD, SV.toDs, SV.owns, SV.ownss, D.cells, gVal, offE, offS, Int.cast_ofNat_Int, reduceCtorEq, D.fits, dscs]) (truth_fn _) ?_
    simp only [LM, vcOps, stepO, val, vals, lk, put, putO, opn, opns, ok1, oks, okp, pickV, nbeq, nble, Nat.reduceBEq, Nat.reduceLeDiff, Int.reduceLE, Int.reduceLT, Int.reduceToNat, ofV, leafS, scs, SV.sc, SV.cells, nx, loadC, Nat.reduceAdd, Nat.reduceSub, Nat.reduceMul, upd, bin, binS, binB, eqA, aggOf, leavesV, eqV, eqL, un1, cnv, bnd, slO, lenV, lenT, mkF, callO, bltO, lenO, appO, srcO, notI, jkE, jkS, SV.jk, SV.jks, Box.jk, buildO, fillO, bslO, elemsO, SV.toD, SV.toDs, SV.owns, SV.ownss, D.cells, gVal, offE, offS, Int.cast_ofNat_Int, reduceCtorEq, D.fits, dscs, XTS, inX, dropS, ]
    (repeat (refine And.intro ?_ ?_; focus (clear hK'; intros; simp_all; done)))
    (try (refine hK' _ _ ?_; clear hK'; clear K'))
    repeat' (first
      | (with_reducible first
         | refine swp_seq ?_ | refine swp_block ?_ | refine swp_skip ?_ | refine swp_ret ?_ | refine swp_exit ?_ | refine swp_label ?_
         | refine kseq_n ?_ | refine kseq_x ?_ | refine kseq_r ?_ | refine kblk_n ?_ | refine kblk_r ?_ | refine kblk_xs ?_ | refine kloop_x ?_ | refine kloop_r ?_)
      | (with_reducible refine kblk_xn ?_ ?_
         · rfl)
      | (with_reducible refine swp_regionP ?_ ?_ (fun K' hK' => ?_)
         · rfl
         · rfl
         simp only [LM, vcOps, stepO, val, vals, lk, put, putO, opn, opns, ok1, oks, okp, pickV, nbeq, nble, Nat.reduceBEq, Nat.reduceLeDiff, Int.reduceLE, Int.reduceLT, Int.reduceToNat, ofV, leafS, scs, SV.sc, SV.cells, nx, loadC, Nat.reduceAdd, Nat.reduceSub, Nat.reduceMul, upd, bin, binS, binB, eqA, aggOf, leavesV, eqV, eqL, un1, cnv, bnd, slO, lenV, lenT, mkF, callO, bltO, lenO, appO, srcO, notI, jkE, jkS, SV.jk, SV.jks, Box.jk, buildO, fillO, bslO, elemsO, SV.toD, SV.toDs, SV.owns, SV.ownss, D.cells, gVal, offE, offS, Int.cast_ofNat_Int, reduceCtorEq, D.fits, dscs, XTS]
         (repeat (refine And.intro ?_ ?_; focus (clear hK'; intros; simp_all; done)))
         (try (refine hK' _ _ ?_; clear hK'; clear K')))
      | (with_reducible refine swp_cond ?_ ?_
         · rfl
         refine ⟨_, rfl, fun h => ?_, fun h => ?_⟩
         <;> (try (exfalso; exact absurd h (by decide)))))
    simp only [Kret, retL, retOne, oneV, LM, vcOps, stepO, val, vals, lk, put, putO, opn, opns, ok1, oks, okp, pickV, nbeq, nble, Nat.reduceBEq, Nat.reduceLeDiff, Int.reduceLE, Int.reduceLT, Int.reduceToNat, ofV, leafS, scs, SV.sc, SV.cells, nx, loadC, Nat.reduceAdd, Nat.reduceSub, Nat.reduceMul, upd, bin, binS, binB, eqA, aggOf, leavesV, eqV, eqL, un1, cnv, bnd, slO, lenV, lenT, mkF, callO, bltO, lenO, appO, srcO, notI, jkE, jkS, SV.jk, SV.jks, Box.jk, buildO, fillO, bslO, elemsO, SV.toD, SV.toDs, SV.owns, SV.ownss, D.cells, gVal, offE, offS, Int.cast_ofNat_Int, reduceCtorEq, D.fits, dscs, XTS]
    simp_all [ev2, sameV]
  · refine stop_call h0 rfl (by simp only [LM, vcOps, stepO, val, vals, lk, put, putO, opn, opns, ok1, oks, okp, pickV, nbeq, nble, Nat.reduceBEq, Nat.reduceLeDiff, Int.reduceLE, Int.reduceLT, Int.reduceToNat, ofV, leafS, scs, SV.sc, SV.cells, nx, loadC, Nat.reduceAdd, Nat.reduceSub, Nat.reduceMul, upd, bin, binS, binB, eqA, aggOf, leavesV, eqV, eqL, un1, cnv, bnd, slO, lenV, lenT, mkF, callO, bltO, lenO, appO, srcO, notI, jkE, jkS, SV.jk, SV.jks, Box.jk, buildO, fillO, bslO, elemsO, SV.toD, SV.toDs, SV.owns, SV.ownss, D.cells, gVal, offE, offS, Int.cast_ofNat_Int, reduceCtorEq, D.fits, dscs]) rfl (by simp only [keepS, LM, vcOps, stepO, val, vals, lk, put, putO, opn, opns, ok1, oks, okp, pickV, nbeq, nble, Nat.reduceBEq, Nat.reduceLeDiff, Int.reduceLE, Int.reduceLT, Int.reduceToNat, ofV, leafS, scs, SV.sc, SV.cells, nx, loadC, Nat.reduceAdd, Nat.reduceSub, Nat.reduceMul, upd, bin, binS, binB, eqA, aggOf, leavesV, eqV, eqL, un1, cnv, bnd, slO, lenV, lenT, mkF, callO, bltO, lenO, appO, srcO, notI, jkE, jkS, SV.jk, SV.jks, Box.jk, buildO, fillO, bslO, elemsO, SV.toD, SV.toDs, SV.owns, SV.ownss, D.cells, gVal, offE, offS, Int.cast_ofNat_Int, reduceCtorEq, D.fits, dscs]) (hord) ?_
    simp only [LM, vcOps, stepO, val, vals, lk, put, putO, opn, opns, ok1, oks, okp, pickV, nbeq, nble, Nat.reduceBEq, Nat.reduceLeDiff, Int.reduceLE, Int.reduceLT, Int.reduceToNat, ofV, leafS, scs, SV.sc, SV.cells, nx, loadC, Nat.reduceAdd, Nat.reduceSub, Nat.reduceMul, upd, bin, binS, binB, eqA, aggOf, leavesV, eqV, eqL, un1, cnv, bnd, slO, lenV, lenT, mkF, callO, bltO, lenO, appO, srcO, notI, jkE, jkS, SV.jk, SV.jks, Box.jk, buildO, fillO, bslO, elemsO, SV.toD, SV.toDs, SV.owns, SV.ownss, D.cells, gVal, offE, offS, Int.cast_ofNat_Int, reduceCtorEq, D.fits, dscs, XTS, inX, dropS, ]
    (repeat (refine And.intro ?_ ?_; focus (clear hK'; intros; simp_all; done)))
    (try (refine hK' _ _ ?_; clear hK'; clear K'))
    repeat' (first
      | (with_reducible first
         | refine swp_seq ?_ | refine swp_block ?_ | refine swp_skip ?_ | refine swp_ret ?_ | refine swp_exit ?_ | refine swp_label ?_
         | refine kseq_n ?_ | refine kseq_x ?_ | refine kseq_r ?_ | refine kblk_n ?_ | refine kblk_r ?_ | refine kblk_xs ?_ | refine kloop_x ?_ | refine kloop_r ?_)
      | (with_reducible refine kblk_xn ?_ ?_
         · rfl)
      | (with_reducible refine swp_regionP ?_ ?_ (fun K' hK' => ?_)
         · rfl
         · rfl
         simp only [LM, vcOps, stepO, val, vals, lk, put, putO, opn, opns, ok1, oks, okp, pickV, nbeq, nble, Nat.reduceBEq, Nat.reduceLeDiff, Int.reduceLE, Int.reduceLT, Int.reduceToNat, ofV, leafS, scs, SV.sc, SV.cells, nx, loadC, Nat.reduceAdd, Nat.reduceSub, Nat.reduceMul, upd, bin, binS, binB, eqA, aggOf, leavesV, eqV, eqL, un1, cnv, bnd, slO, lenV, lenT, mkF, callO, bltO, lenO, appO, srcO, notI, jkE, jkS, SV.jk, SV.jks, Box.jk, buildO, fillO, bslO, elemsO, SV.toD, SV.toDs, SV.owns, SV.ownss, D.cells, gVal, offE, offS, Int.cast_ofNat_Int, reduceCtorEq, D.fits, dscs, XTS]
         (repeat (refine And.intro ?_ ?_; focus (clear hK'; intros; simp_all; done)))
         (try (refine hK' _ _ ?_; clear hK'; clear K')))
      | (with_reducible refine swp_cond ?_ ?_
         · rfl
         refine ⟨_, rfl, fun h => ?_, fun h => ?_⟩
         <;> (try (exfalso; exact absurd h (by decide)))))
    refine stop_call h0 rfl (by simp only [LM, vcOps, stepO, val, vals, lk, put, putO, opn, opns, ok1, oks, okp, pickV, nbeq, nble, Nat.reduceBEq, Nat.reduceLeDiff, Int.reduceLE, Int.reduceLT, Int.reduceToNat, ofV, leafS, scs, SV.sc, SV.cells, nx, loadC, Nat.reduceAdd, Nat.reduceSub, Nat.reduceMul, upd, bin, binS, binB, eqA, aggOf, leavesV, eqV, eqL, un1, cnv, bnd, slO, lenV, lenT, mkF, callO, bltO, lenO, appO, srcO, notI, jkE, jkS, SV.jk, SV.jks, Box.jk, buildO, fillO, bslO, elemsO, SV.toD, SV.toDs, SV.owns, SV.ownss, D.cells, gVal, offE, offS, Int.cast_ofNat_Int, reduceCtorEq, D.fits, dscs]) rfl (by simp only [keepS, LM, vcOps, stepO, val, vals, lk, put, putO, opn, opns, ok1, oks, okp, pickV, nbeq, nble, Nat.reduceBEq, Nat.reduceLeDiff, Int.reduceLE, Int.reduceLT, Int.reduceToNat, ofV, leafS, scs, SV.sc, SV.cells, nx, loadC, Nat.reduceAdd, Nat.reduceSub, Nat.reduceMul, upd, bin, binS, binB, eqA, aggOf, leavesV, eqV, eqL, un1, cnv, bnd, slO, lenV, lenT, mkF, callO, bltO, lenO, appO, srcO, notI, jkE, jkS, SV.jk, SV.jks, Box.jk, buildO, fillO, bslO, elemsO, SV.toD, SV.toDs, SV.owns, SV.ownss, D.cells, gVal, offE, offS, Int.cast_ofNat_Int, reduceCtorEq, D.fits, dscs]) (truth_fn _) ?_
    simp only [LM, vcOps, stepO, val, vals, lk, put, putO, opn, opns, ok1, oks, okp, pickV, nbeq, nble, Nat.reduceBEq, Nat.reduceLeDiff, Int.reduceLE, Int.reduceLT, Int.reduceToNat, ofV, leafS, scs, SV.sc, SV.cells, nx, loadC, Nat.reduceAdd, Nat.reduceSub, Nat.reduceMul, upd, bin, binS, binB, eqA, aggOf, leavesV, eqV, eqL, un1, cnv, bnd, slO, lenV, lenT, mkF, callO, bltO, lenO, appO, srcO, notI, jkE, jkS, SV.jk, SV.jks, Box.jk, buildO, fillO, bslO, elemsO, SV.toD, SV.toDs, SV.owns, SV.ownss, D.cells, gVal, offE, offS, Int.cast_ofNat_Int, reduceCtorEq, D.fits, dscs, XTS, inX, dropS, ]
    (repeat (refine And.intro ?_ ?_; focus (clear hK'; intros; simp_all; done)))
    (try (refine hK' _ _ ?_; clear hK'; clear K'))
    repeat' (first
      | (with_reducible first
         | refine swp_seq ?_ | refine swp_block ?_ | refine swp_skip ?_ | refine swp_ret ?_ | refine swp_exit ?_ | refine swp_label ?_
         | refine kseq_n ?_ | refine kseq_x ?_ | refine kseq_r ?_ | refine kblk_n ?_ | refine kblk_r ?_ | refine kblk_xs ?_ | refine kloop_x ?_ | refine kloop_r ?_)
      | (with_reducible refine kblk_xn ?_ ?_
         · rfl)
      | (with_reducible refine swp_regionP ?_ ?_ (fun K' hK' => ?_)
         · rfl
         · rfl
         simp only [LM, vcOps, stepO, val, vals, lk, put, putO, opn, opns, ok1, oks, okp, pickV, nbeq, nble, Nat.reduceBEq, Nat.reduceLeDiff, Int.reduceLE, Int.reduceLT, Int.reduceToNat, ofV, leafS, scs, SV.sc, SV.cells, nx, loadC, Nat.reduceAdd, Nat.reduceSub, Nat.reduceMul, upd, bin, binS, binB, eqA, aggOf, leavesV, eqV, eqL, un1, cnv, bnd, slO, lenV, lenT, mkF, callO, bltO, lenO, appO, srcO, notI, jkE, jkS, SV.jk, SV.jks, Box.jk, buildO, fillO, bslO, elemsO, SV.toD, SV.toDs, SV.owns, SV.ownss, D.cells, gVal, offE, offS, Int.cast_ofNat_Int, reduceCtorEq, D.fits, dscs, XTS]
         (repeat (refine And.intro ?_ ?_; focus (clear hK'; intros; simp_all; done)))
         (try (refine hK' _ _ ?_; clear hK'; clear K')))
      | (with_reducible refine swp_cond ?_ ?_
         · rfl
         refine ⟨_, rfl, fun h => ?_, fun h => ?_⟩
         <;> (try (exfalso; exact absurd h (by decide)))))
    simp only [Kret, retL, retOne, oneV, LM, vcOps, stepO, val, vals, lk, put, putO, opn, opns, ok1, oks, okp, pickV, nbeq, nble, Nat.reduceBEq, Nat.reduceLeDiff, Int.reduceLE, Int.reduceLT, Int.reduceToNat, ofV, leafS, scs, SV.sc, SV.cells, nx, loadC, Nat.reduceAdd, Nat.reduceSub, Nat.reduceMul, upd, bin, binS, binB, eqA, aggOf, leavesV, eqV, eqL, un1, cnv, bnd, slO, lenV, lenT, mkF, callO, bltO, lenO, appO, srcO, notI, jkE, jkS, SV.jk, SV.jks, Box.jk, buildO, fillO, bslO, elemsO, SV.toD, SV.toDs, SV.owns, SV.ownss, D.cells, gVal, offE, offS, Int.cast_ofNat_Int, reduceCtorEq, D.fits, dscs, XTS]
    simp_all [ev2]
  · refine stop_call h0 rfl (by simp only [LM, vcOps, stepO, val, vals, lk, put, putO, opn, opns, ok1, oks, okp, pickV, nbeq, nble, Nat.reduceBEq, Nat.reduceLeDiff, Int.reduceLE, Int.reduceLT, Int.reduceToNat, ofV, leafS, scs, SV.sc, SV.cells, nx, loadC, Nat.reduceAdd, Nat.reduceSub, Nat.reduceMul, upd, bin, binS, binB, eqA, aggOf, leavesV, eqV, eqL, un1, cnv, bnd, slO, lenV, lenT, mkF, callO, bltO, lenO, appO, srcO, notI, jkE, jkS, SV.jk, SV.jks, Box.jk, buildO, fillO, bslO, elemsO, SV.toD, SV.toDs, SV.owns, SV.ownss, D.cells, gVal, offE, offS, Int.cast_ofNat_Int, reduceCtorEq, D.fits, dscs]) rfl (by simp only [keepS, LM, vcOps, stepO, val, vals, lk, put, putO, opn, opns, ok1, oks, okp, pickV, nbeq, nble, Nat.reduceBEq, Nat.reduceLeDiff, Int.reduceLE, Int.reduceLT, Int.reduceToNat, ofV, leafS, scs, SV.sc, SV.cells, nx, loadC, Nat.reduceAdd, Nat.reduceSub, Nat.reduceMul, upd, bin, binS, binB, eqA, aggOf, leavesV, eqV, eqL, un1, cnv, bnd, slO, lenV, lenT, mkF, callO, bltO, lenO, appO, srcO, notI, jkE, jkS, SV.jk, SV.jks, Box.jk, buildO, fillO, bslO, elemsO, SV.toD, SV.toDs, SV.owns, SV.ownss, D.cells, gVal, offE, offS, Int.cast_ofNat_Int, reduceCtorEq, D.fits, dscs]) (hjn) ?_
    simp only [LM, vcOps, stepO, val, vals, lk, put, putO, opn, opns, ok1, oks, okp, pickV, nbeq, nble, Nat.reduceBEq, Nat.reduceLeDiff, Int.reduceLE, Int.reduceLT, Int.reduceToNat, ofV, leafS, scs, SV.sc, SV.cells, nx, loadC, Nat.reduceAdd, Nat.reduceSub, Nat.reduceMul, upd, bin, binS, binB, eqA, aggOf, leavesV, eqV, eqL, un1, cnv, bnd, slO, lenV, lenT, mkF, callO, bltO, lenO, appO, srcO, notI, jkE, jkS, SV.jk, SV.jks, Box.jk, buildO, fillO, bslO, elemsO, SV.toD, SV.toDs, SV.owns, SV.ownss, D.cells, gVal, offE, offS, Int.cast_ofNat_Int, reduceCtorEq, D.fits, dscs, XTS, inX, dropS, ]
    (repeat (refine And.intro ?_ ?_; focus (clear hK'; intros; simp_all; done)))
    (try (refine hK' _ _ ?_; clear hK'; clear K'))
    repeat' (first
      | (with_reducible first
         | refine swp_seq ?_ | refine swp_block ?_ | refine swp_skip ?_ | refine swp_ret ?_ | refine swp_exit ?_ | refine swp_label ?_
         | refine kseq_n ?_ | refine kseq_x ?_ | refine kseq_r ?_ | refine kblk_n ?_ | refine kblk_r ?_ | refine kblk_xs ?_ | refine kloop_x ?_ | refine kloop_r ?_)
      | (with_reducible refine kblk_xn ?_ ?_
         · rfl)
      | (with_reducible refine swp_regionP ?_ ?_ (fun K' hK' => ?_)
         · rfl
         · rfl
         simp only [LM, vcOps, stepO, val, vals, lk, put, putO, opn, opns, ok1, oks, okp, pickV, nbeq, nble, Nat.reduceBEq, Nat.reduceLeDiff, Int.reduceLE, Int.reduceLT, Int.reduceToNat, ofV, leafS, scs, SV.sc, SV.cells, nx, loadC, Nat.reduceAdd, Nat.reduceSub, Nat.reduceMul, upd, bin, binS, binB, eqA, aggOf, leavesV, eqV, eqL, un1, cnv, bnd, slO, lenV, lenT, mkF, callO, bltO, lenO, appO, srcO, notI, jkE, jkS, SV.jk, SV.jks, Box.jk, buildO, fillO, bslO, elemsO, SV.toD, SV.toDs, SV.owns, SV.ownss, D.cells, gVal, offE, offS, Int.cast_ofNat_Int, reduceCtorEq, D.fits, dscs, XTS]
         (repeat (refine And.intro ?_ ?_; focus (clear hK'; intros; simp_all; done)))
         (try (refine hK' _ _ ?_; clear hK'; clear K')))
      | (with_reducible refine swp_cond ?_ ?_
         · rfl
         refine ⟨_, rfl, fun h => ?_, fun h => ?_⟩
         <;> (try (exfalso; exact absurd h (by decide)))))
    simp only [Kret, retL, retOne, oneV, LM, vcOps, stepO, val, vals, lk, put, putO, opn, opns, ok1, oks, okp, pickV, nbeq, nble, Nat.reduceBEq, Nat.reduceLeDiff, Int.reduceLE, Int.reduceLT, Int.reduceToNat, ofV, leafS, scs, SV.sc, SV.cells, nx, loadC, Nat.reduceAdd, Nat.reduceSub, Nat.reduceMul, upd, bin, binS, binB, eqA, aggOf, leavesV, eqV, eqL, un1, cnv, bnd, slO, lenV, lenT, mkF, callO, bltO, lenO, appO, srcO, notI, jkE, jkS, SV.jk, SV.jks, Box.jk, buildO, fillO, bslO, elemsO, SV.toD, SV.toDs, SV.owns, SV.ownss, D.cells, gVal, offE, offS, Int.cast_ofNat_Int, reduceCtorEq, D.fits, dscs, XTS]
    simp_all [ev2]
  · refine stop_call h0 rfl (by simp only [LM, vcOps, stepO, val, vals, lk, put, putO, opn, opns, ok1, oks, okp, pickV, nbeq, nble, Nat.reduceBEq, Nat.reduceLeDiff, Int.reduceLE, Int.reduceLT, Int.reduceToNat, ofV, leafS, scs, SV.sc, SV.cells, nx, loadC, Nat.reduceAdd, Nat.reduceSub, Nat.reduceMul, upd, bin, binS, binB, eqA, aggOf, leavesV, eqV, eqL, un1, cnv, bnd, slO, lenV, lenT, mkF, callO, bltO, lenO, appO, srcO, notI, jkE, jkS, SV.jk, SV.jks, Box.jk, buildO, fillO, bslO, elemsO, SV.toD, SV.toDs, SV.owns, SV.ownss, D.cells, gVal, offE, offS, Int.cast_ofNat_Int, reduceCtorEq, D.fits, dscs]) rfl (by simp only [keepS, LM, vcOps, stepO, val, vals, lk, put, putO, opn, opns, ok1, oks, okp, pickV, nbeq, nble, Nat.reduceBEq, Nat.reduceLeDiff, Int.reduceLE, Int.reduceLT, Int.reduceToNat, ofV, leafS, scs, SV.sc, SV.cells, nx, loadC, Nat.reduceAdd, Nat.reduceSub, Nat.reduceMul, upd, bin, binS, binB, eqA, aggOf, leavesV, eqV, eqL, un1, cnv, bnd, slO, lenV, lenT, mkF, callO, bltO, lenO, appO, srcO, notI, jkE, jkS, SV.jk, SV.jks, Box.jk, buildO, fillO, bslO, elemsO, SV.toD, SV.toDs, SV.owns, SV.ownss, D.cells, gVal, offE, offS, Int.cast_ofNat_Int, reduceCtorEq, D.fits, dscs]) (reckon_fn nm v.n u.n) ?_
    simp only [LM, vcOps, stepO, val, vals, lk, put, putO, opn, opns, ok1, oks, okp, pickV, nbeq, nble, Nat.reduceBEq, Nat.reduceLeDiff, Int.reduceLE, Int.reduceLT, Int.reduceToNat, ofV, leafS, scs, SV.sc, SV.cells, nx, loadC, Nat.reduceAdd, Nat.reduceSub, Nat.reduceMul, upd, bin, binS, binB, eqA, aggOf, leavesV, eqV, eqL, un1, cnv, bnd, slO, lenV, lenT, mkF, callO, bltO, lenO, appO, srcO, notI, jkE, jkS, SV.jk, SV.jks, Box.jk, buildO, fillO, bslO, elemsO, SV.toD, SV.toDs, SV.owns, SV.ownss, D.cells, gVal, offE, offS, Int.cast_ofNat_Int, reduceCtorEq, D.fits, dscs, XTS, inX, dropS, ]
    (repeat (refine And.intro ?_ ?_; focus (clear hK'; intros; simp_all; done)))
    (try (refine hK' _ _ ?_; clear hK'; clear K'))
    repeat' (first
      | (with_reducible first
         | refine swp_seq ?_ | refine swp_block ?_ | refine swp_skip ?_ | refine swp_ret ?_ | refine swp_exit ?_ | refine swp_label ?_
         | refine kseq_n ?_ | refine kseq_x ?_ | refine kseq_r ?_ | refine kblk_n ?_ | refine kblk_r ?_ | refine kblk_xs ?_ | refine kloop_x ?_ | refine kloop_r ?_)
      | (with_reducible refine kblk_xn ?_ ?_
         · rfl)
      | (with_reducible refine swp_regionP ?_ ?_ (fun K' hK' => ?_)
         · rfl
         · rfl
         simp only [LM, vcOps, stepO, val, vals, lk, put, putO, opn, opns, ok1, oks, okp, pickV, nbeq, nble, Nat.reduceBEq, Nat.reduceLeDiff, Int.reduceLE, Int.reduceLT, Int.reduceToNat, ofV, leafS, scs, SV.sc, SV.cells, nx, loadC, Nat.reduceAdd, Nat.reduceSub, Nat.reduceMul, upd, bin, binS, binB, eqA, aggOf, leavesV, eqV, eqL, un1, cnv, bnd, slO, lenV, lenT, mkF, callO, bltO, lenO, appO, srcO, notI, jkE, jkS, SV.jk, SV.jks, Box.jk, buildO, fillO, bslO, elemsO, SV.toD, SV.toDs, SV.owns, SV.ownss, D.cells, gVal, offE, offS, Int.cast_ofNat_Int, reduceCtorEq, D.fits, dscs, XTS]
         (repeat (refine And.intro ?_ ?_; focus (clear hK'; intros; simp_all; done)))
         (try (refine hK' _ _ ?_; clear hK'; clear K')))
      | (with_reducible refine swp_cond ?_ ?_
         · rfl
         refine ⟨_, rfl, fun h => ?_, fun h => ?_⟩
         <;> (try (exfalso; exact absurd h (by decide)))))
    simp only [Kret, retL, retOne, oneV, LM, vcOps, stepO, val, vals, lk, put, putO, opn, opns, ok1, oks, okp, pickV, nbeq, nble, Nat.reduceBEq, Nat.reduceLeDiff, Int.reduceLE, Int.reduceLT, Int.reduceToNat, ofV, leafS, scs, SV.sc, SV.cells, nx, loadC, Nat.reduceAdd, Nat.reduceSub, Nat.reduceMul, upd, bin, binS, binB, eqA, aggOf, leavesV, eqV, eqL, un1, cnv, bnd, slO, lenV, lenT, mkF, callO, bltO, lenO, appO, srcO, notI, jkE, jkS, SV.jk, SV.jks, Box.jk, buildO, fillO, bslO, elemsO, SV.toD, SV.toDs, SV.owns, SV.ownss, D.cells, gVal, offE, offS, Int.cast_ofNat_Int, reduceCtorEq, D.fits, dscs, XTS]
    simp_all [ev2]
  · refine stop_call h0 rfl (by simp only [LM, vcOps, stepO, val, vals, lk, put, putO, opn, opns, ok1, oks, okp, pickV, nbeq, nble, Nat.reduceBEq, Nat.reduceLeDiff, Int.reduceLE, Int.reduceLT, Int.reduceToNat, ofV, leafS, scs, SV.sc, SV.cells, nx, loadC, Nat.reduceAdd, Nat.reduceSub, Nat.reduceMul, upd, bin, binS, binB, eqA, aggOf, leavesV, eqV, eqL, un1, cnv, bnd, slO, lenV, lenT, mkF, callO, bltO, lenO, appO, srcO, notI, jkE, jkS, SV.jk, SV.jks, Box.jk, buildO, fillO, bslO, elemsO, SV.toD, SV.toDs, SV.owns, SV.ownss, D.cells, gVal, offE, offS, Int.cast_ofNat_Int, reduceCtorEq, D.fits, dscs]) rfl (by simp only [keepS, LM, vcOps, stepO, val, vals, lk, put, putO, opn, opns, ok1, oks, okp, pickV, nbeq, nble, Nat.reduceBEq, Nat.reduceLeDiff, Int.reduceLE, Int.reduceLT, Int.reduceToNat, ofV, leafS, scs, SV.sc, SV.cells, nx, loadC, Nat.reduceAdd, Nat.reduceSub, Nat.reduceMul, upd, bin, binS, binB, eqA, aggOf, leavesV, eqV, eqL, un1, cnv, bnd, slO, lenV, lenT, mkF, callO, bltO, lenO, appO, srcO, notI, jkE, jkS, SV.jk, SV.jks, Box.jk, buildO, fillO, bslO, elemsO, SV.toD, SV.toDs, SV.owns, SV.ownss, D.cells, gVal, offE, offS, Int.cast_ofNat_Int, reduceCtorEq, D.fits, dscs]) (hord) ?_
    simp only [LM, vcOps, stepO, val, vals, lk, put, putO, opn, opns, ok1, oks, okp, pickV, nbeq, nble, Nat.reduceBEq, Nat.reduceLeDiff, Int.reduceLE, Int.reduceLT, Int.reduceToNat, ofV, leafS, scs, SV.sc, SV.cells, nx, loadC, Nat.reduceAdd, Nat.reduceSub, Nat.reduceMul, upd, bin, binS, binB, eqA, aggOf, leavesV, eqV, eqL, un1, cnv, bnd, slO, lenV, lenT, mkF, callO, bltO, lenO, appO, srcO, notI, jkE, jkS, SV.jk, SV.jks, Box.jk, buildO, fillO, bslO, elemsO, SV.toD, SV.toDs, SV.owns, SV.ownss, D.cells, gVal, offE, offS, Int.cast_ofNat_Int, reduceCtorEq, D.fits, dscs, XTS, inX, dropS, ]
    (repeat (refine And.intro ?_ ?_; focus (clear hK'; intros; simp_all; done)))
    (try (refine hK' _ _ ?_; clear hK'; clear K'))
    repeat' (first
      | (with_reducible first
         | refine swp_seq ?_ | refine swp_block ?_ | refine swp_skip ?_ | refine swp_ret ?_ | refine swp_exit ?_ | refine swp_label ?_
         | refine kseq_n ?_ | refine kseq_x ?_ | refine kseq_r ?_ | refine kblk_n ?_ | refine kblk_r ?_ | refine kblk_xs ?_ | refine kloop_x ?_ | refine kloop_r ?_)
      | (with_reducible refine kblk_xn ?_ ?_
         · rfl)
      | (with_reducible refine swp_regionP ?_ ?_ (fun K' hK' => ?_)
         · rfl
         · rfl
         simp only [LM, vcOps, stepO, val, vals, lk, put, putO, opn, opns, ok1, oks, okp, pickV, nbeq, nble, Nat.reduceBEq, Nat.reduceLeDiff, Int.reduceLE, Int.reduceLT, Int.reduceToNat, ofV, leafS, scs, SV.sc, SV.cells, nx, loadC, Nat.reduceAdd, Nat.reduceSub, Nat.reduceMul, upd, bin, binS, binB, eqA, aggOf, leavesV, eqV, eqL, un1, cnv, bnd, slO, lenV, lenT, mkF, callO, bltO, lenO, appO, srcO, notI, jkE, jkS, SV.jk, SV.jks, Box.jk, buildO, fillO, bslO, elemsO, SV.toD, SV.toDs, SV.owns, SV.ownss, D.cells, gVal, offE, offS, Int.cast_ofNat_Int, reduceCtorEq, D.fits, dscs, XTS]
         (repeat (refine And.intro ?_ ?_; focus (clear hK'; intros; simp_all; done)))
         (try (refine hK' _ _ ?_; clear hK'; clear K')))
      | (with_reducible refine swp_cond ?_ ?_
         · rfl
         refine ⟨_, rfl, fun h => ?_, fun h => ?_⟩
         <;> (try (exfalso; exact absurd h (by decide)))))
    refine stop_call h0 rfl (by simp only [LM, vcOps, stepO, val, vals, lk, put, putO, opn, opns, ok1, oks, okp, pickV, nbeq, nble, Nat.reduceBEq, Nat.reduceLeDiff, Int.reduceLE, Int.reduceLT, Int.reduceToNat, ofV, leafS, scs, SV.sc, SV.cells, nx, loadC, Nat.reduceAdd, Nat.reduceSub, Nat.reduceMul, upd, bin, binS, binB, eqA, aggOf, leavesV, eqV, eqL, un1, cnv, bnd, slO, lenV, lenT, mkF, callO, bltO, lenO, appO, srcO, notI, jkE, jkS, SV.jk, SV.jks, Box.jk, buildO, fillO, bslO, elemsO, SV.toD, SV.toDs, SV.owns, SV.ownss, D.cells, gVal, offE, offS, Int.cast_ofNat_Int, reduceCtorEq, D.fits, dscs]) rfl (by simp only [keepS, LM, vcOps, stepO, val, vals, lk, put, putO, opn, opns, ok1, oks, okp, pickV, nbeq, nble, Nat.reduceBEq, Nat.reduceLeDiff, Int.reduceLE, Int.reduceLT, Int.reduceToNat, ofV, leafS, scs, SV.sc, SV.cells, nx, loadC, Nat.reduceAdd, Nat.reduceSub, Nat.reduceMul, upd, bin, binS, binB, eqA, aggOf, leavesV, eqV, eqL, un1, cnv, bnd, slO, lenV, lenT, mkF, callO, bltO, lenO, appO, srcO, notI, jkE, jkS, SV.jk, SV.jks, Box.jk, buildO, fillO, bslO, elemsO, SV.toD, SV.toDs, SV.owns, SV.ownss, D.cells, gVal, offE, offS, Int.cast_ofNat_Int, reduceCtorEq, D.fits, dscs]) (truth_fn _) ?_
    simp only [LM, vcOps, stepO, val, vals, lk, put, putO, opn, opns, ok1, oks, okp, pickV, nbeq, nble, Nat.reduceBEq, Nat.reduceLeDiff, Int.reduceLE, Int.reduceLT, Int.reduceToNat, ofV, leafS, scs, SV.sc, SV.cells, nx, loadC, Nat.reduceAdd, Nat.reduceSub, Nat.reduceMul, upd, bin, binS, binB, eqA, aggOf, leavesV, eqV, eqL, un1, cnv, bnd, slO, lenV, lenT, mkF, callO, bltO, lenO, appO, srcO, notI, jkE, jkS, SV.jk, SV.jks, Box.jk, buildO, fillO, bslO, elemsO, SV.toD, SV.toDs, SV.owns, SV.ownss, D.cells, gVal, offE, offS, Int.cast_ofNat_Int, reduceCtorEq, D.fits, dscs, XTS, inX, dropS, ]
    (repeat (refine And.intro ?_ ?_; focus (clear hK'; intros; simp_all; done)))
    (try (refine hK' _ _ ?_; clear hK'; clear K'))
    repeat' (first
      | (with_reducible first
         | refine swp_seq ?_ | refine swp_block ?_ | refine swp_skip ?_ | refine swp_ret ?_ | refine swp_exit ?_ | refine swp_label ?_
         | refine kseq_n ?_ | refine kseq_x ?_ | refine kseq_r ?_ | refine kblk_n ?_ | refine kblk_r ?_ | refine kblk_xs ?_ | refine kloop_x ?_ | refine kloop_r ?_)
      | (with_reducible refine kblk_xn ?_ ?_
         · rfl)
      | (with_reducible refine swp_regionP ?_ ?_ (fun K' hK' => ?_)
         · rfl
         · rfl
         simp only [LM, vcOps, stepO, val, vals, lk, put, putO, opn, opns, ok1, oks, okp, pickV, nbeq, nble, Nat.reduceBEq, Nat.reduceLeDiff, Int.reduceLE, Int.reduceLT, Int.reduceToNat, ofV, leafS, scs, SV.sc, SV.cells, nx, loadC, Nat.reduceAdd, Nat.reduceSub, Nat.reduceMul, upd, bin, binS, binB, eqA, aggOf, leavesV, eqV, eqL, un1, cnv, bnd, slO, lenV, lenT, mkF, callO, bltO, lenO, appO, srcO, notI, jkE, jkS, SV.jk, SV.jks, Box.jk, buildO, fillO, bslO, elemsO, SV.toD, SV.toDs, SV.owns, SV.ownss, D.cells, gVal, offE, offS, Int.cast_ofNat_Int, reduceCtorEq, D.fits, dscs, XTS]
         (repeat (refine And.intro ?_ ?_; focus (clear hK'; intros; simp_all; done)))
         (try (refine hK' _ _ ?_; clear hK'; clear K')))
      | (with_reducible refine swp_cond ?_ ?_
         · rfl
         refine ⟨_, rfl, fun h => ?_, fun h => ?_⟩
         <;> (try (exfalso; exact absurd h (by decide)))))
    simp only [Kret, retL, retOne, oneV, LM, vcOps, stepO, val, vals, lk, put, putO, opn, opns, ok1, oks, okp, pickV, nbeq, nble, Nat.reduceBEq, Nat.reduceLeDiff, Int.reduceLE, Int.reduceLT, Int.reduceToNat, ofV, leafS, scs, SV.sc, SV.cells, nx, loadC, Nat.reduceAdd, Nat.reduceSub, Nat.reduceMul, upd, bin, binS, binB, eqA, aggOf, leavesV, eqV, eqL, un1, cnv, bnd, slO, lenV, lenT, mkF, callO, bltO, lenO, appO, srcO, notI, jkE, jkS, SV.jk, SV.jks, Box.jk, buildO, fillO, bslO, elemsO, SV.toD, SV.toDs, SV.owns, SV.ownss, D.cells, gVal, offE, offS, Int.cast_ofNat_Int, reduceCtorEq, D.fits, dscs, XTS]
    simp_all [ev2]
  · refine stop_call h0 rfl (by simp only [LM, vcOps, stepO, val, vals, lk, put, putO, opn, opns, ok1, oks, okp, pickV, nbeq, nble, Nat.reduceBEq, Nat.reduceLeDiff, Int.reduceLE, Int.reduceLT, Int.reduceToNat, ofV, leafS, scs, SV.sc, SV.cells, nx, loadC, Nat.reduceAdd, Nat.reduceSub, Nat.reduceMul, upd, bin, binS, binB, eqA, aggOf, leavesV, eqV, eqL, un1, cnv, bnd, slO, lenV, lenT, mkF, callO, bltO, lenO, appO, srcO, notI, jkE, jkS, SV.jk, SV.jks, Box.jk, buildO, fillO, bslO, elemsO, SV.toD, SV.toDs, SV.owns, SV.ownss, D.cells, gVal, offE, offS, Int.cast_ofNat_Int, reduceCtorEq, D.fits, dscs]) rfl (by simp only [keepS, LM, vcOps, stepO, val, vals, lk, put, putO, opn, opns, ok1, oks, okp, pickV, nbeq, nble, Nat.reduceBEq, Nat.reduceLeDiff, Int.reduceLE, Int.reduceLT, Int.reduceToNat, ofV, leafS, scs, SV.sc, SV.cells, nx, loadC, Nat.reduceAdd, Nat.reduceSub, Nat.reduceMul, upd, bin, binS, binB, eqA, aggOf, leavesV, eqV, eqL, un1, cnv, bnd, slO, lenV, lenT, mkF, callO, bltO, lenO, appO, srcO, notI, jkE, jkS, SV.jk, SV.jks, Box.jk, buildO, fillO, bslO, elemsO, SV.toD, SV.toDs, SV.owns, SV.ownss, D.cells, gVal, offE, offS, Int.cast_ofNat_Int, reduceCtorEq, D.fits, dscs]) (hjn) ?_
    simp only [LM, vcOps, stepO, val, vals, lk, put, putO, opn, opns, ok1, oks, okp, pickV, nbeq, nble, Nat.reduceBEq, Nat.reduceLeDiff, Int.reduceLE, Int.reduceLT, Int.reduceToNat, ofV, leafS, scs, SV.sc, SV.cells, nx, loadC, Nat.reduceAdd, Nat.reduceSub, Nat.reduceMul, upd, bin, binS, binB, eqA, aggOf, leavesV, eqV, eqL, un1, cnv, bnd, slO, lenV, lenT, mkF, callO, bltO, lenO, appO, srcO, notI, jkE, jkS, SV.jk, SV.jks, Box.jk, buildO, fillO, bslO, elemsO, SV.toD, SV.toDs, SV.owns, SV.ownss, D.cells, gVal, offE, offS, Int.cast_ofNat_Int, reduceCtorEq, D.fits, dscs, XTS, inX, dropS, ]
    (repeat (refine And.intro ?_ ?_; focus (clear hK'; intros; simp_all; done)))
    (try (refine hK' _ _ ?_; clear hK'; clear K'))
    repeat' (first
      | (with_reducible first
         | refine swp_seq ?_ | refine swp_block ?_ | refine swp_skip ?_ | refine swp_ret ?_ | refine swp_exit ?_ | refine swp_label ?_
         | refine kseq_n ?_ | refine kseq_x ?_ | refine kseq_r ?_ | refine kblk_n ?_ | refine kblk_r ?_ | refine kblk_xs ?_ | refine kloop_x ?_ | refine kloop_r ?_)
      | (with_reducible refine kblk_xn ?_ ?_
         · rfl)
      | (with_reducible refine swp_regionP ?_ ?_ (fun K' hK' => ?_)
         · rfl
         · rfl
         simp only [LM, vcOps, stepO, val, vals, lk, put, putO, opn, opns, ok1, oks, okp, pickV, nbeq, nble, Nat.reduceBEq, Nat.reduceLeDiff, Int.reduceLE, Int.reduceLT, Int.reduceToNat, ofV, leafS, scs, SV.sc, SV.cells, nx, loadC, Nat.reduceAdd, Nat.reduceSub, Nat.reduceMul, upd, bin, binS, binB, eqA, aggOf, leavesV, eqV, eqL, un1, cnv, bnd, slO, lenV, lenT, mkF, callO, bltO, lenO, appO, srcO, notI, jkE, jkS, SV.jk, SV.jks, Box.jk, buildO, fillO, bslO, elemsO, SV.toD, SV.toDs, SV.owns, SV.ownss, D.cells, gVal, offE, offS, Int.cast_ofNat_Int, reduceCtorEq, D.fits, dscs, XTS]
         (repeat (refine And.intro ?_ ?_; focus (clear hK'; intros; simp_all; done)))
         (try (refine hK' _ _ ?_; clear hK'; clear K')))
      | (with_reducible refine swp_cond ?_ ?_
         · rfl
         refine ⟨_, rfl, fun h => ?_, fun h => ?_⟩
         <;> (try (exfalso; exact absurd h (by decide)))))
    simp only [Kret, retL, retOne, oneV, LM, vcOps, stepO, val, vals, lk, put, putO, opn, opns, ok1, oks, okp, pickV, nbeq, nble, Nat.reduceBEq, Nat.reduceLeDiff, Int.reduceLE, Int.reduceLT, Int.reduceToNat, ofV, leafS, scs, SV.sc, SV.cells, nx, loadC, Nat.reduceAdd, Nat.reduceSub, Nat.reduceMul, upd, bin, binS, binB, eqA, aggOf, leavesV, eqV, eqL, un1, cnv, bnd, slO, lenV, lenT, mkF, callO, bltO, lenO, appO, srcO, notI, jkE, jkS, SV.jk, SV.jks, Box.jk, buildO, fillO, bslO, elemsO, SV.toD, SV.toDs, SV.owns, SV.ownss, D.cells, gVal, offE, offS, Int.cast_ofNat_Int, reduceCtorEq, D.fits, dscs, XTS]
    simp_all [ev2]
  · refine stop_call h0 rfl (by simp only [LM, vcOps, stepO, val, vals, lk, put, putO, opn, opns, ok1, oks, okp, pickV, nbeq, nble, Nat.reduceBEq, Nat.reduceLeDiff, Int.reduceLE, Int.reduceLT, Int.reduceToNat, ofV, leafS, scs, SV.sc, SV.cells, nx, loadC, Nat.reduceAdd, Nat.reduceSub, Nat.reduceMul, upd, bin, binS, binB, eqA, aggOf, leavesV, eqV, eqL, un1, cnv, bnd, slO, lenV, lenT, mkF, callO, bltO, lenO, appO, srcO, notI, jkE, jkS, SV.jk, SV.jks, Box.jk, buildO, fillO, bslO, elemsO, SV.toD, SV.toDs, SV.owns, SV.ownss, D.cells, gVal, offE, offS, Int.cast_ofNat_Int, reduceCtorEq, D.fits, dscs]) rfl (by simp only [keepS, LM, vcOps, stepO, val, vals, lk, put, putO, opn, opns, ok1, oks, okp, pickV, nbeq, nble, Nat.reduceBEq, Nat.reduceLeDiff, Int.reduceLE, Int.reduceLT, Int.reduceToNat, ofV, leafS, scs, SV.sc, SV.cells, nx, loadC, Nat.reduceAdd, Nat.reduceSub, Nat.reduceMul, upd, bin, binS, binB, eqA, aggOf, leavesV, eqV, eqL, un1, cnv, bnd, slO, lenV, lenT, mkF, callO, bltO, lenO, appO, srcO, notI, jkE, jkS, SV.jk, SV.jks, Box.jk, buildO, fillO, bslO, elemsO, SV.toD, SV.toDs, SV.owns, SV.ownss, D.cells, gVal, offE, offS, Int.cast_ofNat_Int, reduceCtorEq, D.fits, dscs]) (reckon_fn nm v.n u.n) ?_
    simp only [LM, vcOps, stepO, val, vals, lk, put, putO, opn, opns, ok1, oks, okp, pickV, nbeq, nble, Nat.reduceBEq, Nat.reduceLeDiff, Int.reduceLE, Int.reduceLT, Int.reduceToNat, ofV, leafS, scs, SV.sc, SV.cells, nx, loadC, Nat.reduceAdd, Nat.reduceSub, Nat.reduceMul, upd, bin, binS, binB, eqA, aggOf, leavesV, eqV, eqL, un1, cnv, bnd, slO, lenV, lenT, mkF, callO, bltO, lenO, appO, srcO, notI, jkE, jkS, SV.jk, SV.jks, Box.jk, buildO, fillO, bslO, elemsO, SV.toD, SV.toDs, SV.owns, SV.ownss, D.cells, gVal, offE, offS, Int.cast_ofNat_Int, reduceCtorEq, D.fits, dscs, XTS, inX, dropS, ]
    (repeat (refine And.intro ?_ ?_; focus (clear hK'; intros; simp_all; done)))
    (try (refine hK' _ _ ?_; clear hK'; clear K'))
    repeat' (first
      | (with_reducible first
         | refine swp_seq ?_ | refine swp_block ?_ | refine swp_skip ?_ | refine swp_ret ?_ | refine swp_exit ?_ | refine swp_label ?_
         | refine kseq_n ?_ | refine kseq_x ?_ | refine kseq_r ?_ | refine kblk_n ?_ | refine kblk_r ?_ | refine kblk_xs ?_ | refine kloop_x ?_ | refine kloop_r ?_)
      | (with_reducible refine kblk_xn ?_ ?_
         · rfl)
      | (with_reducible refine swp_regionP ?_ ?_ (fun K' hK' => ?_)
         · rfl
         · rfl
         simp only [LM, vcOps, stepO, val, vals, lk, put, putO, opn, opns, ok1, oks, okp, pickV, nbeq, nble, Nat.reduceBEq, Nat.reduceLeDiff, Int.reduceLE, Int.reduceLT, Int.reduceToNat, ofV, leafS, scs, SV.sc, SV.cells, nx, loadC, Nat.reduceAdd, Nat.reduceSub, Nat.reduceMul, upd, bin, binS, binB, eqA, aggOf, leavesV, eqV, eqL, un1, cnv, bnd, slO, lenV, lenT, mkF, callO, bltO, lenO, appO, srcO, notI, jkE, jkS, SV.jk, SV.jks, Box.jk, buildO, fillO, bslO, elemsO, SV.toD, SV.toDs, SV.owns, SV.ownss, D.cells, gVal, offE, offS, Int.cast_ofNat_Int, reduceCtorEq, D.fits, dscs, XTS]
         (repeat (refine And.intro ?_ ?_; focus (clear hK'; intros; simp_all; done)))
         (try (refine hK' _ _ ?_; clear hK'; clear K')))
      | (with_reducible refine swp_cond ?_ ?_
         · rfl
         refine ⟨_, rfl, fun h => ?_, fun h => ?_⟩
         <;> (try (exfalso; exact absurd h (by decide)))))
    simp only [Kret, retL, retOne, oneV, LM, vcOps, stepO, val, vals, lk, put, putO, opn, opns, ok1, oks, okp, pickV, nbeq, nble, Nat.reduceBEq, Nat.reduceLeDiff, Int.reduceLE, Int.reduceLT, Int.reduceToNat, ofV, leafS, scs, SV.sc, SV.cells, nx, loadC, Nat.reduceAdd, Nat.reduceSub, Nat.reduceMul, upd, bin, binS, binB, eqA, aggOf, leavesV, eqV, eqL, un1, cnv, bnd, slO, lenV, lenT, mkF, callO, bltO, lenO, appO, srcO, notI, jkE, jkS, SV.jk, SV.jks, Box.jk, buildO, fillO, bslO, elemsO, SV.toD, SV.toDs, SV.owns, SV.ownss, D.cells, gVal, offE, offS, Int.cast_ofNat_Int, reduceCtorEq, D.fits, dscs, XTS]
    simp_all [ev2]
end Go.Proofs.YtiobdkibbhpojaaDoor
