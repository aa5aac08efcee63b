/- exprs.Names' closure by a symbolic walk. -/
-- TYPES2
import Derived.Test.YtiobdkibbhpojaaDoorX19
import Derived.Test.YtiobdkibbhpojaaDoorXT2
set_option linter.unusedVariables false
set_option linter.unusedSimpArgs false
namespace Go.Proofs.YtiobdkibbhpojaaDoor
open Go.RowKit Go.Sw

mutual
/-- The names in an expression, in order. -/
def coll : Ex → List ByteArray
  | .mk k nm t n s l => (if k = 2 then [nm] else []) ++ colls l
def colls : List Ex → List ByteArray
  | [] => []
  | x :: l => coll x ++ colls l
end
theorem colls_app : ∀ a b, colls (a ++ b) = colls a ++ colls b
  | [], b => rfl
  | x :: a, b => by simp [colls, colls_app a b]
mutual
theorem coll_len : ∀ x : Ex, (coll x).length ≤ x.size
  | .mk k nm t n s l => by
    have := colls_len l
    unfold coll Ex.size
    split <;> simp <;> omega
theorem colls_len : ∀ l : List Ex, (colls l).length ≤ Ex.sizes l
  | [] => by simp [colls]
  | x :: l => by
    have := coll_len x
    have := colls_len l
    simp only [colls, List.length_append, Ex.sizes]
    omega
end
theorem colls_sub : ∀ (l : List Ex) (j : Nat), (colls (l.take j)).length ≤ Ex.sizes l
  | [], j => by simp [colls]
  | x :: l, 0 => by simp [colls]
  | x :: l, j + 1 => by
    have := coll_len x
    have := colls_sub l j
    simp only [List.take_succ_cons, colls, List.length_append, Ex.sizes]
    omega
theorem colls_room : ∀ (l : List Ex) (j : Nat) (x : Ex), l[j]? = some x → (colls (l.take j)).length + x.size ≤ Ex.sizes l
  | [], j, x, h => by simp at h
  | y :: l, 0, x, h => by
    simp at h; subst h
    simp [colls, Ex.sizes]
  | y :: l, j + 1, x, h => by
    have := coll_len y
    have := colls_room l j x (by simpa using h)
    simp only [List.take_succ_cons, colls, List.length_append, Ex.sizes]
    omega
theorem len_sizes : ∀ l : List Ex, l.length ≤ Ex.sizes l
  | [] => Nat.zero_le _
  | x :: l => by
    have := x.size_pos
    have := len_sizes l
    simp only [List.length_cons, Ex.sizes]; omega
/-- What the closure holds: the names so far, and itself. -/
def WS (L : List ByteArray) : St := [(0, .cells [.own 2]), (1, .cells [.clo 58 [.ref 0 0, .ref 1 0]]), (2, .row 1 (L.map sD))]

set_option maxHeartbeats 8000000 in
set_option maxRecDepth 100000 in
theorem walk_step (k : Int) (nm : ByteArray) (t n : Int) (s : ByteArray) (l : List Ex) (L : List ByteArray) (hb : L.length + (Ex.mk k nm t n s l).size ≤ 1000000)
    (ih : ∀ x ∈ l, ∀ L', L'.length + x.size ≤ 1000000 → SFn Tryd.prog Γ0 58 [.d x.d, .ref 0 0, .ref 1 0] (WS L') (.tup []) (WS (L' ++ coll x))) :
    SFn Tryd.prog Γ0 58 [.d (Ex.mk k nm t n s l).d, .ref 0 0, .ref 1 0] (WS L) (.tup []) (WS (L ++ coll (.mk k nm t n s l))) := by
  have hll := Ex.ds_len l
  have hsz : (Ex.mk k nm t n s l).size = Ex.sizes l + 1 := by simp [Ex.size]
  have hls := len_sizes l
  rw [show (Ex.mk k nm t n s l).d = .agg [iD k, sD nm, iD t, iD n, sD s, .slc (Ex.ds l)] from rfl]
  obtain ⟨M, hM⟩ : ∃ M, M = L ++ (if k = 2 then [nm] else []) := ⟨_, rfl⟩
  have hMl : M.length ≤ L.length + 1 := by rw [hM]; split <;> simp
  have hco : L ++ coll (.mk k nm t n s l) = M ++ colls l := by rw [hM, coll, List.append_assoc]
  rw [hco]
  unfold WS
  refine sfn_of_swp (N := 25) Tryd.func58 rfl (by decide) rfl rfl (by simp) (fun C h0 => ?_)
  simp only [argS]
  have hm1 : (L.length + 1) * 16 ≤ 140737488355328 := by omega
  have hm2 : L.length + 1 ≤ maxLen := by unfold maxLen; omega
  repeat' (first
    | (with_reducible first
       | refine swp_seq ?_ | refine swp_block ?_ | refine swp_skip ?_ | refine swp_ret ?_ | refine swp_exit ?_ | refine swp_label ?_
       | refine kseq_n ?_ | refine kseq_x ?_ | refine kseq_r ?_ | refine kblk_n ?_ | refine kblk_r ?_ | refine kblk_xs ?_ | refine kloop_x ?_ | refine kloop_r ?_)
    | (with_reducible refine kblk_xn ?_ ?_
       · rfl)
    | (with_reducible refine swp_regionP ?_ ?_ (fun K' hK' => ?_)
       · rfl
       · rfl
       simp only [LM, vcOps, stepO, val, vals, lk, put, putO, opn, opns, ok1, oks, okp, pickV, nbeq, nble, Nat.reduceBEq, Nat.reduceLeDiff, Int.reduceLE, Int.reduceLT, Int.reduceToNat, ofV, leafS, scs, SV.sc, SV.cells, nx, loadC, Nat.reduceAdd, Nat.reduceSub, Nat.reduceMul, upd, bin, binS, binB, eqA, aggOf, leavesV, eqV, eqL, un1, cnv, bnd, slO, lenV, lenT, mkF, callO, bltO, lenO, appO, srcO, notI, jkE, jkS, SV.jk, SV.jks, Box.jk, buildO, fillO, bslO, elemsO, SV.toD, SV.toDs, SV.owns, SV.ownss, D.cells, gVal, offE, offS, Int.cast_ofNat_Int, reduceCtorEq, D.fits, dscs, XTS, XT2S, List.length_map, hm1, hm2, hll]
       (repeat (refine And.intro ?_ ?_; focus (clear hK'; intros; simp_all; done)))
       (try (refine hK' _ _ ?_; clear hK'; clear K')))
    | (with_reducible refine swp_cond ?_ ?_
       · rfl
       refine ⟨_, rfl, fun h => ?_, fun h => ?_⟩
       <;> (try (exfalso; exact absurd h (by decide)))))
  · have h2 : k = 2 := by simpa using h
    have hM2 : L.map sD ++ [sD nm] = M.map sD := by rw [hM, if_pos h2]; simp
    rw [hM2]
    refine swp_loop (α := Nat) (fun j => [(1, .ref 0 0), (2, .ref 1 0), (15, .d (.slc (Ex.ds l))), (16, .d (iD l.length)), (17, .d (iD j))])
      (fun j => [(0, .cells [.own 2]), (1, .cells [.clo 58 [.ref 0 0, .ref 1 0]]), (2, .row 1 ((M ++ colls (l.take j)).map sD))])
      (fun j => j ≤ l.length) (fun j => l.length - j) 0 (Nat.zero_le _) (by simp only [List.take_zero, colls, List.append_nil]; refine sub_of h0 ?_ ?_ ?_ <;> simp only [keepS, subS, subE, BoxW, FZs, FZ, offl, LM, vcOps, stepO, val, vals, lk, put, putO, opn, opns, ok1, oks, okp, pickV, nbeq, nble, Nat.reduceBEq, Nat.reduceLeDiff, Int.reduceLE, Int.reduceLT, Int.reduceToNat, ofV, leafS, scs, SV.sc, SV.cells, nx, loadC, Nat.reduceAdd, Nat.reduceSub, Nat.reduceMul, upd, bin, binS, binB, eqA, aggOf, leavesV, eqV, eqL, un1, cnv, bnd, slO, lenV, lenT, mkF, callO, bltO, lenO, appO, srcO, notI, jkE, jkS, SV.jk, SV.jks, Box.jk, buildO, fillO, bslO, elemsO, SV.toD, SV.toDs, SV.owns, SV.ownss, D.cells, gVal, offE, offS, Int.cast_ofNat_Int, reduceCtorEq, D.fits, dscs, XTS, XT2S, Option.isSome_some, hll]) (fun j hj => ?_)
    have hb0 : (0 : Int) ≤ (j : Int) := by omega
    by_cases hlt : j < l.length
    · obtain ⟨x, hx⟩ : ∃ x, l[j]? = some x := ⟨l[j], by simp [hlt]⟩
      have hmem := List.mem_of_getElem? hx
      have hxs := Ex.size_mem hmem
      have hcl := colls_sub l j
      have hcall := ih x hmem (M ++ colls (l.take j)) (by
        have h1 : (colls (l.take j)).length + x.size ≤ Ex.sizes l := colls_room l j x hx
        rw [List.length_append]; omega)
      have hget := Ex.ds_get l j x hx
      have hb1 : (j : Int) < (l.length : Int) := by omega
      have hw3 : IntKind.i64.wrap ((j : Int) + 1) = ((j + 1 : Nat) : Int) := by rw [wrap_in (by omega) (by omega)]; omega
      have hrow : (M ++ colls (l.take j)) ++ coll x = M ++ colls (l.take (j + 1)) := by
        rw [List.take_add_one, hx, colls_app, List.append_assoc]
        simp [colls]
      rw [hrow] at hcall
      obtain ⟨k', nm', t', n', s', l'⟩ := x
      simp only [Ex.d, WS] at hget hcall
      repeat' (first
        | (with_reducible first
           | refine swp_seq ?_ | refine swp_block ?_ | refine swp_skip ?_ | refine swp_ret ?_ | refine swp_exit ?_ | refine swp_label ?_
           | refine kseq_n ?_ | refine kseq_x ?_ | refine kseq_r ?_ | refine kblk_n ?_ | refine kblk_r ?_ | refine kblk_xs ?_ | refine kloop_x ?_ | refine kloop_r ?_)
        | (with_reducible refine kblk_xn ?_ ?_
           · rfl)
        | (with_reducible refine swp_regionP ?_ ?_ (fun K' hK' => ?_)
           · rfl
           · rfl
           simp only [LM, vcOps, stepO, val, vals, lk, put, putO, opn, opns, ok1, oks, okp, pickV, nbeq, nble, Nat.reduceBEq, Nat.reduceLeDiff, Int.reduceLE, Int.reduceLT, Int.reduceToNat, ofV, leafS, scs, SV.sc, SV.cells, nx, loadC, Nat.reduceAdd, Nat.reduceSub, Nat.reduceMul, upd, bin, binS, binB, eqA, aggOf, leavesV, eqV, eqL, un1, cnv, bnd, slO, lenV, lenT, mkF, callO, bltO, lenO, appO, srcO, notI, jkE, jkS, SV.jk, SV.jks, Box.jk, buildO, fillO, bslO, elemsO, SV.toD, SV.toDs, SV.owns, SV.ownss, D.cells, gVal, offE, offS, Int.cast_ofNat_Int, reduceCtorEq, D.fits, dscs, XTS, XT2S, Int.toNat_natCast, hget, hll, hb0, hb1]
           (repeat (refine And.intro ?_ ?_; focus (clear hK'; intros; simp_all; done)))
           (try (refine hK' _ _ ?_; clear hK'; clear K')))
        | (with_reducible refine swp_cond ?_ ?_
           · rfl
           refine ⟨_, rfl, fun h => ?_, fun h => ?_⟩
           <;> (try (exfalso; exact absurd h (by decide)))))
      refine stop_callV rfl rfl (by simp only [LM, vcOps, stepO, val, vals, lk, put, putO, opn, opns, ok1, oks, okp, pickV, nbeq, nble, Nat.reduceBEq, Nat.reduceLeDiff, Int.reduceLE, Int.reduceLT, Int.reduceToNat, ofV, leafS, scs, SV.sc, SV.cells, nx, loadC, Nat.reduceAdd, Nat.reduceSub, Nat.reduceMul, upd, bin, binS, binB, eqA, aggOf, leavesV, eqV, eqL, un1, cnv, bnd, slO, lenV, lenT, mkF, callO, bltO, lenO, appO, srcO, notI, jkE, jkS, SV.jk, SV.jks, Box.jk, buildO, fillO, bslO, elemsO, SV.toD, SV.toDs, SV.owns, SV.ownss, D.cells, gVal, offE, offS, Int.cast_ofNat_Int, reduceCtorEq, D.fits, dscs]) (by simp only [argF, argOne, hin, hins, LM, vcOps, stepO, val, vals, lk, put, putO, opn, opns, ok1, oks, okp, pickV, nbeq, nble, Nat.reduceBEq, Nat.reduceLeDiff, Int.reduceLE, Int.reduceLT, Int.reduceToNat, ofV, leafS, scs, SV.sc, SV.cells, nx, loadC, Nat.reduceAdd, Nat.reduceSub, Nat.reduceMul, upd, bin, binS, binB, eqA, aggOf, leavesV, eqV, eqL, un1, cnv, bnd, slO, lenV, lenT, mkF, callO, bltO, lenO, appO, srcO, notI, jkE, jkS, SV.jk, SV.jks, Box.jk, buildO, fillO, bslO, elemsO, SV.toD, SV.toDs, SV.owns, SV.ownss, D.cells, gVal, offE, offS, Int.cast_ofNat_Int, reduceCtorEq, D.fits, dscs, Option.isSome_some]) (by simp only [subC, LM, vcOps, stepO, val, vals, lk, put, putO, opn, opns, ok1, oks, okp, pickV, nbeq, nble, Nat.reduceBEq, Nat.reduceLeDiff, Int.reduceLE, Int.reduceLT, Int.reduceToNat, ofV, leafS, scs, SV.sc, SV.cells, nx, loadC, Nat.reduceAdd, Nat.reduceSub, Nat.reduceMul, upd, bin, binS, binB, eqA, aggOf, leavesV, eqV, eqL, un1, cnv, bnd, slO, lenV, lenT, mkF, callO, bltO, lenO, appO, srcO, notI, jkE, jkS, SV.jk, SV.jks, Box.jk, buildO, fillO, bslO, elemsO, SV.toD, SV.toDs, SV.owns, SV.ownss, D.cells, gVal, offE, offS, Int.cast_ofNat_Int, reduceCtorEq, D.fits, dscs]) (by simp only [hinB, hin, hins, LM, vcOps, stepO, val, vals, lk, put, putO, opn, opns, ok1, oks, okp, pickV, nbeq, nble, Nat.reduceBEq, Nat.reduceLeDiff, Int.reduceLE, Int.reduceLT, Int.reduceToNat, ofV, leafS, scs, SV.sc, SV.cells, nx, loadC, Nat.reduceAdd, Nat.reduceSub, Nat.reduceMul, upd, bin, binS, binB, eqA, aggOf, leavesV, eqV, eqL, un1, cnv, bnd, slO, lenV, lenT, mkF, callO, bltO, lenO, appO, srcO, notI, jkE, jkS, SV.jk, SV.jks, Box.jk, buildO, fillO, bslO, elemsO, SV.toD, SV.toDs, SV.owns, SV.ownss, D.cells, gVal, offE, offS, Int.cast_ofNat_Int, reduceCtorEq, D.fits, dscs, Option.isSome_some]) (by simp only [sameD, newS, lk, nbeq, Nat.reduceBEq, cond_false, cond_true, Option.isNone_none, and_self, true_and, and_true]) (hcall) ?_
      simp only [LM, vcOps, stepO, val, vals, lk, put, putO, opn, opns, ok1, oks, okp, pickV, nbeq, nble, Nat.reduceBEq, Nat.reduceLeDiff, Int.reduceLE, Int.reduceLT, Int.reduceToNat, ofV, leafS, scs, SV.sc, SV.cells, nx, loadC, Nat.reduceAdd, Nat.reduceSub, Nat.reduceMul, upd, bin, binS, binB, eqA, aggOf, leavesV, eqV, eqL, un1, cnv, bnd, slO, lenV, lenT, mkF, callO, bltO, lenO, appO, srcO, notI, jkE, jkS, SV.jk, SV.jks, Box.jk, buildO, fillO, bslO, elemsO, SV.toD, SV.toDs, SV.owns, SV.ownss, D.cells, gVal, offE, offS, Int.cast_ofNat_Int, reduceCtorEq, D.fits, dscs, XTS, XT2S, mrg, rowsOf, inX, jkS, ]
      (try (refine hK' _ _ ?_; clear hK'; clear K'))
      repeat' (first
        | (with_reducible first
           | refine swp_seq ?_ | refine swp_block ?_ | refine swp_skip ?_ | refine swp_ret ?_ | refine swp_exit ?_ | refine swp_label ?_
           | refine kseq_n ?_ | refine kseq_x ?_ | refine kseq_r ?_ | refine kblk_n ?_ | refine kblk_r ?_ | refine kblk_xs ?_ | refine kloop_x ?_ | refine kloop_r ?_)
        | (with_reducible refine kblk_xn ?_ ?_
           · rfl)
        | (with_reducible refine swp_regionP ?_ ?_ (fun K' hK' => ?_)
           · rfl
           · rfl
           simp only [LM, vcOps, stepO, val, vals, lk, put, putO, opn, opns, ok1, oks, okp, pickV, nbeq, nble, Nat.reduceBEq, Nat.reduceLeDiff, Int.reduceLE, Int.reduceLT, Int.reduceToNat, ofV, leafS, scs, SV.sc, SV.cells, nx, loadC, Nat.reduceAdd, Nat.reduceSub, Nat.reduceMul, upd, bin, binS, binB, eqA, aggOf, leavesV, eqV, eqL, un1, cnv, bnd, slO, lenV, lenT, mkF, callO, bltO, lenO, appO, srcO, notI, jkE, jkS, SV.jk, SV.jks, Box.jk, buildO, fillO, bslO, elemsO, SV.toD, SV.toDs, SV.owns, SV.ownss, D.cells, gVal, offE, offS, Int.cast_ofNat_Int, reduceCtorEq, D.fits, dscs, XTS, XT2S, hw3]
           (repeat (refine And.intro ?_ ?_; focus (clear hK'; intros; simp_all; done)))
           (try (refine hK' _ _ ?_; clear hK'; clear K')))
        | (with_reducible refine swp_cond ?_ ?_
           · rfl
           refine ⟨_, rfl, fun h => ?_, fun h => ?_⟩
           <;> (try (exfalso; exact absurd h (by decide)))))
      refine ⟨j + 1, (by show j + 1 ≤ l.length; omega), (by show l.length - (j + 1) < l.length - j; omega), by refine sub_of h0 ?_ ?_ ?_ <;> simp only [keepS, subS, subE, BoxW, FZs, FZ, offl, LM, vcOps, stepO, val, vals, lk, put, putO, opn, opns, ok1, oks, okp, pickV, nbeq, nble, Nat.reduceBEq, Nat.reduceLeDiff, Int.reduceLE, Int.reduceLT, Int.reduceToNat, ofV, leafS, scs, SV.sc, SV.cells, nx, loadC, Nat.reduceAdd, Nat.reduceSub, Nat.reduceMul, upd, bin, binS, binB, eqA, aggOf, leavesV, eqV, eqL, un1, cnv, bnd, slO, lenV, lenT, mkF, callO, bltO, lenO, appO, srcO, notI, jkE, jkS, SV.jk, SV.jks, Box.jk, buildO, fillO, bslO, elemsO, SV.toD, SV.toDs, SV.owns, SV.ownss, D.cells, gVal, offE, offS, Int.cast_ofNat_Int, reduceCtorEq, D.fits, dscs, XTS, XT2S, Option.isSome_some, hll]⟩
    · have hb1 : ¬ (j : Int) < (l.length : Int) := by omega
      have htk : l.take j = l := List.take_of_length_le (by omega)
      rw [htk]
      repeat' (first
        | (with_reducible first
           | refine swp_seq ?_ | refine swp_block ?_ | refine swp_skip ?_ | refine swp_ret ?_ | refine swp_exit ?_ | refine swp_label ?_
           | refine kseq_n ?_ | refine kseq_x ?_ | refine kseq_r ?_ | refine kblk_n ?_ | refine kblk_r ?_ | refine kblk_xs ?_ | refine kloop_x ?_ | refine kloop_r ?_)
        | (with_reducible refine kblk_xn ?_ ?_
           · rfl)
        | (with_reducible refine swp_regionP ?_ ?_ (fun K' hK' => ?_)
           · rfl
           · rfl
           simp only [LM, vcOps, stepO, val, vals, lk, put, putO, opn, opns, ok1, oks, okp, pickV, nbeq, nble, Nat.reduceBEq, Nat.reduceLeDiff, Int.reduceLE, Int.reduceLT, Int.reduceToNat, ofV, leafS, scs, SV.sc, SV.cells, nx, loadC, Nat.reduceAdd, Nat.reduceSub, Nat.reduceMul, upd, bin, binS, binB, eqA, aggOf, leavesV, eqV, eqL, un1, cnv, bnd, slO, lenV, lenT, mkF, callO, bltO, lenO, appO, srcO, notI, jkE, jkS, SV.jk, SV.jks, Box.jk, buildO, fillO, bslO, elemsO, SV.toD, SV.toDs, SV.owns, SV.ownss, D.cells, gVal, offE, offS, Int.cast_ofNat_Int, reduceCtorEq, D.fits, dscs, XTS, XT2S, hb1]
           (repeat (refine And.intro ?_ ?_; focus (clear hK'; intros; simp_all; done)))
           (try (refine hK' _ _ ?_; clear hK'; clear K')))
        | (with_reducible refine swp_cond ?_ ?_
           · rfl
           refine ⟨_, rfl, fun h => ?_, fun h => ?_⟩
           <;> (try (exfalso; exact absurd h (by decide)))))
      simp only [KretS, retL, retOne, oneV, keepS, subS, BoxW, FZs, FZ, offl, LM, vcOps, stepO, val, vals, lk, put, putO, opn, opns, ok1, oks, okp, pickV, nbeq, nble, Nat.reduceBEq, Nat.reduceLeDiff, Int.reduceLE, Int.reduceLT, Int.reduceToNat, ofV, leafS, scs, SV.sc, SV.cells, nx, loadC, Nat.reduceAdd, Nat.reduceSub, Nat.reduceMul, upd, bin, binS, binB, eqA, aggOf, leavesV, eqV, eqL, un1, cnv, bnd, slO, lenV, lenT, mkF, callO, bltO, lenO, appO, srcO, notI, jkE, jkS, SV.jk, SV.jks, Box.jk, buildO, fillO, bslO, elemsO, SV.toD, SV.toDs, SV.owns, SV.ownss, D.cells, gVal, offE, offS, Int.cast_ofNat_Int, reduceCtorEq, D.fits, dscs, XTS, XT2S, Option.isSome_some, h0]
  · have h2 : ¬ k = 2 := by simpa using h
    have hM2 : M = L := by rw [hM, if_neg h2]; simp
    rw [hM2] at hco hMl ⊢
    clear hM
    subst hM2
    refine swp_loop (α := Nat) (fun j => [(1, .ref 0 0), (2, .ref 1 0), (15, .d (.slc (Ex.ds l))), (16, .d (iD l.length)), (17, .d (iD j))])
      (fun j => [(0, .cells [.own 2]), (1, .cells [.clo 58 [.ref 0 0, .ref 1 0]]), (2, .row 1 ((M ++ colls (l.take j)).map sD))])
      (fun j => j ≤ l.length) (fun j => l.length - j) 0 (Nat.zero_le _) (by simp only [List.take_zero, colls, List.append_nil]; refine sub_of h0 ?_ ?_ ?_ <;> simp only [keepS, subS, subE, BoxW, FZs, FZ, offl, LM, vcOps, stepO, val, vals, lk, put, putO, opn, opns, ok1, oks, okp, pickV, nbeq, nble, Nat.reduceBEq, Nat.reduceLeDiff, Int.reduceLE, Int.reduceLT, Int.reduceToNat, ofV, leafS, scs, SV.sc, SV.cells, nx, loadC, Nat.reduceAdd, Nat.reduceSub, Nat.reduceMul, upd, bin, binS, binB, eqA, aggOf, leavesV, eqV, eqL, un1, cnv, bnd, slO, lenV, lenT, mkF, callO, bltO, lenO, appO, srcO, notI, jkE, jkS, SV.jk, SV.jks, Box.jk, buildO, fillO, bslO, elemsO, SV.toD, SV.toDs, SV.owns, SV.ownss, D.cells, gVal, offE, offS, Int.cast_ofNat_Int, reduceCtorEq, D.fits, dscs, XTS, XT2S, Option.isSome_some, hll]) (fun j hj => ?_)
    have hb0 : (0 : Int) ≤ (j : Int) := by omega
    by_cases hlt : j < l.length
    · obtain ⟨x, hx⟩ : ∃ x, l[j]? = some x := ⟨l[j], by simp [hlt]⟩
      have hmem := List.mem_of_getElem? hx
      have hxs := Ex.size_mem hmem
      have hcl := colls_sub l j
      have hcall := ih x hmem (M ++ colls (l.take j)) (by
        have h1 : (colls (l.take j)).length + x.size ≤ Ex.sizes l := colls_room l j x hx
        rw [List.length_append]; omega)
      have hget := Ex.ds_get l j x hx
      have hb1 : (j : Int) < (l.length : Int) := by omega
      have hw3 : IntKind.i64.wrap ((j : Int) + 1) = ((j + 1 : Nat) : Int) := by rw [wrap_in (by omega) (by omega)]; omega
      have hrow : (M ++ colls (l.take j)) ++ coll x = M ++ colls (l.take (j + 1)) := by
        rw [List.take_add_one, hx, colls_app, List.append_assoc]
        simp [colls]
      rw [hrow] at hcall
      obtain ⟨k', nm', t', n', s', l'⟩ := x
      simp only [Ex.d, WS] at hget hcall
      repeat' (first
        | (with_reducible first
           | refine swp_seq ?_ | refine swp_block ?_ | refine swp_skip ?_ | refine swp_ret ?_ | refine swp_exit ?_ | refine swp_label ?_
           | refine kseq_n ?_ | refine kseq_x ?_ | refine kseq_r ?_ | refine kblk_n ?_ | refine kblk_r ?_ | refine kblk_xs ?_ | refine kloop_x ?_ | refine kloop_r ?_)
        | (with_reducible refine kblk_xn ?_ ?_
           · rfl)
        | (with_reducible refine swp_regionP ?_ ?_ (fun K' hK' => ?_)
           · rfl
           · rfl
           simp only [LM, vcOps, stepO, val, vals, lk, put, putO, opn, opns, ok1, oks, okp, pickV, nbeq, nble, Nat.reduceBEq, Nat.reduceLeDiff, Int.reduceLE, Int.reduceLT, Int.reduceToNat, ofV, leafS, scs, SV.sc, SV.cells, nx, loadC, Nat.reduceAdd, Nat.reduceSub, Nat.reduceMul, upd, bin, binS, binB, eqA, aggOf, leavesV, eqV, eqL, un1, cnv, bnd, slO, lenV, lenT, mkF, callO, bltO, lenO, appO, srcO, notI, jkE, jkS, SV.jk, SV.jks, Box.jk, buildO, fillO, bslO, elemsO, SV.toD, SV.toDs, SV.owns, SV.ownss, D.cells, gVal, offE, offS, Int.cast_ofNat_Int, reduceCtorEq, D.fits, dscs, XTS, XT2S, Int.toNat_natCast, hget, hll, hb0, hb1]
           (repeat (refine And.intro ?_ ?_; focus (clear hK'; intros; simp_all; done)))
           (try (refine hK' _ _ ?_; clear hK'; clear K')))
        | (with_reducible refine swp_cond ?_ ?_
           · rfl
           refine ⟨_, rfl, fun h => ?_, fun h => ?_⟩
           <;> (try (exfalso; exact absurd h (by decide)))))
      refine stop_callV rfl rfl (by simp only [LM, vcOps, stepO, val, vals, lk, put, putO, opn, opns, ok1, oks, okp, pickV, nbeq, nble, Nat.reduceBEq, Nat.reduceLeDiff, Int.reduceLE, Int.reduceLT, Int.reduceToNat, ofV, leafS, scs, SV.sc, SV.cells, nx, loadC, Nat.reduceAdd, Nat.reduceSub, Nat.reduceMul, upd, bin, binS, binB, eqA, aggOf, leavesV, eqV, eqL, un1, cnv, bnd, slO, lenV, lenT, mkF, callO, bltO, lenO, appO, srcO, notI, jkE, jkS, SV.jk, SV.jks, Box.jk, buildO, fillO, bslO, elemsO, SV.toD, SV.toDs, SV.owns, SV.ownss, D.cells, gVal, offE, offS, Int.cast_ofNat_Int, reduceCtorEq, D.fits, dscs]) (by simp only [argF, argOne, hin, hins, LM, vcOps, stepO, val, vals, lk, put, putO, opn, opns, ok1, oks, okp, pickV, nbeq, nble, Nat.reduceBEq, Nat.reduceLeDiff, Int.reduceLE, Int.reduceLT, Int.reduceToNat, ofV, leafS, scs, SV.sc, SV.cells, nx, loadC, Nat.reduceAdd, Nat.reduceSub, Nat.reduceMul, upd, bin, binS, binB, eqA, aggOf, leavesV, eqV, eqL, un1, cnv, bnd, slO, lenV, lenT, mkF, callO, bltO, lenO, appO, srcO, notI, jkE, jkS, SV.jk, SV.jks, Box.jk, buildO, fillO, bslO, elemsO, SV.toD, SV.toDs, SV.owns, SV.ownss, D.cells, gVal, offE, offS, Int.cast_ofNat_Int, reduceCtorEq, D.fits, dscs, Option.isSome_some]) (by simp only [subC, LM, vcOps, stepO, val, vals, lk, put, putO, opn, opns, ok1, oks, okp, pickV, nbeq, nble, Nat.reduceBEq, Nat.reduceLeDiff, Int.reduceLE, Int.reduceLT, Int.reduceToNat, ofV, leafS, scs, SV.sc, SV.cells, nx, loadC, Nat.reduceAdd, Nat.reduceSub, Nat.reduceMul, upd, bin, binS, binB, eqA, aggOf, leavesV, eqV, eqL, un1, cnv, bnd, slO, lenV, lenT, mkF, callO, bltO, lenO, appO, srcO, notI, jkE, jkS, SV.jk, SV.jks, Box.jk, buildO, fillO, bslO, elemsO, SV.toD, SV.toDs, SV.owns, SV.ownss, D.cells, gVal, offE, offS, Int.cast_ofNat_Int, reduceCtorEq, D.fits, dscs]) (by simp only [hinB, hin, hins, LM, vcOps, stepO, val, vals, lk, put, putO, opn, opns, ok1, oks, okp, pickV, nbeq, nble, Nat.reduceBEq, Nat.reduceLeDiff, Int.reduceLE, Int.reduceLT, Int.reduceToNat, ofV, leafS, scs, SV.sc, SV.cells, nx, loadC, Nat.reduceAdd, Nat.reduceSub, Nat.reduceMul, upd, bin, binS, binB, eqA, aggOf, leavesV, eqV, eqL, un1, cnv, bnd, slO, lenV, lenT, mkF, callO, bltO, lenO, appO, srcO, notI, jkE, jkS, SV.jk, SV.jks, Box.jk, buildO, fillO, bslO, elemsO, SV.toD, SV.toDs, SV.owns, SV.ownss, D.cells, gVal, offE, offS, Int.cast_ofNat_Int, reduceCtorEq, D.fits, dscs, Option.isSome_some]) (by simp only [sameD, newS, lk, nbeq, Nat.reduceBEq, cond_false, cond_true, Option.isNone_none, and_self, true_and, and_true]) (hcall) ?_
      simp only [LM, vcOps, stepO, val, vals, lk, put, putO, opn, opns, ok1, oks, okp, pickV, nbeq, nble, Nat.reduceBEq, Nat.reduceLeDiff, Int.reduceLE, Int.reduceLT, Int.reduceToNat, ofV, leafS, scs, SV.sc, SV.cells, nx, loadC, Nat.reduceAdd, Nat.reduceSub, Nat.reduceMul, upd, bin, binS, binB, eqA, aggOf, leavesV, eqV, eqL, un1, cnv, bnd, slO, lenV, lenT, mkF, callO, bltO, lenO, appO, srcO, notI, jkE, jkS, SV.jk, SV.jks, Box.jk, buildO, fillO, bslO, elemsO, SV.toD, SV.toDs, SV.owns, SV.ownss, D.cells, gVal, offE, offS, Int.cast_ofNat_Int, reduceCtorEq, D.fits, dscs, XTS, XT2S, mrg, rowsOf, inX, jkS, ]
      (try (refine hK' _ _ ?_; clear hK'; clear K'))
      repeat' (first
        | (with_reducible first
           | refine swp_seq ?_ | refine swp_block ?_ | refine swp_skip ?_ | refine swp_ret ?_ | refine swp_exit ?_ | refine swp_label ?_
           | refine kseq_n ?_ | refine kseq_x ?_ | refine kseq_r ?_ | refine kblk_n ?_ | refine kblk_r ?_ | refine kblk_xs ?_ | refine kloop_x ?_ | refine kloop_r ?_)
        | (with_reducible refine kblk_xn ?_ ?_
           · rfl)
        | (with_reducible refine swp_regionP ?_ ?_ (fun K' hK' => ?_)
           · rfl
           · rfl
           simp only [LM, vcOps, stepO, val, vals, lk, put, putO, opn, opns, ok1, oks, okp, pickV, nbeq, nble, Nat.reduceBEq, Nat.reduceLeDiff, Int.reduceLE, Int.reduceLT, Int.reduceToNat, ofV, leafS, scs, SV.sc, SV.cells, nx, loadC, Nat.reduceAdd, Nat.reduceSub, Nat.reduceMul, upd, bin, binS, binB, eqA, aggOf, leavesV, eqV, eqL, un1, cnv, bnd, slO, lenV, lenT, mkF, callO, bltO, lenO, appO, srcO, notI, jkE, jkS, SV.jk, SV.jks, Box.jk, buildO, fillO, bslO, elemsO, SV.toD, SV.toDs, SV.owns, SV.ownss, D.cells, gVal, offE, offS, Int.cast_ofNat_Int, reduceCtorEq, D.fits, dscs, XTS, XT2S, hw3]
           (repeat (refine And.intro ?_ ?_; focus (clear hK'; intros; simp_all; done)))
           (try (refine hK' _ _ ?_; clear hK'; clear K')))
        | (with_reducible refine swp_cond ?_ ?_
           · rfl
           refine ⟨_, rfl, fun h => ?_, fun h => ?_⟩
           <;> (try (exfalso; exact absurd h (by decide)))))
      refine ⟨j + 1, (by show j + 1 ≤ l.length; omega), (by show l.length - (j + 1) < l.length - j; omega), by refine sub_of h0 ?_ ?_ ?_ <;> simp only [keepS, subS, subE, BoxW, FZs, FZ, offl, LM, vcOps, stepO, val, vals, lk, put, putO, opn, opns, ok1, oks, okp, pickV, nbeq, nble, Nat.reduceBEq, Nat.reduceLeDiff, Int.reduceLE, Int.reduceLT, Int.reduceToNat, ofV, leafS, scs, SV.sc, SV.cells, nx, loadC, Nat.reduceAdd, Nat.reduceSub, Nat.reduceMul, upd, bin, binS, binB, eqA, aggOf, leavesV, eqV, eqL, un1, cnv, bnd, slO, lenV, lenT, mkF, callO, bltO, lenO, appO, srcO, notI, jkE, jkS, SV.jk, SV.jks, Box.jk, buildO, fillO, bslO, elemsO, SV.toD, SV.toDs, SV.owns, SV.ownss, D.cells, gVal, offE, offS, Int.cast_ofNat_Int, reduceCtorEq, D.fits, dscs, XTS, XT2S, Option.isSome_some, hll]⟩
    · have hb1 : ¬ (j : Int) < (l.length : Int) := by omega
      have htk : l.take j = l := List.take_of_length_le (by omega)
      rw [htk]
      repeat' (first
        | (with_reducible first
           | refine swp_seq ?_ | refine swp_block ?_ | refine swp_skip ?_ | refine swp_ret ?_ | refine swp_exit ?_ | refine swp_label ?_
           | refine kseq_n ?_ | refine kseq_x ?_ | refine kseq_r ?_ | refine kblk_n ?_ | refine kblk_r ?_ | refine kblk_xs ?_ | refine kloop_x ?_ | refine kloop_r ?_)
        | (with_reducible refine kblk_xn ?_ ?_
           · rfl)
        | (with_reducible refine swp_regionP ?_ ?_ (fun K' hK' => ?_)
           · rfl
           · rfl
           simp only [LM, vcOps, stepO, val, vals, lk, put, putO, opn, opns, ok1, oks, okp, pickV, nbeq, nble, Nat.reduceBEq, Nat.reduceLeDiff, Int.reduceLE, Int.reduceLT, Int.reduceToNat, ofV, leafS, scs, SV.sc, SV.cells, nx, loadC, Nat.reduceAdd, Nat.reduceSub, Nat.reduceMul, upd, bin, binS, binB, eqA, aggOf, leavesV, eqV, eqL, un1, cnv, bnd, slO, lenV, lenT, mkF, callO, bltO, lenO, appO, srcO, notI, jkE, jkS, SV.jk, SV.jks, Box.jk, buildO, fillO, bslO, elemsO, SV.toD, SV.toDs, SV.owns, SV.ownss, D.cells, gVal, offE, offS, Int.cast_ofNat_Int, reduceCtorEq, D.fits, dscs, XTS, XT2S, hb1]
           (repeat (refine And.intro ?_ ?_; focus (clear hK'; intros; simp_all; done)))
           (try (refine hK' _ _ ?_; clear hK'; clear K')))
        | (with_reducible refine swp_cond ?_ ?_
           · rfl
           refine ⟨_, rfl, fun h => ?_, fun h => ?_⟩
           <;> (try (exfalso; exact absurd h (by decide)))))
      simp only [KretS, retL, retOne, oneV, keepS, subS, BoxW, FZs, FZ, offl, LM, vcOps, stepO, val, vals, lk, put, putO, opn, opns, ok1, oks, okp, pickV, nbeq, nble, Nat.reduceBEq, Nat.reduceLeDiff, Int.reduceLE, Int.reduceLT, Int.reduceToNat, ofV, leafS, scs, SV.sc, SV.cells, nx, loadC, Nat.reduceAdd, Nat.reduceSub, Nat.reduceMul, upd, bin, binS, binB, eqA, aggOf, leavesV, eqV, eqL, un1, cnv, bnd, slO, lenV, lenT, mkF, callO, bltO, lenO, appO, srcO, notI, jkE, jkS, SV.jk, SV.jks, Box.jk, buildO, fillO, bslO, elemsO, SV.toD, SV.toDs, SV.owns, SV.ownss, D.cells, gVal, offE, offS, Int.cast_ofNat_Int, reduceCtorEq, D.fits, dscs, XTS, XT2S, Option.isSome_some, h0]
theorem walk_fn : ∀ (N : Nat) (x : Ex), x.size ≤ N → ∀ L : List ByteArray, L.length + x.size ≤ 1000000 → SFn Tryd.prog Γ0 58 [.d x.d, .ref 0 0, .ref 1 0] (WS L) (.tup []) (WS (L ++ coll x))
  | 0, x, h, _, _ => by have := x.size_pos; omega
  | N + 1, .mk k nm t n s l, h, L, hb => walk_step k nm t n s l L hb fun x hx L' hL => walk_fn N x (by have := Ex.size_mem hx; simp only [Ex.size] at h; omega) L' hL
end Go.Proofs.YtiobdkibbhpojaaDoor
