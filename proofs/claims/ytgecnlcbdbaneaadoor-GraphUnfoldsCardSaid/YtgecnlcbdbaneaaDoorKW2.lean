/- types.put, types.twin, types.Unfold; a symbolic walk. -/
-- TYPESC
import Derived.Test.YtgecnlcbdbaneaaDoorKW1
set_option linter.unusedVariables false
set_option linter.unusedSimpArgs false
namespace Go.Proofs.YtgecnlcbdbaneaaDoor
open Go.RowKit Go.Sw

theorem ds_mapT : ∀ l : List Tp, Tp.ds l = l.map Tp.d
  | [] => rfl
  | x :: l => by simp [Tp.ds, ds_mapT l]
theorem ds_appT (l : List Tp) (x : Tp) : Tp.ds (l ++ [x]) = Tp.ds l ++ [x.d] := by simp [ds_mapT]
set_option maxHeartbeats 8000000 in
set_option maxRecDepth 100000 in
theorem put_step (Γ : Gl) (a : ByteArray) (s : Tp) (k so : Int) (nm : ByteArray) (ls : List ByteArray) (l : List Tp) (R : Tp) (g : Tp → Tp) (hl : l.length ≤ 6) (hls : ls.length ≤ 6)
    (h9 : k = 9 → nm.toList = a.toList → DFn Tryd.prog Γ 47 [s.d] R.d)
    (h8 : k = 8 → nm.toList = a.toList → DFn Tryd.prog Γ 47 [(Tp.mk k so nm ls l).d] R.d)
    (hn : ¬ (k = 9 ∧ nm.toList = a.toList) → ¬ (k = 8 ∧ nm.toList = a.toList) → R = .mk k so nm ls (l.map g) ∧ ∀ x ∈ l, DFn Tryd.prog Γ 48 [x.d, sD a, s.d] (g x).d) :
    DFn Tryd.prog Γ 48 [(Tp.mk k so nm ls l).d, sD a, s.d] R.d := by
  have hll := Tp.ds_len l
  obtain ⟨sk, sso, snm, sls, sl⟩ := s
  have hcS := cloneS_d Γ ls (by omega)
  by_cases c9 : k = 9 ∧ nm.toList = a.toList
  · have hT := h9 c9.1 c9.2
    have g9 : (k == 9) = true := by simpa using c9.1
    have gn : (nm.toList == a.toList) = true := by simpa using c9.2
    clear h9 h8 hn
    obtain ⟨rk, rso, rnm, rls, rl⟩ := R
    simp only [Tp.d] at hT ⊢
    refine fn_of_swp (N := 62) Tryd.func48 rfl (by decide) rfl rfl (by simp) (fun C h0 => ?_)
    simp only [argE]
    repeat' (first
      |(with_reducible first|refine swp_seq ?_|refine swp_block ?_|refine swp_skip ?_|refine swp_ret ?_|refine swp_exit ?_|refine swp_label ?_|refine kseq_n ?_|refine kseq_x ?_|refine kseq_r ?_|refine kblk_n ?_|refine kblk_r ?_|refine kblk_xs ?_|refine kloop_x ?_|refine kloop_r ?_)
      |((with_reducible refine kblk_xn ?_ ?_);rfl)
      |((with_reducible refine swp_regionP ?_ ?_ (fun K' hK' => ?_));rfl;rfl;simp only [UN, LM, Nat.reduceBEq, Nat.reduceLeDiff, Int.reduceLE, Int.reduceLT, Int.reduceToNat, Nat.reduceAdd, Nat.reduceSub, Nat.reduceMul, reduceCtorEq, TAS, TBS, TCS, g9, gn];(repeat (refine And.intro ?_ ?_; focus (clear hK'; intros; simp_all; done)));(try (refine hK' _ _ ?_; clear hK'; clear K')))
      |((with_reducible refine swp_cond ?_ ?_);rfl;refine ⟨_, rfl, fun h => ?_, fun h => ?_⟩ <;> (try (exfalso; exact absurd h (by decide)))))
    refine stop_call h0 rfl (by simp only [UN, LM, Nat.reduceBEq, Nat.reduceLeDiff, Int.reduceLE, Int.reduceLT, Int.reduceToNat, Nat.reduceAdd, Nat.reduceSub, Nat.reduceMul, reduceCtorEq]) rfl (by simp only [keepS, UN, LM, Nat.reduceBEq, Nat.reduceLeDiff, Int.reduceLE, Int.reduceLT, Int.reduceToNat, Nat.reduceAdd, Nat.reduceSub, Nat.reduceMul, reduceCtorEq]) (hT) ?_
    simp only [UN, LM, Nat.reduceBEq, Nat.reduceLeDiff, Int.reduceLE, Int.reduceLT, Int.reduceToNat, Nat.reduceAdd, Nat.reduceSub, Nat.reduceMul, reduceCtorEq, TAS, TBS, TCS, inX, dropS, ]
    (repeat (refine And.intro ?_ ?_; focus (clear hK'; intros; simp_all; done)))
    (try (refine hK' _ _ ?_; clear hK'; clear K'))
    repeat' (first
      |(with_reducible first|refine swp_seq ?_|refine swp_block ?_|refine swp_skip ?_|refine swp_ret ?_|refine swp_exit ?_|refine swp_label ?_|refine kseq_n ?_|refine kseq_x ?_|refine kseq_r ?_|refine kblk_n ?_|refine kblk_r ?_|refine kblk_xs ?_|refine kloop_x ?_|refine kloop_r ?_)
      |((with_reducible refine kblk_xn ?_ ?_);rfl)
      |((with_reducible refine swp_regionP ?_ ?_ (fun K' hK' => ?_));rfl;rfl;simp only [UN, LM, Nat.reduceBEq, Nat.reduceLeDiff, Int.reduceLE, Int.reduceLT, Int.reduceToNat, Nat.reduceAdd, Nat.reduceSub, Nat.reduceMul, reduceCtorEq, TAS, TBS, TCS];(repeat (refine And.intro ?_ ?_; focus (clear hK'; intros; simp_all; done)));(try (refine hK' _ _ ?_; clear hK'; clear K')))
      |((with_reducible refine swp_cond ?_ ?_);rfl;refine ⟨_, rfl, fun h => ?_, fun h => ?_⟩ <;> (try (exfalso; exact absurd h (by decide)))))
    simp only [Kret, retL, retOne, oneV, UN, LM, Nat.reduceBEq, Nat.reduceLeDiff, Int.reduceLE, Int.reduceLT, Int.reduceToNat, Nat.reduceAdd, Nat.reduceSub, Nat.reduceMul, reduceCtorEq, TAS, TBS, TCS]
  by_cases c8 : k = 8 ∧ nm.toList = a.toList
  · have hT := h8 c8.1 c8.2
    have g9 : (k == 9) = false := by simp [c8.1]
    have g8 : (k == 8) = true := by simpa using c8.1
    have gn : (nm.toList == a.toList) = true := by simpa using c8.2
    clear h9 h8 hn
    obtain ⟨rk, rso, rnm, rls, rl⟩ := R
    simp only [Tp.d] at hT ⊢
    refine fn_of_swp (N := 62) Tryd.func48 rfl (by decide) rfl rfl (by simp) (fun C h0 => ?_)
    simp only [argE]
    repeat' (first
      |(with_reducible first|refine swp_seq ?_|refine swp_block ?_|refine swp_skip ?_|refine swp_ret ?_|refine swp_exit ?_|refine swp_label ?_|refine kseq_n ?_|refine kseq_x ?_|refine kseq_r ?_|refine kblk_n ?_|refine kblk_r ?_|refine kblk_xs ?_|refine kloop_x ?_|refine kloop_r ?_)
      |((with_reducible refine kblk_xn ?_ ?_);rfl)
      |((with_reducible refine swp_regionP ?_ ?_ (fun K' hK' => ?_));rfl;rfl;simp only [UN, LM, Nat.reduceBEq, Nat.reduceLeDiff, Int.reduceLE, Int.reduceLT, Int.reduceToNat, Nat.reduceAdd, Nat.reduceSub, Nat.reduceMul, reduceCtorEq, TAS, TBS, TCS, g9, g8, gn];(repeat (refine And.intro ?_ ?_; focus (clear hK'; intros; simp_all; done)));(try (refine hK' _ _ ?_; clear hK'; clear K')))
      |((with_reducible refine swp_cond ?_ ?_);rfl;refine ⟨_, rfl, fun h => ?_, fun h => ?_⟩ <;> (try (exfalso; exact absurd h (by decide)))))
    refine stop_call h0 rfl (by simp only [UN, LM, Nat.reduceBEq, Nat.reduceLeDiff, Int.reduceLE, Int.reduceLT, Int.reduceToNat, Nat.reduceAdd, Nat.reduceSub, Nat.reduceMul, reduceCtorEq]) rfl (by simp only [keepS, UN, LM, Nat.reduceBEq, Nat.reduceLeDiff, Int.reduceLE, Int.reduceLT, Int.reduceToNat, Nat.reduceAdd, Nat.reduceSub, Nat.reduceMul, reduceCtorEq]) (hT) ?_
    simp only [UN, LM, Nat.reduceBEq, Nat.reduceLeDiff, Int.reduceLE, Int.reduceLT, Int.reduceToNat, Nat.reduceAdd, Nat.reduceSub, Nat.reduceMul, reduceCtorEq, TAS, TBS, TCS, inX, dropS, ]
    (repeat (refine And.intro ?_ ?_; focus (clear hK'; intros; simp_all; done)))
    (try (refine hK' _ _ ?_; clear hK'; clear K'))
    repeat' (first
      |(with_reducible first|refine swp_seq ?_|refine swp_block ?_|refine swp_skip ?_|refine swp_ret ?_|refine swp_exit ?_|refine swp_label ?_|refine kseq_n ?_|refine kseq_x ?_|refine kseq_r ?_|refine kblk_n ?_|refine kblk_r ?_|refine kblk_xs ?_|refine kloop_x ?_|refine kloop_r ?_)
      |((with_reducible refine kblk_xn ?_ ?_);rfl)
      |((with_reducible refine swp_regionP ?_ ?_ (fun K' hK' => ?_));rfl;rfl;simp only [UN, LM, Nat.reduceBEq, Nat.reduceLeDiff, Int.reduceLE, Int.reduceLT, Int.reduceToNat, Nat.reduceAdd, Nat.reduceSub, Nat.reduceMul, reduceCtorEq, TAS, TBS, TCS];(repeat (refine And.intro ?_ ?_; focus (clear hK'; intros; simp_all; done)));(try (refine hK' _ _ ?_; clear hK'; clear K')))
      |((with_reducible refine swp_cond ?_ ?_);rfl;refine ⟨_, rfl, fun h => ?_, fun h => ?_⟩ <;> (try (exfalso; exact absurd h (by decide)))))
    simp only [Kret, retL, retOne, oneV, UN, LM, Nat.reduceBEq, Nat.reduceLeDiff, Int.reduceLE, Int.reduceLT, Int.reduceToNat, Nat.reduceAdd, Nat.reduceSub, Nat.reduceMul, reduceCtorEq, TAS, TBS, TCS]
  obtain ⟨rfl, ih⟩ := hn c9 c8
  have e9 : (if (k == 9) = true then nm.toList == a.toList else false) = false := by
    by_cases e : k = 9
    · have : ¬ nm.toList = a.toList := fun h => c9 ⟨e, h⟩
      simp [e, this]
    · simp [e]
  clear h9 h8 hn
  simp only [Tp.d]
  refine fn_of_swp (N := 62) Tryd.func48 rfl (by decide) rfl rfl (by simp) (fun C h0 => ?_)
  simp only [argE]
  repeat' (first
    |(with_reducible first|refine swp_seq ?_|refine swp_block ?_|refine swp_skip ?_|refine swp_ret ?_|refine swp_exit ?_|refine swp_label ?_|refine kseq_n ?_|refine kseq_x ?_|refine kseq_r ?_|refine kblk_n ?_|refine kblk_r ?_|refine kblk_xs ?_|refine kloop_x ?_|refine kloop_r ?_)
    |((with_reducible refine kblk_xn ?_ ?_);rfl)
    |((with_reducible refine swp_regionP ?_ ?_ (fun K' hK' => ?_));rfl;rfl;simp only [UN, LM, Nat.reduceBEq, Nat.reduceLeDiff, Int.reduceLE, Int.reduceLT, Int.reduceToNat, Nat.reduceAdd, Nat.reduceSub, Nat.reduceMul, reduceCtorEq, TAS, TBS, TCS];(repeat (refine And.intro ?_ ?_; focus (clear hK'; intros; simp_all; done)));(try (refine hK' _ _ ?_; clear hK'; clear K')))
    |((with_reducible refine swp_cond ?_ ?_);rfl;refine ⟨_, rfl, fun h => ?_, fun h => ?_⟩ <;> (try (exfalso; exact absurd h (by decide)))))
  · exfalso
    cases g : k == 9 with
    | false => rw [g] at h; cases h
    | true => rw [g] at h; exact c9 ⟨by simpa using g, by simpa using h⟩
  · exfalso
    cases g : k == 8 with
    | false => rw [g] at h; cases h
    | true => rw [g] at h; exact c8 ⟨by simpa using g, by simpa using h⟩
  rename_i h9
  clear h h9 e9
  (with_reducible refine swp_drawX ?_ ?_ ?_ (⟨⟨[(8, .slc (ls.map sD))], []⟩, [], [], [], []⟩) _ rfl (fun K' hK' gops fin hgops hfin => ?_)
   · kernel_rfl
   · rfl
   · rfl
   repeat' first
     | (refine vcX_dead rfl trivial (by simp only [UN, LM, Nat.reduceBEq, Nat.reduceLeDiff, Int.reduceLE, Int.reduceLT, Int.reduceToNat, Nat.reduceAdd, Nat.reduceSub, Nat.reduceMul, reduceCtorEq, TAS, TBS, TCS, Eff.env, Eff.st, jkE, jkS, UA, LM]; rfl) (by simp only [List.nil_append, List.cons_append]; rfl) (by simp only [Nat.reduceAdd]; rfl) ?_)
     | (refine vcX_step rfl rfl trivial (by simp only [UN, LM, Nat.reduceBEq, Nat.reduceLeDiff, Int.reduceLE, Int.reduceLT, Int.reduceToNat, Nat.reduceAdd, Nat.reduceSub, Nat.reduceMul, reduceCtorEq, TAS, TBS, TCS, stepX, stepX1, frzR, stepX0, callN, storeE, dAll, setE, callM, mArgs, SV.calm, SV.calms, callB, callP, bArgs, hasR, hins, hin, yes, inX, stepW, callR, effO, srcE, Eff.env, Eff.st, writeOp, callA, pureOp, Bool.or_true, Bool.true_or, Bool.or_self, Bool.or_false, Bool.false_or, Bool.not_true, Bool.not_false, D.flat, D.flats, true_or, or_true, forall_const, UA, hcS, List.length_map ]; rfl) ?_ (by simp only [UN, LM, Nat.reduceBEq, Nat.reduceLeDiff, Int.reduceLE, Int.reduceLT, Int.reduceToNat, Nat.reduceAdd, Nat.reduceSub, Nat.reduceMul, reduceCtorEq, TAS, TBS, TCS, Eff.env, Eff.st, jkE, jkS, UA, LM]; rfl) (by simp only [UN, LM, Nat.reduceBEq, Nat.reduceLeDiff, Int.reduceLE, Int.reduceLT, Int.reduceToNat, Nat.reduceAdd, Nat.reduceSub, Nat.reduceMul, reduceCtorEq, TAS, TBS, TCS, Eff.env, Eff.st, jkE, jkS, UA, LM]; rfl) (by simp only [List.nil_append, List.cons_append]; rfl) (by simp only [Nat.reduceAdd]; rfl) ?_; focus (first | trivial | ((repeat' (refine And.intro ?_ ?_)) <;> first | trivial | assumption | (clear hK' hfin hgops; intros; simp_all; done))))
   (refine vcX_nil (by subst hfin; kernel_rfl) ?_)
   clear hfin hgops fin gops
   (try (refine hK' _ _ ?_; clear hK'; clear K')))
  repeat' (first
    |(with_reducible first|refine swp_seq ?_|refine swp_block ?_|refine swp_skip ?_|refine swp_ret ?_|refine swp_exit ?_|refine swp_label ?_|refine kseq_n ?_|refine kseq_x ?_|refine kseq_r ?_|refine kblk_n ?_|refine kblk_r ?_|refine kblk_xs ?_|refine kloop_x ?_|refine kloop_r ?_)
    |((with_reducible refine kblk_xn ?_ ?_);rfl)
    |((with_reducible refine swp_regionP ?_ ?_ (fun K' hK' => ?_));rfl;rfl;simp only [UN, LM, Nat.reduceBEq, Nat.reduceLeDiff, Int.reduceLE, Int.reduceLT, Int.reduceToNat, Nat.reduceAdd, Nat.reduceSub, Nat.reduceMul, reduceCtorEq, TAS, TBS, TCS, hll];(repeat (refine And.intro ?_ ?_; focus (clear hK'; intros; simp_all; done)));(try (refine hK' _ _ ?_; clear hK'; clear K')))
    |((with_reducible refine swp_cond ?_ ?_);rfl;refine ⟨_, rfl, fun h => ?_, fun h => ?_⟩ <;> (try (exfalso; exact absurd h (by decide)))))
  -- TRACE
  refine swp_nilB 13 4 14 5 rfl rfl rfl (by decide) ?_
  simp only [UN, LM, Nat.reduceBEq, Nat.reduceLeDiff, Int.reduceLE, Int.reduceLT, Int.reduceToNat, Nat.reduceAdd, Nat.reduceSub, Nat.reduceMul, reduceCtorEq]
  refine swp_loop (α := Nat) (fun j => [(1, .d (sD a)), (3, .ref 0 0), (5, .ref 1 0), (6, .ref 2 0), (7, .ref 13 0), (45, .d (.slc (Tp.ds l))), (46, .d (iD l.length)), (47, .d (iD j))])
    (fun j => [(0, .cells [.d (iD k), .d (iD so), .d (sD nm), .d (.slc (ls.map sD)), .d (.slc (Tp.ds l))]), (1, .cells [.d (iD sk), .d (iD sso), .d (sD snm), .d (.slc (sls.map sD)), .d (.slc (Tp.ds sl))]), (2, .cells [.d (iD 0), .d (iD 0), .d (sD noB), .nil, .nil]), (13, .cells [.d (iD k), .d (iD so), .d (sD nm), .d (.slc (ls.map sD)), .own 14]), (14, .row 5 (Tp.ds ((l.take j).map g)))])
    (fun j => j ≤ l.length) (fun j => l.length - j) 0 (Nat.zero_le _) (by refine sub_of h0 ?_ ?_ ?_ <;> simp only [US, UN, LM, Nat.reduceBEq, Nat.reduceLeDiff, Int.reduceLE, Int.reduceLT, Int.reduceToNat, Nat.reduceAdd, Nat.reduceSub, Nat.reduceMul, reduceCtorEq, TAS, TBS, TCS, hll, Tp.ds, List.take_zero, List.map_nil]) (fun j hj => ?_)
  have hj : j ≤ l.length := hj
  have hj0 : (0 : Int) ≤ (j : Int) := by omega
  have hal : (Tp.ds ((l.take j).map g)).length = j := by rw [Tp.ds_len, List.length_map, List.length_take]; omega
  by_cases hjl : j < l.length
  · obtain ⟨y, hy⟩ : ∃ y, l[j]? = some y := ⟨l[j], by simp [hjl]⟩
    have hcall := ih y (List.mem_of_getElem? hy)
    have hget := Tp.ds_get l j y hy
    have hj1 : (j : Int) < (l.length : Int) := by omega
    have hw2 : IntKind.i64.wrap ((j : Int) + 1) = ((j + 1 : Nat) : Int) := by rw [wrap_in (by omega) (by omega)]; omega
    have htk : l.take (j + 1) = l.take j ++ [y] := by rw [List.take_add_one, hy]; rfl
    have hm : Tp.ds ((l.take j).map g) ++ [(g y).d] = Tp.ds ((l.take (j + 1)).map g) := by
      rw [htk, List.map_append, List.map_cons, List.map_nil, ds_appT]
    have hn5 : (j + 1) * 80 ≤ 140737488355328 := by omega
    have hn6 : j + 1 ≤ maxLen := by unfold maxLen; omega
    generalize g y = z at *
    obtain ⟨yk, yso, ynm, yls, yl⟩ := y
    obtain ⟨zk, zso, znm, zls, zl⟩ := z
    simp only [Tp.d] at hget hcall hm
    repeat' (first
      |(with_reducible first|refine swp_seq ?_|refine swp_block ?_|refine swp_skip ?_|refine swp_ret ?_|refine swp_exit ?_|refine swp_label ?_|refine kseq_n ?_|refine kseq_x ?_|refine kseq_r ?_|refine kblk_n ?_|refine kblk_r ?_|refine kblk_xs ?_|refine kloop_x ?_|refine kloop_r ?_)
      |((with_reducible refine kblk_xn ?_ ?_);rfl)
      |((with_reducible refine swp_regionP ?_ ?_ (fun K' hK' => ?_));rfl;rfl;simp only [UN, LM, Nat.reduceBEq, Nat.reduceLeDiff, Int.reduceLE, Int.reduceLT, Int.reduceToNat, Nat.reduceAdd, Nat.reduceSub, Nat.reduceMul, reduceCtorEq, TAS, TBS, TCS, Int.toNat_natCast, hll, hget, hj0, hj1];(repeat (refine And.intro ?_ ?_; focus (clear hK'; intros; simp_all; done)));(try (refine hK' _ _ ?_; clear hK'; clear K')))
      |((with_reducible refine swp_cond ?_ ?_);rfl;refine ⟨_, rfl, fun h => ?_, fun h => ?_⟩ <;> (try (exfalso; exact absurd h (by decide)))))
    -- TRACE
    (with_reducible refine swp_drawX ?_ ?_ ?_ (⟨⟨[(5, .agg [iD zk, iD zso, sD znm, .slc (zls.map sD), .slc (Tp.ds zl)])], []⟩, [], [], [], []⟩) _ rfl (fun K' hK' gops fin hgops hfin => ?_)
     · kernel_rfl
     · rfl
     · rfl
     repeat' first
       | (refine vcX_dead rfl trivial (by simp only [UN, LM, Nat.reduceBEq, Nat.reduceLeDiff, Int.reduceLE, Int.reduceLT, Int.reduceToNat, Nat.reduceAdd, Nat.reduceSub, Nat.reduceMul, reduceCtorEq, TAS, TBS, TCS, Eff.env, Eff.st, jkE, jkS, UA, LM]; rfl) (by simp only [List.nil_append, List.cons_append]; rfl) (by simp only [Nat.reduceAdd]; rfl) ?_)
       | (refine vcX_step rfl rfl trivial (by simp only [UN, LM, Nat.reduceBEq, Nat.reduceLeDiff, Int.reduceLE, Int.reduceLT, Int.reduceToNat, Nat.reduceAdd, Nat.reduceSub, Nat.reduceMul, reduceCtorEq, TAS, TBS, TCS, stepX, stepX1, frzR, stepX0, callN, storeE, dAll, setE, callM, mArgs, SV.calm, SV.calms, callB, callP, bArgs, hasR, hins, hin, yes, inX, stepW, callR, effO, srcE, Eff.env, Eff.st, writeOp, callA, pureOp, Bool.or_true, Bool.true_or, Bool.or_self, Bool.or_false, Bool.false_or, Bool.not_true, Bool.not_false, D.flat, D.flats, true_or, or_true, forall_const, UA, hcall, hal, hn5, hn6, hm, List.length_map ]; rfl) ?_ (by simp only [UN, LM, Nat.reduceBEq, Nat.reduceLeDiff, Int.reduceLE, Int.reduceLT, Int.reduceToNat, Nat.reduceAdd, Nat.reduceSub, Nat.reduceMul, reduceCtorEq, TAS, TBS, TCS, Eff.env, Eff.st, jkE, jkS, UA, LM]; rfl) (by simp only [UN, LM, Nat.reduceBEq, Nat.reduceLeDiff, Int.reduceLE, Int.reduceLT, Int.reduceToNat, Nat.reduceAdd, Nat.reduceSub, Nat.reduceMul, reduceCtorEq, TAS, TBS, TCS, Eff.env, Eff.st, jkE, jkS, UA, LM]; rfl) (by simp only [List.nil_append, List.cons_append]; rfl) (by simp only [Nat.reduceAdd]; rfl) ?_; focus (first | trivial | ((repeat' (refine And.intro ?_ ?_)) <;> first | trivial | assumption | (clear hK' hfin hgops; intros; simp_all; done))))
     (refine vcX_nil (by subst hfin; kernel_rfl) ?_)
     clear hfin hgops fin gops
     (try (refine hK' _ _ ?_; clear hK'; clear K')))
    repeat' (first
      |(with_reducible first|refine swp_seq ?_|refine swp_block ?_|refine swp_skip ?_|refine swp_ret ?_|refine swp_exit ?_|refine swp_label ?_|refine kseq_n ?_|refine kseq_x ?_|refine kseq_r ?_|refine kblk_n ?_|refine kblk_r ?_|refine kblk_xs ?_|refine kloop_x ?_|refine kloop_r ?_)
      |((with_reducible refine kblk_xn ?_ ?_);rfl)
      |((with_reducible refine swp_regionP ?_ ?_ (fun K' hK' => ?_));rfl;rfl;simp only [UN, LM, Nat.reduceBEq, Nat.reduceLeDiff, Int.reduceLE, Int.reduceLT, Int.reduceToNat, Nat.reduceAdd, Nat.reduceSub, Nat.reduceMul, reduceCtorEq, TAS, TBS, TCS, hw2];(repeat (refine And.intro ?_ ?_; focus (clear hK'; intros; simp_all; done)));(try (refine hK' _ _ ?_; clear hK'; clear K')))
      |((with_reducible refine swp_cond ?_ ?_);rfl;refine ⟨_, rfl, fun h => ?_, fun h => ?_⟩ <;> (try (exfalso; exact absurd h (by decide)))))
    refine ⟨j + 1, (by show j + 1 ≤ l.length; omega), (by show l.length - (j + 1) < l.length - j; omega), by refine sub_of h0 ?_ ?_ ?_ <;> simp only [US, UN, LM, Nat.reduceBEq, Nat.reduceLeDiff, Int.reduceLE, Int.reduceLT, Int.reduceToNat, Nat.reduceAdd, Nat.reduceSub, Nat.reduceMul, reduceCtorEq, TAS, TBS, TCS]⟩
  · have hj1 : ¬ (j : Int) < (l.length : Int) := by omega
    rw [List.take_of_length_le (by omega)]
    repeat' (first
      |(with_reducible first|refine swp_seq ?_|refine swp_block ?_|refine swp_skip ?_|refine swp_ret ?_|refine swp_exit ?_|refine swp_label ?_|refine kseq_n ?_|refine kseq_x ?_|refine kseq_r ?_|refine kblk_n ?_|refine kblk_r ?_|refine kblk_xs ?_|refine kloop_x ?_|refine kloop_r ?_)
      |((with_reducible refine kblk_xn ?_ ?_);rfl)
      |((with_reducible refine swp_regionP ?_ ?_ (fun K' hK' => ?_));rfl;rfl;simp only [UN, LM, Nat.reduceBEq, Nat.reduceLeDiff, Int.reduceLE, Int.reduceLT, Int.reduceToNat, Nat.reduceAdd, Nat.reduceSub, Nat.reduceMul, reduceCtorEq, TAS, TBS, TCS, hj1];(repeat (refine And.intro ?_ ?_; focus (clear hK'; intros; simp_all; done)));(try (refine hK' _ _ ?_; clear hK'; clear K')))
      |((with_reducible refine swp_cond ?_ ?_);rfl;refine ⟨_, rfl, fun h => ?_, fun h => ?_⟩ <;> (try (exfalso; exact absurd h (by decide)))))
    simp only [Kret, retL, retOne, oneV, UN, LM, Nat.reduceBEq, Nat.reduceLeDiff, Int.reduceLE, Int.reduceLT, Int.reduceToNat, Nat.reduceAdd, Nat.reduceSub, Nat.reduceMul, reduceCtorEq, TAS, TBS, TCS]
end Go.Proofs.YtgecnlcbdbaneaaDoor
