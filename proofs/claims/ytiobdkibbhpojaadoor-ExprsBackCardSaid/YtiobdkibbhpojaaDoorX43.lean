/- exprs.Write; a symbolic walk. -/
-- TYPES3
import Derived.Test.YtiobdkibbhpojaaDoorX41
import Derived.Test.YtiobdkibbhpojaaDoorX3
import Derived.Test.YtiobdkibbhpojaaDoorX46
import Derived.Lib.ItoaLen
set_option linter.unusedVariables false
set_option linter.unusedSimpArgs false
namespace Go.Proofs.YtiobdkibbhpojaaDoor
open Go.RowKit Go.Sw

theorem name_len {w : ByteArray} (h : isNameB w = true) : w.size ≤ 8 := by
  unfold isNameB at h
  simp only [Bool.and_eq_true, Bool.not_eq_true', decide_eq_false_iff_not] at h
  have := h.1.1.2
  omega
theorem wrl_len {t n : Int} {s : ByteArray} (hv : vcheck t n s = 0) (hn : rng n) : (wr t n s.data.toList).length ≤ 202 := by
  unfold wr
  by_cases t1 : t = 1
  · rw [if_pos t1]
    have := Lib.itoa_length_le n hn.1 hn.2
    omega
  rw [if_neg t1]
  by_cases t2 : t = 2
  · rw [if_pos t2]
    cases (n == 1) with
    | true => rw [fmt_true]; decide
    | false => rw [fmt_false]; decide
  · rw [if_neg t2]
    have h1 := escL_len s.data.toList
    have h3 : s.size ≤ 100 := by
      unfold vcheck at hv
      rw [if_neg t1, if_neg t2] at hv
      (repeat' split at hv) <;> first | omega | (simp at hv)
    rw [Utf.sizeL] at h1
    simp only [List.length_cons, List.length_append, List.length_nil]
    omega
theorem opT_len {l : List UInt8} (h : singleL l = true) : (opT l).length ≤ 4 := by
  rcases single_cases h with e | e | e
  all_goals (rw [e]; decide)
theorem lev_len {l : List UInt8} (h : 0 < levelL l) : l.length ≤ 3 := by
  rcases lev_cases l (by omega) with e | e | e | e | e | e | e | e | e | e | e
  all_goals (rw [e]; decide)
theorem wrE_len {x : Ex} (h : OkE x) : ∀ k, (wrE x k).length ≤ 300 * x.size := by
  induction h with
  | lit t n s hv hn =>
    intro k
    rw [wrE_lit]
    have := wrl_len hv hn
    simp only [Ex.size, Ex.sizes]
    omega
  | name w hw =>
    intro k
    rw [wrE_name, Utf.sizeL]
    have := name_len hw
    simp only [nameEx, Ex.size, Ex.sizes]
    omega
  | one nm x h hx ih =>
    intro k
    rw [wrE_one, List.length_append]
    have h1 := opT_len h
    have h2 := ih 6
    simp only [Ex.size, Ex.sizes]
    omega
  | two nm x y h hx hy ihx ihy =>
    intro k
    rw [wrE_two]
    have h1 := lev_len h
    have h2 := ihx (levelL nm.toList)
    have h3 := ihy (levelL nm.toList + 1)
    simp only [Ex.size, Ex.sizes]
    split <;> simp only [wrB, List.length_cons, List.length_append, List.length_nil] <;> omega
theorem wrV (t n : Int) (s : ByteArray) (hv : vcheck t n s = 0) (hn : rng n) : DFn Tryd.prog Γ1 25 [.agg [iD t, iD n, sD s]] (.tup [sD (packS (wr t n s.data.toList)), iD 0]) := by
  have := write_fn ⟨t, n, s⟩ hn.1 hn.2
  unfold wrS at this
  simp only [hv, if_pos] at this
  exact this
theorem pack_app (u v : List UInt8) : packS u ++ packS v = packS (u ++ v) := by
  apply ByteArray.ext
  simp [packS]

set_option maxHeartbeats 8000000 in
set_option maxRecDepth 100000 in
theorem writeE_lit (t n : Int) (s : ByteArray) (hv : vcheck t n s = 0) (hn : rng n) (k : Int) : DFn Tryd.prog Γ1 64 [(Ex.mk 1 ⟨#[]⟩ t n s []).d, iD k] (sD (packS (wrE (.mk 1 ⟨#[]⟩ t n s []) k))) := by
  have hw := wrV t n s hv hn
  rw [wrE_lit]
  generalize packS (wr t n s.data.toList) = T at hw ⊢
  simp only [Ex.d, Ex.ds]
  refine fn_of_swp (N := 74) Tryd.func64 rfl (by decide) rfl rfl (by simp) (fun C h0 => ?_)
  simp only [argE]
  repeat' (first
    |(with_reducible first|refine swp_seq ?_|refine swp_block ?_|refine swp_skip ?_|refine swp_ret ?_|refine swp_exit ?_|refine swp_label ?_|refine kseq_n ?_|refine kseq_x ?_|refine kseq_r ?_|refine kblk_n ?_|refine kblk_r ?_|refine kblk_xs ?_|refine kloop_x ?_|refine kloop_r ?_)
    |((with_reducible refine kblk_xn ?_ ?_);rfl)
    |((with_reducible refine swp_regionP ?_ ?_ (fun K' hK' => ?_));rfl;rfl;simp only [UN, LM, Nat.reduceBEq, Nat.reduceLeDiff, Int.reduceLE, Int.reduceLT, Int.reduceToNat, Nat.reduceAdd, Nat.reduceSub, Nat.reduceMul, reduceCtorEq, XTS, XT2S, XT3S];(repeat (refine And.intro ?_ ?_; focus (clear hK'; intros; simp_all; done)));(try (refine hK' _ _ ?_; clear hK'; clear K')))
    |((with_reducible refine swp_cond ?_ ?_);rfl;refine ⟨_, rfl, fun h => ?_, fun h => ?_⟩ <;> (try (exfalso; exact absurd h (by decide)))))
  refine stop_callF rfl (by simp only [UN, LM, Nat.reduceBEq, Nat.reduceLeDiff, Int.reduceLE, Int.reduceLT, Int.reduceToNat, Nat.reduceAdd, Nat.reduceSub, Nat.reduceMul, reduceCtorEq]) rfl rfl (hw) ?_
  simp only [UN, LM, Nat.reduceBEq, Nat.reduceLeDiff, Int.reduceLE, Int.reduceLT, Int.reduceToNat, Nat.reduceAdd, Nat.reduceSub, Nat.reduceMul, reduceCtorEq, XTS, XT2S, XT3S, inX, dropS, ]
  (repeat (refine And.intro ?_ ?_; focus (clear hK'; intros; simp_all; done)))
  (try (refine hK' _ _ ?_; clear hK'; clear K'))
  repeat' (first
    |(with_reducible first|refine swp_seq ?_|refine swp_block ?_|refine swp_skip ?_|refine swp_ret ?_|refine swp_exit ?_|refine swp_label ?_|refine kseq_n ?_|refine kseq_x ?_|refine kseq_r ?_|refine kblk_n ?_|refine kblk_r ?_|refine kblk_xs ?_|refine kloop_x ?_|refine kloop_r ?_)
    |((with_reducible refine kblk_xn ?_ ?_);rfl)
    |((with_reducible refine swp_regionP ?_ ?_ (fun K' hK' => ?_));rfl;rfl;simp only [UN, LM, Nat.reduceBEq, Nat.reduceLeDiff, Int.reduceLE, Int.reduceLT, Int.reduceToNat, Nat.reduceAdd, Nat.reduceSub, Nat.reduceMul, reduceCtorEq, XTS, XT2S, XT3S];(repeat (refine And.intro ?_ ?_; focus (clear hK'; intros; simp_all; done)));(try (refine hK' _ _ ?_; clear hK'; clear K')))
    |((with_reducible refine swp_cond ?_ ?_);rfl;refine ⟨_, rfl, fun h => ?_, fun h => ?_⟩ <;> (try (exfalso; exact absurd h (by decide)))))
  simp only [Kret, retL, retOne, oneV, UN, LM, Nat.reduceBEq, Nat.reduceLeDiff, Int.reduceLE, Int.reduceLT, Int.reduceToNat, Nat.reduceAdd, Nat.reduceSub, Nat.reduceMul, reduceCtorEq, XTS, XT2S, XT3S]
set_option maxHeartbeats 8000000 in
set_option maxRecDepth 100000 in
theorem writeE_name (w : ByteArray) (k : Int) : DFn Tryd.prog Γ1 64 [(nameEx w).d, iD k] (sD (packS (wrE (nameEx w) k))) := by
  rw [wrE_name, show packS w.data.toList = w from back_list w]
  simp only [nameEx, Ex.d, Ex.ds]
  refine fn_of_swp (N := 74) Tryd.func64 rfl (by decide) rfl rfl (by simp) (fun C h0 => ?_)
  simp only [argE]
  repeat' (first
    |(with_reducible first|refine swp_seq ?_|refine swp_block ?_|refine swp_skip ?_|refine swp_ret ?_|refine swp_exit ?_|refine swp_label ?_|refine kseq_n ?_|refine kseq_x ?_|refine kseq_r ?_|refine kblk_n ?_|refine kblk_r ?_|refine kblk_xs ?_|refine kloop_x ?_|refine kloop_r ?_)
    |((with_reducible refine kblk_xn ?_ ?_);rfl)
    |((with_reducible refine swp_regionP ?_ ?_ (fun K' hK' => ?_));rfl;rfl;simp only [UN, LM, Nat.reduceBEq, Nat.reduceLeDiff, Int.reduceLE, Int.reduceLT, Int.reduceToNat, Nat.reduceAdd, Nat.reduceSub, Nat.reduceMul, reduceCtorEq, XTS, XT2S, XT3S];(repeat (refine And.intro ?_ ?_; focus (clear hK'; intros; simp_all; done)));(try (refine hK' _ _ ?_; clear hK'; clear K')))
    |((with_reducible refine swp_cond ?_ ?_);rfl;refine ⟨_, rfl, fun h => ?_, fun h => ?_⟩ <;> (try (exfalso; exact absurd h (by decide)))))
  simp only [Kret, retL, retOne, oneV, UN, LM, Nat.reduceBEq, Nat.reduceLeDiff, Int.reduceLE, Int.reduceLT, Int.reduceToNat, Nat.reduceAdd, Nat.reduceSub, Nat.reduceMul, reduceCtorEq, XTS, XT2S, XT3S]
set_option maxHeartbeats 8000000 in
set_option maxRecDepth 100000 in
theorem writeE_neg (T : ByteArray) (hT : T.size ≤ 20000) (x : Ex) (k : Int) (hx : DFn Tryd.prog Γ1 64 [x.d, iD 6] (sD T)) : DFn Tryd.prog Γ1 64 [(Ex.mk 3 ⟨#[110, 101, 103]⟩ 0 0 ⟨#[]⟩ [x]).d, iD k] (sD (⟨#[45, 32]⟩ ++ T)) := by
  have c1 : (ByteArray.toList ⟨#[110, 101, 103]⟩ == ByteArray.toList ⟨#[110, 101, 103]⟩) = true := by decide +kernel
  have c2 : (ByteArray.toList ⟨#[110, 111, 116]⟩ == ByteArray.toList ⟨#[110, 111, 116]⟩) = true := by decide +kernel
  have c3 : (ByteArray.toList ⟨#[110, 111, 116]⟩ == ByteArray.toList ⟨#[110, 101, 103]⟩) = false := by decide +kernel
  have c4 : (ByteArray.toList ⟨#[35]⟩ == ByteArray.toList ⟨#[110, 101, 103]⟩) = false := by decide +kernel
  have c5 : (ByteArray.toList ⟨#[35]⟩ == ByteArray.toList ⟨#[110, 111, 116]⟩) = false := by decide +kernel
  have c6 : (ByteArray.toList ⟨#[45, 32]⟩ == ByteArray.toList ⟨#[110, 111, 116]⟩) = false := by decide +kernel
  obtain ⟨xk, xn, xt, xm, xs, xl⟩ := x
  simp only [Ex.d, Ex.ds] at hx ⊢
  refine fn_of_swp (N := 74) Tryd.func64 rfl (by decide) rfl rfl (by simp) (fun C h0 => ?_)
  simp only [argE]
  repeat' (first
    |(with_reducible first|refine swp_seq ?_|refine swp_block ?_|refine swp_skip ?_|refine swp_ret ?_|refine swp_exit ?_|refine swp_label ?_|refine kseq_n ?_|refine kseq_x ?_|refine kseq_r ?_|refine kblk_n ?_|refine kblk_r ?_|refine kblk_xs ?_|refine kloop_x ?_|refine kloop_r ?_)
    |((with_reducible refine kblk_xn ?_ ?_);rfl)
    |((with_reducible refine swp_regionP ?_ ?_ (fun K' hK' => ?_));rfl;rfl;simp only [UN, LM, Nat.reduceBEq, Nat.reduceLeDiff, Int.reduceLE, Int.reduceLT, Int.reduceToNat, Nat.reduceAdd, Nat.reduceSub, Nat.reduceMul, reduceCtorEq, XTS, XT2S, XT3S, List.length_cons, List.length_nil, List.getD_cons_zero, List.getD_cons_succ, c1, c2, c3, c4, c5, c6];(repeat (refine And.intro ?_ ?_; focus (clear hK'; intros; simp_all; done)));(try (refine hK' _ _ ?_; clear hK'; clear K')))
    |((with_reducible refine swp_cond ?_ ?_);rfl;refine ⟨_, rfl, fun h => ?_, fun h => ?_⟩ <;> (try (exfalso; exact absurd h (by decide)))))
  refine stop_callF rfl (by simp only [UN, LM, Nat.reduceBEq, Nat.reduceLeDiff, Int.reduceLE, Int.reduceLT, Int.reduceToNat, Nat.reduceAdd, Nat.reduceSub, Nat.reduceMul, reduceCtorEq]) rfl rfl (hx) ?_
  simp only [UN, LM, Nat.reduceBEq, Nat.reduceLeDiff, Int.reduceLE, Int.reduceLT, Int.reduceToNat, Nat.reduceAdd, Nat.reduceSub, Nat.reduceMul, reduceCtorEq, XTS, XT2S, XT3S, inX, dropS, ]
  (repeat (refine And.intro ?_ ?_; focus (clear hK'; intros; simp_all; done)))
  (try (refine hK' _ _ ?_; clear hK'; clear K'))
  have e1 : (⟨#[45, 32]⟩ : ByteArray).size = 2 := rfl
  refine ⟨fun _ => ?_, hK' _ _ ?_⟩
  · rw [e1]; unfold maxLen; omega
  clear hK' K'
  repeat' (first
    |(with_reducible first|refine swp_seq ?_|refine swp_block ?_|refine swp_skip ?_|refine swp_ret ?_|refine swp_exit ?_|refine swp_label ?_|refine kseq_n ?_|refine kseq_x ?_|refine kseq_r ?_|refine kblk_n ?_|refine kblk_r ?_|refine kblk_xs ?_|refine kloop_x ?_|refine kloop_r ?_)
    |((with_reducible refine kblk_xn ?_ ?_);rfl)
    |((with_reducible refine swp_regionP ?_ ?_ (fun K' hK' => ?_));rfl;rfl;simp only [UN, LM, Nat.reduceBEq, Nat.reduceLeDiff, Int.reduceLE, Int.reduceLT, Int.reduceToNat, Nat.reduceAdd, Nat.reduceSub, Nat.reduceMul, reduceCtorEq, XTS, XT2S, XT3S];(repeat (refine And.intro ?_ ?_; focus (clear hK'; intros; simp_all; done)));(try (refine hK' _ _ ?_; clear hK'; clear K')))
    |((with_reducible refine swp_cond ?_ ?_);rfl;refine ⟨_, rfl, fun h => ?_, fun h => ?_⟩ <;> (try (exfalso; exact absurd h (by decide)))))
  simp only [Kret, retL, retOne, oneV, UN, LM, Nat.reduceBEq, Nat.reduceLeDiff, Int.reduceLE, Int.reduceLT, Int.reduceToNat, Nat.reduceAdd, Nat.reduceSub, Nat.reduceMul, reduceCtorEq, XTS, XT2S, XT3S]
set_option maxHeartbeats 8000000 in
set_option maxRecDepth 100000 in
theorem writeE_not (T : ByteArray) (hT : T.size ≤ 20000) (x : Ex) (k : Int) (hx : DFn Tryd.prog Γ1 64 [x.d, iD 6] (sD T)) : DFn Tryd.prog Γ1 64 [(Ex.mk 3 ⟨#[110, 111, 116]⟩ 0 0 ⟨#[]⟩ [x]).d, iD k] (sD (⟨#[110, 111, 116, 32]⟩ ++ T)) := by
  have c1 : (ByteArray.toList ⟨#[110, 101, 103]⟩ == ByteArray.toList ⟨#[110, 101, 103]⟩) = true := by decide +kernel
  have c2 : (ByteArray.toList ⟨#[110, 111, 116]⟩ == ByteArray.toList ⟨#[110, 111, 116]⟩) = true := by decide +kernel
  have c3 : (ByteArray.toList ⟨#[110, 111, 116]⟩ == ByteArray.toList ⟨#[110, 101, 103]⟩) = false := by decide +kernel
  have c4 : (ByteArray.toList ⟨#[35]⟩ == ByteArray.toList ⟨#[110, 101, 103]⟩) = false := by decide +kernel
  have c5 : (ByteArray.toList ⟨#[35]⟩ == ByteArray.toList ⟨#[110, 111, 116]⟩) = false := by decide +kernel
  have c6 : (ByteArray.toList ⟨#[45, 32]⟩ == ByteArray.toList ⟨#[110, 111, 116]⟩) = false := by decide +kernel
  obtain ⟨xk, xn, xt, xm, xs, xl⟩ := x
  simp only [Ex.d, Ex.ds] at hx ⊢
  refine fn_of_swp (N := 74) Tryd.func64 rfl (by decide) rfl rfl (by simp) (fun C h0 => ?_)
  simp only [argE]
  repeat' (first
    |(with_reducible first|refine swp_seq ?_|refine swp_block ?_|refine swp_skip ?_|refine swp_ret ?_|refine swp_exit ?_|refine swp_label ?_|refine kseq_n ?_|refine kseq_x ?_|refine kseq_r ?_|refine kblk_n ?_|refine kblk_r ?_|refine kblk_xs ?_|refine kloop_x ?_|refine kloop_r ?_)
    |((with_reducible refine kblk_xn ?_ ?_);rfl)
    |((with_reducible refine swp_regionP ?_ ?_ (fun K' hK' => ?_));rfl;rfl;simp only [UN, LM, Nat.reduceBEq, Nat.reduceLeDiff, Int.reduceLE, Int.reduceLT, Int.reduceToNat, Nat.reduceAdd, Nat.reduceSub, Nat.reduceMul, reduceCtorEq, XTS, XT2S, XT3S, List.length_cons, List.length_nil, List.getD_cons_zero, List.getD_cons_succ, c1, c2, c3, c4, c5, c6];(repeat (refine And.intro ?_ ?_; focus (clear hK'; intros; simp_all; done)));(try (refine hK' _ _ ?_; clear hK'; clear K')))
    |((with_reducible refine swp_cond ?_ ?_);rfl;refine ⟨_, rfl, fun h => ?_, fun h => ?_⟩ <;> (try (exfalso; exact absurd h (by decide)))))
  refine stop_callF rfl (by simp only [UN, LM, Nat.reduceBEq, Nat.reduceLeDiff, Int.reduceLE, Int.reduceLT, Int.reduceToNat, Nat.reduceAdd, Nat.reduceSub, Nat.reduceMul, reduceCtorEq]) rfl rfl (hx) ?_
  simp only [UN, LM, Nat.reduceBEq, Nat.reduceLeDiff, Int.reduceLE, Int.reduceLT, Int.reduceToNat, Nat.reduceAdd, Nat.reduceSub, Nat.reduceMul, reduceCtorEq, XTS, XT2S, XT3S, inX, dropS, ]
  (repeat (refine And.intro ?_ ?_; focus (clear hK'; intros; simp_all; done)))
  (try (refine hK' _ _ ?_; clear hK'; clear K'))
  have e1 : (⟨#[110, 111, 116, 32]⟩ : ByteArray).size = 4 := rfl
  refine ⟨fun _ => ?_, hK' _ _ ?_⟩
  · rw [e1]; unfold maxLen; omega
  clear hK' K'
  repeat' (first
    |(with_reducible first|refine swp_seq ?_|refine swp_block ?_|refine swp_skip ?_|refine swp_ret ?_|refine swp_exit ?_|refine swp_label ?_|refine kseq_n ?_|refine kseq_x ?_|refine kseq_r ?_|refine kblk_n ?_|refine kblk_r ?_|refine kblk_xs ?_|refine kloop_x ?_|refine kloop_r ?_)
    |((with_reducible refine kblk_xn ?_ ?_);rfl)
    |((with_reducible refine swp_regionP ?_ ?_ (fun K' hK' => ?_));rfl;rfl;simp only [UN, LM, Nat.reduceBEq, Nat.reduceLeDiff, Int.reduceLE, Int.reduceLT, Int.reduceToNat, Nat.reduceAdd, Nat.reduceSub, Nat.reduceMul, reduceCtorEq, XTS, XT2S, XT3S];(repeat (refine And.intro ?_ ?_; focus (clear hK'; intros; simp_all; done)));(try (refine hK' _ _ ?_; clear hK'; clear K')))
    |((with_reducible refine swp_cond ?_ ?_);rfl;refine ⟨_, rfl, fun h => ?_, fun h => ?_⟩ <;> (try (exfalso; exact absurd h (by decide)))))
  simp only [Kret, retL, retOne, oneV, UN, LM, Nat.reduceBEq, Nat.reduceLeDiff, Int.reduceLE, Int.reduceLT, Int.reduceToNat, Nat.reduceAdd, Nat.reduceSub, Nat.reduceMul, reduceCtorEq, XTS, XT2S, XT3S]
set_option maxHeartbeats 8000000 in
set_option maxRecDepth 100000 in
theorem writeE_hash (T : ByteArray) (hT : T.size ≤ 20000) (x : Ex) (k : Int) (hx : DFn Tryd.prog Γ1 64 [x.d, iD 6] (sD T)) : DFn Tryd.prog Γ1 64 [(Ex.mk 3 ⟨#[35]⟩ 0 0 ⟨#[]⟩ [x]).d, iD k] (sD (⟨#[35]⟩ ++ T)) := by
  have c1 : (ByteArray.toList ⟨#[110, 101, 103]⟩ == ByteArray.toList ⟨#[110, 101, 103]⟩) = true := by decide +kernel
  have c2 : (ByteArray.toList ⟨#[110, 111, 116]⟩ == ByteArray.toList ⟨#[110, 111, 116]⟩) = true := by decide +kernel
  have c3 : (ByteArray.toList ⟨#[110, 111, 116]⟩ == ByteArray.toList ⟨#[110, 101, 103]⟩) = false := by decide +kernel
  have c4 : (ByteArray.toList ⟨#[35]⟩ == ByteArray.toList ⟨#[110, 101, 103]⟩) = false := by decide +kernel
  have c5 : (ByteArray.toList ⟨#[35]⟩ == ByteArray.toList ⟨#[110, 111, 116]⟩) = false := by decide +kernel
  have c6 : (ByteArray.toList ⟨#[45, 32]⟩ == ByteArray.toList ⟨#[110, 111, 116]⟩) = false := by decide +kernel
  obtain ⟨xk, xn, xt, xm, xs, xl⟩ := x
  simp only [Ex.d, Ex.ds] at hx ⊢
  refine fn_of_swp (N := 74) Tryd.func64 rfl (by decide) rfl rfl (by simp) (fun C h0 => ?_)
  simp only [argE]
  repeat' (first
    |(with_reducible first|refine swp_seq ?_|refine swp_block ?_|refine swp_skip ?_|refine swp_ret ?_|refine swp_exit ?_|refine swp_label ?_|refine kseq_n ?_|refine kseq_x ?_|refine kseq_r ?_|refine kblk_n ?_|refine kblk_r ?_|refine kblk_xs ?_|refine kloop_x ?_|refine kloop_r ?_)
    |((with_reducible refine kblk_xn ?_ ?_);rfl)
    |((with_reducible refine swp_regionP ?_ ?_ (fun K' hK' => ?_));rfl;rfl;simp only [UN, LM, Nat.reduceBEq, Nat.reduceLeDiff, Int.reduceLE, Int.reduceLT, Int.reduceToNat, Nat.reduceAdd, Nat.reduceSub, Nat.reduceMul, reduceCtorEq, XTS, XT2S, XT3S, List.length_cons, List.length_nil, List.getD_cons_zero, List.getD_cons_succ, c1, c2, c3, c4, c5, c6];(repeat (refine And.intro ?_ ?_; focus (clear hK'; intros; simp_all; done)));(try (refine hK' _ _ ?_; clear hK'; clear K')))
    |((with_reducible refine swp_cond ?_ ?_);rfl;refine ⟨_, rfl, fun h => ?_, fun h => ?_⟩ <;> (try (exfalso; exact absurd h (by decide)))))
  refine stop_callF rfl (by simp only [UN, LM, Nat.reduceBEq, Nat.reduceLeDiff, Int.reduceLE, Int.reduceLT, Int.reduceToNat, Nat.reduceAdd, Nat.reduceSub, Nat.reduceMul, reduceCtorEq]) rfl rfl (hx) ?_
  simp only [UN, LM, Nat.reduceBEq, Nat.reduceLeDiff, Int.reduceLE, Int.reduceLT, Int.reduceToNat, Nat.reduceAdd, Nat.reduceSub, Nat.reduceMul, reduceCtorEq, XTS, XT2S, XT3S, inX, dropS, ]
  (repeat (refine And.intro ?_ ?_; focus (clear hK'; intros; simp_all; done)))
  (try (refine hK' _ _ ?_; clear hK'; clear K'))
  have e1 : (⟨#[35]⟩ : ByteArray).size = 1 := rfl
  refine ⟨fun _ => ?_, hK' _ _ ?_⟩
  · rw [e1]; unfold maxLen; omega
  clear hK' K'
  repeat' (first
    |(with_reducible first|refine swp_seq ?_|refine swp_block ?_|refine swp_skip ?_|refine swp_ret ?_|refine swp_exit ?_|refine swp_label ?_|refine kseq_n ?_|refine kseq_x ?_|refine kseq_r ?_|refine kblk_n ?_|refine kblk_r ?_|refine kblk_xs ?_|refine kloop_x ?_|refine kloop_r ?_)
    |((with_reducible refine kblk_xn ?_ ?_);rfl)
    |((with_reducible refine swp_regionP ?_ ?_ (fun K' hK' => ?_));rfl;rfl;simp only [UN, LM, Nat.reduceBEq, Nat.reduceLeDiff, Int.reduceLE, Int.reduceLT, Int.reduceToNat, Nat.reduceAdd, Nat.reduceSub, Nat.reduceMul, reduceCtorEq, XTS, XT2S, XT3S];(repeat (refine And.intro ?_ ?_; focus (clear hK'; intros; simp_all; done)));(try (refine hK' _ _ ?_; clear hK'; clear K')))
    |((with_reducible refine swp_cond ?_ ?_);rfl;refine ⟨_, rfl, fun h => ?_, fun h => ?_⟩ <;> (try (exfalso; exact absurd h (by decide)))))
  simp only [Kret, retL, retOne, oneV, UN, LM, Nat.reduceBEq, Nat.reduceLeDiff, Int.reduceLE, Int.reduceLT, Int.reduceToNat, Nat.reduceAdd, Nat.reduceSub, Nat.reduceMul, reduceCtorEq, XTS, XT2S, XT3S]
set_option maxHeartbeats 8000000 in
set_option maxRecDepth 100000 in
theorem writeE_two (U V nm : ByteArray) (hU : U.size ≤ 20000) (hV : V.size ≤ 20000) (hn : nm.size ≤ 3) (x y : Ex) (k : Int) (hk : ¬ levelL nm.toList < k) (hx : DFn Tryd.prog Γ1 64 [x.d, iD (levelL nm.toList)] (sD U)) (hy : DFn Tryd.prog Γ1 64 [y.d, iD (levelL nm.toList + 1)] (sD V)) :
    DFn Tryd.prog Γ1 64 [(Ex.mk 3 nm 0 0 ⟨#[]⟩ [x, y]).d, iD k] (sD (U ++ ⟨#[32]⟩ ++ nm ++ ⟨#[32]⟩ ++ V)) := by
  have hlv := level_fn Γ1 nm
  have hli := levelL_in nm.toList
  have hw : IntKind.i64.wrap (levelL nm.toList + 1) = levelL nm.toList + 1 := wrap_in (by omega) (by omega)
  generalize levelL nm.toList = l at *
  obtain ⟨xk, xn, xt, xm, xs, xl⟩ := x
  obtain ⟨yk, yn, yt, ym, ys, yl⟩ := y
  simp only [Ex.d, Ex.ds] at hx hy ⊢
  refine fn_of_swp (N := 74) Tryd.func64 rfl (by decide) rfl rfl (by simp) (fun C h0 => ?_)
  simp only [argE]
  repeat' (first
    |(with_reducible first|refine swp_seq ?_|refine swp_block ?_|refine swp_skip ?_|refine swp_ret ?_|refine swp_exit ?_|refine swp_label ?_|refine kseq_n ?_|refine kseq_x ?_|refine kseq_r ?_|refine kblk_n ?_|refine kblk_r ?_|refine kblk_xs ?_|refine kloop_x ?_|refine kloop_r ?_)
    |((with_reducible refine kblk_xn ?_ ?_);rfl)
    |((with_reducible refine swp_regionP ?_ ?_ (fun K' hK' => ?_));rfl;rfl;simp only [UN, LM, Nat.reduceBEq, Nat.reduceLeDiff, Int.reduceLE, Int.reduceLT, Int.reduceToNat, Nat.reduceAdd, Nat.reduceSub, Nat.reduceMul, reduceCtorEq, XTS, XT2S, XT3S, List.length_cons, List.length_nil];(repeat (refine And.intro ?_ ?_; focus (clear hK'; intros; simp_all; done)));(try (refine hK' _ _ ?_; clear hK'; clear K')))
    |((with_reducible refine swp_cond ?_ ?_);rfl;refine ⟨_, rfl, fun h => ?_, fun h => ?_⟩ <;> (try (exfalso; exact absurd h (by decide)))))
  refine stop_callF rfl (by simp only [UN, LM, Nat.reduceBEq, Nat.reduceLeDiff, Int.reduceLE, Int.reduceLT, Int.reduceToNat, Nat.reduceAdd, Nat.reduceSub, Nat.reduceMul, reduceCtorEq]) rfl rfl (hlv) ?_
  simp only [UN, LM, Nat.reduceBEq, Nat.reduceLeDiff, Int.reduceLE, Int.reduceLT, Int.reduceToNat, Nat.reduceAdd, Nat.reduceSub, Nat.reduceMul, reduceCtorEq, XTS, XT2S, XT3S, inX, dropS, ]
  (repeat (refine And.intro ?_ ?_; focus (clear hK'; intros; simp_all; done)))
  (try (refine hK' _ _ ?_; clear hK'; clear K'))
  have b1 : (⟨#[32]⟩ : ByteArray).size = 1 := rfl
  have z1 : (U ++ ⟨#[32]⟩ : ByteArray).size = U.size + 1 := by rw [ByteArray.size_append, b1]
  have z2 : (U ++ ⟨#[32]⟩ ++ nm : ByteArray).size = U.size + 1 + nm.size := by rw [ByteArray.size_append, z1]
  have z3 : (U ++ ⟨#[32]⟩ ++ nm ++ ⟨#[32]⟩ : ByteArray).size = U.size + 1 + nm.size + 1 := by rw [ByteArray.size_append, z2, b1]
  have m1 : U.size + 1 ≤ maxLen := by unfold maxLen; omega
  have m2 : U.size + 1 + nm.size ≤ maxLen := by unfold maxLen; omega
  have m3 : U.size + 1 + nm.size + 1 ≤ maxLen := by unfold maxLen; omega
  have m4 : U.size + 1 + nm.size + 1 + V.size ≤ maxLen := by unfold maxLen; omega
  refine swp_seq ?_
  (with_reducible refine swp_draw ?_ ?_ ?_ ( [(5, sD U), (17, sD V)]) (fun K' hK' => ?_)
   · kernel_rfl
   · rfl
   · rfl
   simp only [UN, LM, Nat.reduceBEq, Nat.reduceLeDiff, Int.reduceLE, Int.reduceLT, Int.reduceToNat, Nat.reduceAdd, Nat.reduceSub, Nat.reduceMul, reduceCtorEq, XTS, XT2S, XT3S, vcA, stepA, callA, rst, lksA, Oper.looksAt, Op.operands, pureOp, Call.operands, List.filterMap_cons, List.filterMap_nil, Option.toList_none, Option.toList_some, Option.bind_some, Option.bind_none, List.getElem?_toArray, Array.toList_append, List.append_nil, D.flat, D.flats, true_or, or_true, forall_const, hw, List.getD_cons_zero, List.getD_cons_succ, List.length_cons, List.length_nil, List.map_cons, List.map_nil, b1, z1, z2, z3, m1, m2, m3, m4, hx, hy ]
   (try (refine hK' _ _ ?_; clear hK'; clear K')))
  repeat' (first
    |(with_reducible first|refine swp_seq ?_|refine swp_block ?_|refine swp_skip ?_|refine swp_ret ?_|refine swp_exit ?_|refine swp_label ?_|refine kseq_n ?_|refine kseq_x ?_|refine kseq_r ?_|refine kblk_n ?_|refine kblk_r ?_|refine kblk_xs ?_|refine kloop_x ?_|refine kloop_r ?_)
    |((with_reducible refine kblk_xn ?_ ?_);rfl)
    |((with_reducible refine swp_regionP ?_ ?_ (fun K' hK' => ?_));rfl;rfl;simp only [UN, LM, Nat.reduceBEq, Nat.reduceLeDiff, Int.reduceLE, Int.reduceLT, Int.reduceToNat, Nat.reduceAdd, Nat.reduceSub, Nat.reduceMul, reduceCtorEq, XTS, XT2S, XT3S, hk];(repeat (refine And.intro ?_ ?_; focus (clear hK'; intros; simp_all; done)));(try (refine hK' _ _ ?_; clear hK'; clear K')))
    |((with_reducible refine swp_cond ?_ ?_);rfl;refine ⟨_, rfl, fun h => ?_, fun h => ?_⟩ <;> (try (exfalso; exact absurd h (by decide)))))
  simp only [Kret, retL, retOne, oneV, UN, LM, Nat.reduceBEq, Nat.reduceLeDiff, Int.reduceLE, Int.reduceLT, Int.reduceToNat, Nat.reduceAdd, Nat.reduceSub, Nat.reduceMul, reduceCtorEq, XTS, XT2S, XT3S]
set_option maxHeartbeats 8000000 in
set_option maxRecDepth 100000 in
theorem writeE_par (U V nm : ByteArray) (hU : U.size ≤ 20000) (hV : V.size ≤ 20000) (hn : nm.size ≤ 3) (x y : Ex) (k : Int) (hk : levelL nm.toList < k) (hx : DFn Tryd.prog Γ1 64 [x.d, iD (levelL nm.toList)] (sD U)) (hy : DFn Tryd.prog Γ1 64 [y.d, iD (levelL nm.toList + 1)] (sD V)) :
    DFn Tryd.prog Γ1 64 [(Ex.mk 3 nm 0 0 ⟨#[]⟩ [x, y]).d, iD k] (sD (⟨#[40]⟩ ++ (U ++ ⟨#[32]⟩ ++ nm ++ ⟨#[32]⟩ ++ V) ++ ⟨#[41]⟩)) := by
  have hlv := level_fn Γ1 nm
  have hli := levelL_in nm.toList
  have hw : IntKind.i64.wrap (levelL nm.toList + 1) = levelL nm.toList + 1 := wrap_in (by omega) (by omega)
  generalize levelL nm.toList = l at *
  obtain ⟨xk, xn, xt, xm, xs, xl⟩ := x
  obtain ⟨yk, yn, yt, ym, ys, yl⟩ := y
  simp only [Ex.d, Ex.ds] at hx hy ⊢
  refine fn_of_swp (N := 74) Tryd.func64 rfl (by decide) rfl rfl (by simp) (fun C h0 => ?_)
  simp only [argE]
  repeat' (first
    |(with_reducible first|refine swp_seq ?_|refine swp_block ?_|refine swp_skip ?_|refine swp_ret ?_|refine swp_exit ?_|refine swp_label ?_|refine kseq_n ?_|refine kseq_x ?_|refine kseq_r ?_|refine kblk_n ?_|refine kblk_r ?_|refine kblk_xs ?_|refine kloop_x ?_|refine kloop_r ?_)
    |((with_reducible refine kblk_xn ?_ ?_);rfl)
    |((with_reducible refine swp_regionP ?_ ?_ (fun K' hK' => ?_));rfl;rfl;simp only [UN, LM, Nat.reduceBEq, Nat.reduceLeDiff, Int.reduceLE, Int.reduceLT, Int.reduceToNat, Nat.reduceAdd, Nat.reduceSub, Nat.reduceMul, reduceCtorEq, XTS, XT2S, XT3S, List.length_cons, List.length_nil];(repeat (refine And.intro ?_ ?_; focus (clear hK'; intros; simp_all; done)));(try (refine hK' _ _ ?_; clear hK'; clear K')))
    |((with_reducible refine swp_cond ?_ ?_);rfl;refine ⟨_, rfl, fun h => ?_, fun h => ?_⟩ <;> (try (exfalso; exact absurd h (by decide)))))
  refine stop_callF rfl (by simp only [UN, LM, Nat.reduceBEq, Nat.reduceLeDiff, Int.reduceLE, Int.reduceLT, Int.reduceToNat, Nat.reduceAdd, Nat.reduceSub, Nat.reduceMul, reduceCtorEq]) rfl rfl (hlv) ?_
  simp only [UN, LM, Nat.reduceBEq, Nat.reduceLeDiff, Int.reduceLE, Int.reduceLT, Int.reduceToNat, Nat.reduceAdd, Nat.reduceSub, Nat.reduceMul, reduceCtorEq, XTS, XT2S, XT3S, inX, dropS, ]
  (repeat (refine And.intro ?_ ?_; focus (clear hK'; intros; simp_all; done)))
  (try (refine hK' _ _ ?_; clear hK'; clear K'))
  have b1 : (⟨#[32]⟩ : ByteArray).size = 1 := rfl
  have z1 : (U ++ ⟨#[32]⟩ : ByteArray).size = U.size + 1 := by rw [ByteArray.size_append, b1]
  have z2 : (U ++ ⟨#[32]⟩ ++ nm : ByteArray).size = U.size + 1 + nm.size := by rw [ByteArray.size_append, z1]
  have z3 : (U ++ ⟨#[32]⟩ ++ nm ++ ⟨#[32]⟩ : ByteArray).size = U.size + 1 + nm.size + 1 := by rw [ByteArray.size_append, z2, b1]
  have m1 : U.size + 1 ≤ maxLen := by unfold maxLen; omega
  have m2 : U.size + 1 + nm.size ≤ maxLen := by unfold maxLen; omega
  have m3 : U.size + 1 + nm.size + 1 ≤ maxLen := by unfold maxLen; omega
  have m4 : U.size + 1 + nm.size + 1 + V.size ≤ maxLen := by unfold maxLen; omega
  refine swp_seq ?_
  (with_reducible refine swp_draw ?_ ?_ ?_ ( [(5, sD U), (17, sD V)]) (fun K' hK' => ?_)
   · kernel_rfl
   · rfl
   · rfl
   simp only [UN, LM, Nat.reduceBEq, Nat.reduceLeDiff, Int.reduceLE, Int.reduceLT, Int.reduceToNat, Nat.reduceAdd, Nat.reduceSub, Nat.reduceMul, reduceCtorEq, XTS, XT2S, XT3S, vcA, stepA, callA, rst, lksA, Oper.looksAt, Op.operands, pureOp, Call.operands, List.filterMap_cons, List.filterMap_nil, Option.toList_none, Option.toList_some, Option.bind_some, Option.bind_none, List.getElem?_toArray, Array.toList_append, List.append_nil, D.flat, D.flats, true_or, or_true, forall_const, hw, List.getD_cons_zero, List.getD_cons_succ, List.length_cons, List.length_nil, List.map_cons, List.map_nil, b1, z1, z2, z3, m1, m2, m3, m4, hx, hy ]
   (try (refine hK' _ _ ?_; clear hK'; clear K')))
  have b2 : (⟨#[40]⟩ : ByteArray).size = 1 := rfl
  have b3 : (⟨#[41]⟩ : ByteArray).size = 1 := rfl
  have z5 : (U ++ ⟨#[32]⟩ ++ nm ++ ⟨#[32]⟩ ++ V : ByteArray).size = U.size + 1 + nm.size + 1 + V.size := by rw [ByteArray.size_append, z3]
  generalize (U ++ ⟨#[32]⟩ ++ nm ++ ⟨#[32]⟩ ++ V : ByteArray) = W at *
  have z6 : (⟨#[40]⟩ ++ W : ByteArray).size = 1 + W.size := by rw [ByteArray.size_append, b2]
  have m5 : 1 + W.size ≤ maxLen := by unfold maxLen; omega
  have m6 : 1 + W.size + 1 ≤ maxLen := by unfold maxLen; omega
  repeat' (first
    |(with_reducible first|refine swp_seq ?_|refine swp_block ?_|refine swp_skip ?_|refine swp_ret ?_|refine swp_exit ?_|refine swp_label ?_|refine kseq_n ?_|refine kseq_x ?_|refine kseq_r ?_|refine kblk_n ?_|refine kblk_r ?_|refine kblk_xs ?_|refine kloop_x ?_|refine kloop_r ?_)
    |((with_reducible refine kblk_xn ?_ ?_);rfl)
    |((with_reducible refine swp_regionP ?_ ?_ (fun K' hK' => ?_));rfl;rfl;simp only [UN, LM, Nat.reduceBEq, Nat.reduceLeDiff, Int.reduceLE, Int.reduceLT, Int.reduceToNat, Nat.reduceAdd, Nat.reduceSub, Nat.reduceMul, reduceCtorEq, XTS, XT2S, XT3S, hk, b2, b3, z6, m5, m6, forall_const];(repeat (refine And.intro ?_ ?_; focus (clear hK'; intros; simp_all; done)));(try (refine hK' _ _ ?_; clear hK'; clear K')))
    |((with_reducible refine swp_cond ?_ ?_);rfl;refine ⟨_, rfl, fun h => ?_, fun h => ?_⟩ <;> (try (exfalso; exact absurd h (by decide)))))
  simp only [Kret, retL, retOne, oneV, UN, LM, Nat.reduceBEq, Nat.reduceLeDiff, Int.reduceLE, Int.reduceLT, Int.reduceToNat, Nat.reduceAdd, Nat.reduceSub, Nat.reduceMul, reduceCtorEq, XTS, XT2S, XT3S]

theorem pack_wrB (l u v : List UInt8) : packS (wrB l u v) = packS u ++ ⟨#[32]⟩ ++ packS l ++ ⟨#[32]⟩ ++ packS v := by
  rw [show (⟨#[32]⟩ : ByteArray) = packS [32] from rfl, pack_app, pack_app, pack_app, pack_app]
  congr 1
  simp [wrB]
/-- What write makes of an expression that is right. -/
theorem writeE_fn {x : Ex} (h : OkE x) : x.size ≤ 60 → ∀ k, DFn Tryd.prog Γ1 64 [x.d, iD k] (sD (packS (wrE x k))) := by
  induction h with
  | lit t n s hv hn => intro _ k; exact writeE_lit t n s hv hn k
  | name w hw => intro _ k; exact writeE_name w k
  | one nm x h hx ih =>
    intro hz k
    have hz2 : x.size ≤ 60 := by simp only [Ex.size, Ex.sizes] at hz; omega
    have hl := wrE_len hx 6
    have hT : (packS (wrE x 6)).size ≤ 20000 := by rw [pack_size]; omega
    have hnm : nm = packS nm.toList := by rw [Lib.toList_data]; exact (back_list nm).symm
    rw [wrE_one, ← pack_app]
    rcases single_cases h with q | q | q
    · rw [q] at hnm ⊢
      rw [hnm]
      exact writeE_not _ hT x k (ih hz2 6)
    · rw [q] at hnm ⊢
      rw [hnm]
      exact writeE_neg _ hT x k (ih hz2 6)
    · rw [q] at hnm ⊢
      rw [hnm]
      exact writeE_hash _ hT x k (ih hz2 6)
  | two nm x y h hx hy ihx ihy =>
    intro hz k
    have hz2 : x.size + y.size ≤ 60 := by simp only [Ex.size, Ex.sizes] at hz; omega
    have hl1 := wrE_len hx (levelL nm.toList)
    have hl2 := wrE_len hy (levelL nm.toList + 1)
    have hT1 : (packS (wrE x (levelL nm.toList))).size ≤ 20000 := by rw [pack_size]; omega
    have hT2 : (packS (wrE y (levelL nm.toList + 1))).size ≤ 20000 := by rw [pack_size]; omega
    have hn : nm.size ≤ 3 := by have := lev_len h; rw [Lib.toList_data, Utf.sizeL] at this; exact this
    have hx2 := ihx (by omega) (levelL nm.toList)
    have hy2 := ihy (by omega) (levelL nm.toList + 1)
    have hnm : packS nm.toList = nm := by rw [Lib.toList_data]; exact back_list nm
    have hB := pack_wrB nm.toList (wrE x (levelL nm.toList)) (wrE y (levelL nm.toList + 1))
    rw [hnm] at hB
    rw [wrE_two]
    by_cases hk : levelL nm.toList < k
    · rw [if_pos hk]
      have := writeE_par _ _ nm hT1 hT2 hn x y k hk hx2 hy2
      rw [← hB] at this
      rw [show ∀ T : List UInt8, packS (40 :: (T ++ [41])) = ⟨#[40]⟩ ++ packS T ++ ⟨#[41]⟩ from fun T => by
        rw [show (⟨#[40]⟩ : ByteArray) = packS [40] from rfl, show (⟨#[41]⟩ : ByteArray) = packS [41] from rfl, pack_app, pack_app]; simp]
      exact this
    · rw [if_neg hk, hB]
      exact writeE_two _ _ nm hT1 hT2 hn x y k hk hx2 hy2
/-- What Write returns. -/
def wrtS (x : Ex) : ByteArray := if eCheck x = 0 then packS (wrE x 0) else ⟨#[]⟩
set_option maxHeartbeats 8000000 in
set_option maxRecDepth 100000 in
theorem Write_fn (x : Ex) (hr : x.rng) : DFn Tryd.prog Γ1 33 [x.d] (.tup [sD (wrtS x), iD (eCheck x)]) := by
  have hc := Check_fn Γ1 (fun s => dfn_more (isName_fn s)) chk1_fn x
  unfold wrtS
  by_cases h : eCheck x = 0
  · have hw := writeE_fn (ok_of_check h hr) (size_of_check h) 0
    rw [h] at hc
    rw [if_pos h, h]
    generalize packS (wrE x 0) = T at hw ⊢
    clear hr h
    obtain ⟨xk, xn, xt, xm, xs, xl⟩ := x
    simp only [Ex.d] at hc hw ⊢
    refine fn_of_swp (N := 12) Tryd.func33 rfl (by decide) rfl rfl (by simp) (fun C h0 => ?_)
    simp only [argE]
    repeat' (first
      |(with_reducible first|refine swp_seq ?_|refine swp_block ?_|refine swp_skip ?_|refine swp_ret ?_|refine swp_exit ?_|refine swp_label ?_|refine kseq_n ?_|refine kseq_x ?_|refine kseq_r ?_|refine kblk_n ?_|refine kblk_r ?_|refine kblk_xs ?_|refine kloop_x ?_|refine kloop_r ?_)
      |((with_reducible refine kblk_xn ?_ ?_);rfl)
      |((with_reducible refine swp_regionP ?_ ?_ (fun K' hK' => ?_));rfl;rfl;simp only [UN, LM, Nat.reduceBEq, Nat.reduceLeDiff, Int.reduceLE, Int.reduceLT, Int.reduceToNat, Nat.reduceAdd, Nat.reduceSub, Nat.reduceMul, reduceCtorEq, XTS, XT2S, XT3S];(repeat (refine And.intro ?_ ?_; focus (clear hK'; intros; simp_all; done)));(try (refine hK' _ _ ?_; clear hK'; clear K')))
      |((with_reducible refine swp_cond ?_ ?_);rfl;refine ⟨_, rfl, fun h => ?_, fun h => ?_⟩ <;> (try (exfalso; exact absurd h (by decide)))))
    refine stop_callF rfl (by simp only [UN, LM, Nat.reduceBEq, Nat.reduceLeDiff, Int.reduceLE, Int.reduceLT, Int.reduceToNat, Nat.reduceAdd, Nat.reduceSub, Nat.reduceMul, reduceCtorEq]) rfl rfl (hc) ?_
    simp only [UN, LM, Nat.reduceBEq, Nat.reduceLeDiff, Int.reduceLE, Int.reduceLT, Int.reduceToNat, Nat.reduceAdd, Nat.reduceSub, Nat.reduceMul, reduceCtorEq, XTS, XT2S, XT3S, inX, dropS, ]
    (repeat (refine And.intro ?_ ?_; focus (clear hK'; intros; simp_all; done)))
    (try (refine hK' _ _ ?_; clear hK'; clear K'))
    repeat' (first
      |(with_reducible first|refine swp_seq ?_|refine swp_block ?_|refine swp_skip ?_|refine swp_ret ?_|refine swp_exit ?_|refine swp_label ?_|refine kseq_n ?_|refine kseq_x ?_|refine kseq_r ?_|refine kblk_n ?_|refine kblk_r ?_|refine kblk_xs ?_|refine kloop_x ?_|refine kloop_r ?_)
      |((with_reducible refine kblk_xn ?_ ?_);rfl)
      |((with_reducible refine swp_regionP ?_ ?_ (fun K' hK' => ?_));rfl;rfl;simp only [UN, LM, Nat.reduceBEq, Nat.reduceLeDiff, Int.reduceLE, Int.reduceLT, Int.reduceToNat, Nat.reduceAdd, Nat.reduceSub, Nat.reduceMul, reduceCtorEq, XTS, XT2S, XT3S];(repeat (refine And.intro ?_ ?_; focus (clear hK'; intros; simp_all; done)));(try (refine hK' _ _ ?_; clear hK'; clear K')))
      |((with_reducible refine swp_cond ?_ ?_);rfl;refine ⟨_, rfl, fun h => ?_, fun h => ?_⟩ <;> (try (exfalso; exact absurd h (by decide)))))
    refine stop_callF rfl (by simp only [UN, LM, Nat.reduceBEq, Nat.reduceLeDiff, Int.reduceLE, Int.reduceLT, Int.reduceToNat, Nat.reduceAdd, Nat.reduceSub, Nat.reduceMul, reduceCtorEq]) rfl rfl (hw) ?_
    simp only [UN, LM, Nat.reduceBEq, Nat.reduceLeDiff, Int.reduceLE, Int.reduceLT, Int.reduceToNat, Nat.reduceAdd, Nat.reduceSub, Nat.reduceMul, reduceCtorEq, XTS, XT2S, XT3S, inX, dropS, ]
    (repeat (refine And.intro ?_ ?_; focus (clear hK'; intros; simp_all; done)))
    (try (refine hK' _ _ ?_; clear hK'; clear K'))
    repeat' (first
      |(with_reducible first|refine swp_seq ?_|refine swp_block ?_|refine swp_skip ?_|refine swp_ret ?_|refine swp_exit ?_|refine swp_label ?_|refine kseq_n ?_|refine kseq_x ?_|refine kseq_r ?_|refine kblk_n ?_|refine kblk_r ?_|refine kblk_xs ?_|refine kloop_x ?_|refine kloop_r ?_)
      |((with_reducible refine kblk_xn ?_ ?_);rfl)
      |((with_reducible refine swp_regionP ?_ ?_ (fun K' hK' => ?_));rfl;rfl;simp only [UN, LM, Nat.reduceBEq, Nat.reduceLeDiff, Int.reduceLE, Int.reduceLT, Int.reduceToNat, Nat.reduceAdd, Nat.reduceSub, Nat.reduceMul, reduceCtorEq, XTS, XT2S, XT3S];(repeat (refine And.intro ?_ ?_; focus (clear hK'; intros; simp_all; done)));(try (refine hK' _ _ ?_; clear hK'; clear K')))
      |((with_reducible refine swp_cond ?_ ?_);rfl;refine ⟨_, rfl, fun h => ?_, fun h => ?_⟩ <;> (try (exfalso; exact absurd h (by decide)))))
    simp only [Kret, retL, retOne, oneV, UN, LM, Nat.reduceBEq, Nat.reduceLeDiff, Int.reduceLE, Int.reduceLT, Int.reduceToNat, Nat.reduceAdd, Nat.reduceSub, Nat.reduceMul, reduceCtorEq, XTS, XT2S, XT3S]
  · rw [if_neg h]
    have g0 : (eCheck x != 0) = true := by simpa using h
    generalize eCheck x = E at *
    obtain ⟨xk, xn, xt, xm, xs, xl⟩ := x
    simp only [Ex.d] at hc ⊢
    refine fn_of_swp (N := 12) Tryd.func33 rfl (by decide) rfl rfl (by simp) (fun C h0 => ?_)
    simp only [argE]
    repeat' (first
      |(with_reducible first|refine swp_seq ?_|refine swp_block ?_|refine swp_skip ?_|refine swp_ret ?_|refine swp_exit ?_|refine swp_label ?_|refine kseq_n ?_|refine kseq_x ?_|refine kseq_r ?_|refine kblk_n ?_|refine kblk_r ?_|refine kblk_xs ?_|refine kloop_x ?_|refine kloop_r ?_)
      |((with_reducible refine kblk_xn ?_ ?_);rfl)
      |((with_reducible refine swp_regionP ?_ ?_ (fun K' hK' => ?_));rfl;rfl;simp only [UN, LM, Nat.reduceBEq, Nat.reduceLeDiff, Int.reduceLE, Int.reduceLT, Int.reduceToNat, Nat.reduceAdd, Nat.reduceSub, Nat.reduceMul, reduceCtorEq, XTS, XT2S, XT3S];(repeat (refine And.intro ?_ ?_; focus (clear hK'; intros; simp_all; done)));(try (refine hK' _ _ ?_; clear hK'; clear K')))
      |((with_reducible refine swp_cond ?_ ?_);rfl;refine ⟨_, rfl, fun h => ?_, fun h => ?_⟩ <;> (try (exfalso; exact absurd h (by decide)))))
    refine stop_callF rfl (by simp only [UN, LM, Nat.reduceBEq, Nat.reduceLeDiff, Int.reduceLE, Int.reduceLT, Int.reduceToNat, Nat.reduceAdd, Nat.reduceSub, Nat.reduceMul, reduceCtorEq]) rfl rfl (hc) ?_
    simp only [UN, LM, Nat.reduceBEq, Nat.reduceLeDiff, Int.reduceLE, Int.reduceLT, Int.reduceToNat, Nat.reduceAdd, Nat.reduceSub, Nat.reduceMul, reduceCtorEq, XTS, XT2S, XT3S, inX, dropS, ]
    (repeat (refine And.intro ?_ ?_; focus (clear hK'; intros; simp_all; done)))
    (try (refine hK' _ _ ?_; clear hK'; clear K'))
    repeat' (first
      |(with_reducible first|refine swp_seq ?_|refine swp_block ?_|refine swp_skip ?_|refine swp_ret ?_|refine swp_exit ?_|refine swp_label ?_|refine kseq_n ?_|refine kseq_x ?_|refine kseq_r ?_|refine kblk_n ?_|refine kblk_r ?_|refine kblk_xs ?_|refine kloop_x ?_|refine kloop_r ?_)
      |((with_reducible refine kblk_xn ?_ ?_);rfl)
      |((with_reducible refine swp_regionP ?_ ?_ (fun K' hK' => ?_));rfl;rfl;simp only [UN, LM, Nat.reduceBEq, Nat.reduceLeDiff, Int.reduceLE, Int.reduceLT, Int.reduceToNat, Nat.reduceAdd, Nat.reduceSub, Nat.reduceMul, reduceCtorEq, XTS, XT2S, XT3S, g0];(repeat (refine And.intro ?_ ?_; focus (clear hK'; intros; simp_all; done)));(try (refine hK' _ _ ?_; clear hK'; clear K')))
      |((with_reducible refine swp_cond ?_ ?_);rfl;refine ⟨_, rfl, fun h => ?_, fun h => ?_⟩ <;> (try (exfalso; exact absurd h (by decide)))))
    simp only [Kret, retL, retOne, oneV, UN, LM, Nat.reduceBEq, Nat.reduceLeDiff, Int.reduceLE, Int.reduceLT, Int.reduceToNat, Nat.reduceAdd, Nat.reduceSub, Nat.reduceMul, reduceCtorEq, XTS, XT2S, XT3S]
end Go.Proofs.YtiobdkibbhpojaaDoor
