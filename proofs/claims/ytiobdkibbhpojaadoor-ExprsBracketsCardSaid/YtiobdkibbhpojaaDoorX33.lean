/- exprs' reader: one operand; a symbolic walk. -/
-- TYPES3
import Derived.Test.YtiobdkibbhpojaaDoorX32
import Derived.Test.YtiobdkibbhpojaaDoorSwC
set_option linter.unusedVariables false
set_option linter.unusedSimpArgs false
namespace Go.Proofs.YtiobdkibbhpojaaDoor
open Go.RowKit Go.Sw

/-- How reading ends: with an expression, and where; or with an error, and where. -/
inductive Rd where
  | ok (x : Ex) (b : Nat)
  | no (e : Int) (b : Nat)
abbrev rBox (s : ByteArray) (a : Nat) : St := [(0, .cells [.d (sD s), .d (iD (a : Nat))])]
/-- A function of the reader's ends so. -/
def RdS (s : ByteArray) (f : FuncId) (more : List SV) (a : Nat) : Rd → Prop
  | .ok x b => SFn Tryd.prog Γ1 f (.ref 0 0 :: more) (rBox s a) (.d x.d) (rBox s b)
  | .no e b => XFn Tryd.prog Γ1 f (.ref 0 0 :: more) (rBox s a) (failV e b) (rBox s b)
/-- The word that stands here, and where. -/
def wAt (s : ByteArray) (a : Nat) : Nat := a + skipB (s.data.toList.drop a)
def wOf (s : ByteArray) (a : Nat) : ByteArray := wordS (s.extract (wAt s a) s.size)
theorem wd_fn (s : ByteArray) (hs : s.size ≤ 2000) (a : Nat) (ha : a ≤ s.size) : SFn Tryd.prog Γ1 126 [.ref 0 0] (rBox s a) (.d (sD (wOf s a))) (rBox s (wAt s a)) := word_fn s hs a ha
theorem wAt_in (s : ByteArray) (a : Nat) (ha : a ≤ s.size) : a ≤ wAt s a ∧ wAt s a ≤ s.size := by
  unfold wAt
  have := skipB_len (s.data.toList.drop a)
  rw [List.length_drop, Utf.sizeL] at this
  omega
def litRd (s : ByteArray) (a : Nat) : Rd := if (litR s a).2 = 0 then .ok (Ex.ofVa (litR s a).1) (litE s a) else .no (litR s a).2 a
theorem lit_rd (s : ByteArray) (hs : s.size ≤ 2000) (a : Nat) (ha : a ≤ s.size) : RdS s 147 [] a (litRd s a) := by
  unfold litRd
  by_cases h : (litR s a).2 = 0
  · rw [if_pos h]
    exact lit_ok s hs a ha _ (Prod.ext rfl h)
  · rw [if_neg h]
    exact lit_no s hs a ha h
/-- Is it one of the words? -/
abbrev isW (w : ByteArray) (l : List UInt8) : Bool := w.toList == ByteArray.toList ⟨l.toArray⟩
def nameEx (w : ByteArray) : Ex := .mk 2 w 0 0 ⟨#[]⟩ []

set_option maxHeartbeats 8000000 in
set_option maxRecDepth 100000 in
theorem one_name (s : ByteArray) (hs : s.size ≤ 2000) (a : Nat) (ha : a ≤ s.size) (hw : wAt s a + (wOf s a).size ≤ s.size)
    (n1 : ((wOf s a).toList == ByteArray.toList ⟨#[110, 111, 116]⟩) = false) (n2 : ((wOf s a).toList == ByteArray.toList ⟨#[35]⟩) = false) (n3 : ((wOf s a).toList == ByteArray.toList ⟨#[45]⟩) = false) (n4 : ((wOf s a).toList == ByteArray.toList ⟨#[40]⟩) = false)
    (n5 : isNameB (wOf s a) = true) : RdS s 125 [] a (.ok (nameEx (wOf s a)) (wAt s a + (wOf s a).size)) := by
  have hwd := wd_fn s hs a ha
  have hnm : DFn Tryd.prog Γ1 99 [sD (wOf s a)] (.v (.bool true)) := by have := dfn_more (isName_fn (wOf s a)); rw [n5] at this; exact this
  have hle := (wAt_in s a ha).2
  unfold RdS nameEx
  generalize wOf s a = w at *
  generalize wAt s a = k at *
  have hwr : IntKind.i64.wrap ((k : Int) + (w.size : Int)) = ((k + w.size : Nat) : Int) := by rw [wrap_in (by omega) (by omega)]; omega
  unfold rBox at hwd ⊢
  refine sfn_of_swp (N := 119) Tryd.func125 rfl (by decide) rfl rfl (by simp) (fun C h0 => ?_)
  simp only [argS]
  repeat' (first
    |(with_reducible first|refine swp_seq ?_|refine swp_block ?_|refine swp_skip ?_|refine swp_ret ?_|refine swp_exit ?_|refine swp_label ?_|refine kseq_n ?_|refine kseq_x ?_|refine kseq_r ?_|refine kblk_n ?_|refine kblk_r ?_|refine kblk_xs ?_|refine kloop_x ?_|refine kloop_r ?_)
    |((with_reducible refine kblk_xn ?_ ?_);rfl)
    |((with_reducible refine swp_regionP ?_ ?_ (fun K' hK' => ?_));rfl;rfl;simp only [UN, LM, Nat.reduceBEq, Nat.reduceLeDiff, Int.reduceLE, Int.reduceLT, Int.reduceToNat, Nat.reduceAdd, Nat.reduceSub, Nat.reduceMul, reduceCtorEq, XTS, XT2S, XT3S];(repeat (refine And.intro ?_ ?_; focus (clear hK'; intros; simp_all; done)));(try (refine hK' _ _ ?_; clear hK'; clear K')))
    |((with_reducible refine swp_cond ?_ ?_);rfl;refine ⟨_, rfl, fun h => ?_, fun h => ?_⟩ <;> (try (exfalso; exact absurd h (by decide)))))
  refine stop_cS rfl (by simp only [UA, UN, LM, Nat.reduceBEq, Nat.reduceLeDiff, Int.reduceLE, Int.reduceLT, Int.reduceToNat, Nat.reduceAdd, Nat.reduceSub, Nat.reduceMul, reduceCtorEq]) (hwd) ?_
  simp only [UN, LM, Nat.reduceBEq, Nat.reduceLeDiff, Int.reduceLE, Int.reduceLT, Int.reduceToNat, Nat.reduceAdd, Nat.reduceSub, Nat.reduceMul, reduceCtorEq, XTS, XT2S, XT3S, UM, ]
  (try (refine hK' _ _ ?_; clear hK'; clear K'))
  repeat' (first
    |(with_reducible first|refine swp_seq ?_|refine swp_block ?_|refine swp_skip ?_|refine swp_ret ?_|refine swp_exit ?_|refine swp_label ?_|refine kseq_n ?_|refine kseq_x ?_|refine kseq_r ?_|refine kblk_n ?_|refine kblk_r ?_|refine kblk_xs ?_|refine kloop_x ?_|refine kloop_r ?_)
    |((with_reducible refine kblk_xn ?_ ?_);rfl)
    |((with_reducible refine swp_regionP ?_ ?_ (fun K' hK' => ?_));rfl;rfl;simp only [UN, LM, Nat.reduceBEq, Nat.reduceLeDiff, Int.reduceLE, Int.reduceLT, Int.reduceToNat, Nat.reduceAdd, Nat.reduceSub, Nat.reduceMul, reduceCtorEq, XTS, XT2S, XT3S, n1, n2, n3, n4];(repeat (refine And.intro ?_ ?_; focus (clear hK'; intros; simp_all; done)));(try (refine hK' _ _ ?_; clear hK'; clear K')))
    |((with_reducible refine swp_cond ?_ ?_);rfl;refine ⟨_, rfl, fun h => ?_, fun h => ?_⟩ <;> (try (exfalso; exact absurd h (by decide)))))
  refine stop_callF rfl (by simp only [UN, LM, Nat.reduceBEq, Nat.reduceLeDiff, Int.reduceLE, Int.reduceLT, Int.reduceToNat, Nat.reduceAdd, Nat.reduceSub, Nat.reduceMul, reduceCtorEq]) rfl rfl (hnm) ?_
  simp only [UN, LM, Nat.reduceBEq, Nat.reduceLeDiff, Int.reduceLE, Int.reduceLT, Int.reduceToNat, Nat.reduceAdd, Nat.reduceSub, Nat.reduceMul, reduceCtorEq, XTS, XT2S, XT3S, inX, dropS, ]
  (repeat (refine And.intro ?_ ?_; focus (clear hK'; intros; simp_all; done)))
  (try (refine hK' _ _ ?_; clear hK'; clear K'))
  repeat' (first
    |(with_reducible first|refine swp_seq ?_|refine swp_block ?_|refine swp_skip ?_|refine swp_ret ?_|refine swp_exit ?_|refine swp_label ?_|refine kseq_n ?_|refine kseq_x ?_|refine kseq_r ?_|refine kblk_n ?_|refine kblk_r ?_|refine kblk_xs ?_|refine kloop_x ?_|refine kloop_r ?_)
    |((with_reducible refine kblk_xn ?_ ?_);rfl)
    |((with_reducible refine swp_regionP ?_ ?_ (fun K' hK' => ?_));rfl;rfl;simp only [UN, LM, Nat.reduceBEq, Nat.reduceLeDiff, Int.reduceLE, Int.reduceLT, Int.reduceToNat, Nat.reduceAdd, Nat.reduceSub, Nat.reduceMul, reduceCtorEq, XTS, XT2S, XT3S, hwr];(repeat (refine And.intro ?_ ?_; focus (clear hK'; intros; simp_all; done)));(try (refine hK' _ _ ?_; clear hK'; clear K')))
    |((with_reducible refine swp_cond ?_ ?_);rfl;refine ⟨_, rfl, fun h => ?_, fun h => ?_⟩ <;> (try (exfalso; exact absurd h (by decide)))))
  simp only [KretS, retL, retOne, oneV, US, UN, LM, Nat.reduceBEq, Nat.reduceLeDiff, Int.reduceLE, Int.reduceLT, Int.reduceToNat, Nat.reduceAdd, Nat.reduceSub, Nat.reduceMul, reduceCtorEq, XTS, XT2S, XT3S, h0, Ex.d, Ex.ds]
set_option maxHeartbeats 8000000 in
set_option maxRecDepth 100000 in
theorem one_bad (s : ByteArray) (hs : s.size ≤ 2000) (a : Nat) (ha : a ≤ s.size)
    (n1 : ((wOf s a).toList == ByteArray.toList ⟨#[110, 111, 116]⟩) = false) (n2 : ((wOf s a).toList == ByteArray.toList ⟨#[35]⟩) = false) (n3 : ((wOf s a).toList == ByteArray.toList ⟨#[45]⟩) = false) (n4 : ((wOf s a).toList == ByteArray.toList ⟨#[40]⟩) = false)
    (n5 : isNameB (wOf s a) = false) (n6 : ((wOf s a).toList == ByteArray.toList ⟨#[]⟩) = false) (n7 : ((wOf s a).toList == ByteArray.toList ⟨#[116, 114, 117, 101]⟩) = false) (n8 : ((wOf s a).toList == ByteArray.toList ⟨#[102, 97, 108, 115, 101]⟩) = false) :
    RdS s 125 [] a (.no 3 (wAt s a)) := by
  have hwd := wd_fn s hs a ha
  have hnm : DFn Tryd.prog Γ1 99 [sD (wOf s a)] (.v (.bool false)) := by have := dfn_more (isName_fn (wOf s a)); rw [n5] at this; exact this
  have hf := fail_fn s (wAt s a : Nat) 3
  unfold RdS
  generalize wOf s a = w at *
  generalize wAt s a = k at *
  unfold rBox at hwd ⊢
  refine xfn_of_swp (N := 119) Tryd.func125 rfl (by decide) rfl (by simp) (fun C h0 => ?_)
  simp only [argS]
  repeat' (first
    |(with_reducible first|refine swp_seq ?_|refine swp_block ?_|refine swp_skip ?_|refine swp_ret ?_|refine swp_exit ?_|refine swp_label ?_|refine kseq_n ?_|refine kseq_x ?_|refine kseq_r ?_|refine kblk_n ?_|refine kblk_r ?_|refine kblk_xs ?_|refine kloop_x ?_|refine kloop_r ?_)
    |((with_reducible refine kblk_xn ?_ ?_);rfl)
    |((with_reducible refine swp_regionP ?_ ?_ (fun K' hK' => ?_));rfl;rfl;simp only [UN, LM, Nat.reduceBEq, Nat.reduceLeDiff, Int.reduceLE, Int.reduceLT, Int.reduceToNat, Nat.reduceAdd, Nat.reduceSub, Nat.reduceMul, reduceCtorEq, XTS, XT2S, XT3S];(repeat (refine And.intro ?_ ?_; focus (clear hK'; intros; simp_all; done)));(try (refine hK' _ _ ?_; clear hK'; clear K')))
    |((with_reducible refine swp_cond ?_ ?_);rfl;refine ⟨_, rfl, fun h => ?_, fun h => ?_⟩ <;> (try (exfalso; exact absurd h (by decide)))))
  refine stop_cS rfl (by simp only [UA, UN, LM, Nat.reduceBEq, Nat.reduceLeDiff, Int.reduceLE, Int.reduceLT, Int.reduceToNat, Nat.reduceAdd, Nat.reduceSub, Nat.reduceMul, reduceCtorEq]) (hwd) ?_
  simp only [UN, LM, Nat.reduceBEq, Nat.reduceLeDiff, Int.reduceLE, Int.reduceLT, Int.reduceToNat, Nat.reduceAdd, Nat.reduceSub, Nat.reduceMul, reduceCtorEq, XTS, XT2S, XT3S, UM, ]
  (try (refine hK' _ _ ?_; clear hK'; clear K'))
  repeat' (first
    |(with_reducible first|refine swp_seq ?_|refine swp_block ?_|refine swp_skip ?_|refine swp_ret ?_|refine swp_exit ?_|refine swp_label ?_|refine kseq_n ?_|refine kseq_x ?_|refine kseq_r ?_|refine kblk_n ?_|refine kblk_r ?_|refine kblk_xs ?_|refine kloop_x ?_|refine kloop_r ?_)
    |((with_reducible refine kblk_xn ?_ ?_);rfl)
    |((with_reducible refine swp_regionP ?_ ?_ (fun K' hK' => ?_));rfl;rfl;simp only [UN, LM, Nat.reduceBEq, Nat.reduceLeDiff, Int.reduceLE, Int.reduceLT, Int.reduceToNat, Nat.reduceAdd, Nat.reduceSub, Nat.reduceMul, reduceCtorEq, XTS, XT2S, XT3S, n1, n2, n3, n4];(repeat (refine And.intro ?_ ?_; focus (clear hK'; intros; simp_all; done)));(try (refine hK' _ _ ?_; clear hK'; clear K')))
    |((with_reducible refine swp_cond ?_ ?_);rfl;refine ⟨_, rfl, fun h => ?_, fun h => ?_⟩ <;> (try (exfalso; exact absurd h (by decide)))))
  refine stop_callF rfl (by simp only [UN, LM, Nat.reduceBEq, Nat.reduceLeDiff, Int.reduceLE, Int.reduceLT, Int.reduceToNat, Nat.reduceAdd, Nat.reduceSub, Nat.reduceMul, reduceCtorEq]) rfl rfl (hnm) ?_
  simp only [UN, LM, Nat.reduceBEq, Nat.reduceLeDiff, Int.reduceLE, Int.reduceLT, Int.reduceToNat, Nat.reduceAdd, Nat.reduceSub, Nat.reduceMul, reduceCtorEq, XTS, XT2S, XT3S, inX, dropS, ]
  (repeat (refine And.intro ?_ ?_; focus (clear hK'; intros; simp_all; done)))
  (try (refine hK' _ _ ?_; clear hK'; clear K'))
  repeat' (first
    |(with_reducible first|refine swp_seq ?_|refine swp_block ?_|refine swp_skip ?_|refine swp_ret ?_|refine swp_exit ?_|refine swp_label ?_|refine kseq_n ?_|refine kseq_x ?_|refine kseq_r ?_|refine kblk_n ?_|refine kblk_r ?_|refine kblk_xs ?_|refine kloop_x ?_|refine kloop_r ?_)
    |((with_reducible refine kblk_xn ?_ ?_);rfl)
    |((with_reducible refine swp_regionX ?_ ?_ (fun K' hK' hP' => ?_));rfl;rfl;simp only [UN, LM, Nat.reduceBEq, Nat.reduceLeDiff, Int.reduceLE, Int.reduceLT, Int.reduceToNat, Nat.reduceAdd, Nat.reduceSub, Nat.reduceMul, reduceCtorEq, XTS, XT2S, XT3S, n6, n7, n8];(repeat (refine And.intro ?_ ?_; focus (clear hK' hP'; intros; simp_all; done)));(try (refine hK' _ _ ?_; clear hK' hP'; clear K')))
    |((with_reducible refine swp_cond ?_ ?_);rfl;refine ⟨_, rfl, fun h => ?_, fun h => ?_⟩ <;> (try (exfalso; exact absurd h (by decide)))))
  refine stop_cX rfl (by simp only [UA, UN, LM, Nat.reduceBEq, Nat.reduceLeDiff, Int.reduceLE, Int.reduceLT, Int.reduceToNat, Nat.reduceAdd, Nat.reduceSub, Nat.reduceMul, reduceCtorEq]) (hf) ?_
  simp only [UM, UN, LM, Nat.reduceBEq, Nat.reduceLeDiff, Int.reduceLE, Int.reduceLT, Int.reduceToNat, Nat.reduceAdd, Nat.reduceSub, Nat.reduceMul, reduceCtorEq]
  refine hP' _ _ _ ?_
  repeat (first | refine kseq_p ?_ | refine kblk_p ?_ | refine kloop_p ?_)
  simp only [KpanS, US, UN, LM, Nat.reduceBEq, Nat.reduceLeDiff, Int.reduceLE, Int.reduceLT, Int.reduceToNat, Nat.reduceAdd, Nat.reduceSub, Nat.reduceMul, reduceCtorEq, XTS, XT2S, XT3S, h0]
end Go.Proofs.YtiobdkibbhpojaaDoor
