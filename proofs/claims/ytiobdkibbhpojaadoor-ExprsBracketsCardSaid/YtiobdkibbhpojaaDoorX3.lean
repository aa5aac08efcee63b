/- exprs.check by a symbolic walk. -/
import Derived.Test.YtiobdkibbhpojaaDoorX1
import Derived.Test.YtiobdkibbhpojaaDoorSwB
set_option linter.unusedVariables false
set_option linter.unusedSimpArgs false
namespace Go.Proofs.YtiobdkibbhpojaaDoor
open Go.Sw

set_option maxHeartbeats 1000000 in
set_option maxRecDepth 100000 in
theorem single_fn (Γ : Gl) (s : ByteArray) : DFn Tryd.prog Γ 100 [sD s] (.v (.bool (singleL s.toList))) := by
  refine fn_of_swp (N := 13) Tryd.func100 rfl (by decide) rfl rfl (by simp) (fun C h0 => ?_)
  simp only [argE]
  repeat' (first
    |(with_reducible first|refine swp_seq ?_|refine swp_block ?_|refine swp_skip ?_|refine swp_ret ?_|refine swp_exit ?_|refine swp_label ?_|refine kseq_n ?_|refine kseq_x ?_|refine kseq_r ?_|refine kblk_n ?_|refine kblk_r ?_|refine kblk_xs ?_|refine kloop_x ?_|refine kloop_r ?_)
    |((with_reducible refine kblk_xn ?_ ?_);rfl)
    |((with_reducible refine swp_regionP ?_ ?_ (fun K' hK' => ?_));rfl;rfl;simp only [UN, LM, Nat.reduceBEq, Nat.reduceLeDiff, Int.reduceLE, Int.reduceLT, Int.reduceToNat, Nat.reduceAdd, Nat.reduceSub, Nat.reduceMul, reduceCtorEq, XTS];(repeat (refine And.intro ?_ ?_; focus (clear hK'; intros; simp_all; done)));(try (refine hK' _ _ ?_; clear hK'; clear K')))
    |((with_reducible refine swp_cond ?_ ?_);rfl;refine ⟨_, rfl, fun h => ?_, fun h => ?_⟩ <;> (try (exfalso; exact absurd h (by decide)))))
  all_goals simp only [Kret, retL, retOne, oneV, UN, LM, Nat.reduceBEq, Nat.reduceLeDiff, Int.reduceLE, Int.reduceLT, Int.reduceToNat, Nat.reduceAdd, Nat.reduceSub, Nat.reduceMul, reduceCtorEq, XTS]
  all_goals simp_all [singleL]
set_option maxHeartbeats 1000000 in
set_option maxRecDepth 100000 in
theorem level_fn (Γ : Gl) (s : ByteArray) : DFn Tryd.prog Γ 91 [sD s] (iD (levelL s.toList)) := by
  refine fn_of_swp (N := 20) Tryd.func91 rfl (by decide) rfl rfl (by simp) (fun C h0 => ?_)
  simp only [argE]
  repeat' (first
    |(with_reducible first|refine swp_seq ?_|refine swp_block ?_|refine swp_skip ?_|refine swp_ret ?_|refine swp_exit ?_|refine swp_label ?_|refine kseq_n ?_|refine kseq_x ?_|refine kseq_r ?_|refine kblk_n ?_|refine kblk_r ?_|refine kblk_xs ?_|refine kloop_x ?_|refine kloop_r ?_)
    |((with_reducible refine kblk_xn ?_ ?_);rfl)
    |((with_reducible refine swp_regionP ?_ ?_ (fun K' hK' => ?_));rfl;rfl;simp only [UN, LM, Nat.reduceBEq, Nat.reduceLeDiff, Int.reduceLE, Int.reduceLT, Int.reduceToNat, Nat.reduceAdd, Nat.reduceSub, Nat.reduceMul, reduceCtorEq, XTS];(repeat (refine And.intro ?_ ?_; focus (clear hK'; intros; simp_all; done)));(try (refine hK' _ _ ?_; clear hK'; clear K')))
    |((with_reducible refine swp_cond ?_ ?_);rfl;refine ⟨_, rfl, fun h => ?_, fun h => ?_⟩ <;> (try (exfalso; exact absurd h (by decide)))))
  all_goals simp only [Kret, retL, retOne, oneV, UN, LM, Nat.reduceBEq, Nat.reduceLeDiff, Int.reduceLE, Int.reduceLT, Int.reduceToNat, Nat.reduceAdd, Nat.reduceSub, Nat.reduceMul, reduceCtorEq, XTS]
  all_goals simp_all [levelL]

/-- What exprs.check does at x, whatever is left. -/
def ChkS (Γ : Gl) (x : Ex) : Prop := ∀ left : Int, 0 ≤ left → left ≤ 60 → SFn Tryd.prog Γ 74 [.d x.d, .ref 0 0] [(0, .cells [.d (iD left)])] (.d (iD (chk x left).1)) [(0, .cells [.d (iD (chk x left).2)])]

set_option maxHeartbeats 4000000 in
set_option maxRecDepth 100000 in
theorem checkS_step (Γ : Gl) (hname : ∀ s, DFn Tryd.prog Γ 99 [sD s] (.v (.bool (isNameB s)))) (hchk : ∀ t n s, DFn Tryd.prog Γ 22 [.agg [iD t, iD n, sD s]] (iD (vcheck t n s)))
    (k : Int) (nm : ByteArray) (t n : Int) (s : ByteArray) (l : List Ex) (ih : ∀ x ∈ l, ChkS Γ x) : ChkS Γ (.mk k nm t n s l) := by
  intro left hl0 hl1
  have hll := Ex.ds_len l
  have hw : IntKind.i64.wrap (left - 1) = left - 1 := wrap_in (by omega) (by omega)
  unfold Ex.d
  refine sfn_of_swp (N := 102) Tryd.func74 rfl (by decide) rfl rfl (by simp) (fun C h0 => ?_)
  simp only [argS]
  repeat' (first
    |(with_reducible first|refine swp_seq ?_|refine swp_block ?_|refine swp_skip ?_|refine swp_ret ?_|refine swp_exit ?_|refine swp_label ?_|refine kseq_n ?_|refine kseq_x ?_|refine kseq_r ?_|refine kblk_n ?_|refine kblk_r ?_|refine kblk_xs ?_|refine kloop_x ?_|refine kloop_r ?_)
    |((with_reducible refine kblk_xn ?_ ?_);rfl)
    |((with_reducible refine swp_regionP ?_ ?_ (fun K' hK' => ?_));rfl;rfl;simp only [UN, LM, Nat.reduceBEq, Nat.reduceLeDiff, Int.reduceLE, Int.reduceLT, Int.reduceToNat, Nat.reduceAdd, Nat.reduceSub, Nat.reduceMul, reduceCtorEq, XTS, hw, eqs23];(repeat (refine And.intro ?_ ?_; focus (clear hK'; intros; simp_all; done)));(try (refine hK' _ _ ?_; clear hK'; clear K')))
    |((with_reducible refine swp_cond ?_ ?_);rfl;refine ⟨_, rfl, fun h => ?_, fun h => ?_⟩ <;> (try (exfalso; exact absurd h (by decide)))))
  · simp only [KretS, retL, retOne, oneV, US, UN, LM, Nat.reduceBEq, Nat.reduceLeDiff, Int.reduceLE, Int.reduceLT, Int.reduceToNat, Nat.reduceAdd, Nat.reduceSub, Nat.reduceMul, reduceCtorEq, XTS, h0]
    have h : left - 1 < 0 := by simpa using h
    simp [chk, h]
  · -- a value alone
    rename_i h1
    refine stop_callF rfl (by simp only [UN, LM, Nat.reduceBEq, Nat.reduceLeDiff, Int.reduceLE, Int.reduceLT, Int.reduceToNat, Nat.reduceAdd, Nat.reduceSub, Nat.reduceMul, reduceCtorEq]) rfl rfl (hchk t n s) ?_
    simp only [UN, LM, Nat.reduceBEq, Nat.reduceLeDiff, Int.reduceLE, Int.reduceLT, Int.reduceToNat, Nat.reduceAdd, Nat.reduceSub, Nat.reduceMul, reduceCtorEq, XTS, inX, dropS, ]
    (repeat (refine And.intro ?_ ?_; focus (clear hK'; intros; simp_all; done)))
    (try (refine hK' _ _ ?_; clear hK'; clear K'))
    repeat' (first
      |(with_reducible first|refine swp_seq ?_|refine swp_block ?_|refine swp_skip ?_|refine swp_ret ?_|refine swp_exit ?_|refine swp_label ?_|refine kseq_n ?_|refine kseq_x ?_|refine kseq_r ?_|refine kblk_n ?_|refine kblk_r ?_|refine kblk_xs ?_|refine kloop_x ?_|refine kloop_r ?_)
      |((with_reducible refine kblk_xn ?_ ?_);rfl)
      |((with_reducible refine swp_regionP ?_ ?_ (fun K' hK' => ?_));rfl;rfl;simp only [UN, LM, Nat.reduceBEq, Nat.reduceLeDiff, Int.reduceLE, Int.reduceLT, Int.reduceToNat, Nat.reduceAdd, Nat.reduceSub, Nat.reduceMul, reduceCtorEq, XTS];(repeat (refine And.intro ?_ ?_; focus (clear hK'; intros; simp_all; done)));(try (refine hK' _ _ ?_; clear hK'; clear K')))
      |((with_reducible refine swp_cond ?_ ?_);rfl;refine ⟨_, rfl, fun h => ?_, fun h => ?_⟩ <;> (try (exfalso; exact absurd h (by decide)))))
    simp only [KretS, retL, retOne, oneV, US, UN, LM, Nat.reduceBEq, Nat.reduceLeDiff, Int.reduceLE, Int.reduceLT, Int.reduceToNat, Nat.reduceAdd, Nat.reduceSub, Nat.reduceMul, reduceCtorEq, XTS, h0]
    have h1 : ¬ left - 1 < 0 := by simpa using h1
    have h2 : k = 1 ∧ nm.toList = [] ∧ l.length = 0 := by
      simpa [emptyL, hll, and_assoc] using h
    simp only [chk, if_neg h1, if_pos h2, and_self]
  · repeat' (first
      |(with_reducible first|refine swp_seq ?_|refine swp_block ?_|refine swp_skip ?_|refine swp_ret ?_|refine swp_exit ?_|refine swp_label ?_|refine kseq_n ?_|refine kseq_x ?_|refine kseq_r ?_|refine kblk_n ?_|refine kblk_r ?_|refine kblk_xs ?_|refine kloop_x ?_|refine kloop_r ?_)
      |((with_reducible refine kblk_xn ?_ ?_);rfl)
      |((with_reducible refine swp_regionP ?_ ?_ (fun K' hK' => ?_));rfl;rfl;simp only [UN, LM, Nat.reduceBEq, Nat.reduceLeDiff, Int.reduceLE, Int.reduceLT, Int.reduceToNat, Nat.reduceAdd, Nat.reduceSub, Nat.reduceMul, reduceCtorEq, XTS];(repeat (refine And.intro ?_ ?_; focus (clear hK'; intros; simp_all; done)));(try (refine hK' _ _ ?_; clear hK'; clear K')))
      |((with_reducible refine swp_cond ?_ ?_);rfl;refine ⟨_, rfl, fun h => ?_, fun h => ?_⟩ <;> (try (exfalso; exact absurd h (by decide)))))
    (with_reducible refine swp_regionA ?_ ( [(15, .v (.bool (isNameB nm)))]) (fun K' hK' => ?_)
     · rfl
     simp only [UN, LM, Nat.reduceBEq, Nat.reduceLeDiff, Int.reduceLE, Int.reduceLT, Int.reduceToNat, Nat.reduceAdd, Nat.reduceSub, Nat.reduceMul, reduceCtorEq, XTS, vcA, stepA, callA, rst, lksA, Oper.looksAt, Op.operands, pureOp, Call.operands, List.filterMap_cons, List.filterMap_nil, Option.toList_none, Option.toList_some, Option.bind_some, Option.bind_none, List.getElem?_toArray, Array.toList_append, List.append_nil, D.flat, D.flats, true_or, or_true, forall_const, hll, hname ]
     (repeat (refine And.intro ?_ ?_; focus (clear hK'; intros; simp_all; done)))
     (try (refine hK' _ _ ?_; clear hK'; clear K')))
    repeat' (first
      |(with_reducible first|refine swp_seq ?_|refine swp_block ?_|refine swp_skip ?_|refine swp_ret ?_|refine swp_exit ?_|refine swp_label ?_|refine kseq_n ?_|refine kseq_x ?_|refine kseq_r ?_|refine kblk_n ?_|refine kblk_r ?_|refine kblk_xs ?_|refine kloop_x ?_|refine kloop_r ?_)
      |((with_reducible refine kblk_xn ?_ ?_);rfl)
      |((with_reducible refine swp_regionP ?_ ?_ (fun K' hK' => ?_));rfl;rfl;simp only [UN, LM, Nat.reduceBEq, Nat.reduceLeDiff, Int.reduceLE, Int.reduceLT, Int.reduceToNat, Nat.reduceAdd, Nat.reduceSub, Nat.reduceMul, reduceCtorEq, XTS];(repeat (refine And.intro ?_ ?_; focus (clear hK'; intros; simp_all; done)));(try (refine hK' _ _ ?_; clear hK'; clear K')))
      |((with_reducible refine swp_cond ?_ ?_);rfl;refine ⟨_, rfl, fun h => ?_, fun h => ?_⟩ <;> (try (exfalso; exact absurd h (by decide)))))
    · simp only [KretS, retL, retOne, oneV, US, UN, LM, Nat.reduceBEq, Nat.reduceLeDiff, Int.reduceLE, Int.reduceLT, Int.reduceToNat, Nat.reduceAdd, Nat.reduceSub, Nat.reduceMul, reduceCtorEq, XTS, h0]
      rename_i h1 h2
      have h1 : ¬ left - 1 < 0 := by simpa using h1
      have h2 : ¬ (k = 1 ∧ nm.toList = [] ∧ l.length = 0) := by
        intro ⟨a, b, c⟩
        simp [emptyL, hll, a, b, c] at h2
      have h3 : k = 2 ∧ bareB t n s = true ∧ l.length = 0 ∧ isNameB nm = true := by
        simpa [emptyL, hll, bareB, and_assoc] using h
      simp only [chk, if_neg h1, if_neg h2, if_pos h3, and_self]
    · (with_reducible refine swp_regionA ?_ ( [(9, .v (.bool (singleL nm.toList))), (19, iD (levelL nm.toList))]) (fun K' hK' => ?_)
       · rfl
       simp only [UN, LM, Nat.reduceBEq, Nat.reduceLeDiff, Int.reduceLE, Int.reduceLT, Int.reduceToNat, Nat.reduceAdd, Nat.reduceSub, Nat.reduceMul, reduceCtorEq, XTS, vcA, stepA, callA, rst, lksA, Oper.looksAt, Op.operands, pureOp, Call.operands, List.filterMap_cons, List.filterMap_nil, Option.toList_none, Option.toList_some, Option.bind_some, Option.bind_none, List.getElem?_toArray, Array.toList_append, List.append_nil, D.flat, D.flats, true_or, or_true, forall_const, hll, single_fn Γ, level_fn Γ ]
       (repeat (refine And.intro ?_ ?_; focus (clear hK'; intros; simp_all; done)))
       (try (refine hK' _ _ ?_; clear hK'; clear K')))
      repeat' (first
        |(with_reducible first|refine swp_seq ?_|refine swp_block ?_|refine swp_skip ?_|refine swp_ret ?_|refine swp_exit ?_|refine swp_label ?_|refine kseq_n ?_|refine kseq_x ?_|refine kseq_r ?_|refine kblk_n ?_|refine kblk_r ?_|refine kblk_xs ?_|refine kloop_x ?_|refine kloop_r ?_)
        |((with_reducible refine kblk_xn ?_ ?_);rfl)
        |((with_reducible refine swp_regionP ?_ ?_ (fun K' hK' => ?_));rfl;rfl;simp only [UN, LM, Nat.reduceBEq, Nat.reduceLeDiff, Int.reduceLE, Int.reduceLT, Int.reduceToNat, Nat.reduceAdd, Nat.reduceSub, Nat.reduceMul, reduceCtorEq, XTS, hll];(repeat (refine And.intro ?_ ?_; focus (clear hK'; intros; simp_all; done)));(try (refine hK' _ _ ?_; clear hK'; clear K')))
        |((with_reducible refine swp_cond ?_ ?_);rfl;refine ⟨_, rfl, fun h => ?_, fun h => ?_⟩ <;> (try (exfalso; exact absurd h (by decide)))))
      · -- its parts
        rename_i h1 h2 h3
        have h1 : ¬ left - 1 < 0 := by simpa using h1
        have hk : k = 3 ∧ bareB t n s = true ∧ opB nm l.length = true := by
          have := h
          cases hs : singleL nm.toList <;> simp [hs, emptyL, bareB, opB, and_assoc] at this ⊢
          all_goals (obtain ⟨a, b, c, d, f⟩ := this; exact ⟨a, b, c, d, by omega⟩)
        have hl : l.length ≤ 2 := opB_len hk.2.2
        have hc0 : chk (.mk k nm t n s l) left = chks l (left - 1) := by
          have h2 : ¬ (k = 1 ∧ nm.toList = [] ∧ l.length = 0) := by omega
          have h3 : ¬ (k = 2 ∧ bareB t n s = true ∧ l.length = 0 ∧ isNameB nm = true) := by omega
          simp only [chk, if_neg h1, if_neg h2, if_neg h3, if_pos hk]
        refine swp_loop (α := Nat × Int) (fun q => [(1, .ref 0 0), (89, .d (.slc (Ex.ds l))), (90, .d (iD l.length)), (91, .d (iD q.1))]) (fun q => [(0, .cells [.d (iD q.2)])])
          (fun q => q.1 ≤ l.length ∧ 0 ≤ q.2 ∧ q.2 ≤ 60 ∧ chks l (left - 1) = chks (l.drop q.1) q.2) (fun q => l.length - q.1) (0, left - 1) ⟨Nat.zero_le _, (by show 0 ≤ left - 1; simp at *; omega), (by show left - 1 ≤ 60; omega), by simp⟩ (by refine sub_of h0 ?_ ?_ ?_ <;> simp only [US, UN, LM, Nat.reduceBEq, Nat.reduceLeDiff, Int.reduceLE, Int.reduceLT, Int.reduceToNat, Nat.reduceAdd, Nat.reduceSub, Nat.reduceMul, reduceCtorEq, XTS, hll]) (fun q hq => ?_)
        obtain ⟨j, lf⟩ := q
        obtain ⟨hj, hf0, hf1, hch⟩ := hq
        simp only at hj hf0 hf1 hch
        have hb0 : (0 : Int) ≤ (j : Int) := by omega
        by_cases hlt : j < l.length
        · obtain ⟨x, hx⟩ : ∃ x, l[j]? = some x := ⟨l[j], by simp [hlt]⟩
          have hcall := ih x (List.mem_of_getElem? hx) lf hf0 hf1
          have hget := Ex.ds_get l j x hx
          have hb1 : (j : Int) < (l.length : Int) := by omega
          have hw3 : IntKind.i64.wrap ((j : Int) + 1) = ((j + 1 : Nat) : Int) := by rw [wrap_in (by omega) (by omega)]; omega
          have hcl := chk_left x lf hf0 hf1
          obtain ⟨e1, l1, hse⟩ : ∃ e1 l1, chk x lf = (e1, l1) := ⟨_, _, rfl⟩
          have hd : l.drop j = x :: l.drop (j + 1) := by
            obtain ⟨h1, h2⟩ := List.getElem?_eq_some_iff.1 hx
            rw [List.drop_eq_getElem_cons h1, h2]
          rw [hse] at hcall hcl
          rw [hd] at hch
          simp only [chks, hse] at hch
          simp only at hcall hcl
          obtain ⟨k', nm', t', n', s', l'⟩ := x
          simp only [Ex.d] at hget hcall
          repeat' (first
            |(with_reducible first|refine swp_seq ?_|refine swp_block ?_|refine swp_skip ?_|refine swp_ret ?_|refine swp_exit ?_|refine swp_label ?_|refine kseq_n ?_|refine kseq_x ?_|refine kseq_r ?_|refine kblk_n ?_|refine kblk_r ?_|refine kblk_xs ?_|refine kloop_x ?_|refine kloop_r ?_)
            |((with_reducible refine kblk_xn ?_ ?_);rfl)
            |((with_reducible refine swp_regionP ?_ ?_ (fun K' hK' => ?_));rfl;rfl;simp only [UN, LM, Nat.reduceBEq, Nat.reduceLeDiff, Int.reduceLE, Int.reduceLT, Int.reduceToNat, Nat.reduceAdd, Nat.reduceSub, Nat.reduceMul, reduceCtorEq, XTS, Int.toNat_natCast, hget, hll, hb0, hb1];(repeat (refine And.intro ?_ ?_; focus (clear hK'; intros; simp_all; done)));(try (refine hK' _ _ ?_; clear hK'; clear K')))
            |((with_reducible refine swp_cond ?_ ?_);rfl;refine ⟨_, rfl, fun h => ?_, fun h => ?_⟩ <;> (try (exfalso; exact absurd h (by decide)))))
          refine stop_cS rfl (by simp only [UA, UN, LM, Nat.reduceBEq, Nat.reduceLeDiff, Int.reduceLE, Int.reduceLT, Int.reduceToNat, Nat.reduceAdd, Nat.reduceSub, Nat.reduceMul, reduceCtorEq]) (hcall ) ?_
          simp only [UN, LM, Nat.reduceBEq, Nat.reduceLeDiff, Int.reduceLE, Int.reduceLT, Int.reduceToNat, Nat.reduceAdd, Nat.reduceSub, Nat.reduceMul, reduceCtorEq, XTS, UM,  Int.toNat_natCast]
          (try (refine hK' _ _ ?_; clear hK'; clear K'))
          repeat' (first
            |(with_reducible first|refine swp_seq ?_|refine swp_block ?_|refine swp_skip ?_|refine swp_ret ?_|refine swp_exit ?_|refine swp_label ?_|refine kseq_n ?_|refine kseq_x ?_|refine kseq_r ?_|refine kblk_n ?_|refine kblk_r ?_|refine kblk_xs ?_|refine kloop_x ?_|refine kloop_r ?_)
            |((with_reducible refine kblk_xn ?_ ?_);rfl)
            |((with_reducible refine swp_regionP ?_ ?_ (fun K' hK' => ?_));rfl;rfl;simp only [UN, LM, Nat.reduceBEq, Nat.reduceLeDiff, Int.reduceLE, Int.reduceLT, Int.reduceToNat, Nat.reduceAdd, Nat.reduceSub, Nat.reduceMul, reduceCtorEq, XTS, hw3];(repeat (refine And.intro ?_ ?_; focus (clear hK'; intros; simp_all; done)));(try (refine hK' _ _ ?_; clear hK'; clear K')))
            |((with_reducible refine swp_cond ?_ ?_);rfl;refine ⟨_, rfl, fun h => ?_, fun h => ?_⟩ <;> (try (exfalso; exact absurd h (by decide)))))
          · -- an error
            simp only [KretS, retL, retOne, oneV, US, UN, LM, Nat.reduceBEq, Nat.reduceLeDiff, Int.reduceLE, Int.reduceLT, Int.reduceToNat, Nat.reduceAdd, Nat.reduceSub, Nat.reduceMul, reduceCtorEq, XTS, h0]
            have he : e1 ≠ 0 := by simpa using h
            rw [if_pos he] at hch
            simp only [hc0, hch, and_self]
          · have he : ¬ e1 ≠ 0 := by simpa using h
            rw [if_neg he] at hch
            refine ⟨(j + 1, l1), ⟨(by show j + 1 ≤ l.length; omega), ?_⟩, (by show l.length - (j + 1) < l.length - j; omega), by refine sub_of h0 ?_ ?_ ?_ <;> simp only [US, UN, LM, Nat.reduceBEq, Nat.reduceLeDiff, Int.reduceLE, Int.reduceLT, Int.reduceToNat, Nat.reduceAdd, Nat.reduceSub, Nat.reduceMul, reduceCtorEq, XTS]⟩
            refine ⟨hcl.2.2 (by omega), ?_, hch⟩
            show l1 ≤ 60
            omega
        · have hb1 : ¬ (j : Int) < (l.length : Int) := by omega
          repeat' (first
            |(with_reducible first|refine swp_seq ?_|refine swp_block ?_|refine swp_skip ?_|refine swp_ret ?_|refine swp_exit ?_|refine swp_label ?_|refine kseq_n ?_|refine kseq_x ?_|refine kseq_r ?_|refine kblk_n ?_|refine kblk_r ?_|refine kblk_xs ?_|refine kloop_x ?_|refine kloop_r ?_)
            |((with_reducible refine kblk_xn ?_ ?_);rfl)
            |((with_reducible refine swp_regionP ?_ ?_ (fun K' hK' => ?_));rfl;rfl;simp only [UN, LM, Nat.reduceBEq, Nat.reduceLeDiff, Int.reduceLE, Int.reduceLT, Int.reduceToNat, Nat.reduceAdd, Nat.reduceSub, Nat.reduceMul, reduceCtorEq, XTS, hb1];(repeat (refine And.intro ?_ ?_; focus (clear hK'; intros; simp_all; done)));(try (refine hK' _ _ ?_; clear hK'; clear K')))
            |((with_reducible refine swp_cond ?_ ?_);rfl;refine ⟨_, rfl, fun h => ?_, fun h => ?_⟩ <;> (try (exfalso; exact absurd h (by decide)))))
          simp only [KretS, retL, retOne, oneV, US, UN, LM, Nat.reduceBEq, Nat.reduceLeDiff, Int.reduceLE, Int.reduceLT, Int.reduceToNat, Nat.reduceAdd, Nat.reduceSub, Nat.reduceMul, reduceCtorEq, XTS, h0]
          rw [List.drop_of_length_le (by omega)] at hch
          simp only [hc0, hch, chks, and_self]
      · simp only [KretS, retL, retOne, oneV, US, UN, LM, Nat.reduceBEq, Nat.reduceLeDiff, Int.reduceLE, Int.reduceLT, Int.reduceToNat, Nat.reduceAdd, Nat.reduceSub, Nat.reduceMul, reduceCtorEq, XTS, h0]
        rename_i h1 h2 h3
        have h1 : ¬ left - 1 < 0 := by simpa using h1
        have h2 : ¬ (k = 1 ∧ nm.toList = [] ∧ l.length = 0) := by
          intro ⟨a, b, c⟩
          simp [emptyL, hll, a, b, c] at h2
        have h3 : ¬ (k = 2 ∧ bareB t n s = true ∧ l.length = 0 ∧ isNameB nm = true) := by
          intro ⟨a, b, c, d⟩
          simp only [bareB, Bool.and_eq_true] at b
          simp [emptyL, hll, a, b, c, d] at h3
        have hk : ¬ (k = 3 ∧ bareB t n s = true ∧ opB nm l.length = true) := by
          intro ⟨a, b, c⟩
          simp only [bareB, Bool.and_eq_true] at b
          cases hs : singleL nm.toList <;> simp [hs, emptyL, opB, a, b] at h c <;> omega
        simp only [chk, if_neg h1, if_neg h2, if_neg h3, if_neg hk, and_self]

theorem checkS_all (Γ : Gl) (hname : ∀ s, DFn Tryd.prog Γ 99 [sD s] (.v (.bool (isNameB s)))) (hchk : ∀ t n s, DFn Tryd.prog Γ 22 [.agg [iD t, iD n, sD s]] (iD (vcheck t n s))) : ∀ (N : Nat) (x : Ex), x.size ≤ N → ChkS Γ x
  | 0, x, h => by have := x.size_pos; omega
  | N + 1, .mk k nm t n s l, h => checkS_step Γ hname hchk k nm t n s l fun x hx => checkS_all Γ hname hchk N x (by have := Ex.size_mem hx; simp only [Ex.size] at h; omega)
set_option maxHeartbeats 1000000 in
set_option maxRecDepth 100000 in
theorem Check_fn (Γ : Gl) (hname : ∀ s, DFn Tryd.prog Γ 99 [sD s] (.v (.bool (isNameB s)))) (hchk : ∀ t n s, DFn Tryd.prog Γ 22 [.agg [iD t, iD n, sD s]] (iD (vcheck t n s))) (x : Ex) : DFn Tryd.prog Γ 45 [x.d] (iD (eCheck x)) := by
  have hcall : SFn Tryd.prog Γ 74 [.d x.d, .ref 1 0] [(1, .cells [.d (iD 60)])] (.d (iD (chk x 60).1)) [(1, .cells [.d (iD (chk x 60).2)])] := (checkS_all Γ hname hchk x.size x (Nat.le_refl _) 60 (by omega) (by omega)).up 1
  refine fn_of_swp (N := 6) Tryd.func45 rfl (by decide) rfl rfl (by simp) (fun C h0 => ?_)
  simp only [argE]
  obtain ⟨k, nm, t, n, s, l⟩ := x
  simp only [Ex.d] at hcall ⊢
  repeat' (first
    |(with_reducible first|refine swp_seq ?_|refine swp_block ?_|refine swp_skip ?_|refine swp_ret ?_|refine swp_exit ?_|refine swp_label ?_|refine kseq_n ?_|refine kseq_x ?_|refine kseq_r ?_|refine kblk_n ?_|refine kblk_r ?_|refine kblk_xs ?_|refine kloop_x ?_|refine kloop_r ?_)
    |((with_reducible refine kblk_xn ?_ ?_);rfl)
    |((with_reducible refine swp_regionP ?_ ?_ (fun K' hK' => ?_));rfl;rfl;simp only [UN, LM, Nat.reduceBEq, Nat.reduceLeDiff, Int.reduceLE, Int.reduceLT, Int.reduceToNat, Nat.reduceAdd, Nat.reduceSub, Nat.reduceMul, reduceCtorEq, XTS];(repeat (refine And.intro ?_ ?_; focus (clear hK'; intros; simp_all; done)));(try (refine hK' _ _ ?_; clear hK'; clear K')))
    |((with_reducible refine swp_cond ?_ ?_);rfl;refine ⟨_, rfl, fun h => ?_, fun h => ?_⟩ <;> (try (exfalso; exact absurd h (by decide)))))
  refine stop_cS rfl (by simp only [UA, UN, LM, Nat.reduceBEq, Nat.reduceLeDiff, Int.reduceLE, Int.reduceLT, Int.reduceToNat, Nat.reduceAdd, Nat.reduceSub, Nat.reduceMul, reduceCtorEq]) (hcall) ?_
  simp only [UN, LM, Nat.reduceBEq, Nat.reduceLeDiff, Int.reduceLE, Int.reduceLT, Int.reduceToNat, Nat.reduceAdd, Nat.reduceSub, Nat.reduceMul, reduceCtorEq, XTS, UM, ]
  (try (refine hK' _ _ ?_; clear hK'; clear K'))
  repeat' (first
    |(with_reducible first|refine swp_seq ?_|refine swp_block ?_|refine swp_skip ?_|refine swp_ret ?_|refine swp_exit ?_|refine swp_label ?_|refine kseq_n ?_|refine kseq_x ?_|refine kseq_r ?_|refine kblk_n ?_|refine kblk_r ?_|refine kblk_xs ?_|refine kloop_x ?_|refine kloop_r ?_)
    |((with_reducible refine kblk_xn ?_ ?_);rfl)
    |((with_reducible refine swp_regionP ?_ ?_ (fun K' hK' => ?_));rfl;rfl;simp only [UN, LM, Nat.reduceBEq, Nat.reduceLeDiff, Int.reduceLE, Int.reduceLT, Int.reduceToNat, Nat.reduceAdd, Nat.reduceSub, Nat.reduceMul, reduceCtorEq, XTS];(repeat (refine And.intro ?_ ?_; focus (clear hK'; intros; simp_all; done)));(try (refine hK' _ _ ?_; clear hK'; clear K')))
    |((with_reducible refine swp_cond ?_ ?_);rfl;refine ⟨_, rfl, fun h => ?_, fun h => ?_⟩ <;> (try (exfalso; exact absurd h (by decide)))))
  simp only [Kret, retL, retOne, oneV, UN, LM, Nat.reduceBEq, Nat.reduceLeDiff, Int.reduceLE, Int.reduceLT, Int.reduceToNat, Nat.reduceAdd, Nat.reduceSub, Nat.reduceMul, reduceCtorEq, XTS]
  rfl
end Go.Proofs.YtiobdkibbhpojaaDoor
