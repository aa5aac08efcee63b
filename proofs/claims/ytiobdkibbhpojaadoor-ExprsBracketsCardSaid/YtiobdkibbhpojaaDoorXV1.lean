/- values.Write and values.Read as contracts of plain data. -/
import Derived.Test.YtiobdkibbhpojaaDoorX1
import Derived.Test.YtiobdkibbhpojaaDoorL4
import Derived.Test.YtiobdkibbhpojaaDoorSwC
set_option linter.unusedVariables false
set_option linter.unusedSimpArgs false
namespace Go.Proofs.YtiobdkibbhpojaaDoor
open Go.RowKit Go.Sw

/-- What is laid, as far as values are written and read. -/
def Γ1 : Gl := ⟨5, Tabs1, fun w w' h ht => ht.keep h⟩
theorem dfn_more {f : FuncId} {args : List D} {ret : D} (h : DFn Tryd.prog Γ0 f args ret) : DFn Tryd.prog Γ1 f args ret :=
  ⟨h.1, fun F w us hG hN hF hu => h.2 F w us hG.1 (Nat.le_trans (by decide) hN) hF hu⟩
theorem chk1_fn (t n : Int) (s : ByteArray) : DFn Tryd.prog Γ1 22 [.agg [iD t, iD n, sD s]] (iD (vcheck t n s)) := dfn_more (vcheck_fn t n s)
def packS (l : List UInt8) : ByteArray := ⟨l.toArray⟩
theorem fmt_fn (n : Int) (h0 : -9223372036854775808 ≤ n) (h1 : n ≤ 9223372036854775807) : DFn Tryd.prog Γ1 52 [iD n, iD 10] (sD (packS (Lib.itoa n))) :=
  dfn_of (by kernel_rfl) rfl rfl fun w h => (Tryd.strconv_FormatInt_10 n h0 h1 w h.2.1).mono fun e w' ⟨he, k, os, hw⟩ => ⟨he, by
    subst hw
    exact ⟨rfl, rfl, rfl, by simp [Go.Sort.grow], fun b hb => by simp only [Go.Sort.grow]; exact Array.getElem?_append_left (by simpa using hb)⟩⟩
theorem fmtb_fn (b : Bool) : DFn Tryd.prog Γ1 53 [.v (.bool b)] (sD (packS (Lib.formatBool b))) :=
  dfn_of (by kernel_rfl) rfl rfl fun w h => (Tryd.strconv_FormatBool b w).mono fun e w' ⟨he, hw⟩ => ⟨he, by subst hw; exact Below.refl _ _⟩
theorem esc_fn (s : ByteArray) (hs : s.size ≤ 1099511627776) : DFn Tryd.prog Γ1 54 [sD s] (sD (packS (escL s.data.toList))) :=
  dfn_of (by kernel_rfl) rfl rfl fun w h => escaped_any s hs w
theorem read_fn (s : ByteArray) (hs : s.size ≤ 140737488351232) : DFn Tryd.prog Γ1 26 [sD s] (.tup [vD (rd s.data.toList).1, iD (rd s.data.toList).2]) :=
  dfn_of (by kernel_rfl) rfl rfl fun w h => read_any s hs w h
/-- What values.Write returns. -/
def wrS (v : Va) : ByteArray := if vcheck v.t v.n v.s = 0 then packS (wr v.t v.n v.s.data.toList) else ⟨#[]⟩

set_option maxHeartbeats 4000000 in
set_option maxRecDepth 100000 in
theorem write_fn (v : Va) (h0 : -9223372036854775808 ≤ v.n) (h1 : v.n ≤ 9223372036854775807) : DFn Tryd.prog Γ1 25 [vD v] (.tup [sD (wrS v), iD (vcheck v.t v.n v.s)]) := by
  obtain ⟨t, n, s⟩ := v
  have hc := chk1_fn t n s
  have hf := fmt_fn n h0 h1
  have hb := fmtb_fn (n == 1)
  have hes : vcheck t n s = 0 → t ≠ 1 → t ≠ 2 → DFn Tryd.prog Γ1 54 [sD s] (sD (packS (escL s.data.toList))) := fun h a b => esc_fn s (by
    unfold vcheck at h
    rw [if_neg a, if_neg b] at h
    (repeat' split at h) <;> first | omega | (simp at h))
  have hz : vcheck t n s = 0 → t ≠ 1 → t ≠ 2 → (packS (escL s.data.toList)).size ≤ 2147483648 := fun h a b => by
    have h1 := escL_len s.data.toList
    have h2 : (packS (escL s.data.toList)).size = (escL s.data.toList).length := by simp [packS, ByteArray.size]
    have h3 : s.size ≤ 100 := by
      unfold vcheck at h
      rw [if_neg a, if_neg b] at h
      (repeat' split at h) <;> first | omega | (simp at h)
    rw [Utf.sizeL] at h1
    omega
  have hw : wrS ⟨t, n, s⟩ = if vcheck t n s = 0 then packS (wr t n s.data.toList) else ⟨#[]⟩ := rfl
  rw [hw]
  simp only at h0 h1
  clear hw
  generalize vcheck t n s = V at hc hes hz ⊢
  by_cases hV : ¬ V = 0
  · rw [if_neg hV]
    have g0 : (V != 0) = true := by simpa using hV
    refine fn_of_swp (N := 28) Tryd.func25 rfl (by decide) rfl rfl (by simp) (fun C h0 => ?_)
    simp only [argE]
    repeat' (first
      |(with_reducible first|refine swp_seq ?_|refine swp_block ?_|refine swp_skip ?_|refine swp_ret ?_|refine swp_exit ?_|refine swp_label ?_|refine kseq_n ?_|refine kseq_x ?_|refine kseq_r ?_|refine kblk_n ?_|refine kblk_r ?_|refine kblk_xs ?_|refine kloop_x ?_|refine kloop_r ?_)
      |((with_reducible refine kblk_xn ?_ ?_);rfl)
      |((with_reducible refine swp_regionP ?_ ?_ (fun K' hK' => ?_));rfl;rfl;simp only [UN, LM, Nat.reduceBEq, Nat.reduceLeDiff, Int.reduceLE, Int.reduceLT, Int.reduceToNat, Nat.reduceAdd, Nat.reduceSub, Nat.reduceMul, reduceCtorEq, XTS];(repeat (refine And.intro ?_ ?_; focus (clear hK'; intros; simp_all; done)));(try (refine hK' _ _ ?_; clear hK'; clear K')))
      |((with_reducible refine swp_cond ?_ ?_);rfl;refine ⟨_, rfl, fun h => ?_, fun h => ?_⟩ <;> (try (exfalso; exact absurd h (by decide)))))
    refine stop_callF rfl (by simp only [UN, LM, Nat.reduceBEq, Nat.reduceLeDiff, Int.reduceLE, Int.reduceLT, Int.reduceToNat, Nat.reduceAdd, Nat.reduceSub, Nat.reduceMul, reduceCtorEq]) rfl rfl (hc) ?_
    simp only [UN, LM, Nat.reduceBEq, Nat.reduceLeDiff, Int.reduceLE, Int.reduceLT, Int.reduceToNat, Nat.reduceAdd, Nat.reduceSub, Nat.reduceMul, reduceCtorEq, XTS, inX, dropS, ]
    (repeat (refine And.intro ?_ ?_; focus (clear hK'; intros; simp_all; done)))
    (try (refine hK' _ _ ?_; clear hK'; clear K'))
    repeat' (first
      |(with_reducible first|refine swp_seq ?_|refine swp_block ?_|refine swp_skip ?_|refine swp_ret ?_|refine swp_exit ?_|refine swp_label ?_|refine kseq_n ?_|refine kseq_x ?_|refine kseq_r ?_|refine kblk_n ?_|refine kblk_r ?_|refine kblk_xs ?_|refine kloop_x ?_|refine kloop_r ?_)
      |((with_reducible refine kblk_xn ?_ ?_);rfl)
      |((with_reducible refine swp_regionP ?_ ?_ (fun K' hK' => ?_));rfl;rfl;simp only [UN, LM, Nat.reduceBEq, Nat.reduceLeDiff, Int.reduceLE, Int.reduceLT, Int.reduceToNat, Nat.reduceAdd, Nat.reduceSub, Nat.reduceMul, reduceCtorEq, XTS, g0];(repeat (refine And.intro ?_ ?_; focus (clear hK'; intros; simp_all; done)));(try (refine hK' _ _ ?_; clear hK'; clear K')))
      |((with_reducible refine swp_cond ?_ ?_);rfl;refine ⟨_, rfl, fun h => ?_, fun h => ?_⟩ <;> (try (exfalso; exact absurd h (by decide)))))
    simp only [Kret, retL, retOne, oneV, UN, LM, Nat.reduceBEq, Nat.reduceLeDiff, Int.reduceLE, Int.reduceLT, Int.reduceToNat, Nat.reduceAdd, Nat.reduceSub, Nat.reduceMul, reduceCtorEq, XTS]
  have hV : V = 0 := by omega
  subst hV
  rw [if_pos rfl]
  by_cases t1 : t = 1
  · subst t1
    rw [show wr 1 n s.data.toList = Lib.itoa n from by unfold wr; rw [if_pos rfl]]
    refine fn_of_swp (N := 28) Tryd.func25 rfl (by decide) rfl rfl (by simp) (fun C h0 => ?_)
    simp only [argE]
    repeat' (first
      |(with_reducible first|refine swp_seq ?_|refine swp_block ?_|refine swp_skip ?_|refine swp_ret ?_|refine swp_exit ?_|refine swp_label ?_|refine kseq_n ?_|refine kseq_x ?_|refine kseq_r ?_|refine kblk_n ?_|refine kblk_r ?_|refine kblk_xs ?_|refine kloop_x ?_|refine kloop_r ?_)
      |((with_reducible refine kblk_xn ?_ ?_);rfl)
      |((with_reducible refine swp_regionP ?_ ?_ (fun K' hK' => ?_));rfl;rfl;simp only [UN, LM, Nat.reduceBEq, Nat.reduceLeDiff, Int.reduceLE, Int.reduceLT, Int.reduceToNat, Nat.reduceAdd, Nat.reduceSub, Nat.reduceMul, reduceCtorEq, XTS];(repeat (refine And.intro ?_ ?_; focus (clear hK'; intros; simp_all; done)));(try (refine hK' _ _ ?_; clear hK'; clear K')))
      |((with_reducible refine swp_cond ?_ ?_);rfl;refine ⟨_, rfl, fun h => ?_, fun h => ?_⟩ <;> (try (exfalso; exact absurd h (by decide)))))
    refine stop_callF rfl (by simp only [UN, LM, Nat.reduceBEq, Nat.reduceLeDiff, Int.reduceLE, Int.reduceLT, Int.reduceToNat, Nat.reduceAdd, Nat.reduceSub, Nat.reduceMul, reduceCtorEq]) rfl rfl (hc) ?_
    simp only [UN, LM, Nat.reduceBEq, Nat.reduceLeDiff, Int.reduceLE, Int.reduceLT, Int.reduceToNat, Nat.reduceAdd, Nat.reduceSub, Nat.reduceMul, reduceCtorEq, XTS, inX, dropS, ]
    (repeat (refine And.intro ?_ ?_; focus (clear hK'; intros; simp_all; done)))
    (try (refine hK' _ _ ?_; clear hK'; clear K'))
    repeat' (first
      |(with_reducible first|refine swp_seq ?_|refine swp_block ?_|refine swp_skip ?_|refine swp_ret ?_|refine swp_exit ?_|refine swp_label ?_|refine kseq_n ?_|refine kseq_x ?_|refine kseq_r ?_|refine kblk_n ?_|refine kblk_r ?_|refine kblk_xs ?_|refine kloop_x ?_|refine kloop_r ?_)
      |((with_reducible refine kblk_xn ?_ ?_);rfl)
      |((with_reducible refine swp_regionP ?_ ?_ (fun K' hK' => ?_));rfl;rfl;simp only [UN, LM, Nat.reduceBEq, Nat.reduceLeDiff, Int.reduceLE, Int.reduceLT, Int.reduceToNat, Nat.reduceAdd, Nat.reduceSub, Nat.reduceMul, reduceCtorEq, XTS];(repeat (refine And.intro ?_ ?_; focus (clear hK'; intros; simp_all; done)));(try (refine hK' _ _ ?_; clear hK'; clear K')))
      |((with_reducible refine swp_cond ?_ ?_);rfl;refine ⟨_, rfl, fun h => ?_, fun h => ?_⟩ <;> (try (exfalso; exact absurd h (by decide)))))
    refine stop_callF rfl (by simp only [UN, LM, Nat.reduceBEq, Nat.reduceLeDiff, Int.reduceLE, Int.reduceLT, Int.reduceToNat, Nat.reduceAdd, Nat.reduceSub, Nat.reduceMul, reduceCtorEq]) rfl rfl (hf) ?_
    simp only [UN, LM, Nat.reduceBEq, Nat.reduceLeDiff, Int.reduceLE, Int.reduceLT, Int.reduceToNat, Nat.reduceAdd, Nat.reduceSub, Nat.reduceMul, reduceCtorEq, XTS, inX, dropS, ]
    (repeat (refine And.intro ?_ ?_; focus (clear hK'; intros; simp_all; done)))
    (try (refine hK' _ _ ?_; clear hK'; clear K'))
    repeat' (first
      |(with_reducible first|refine swp_seq ?_|refine swp_block ?_|refine swp_skip ?_|refine swp_ret ?_|refine swp_exit ?_|refine swp_label ?_|refine kseq_n ?_|refine kseq_x ?_|refine kseq_r ?_|refine kblk_n ?_|refine kblk_r ?_|refine kblk_xs ?_|refine kloop_x ?_|refine kloop_r ?_)
      |((with_reducible refine kblk_xn ?_ ?_);rfl)
      |((with_reducible refine swp_regionP ?_ ?_ (fun K' hK' => ?_));rfl;rfl;simp only [UN, LM, Nat.reduceBEq, Nat.reduceLeDiff, Int.reduceLE, Int.reduceLT, Int.reduceToNat, Nat.reduceAdd, Nat.reduceSub, Nat.reduceMul, reduceCtorEq, XTS];(repeat (refine And.intro ?_ ?_; focus (clear hK'; intros; simp_all; done)));(try (refine hK' _ _ ?_; clear hK'; clear K')))
      |((with_reducible refine swp_cond ?_ ?_);rfl;refine ⟨_, rfl, fun h => ?_, fun h => ?_⟩ <;> (try (exfalso; exact absurd h (by decide)))))
    simp only [Kret, retL, retOne, oneV, UN, LM, Nat.reduceBEq, Nat.reduceLeDiff, Int.reduceLE, Int.reduceLT, Int.reduceToNat, Nat.reduceAdd, Nat.reduceSub, Nat.reduceMul, reduceCtorEq, XTS]
  have g1 : (t == 1) = false := by simpa using t1
  by_cases t2 : t = 2
  · subst t2
    rw [show wr 2 n s.data.toList = Lib.formatBool (n == 1) from by unfold wr; rw [if_neg (by decide), if_pos rfl]]
    refine fn_of_swp (N := 28) Tryd.func25 rfl (by decide) rfl rfl (by simp) (fun C h0 => ?_)
    simp only [argE]
    repeat' (first
      |(with_reducible first|refine swp_seq ?_|refine swp_block ?_|refine swp_skip ?_|refine swp_ret ?_|refine swp_exit ?_|refine swp_label ?_|refine kseq_n ?_|refine kseq_x ?_|refine kseq_r ?_|refine kblk_n ?_|refine kblk_r ?_|refine kblk_xs ?_|refine kloop_x ?_|refine kloop_r ?_)
      |((with_reducible refine kblk_xn ?_ ?_);rfl)
      |((with_reducible refine swp_regionP ?_ ?_ (fun K' hK' => ?_));rfl;rfl;simp only [UN, LM, Nat.reduceBEq, Nat.reduceLeDiff, Int.reduceLE, Int.reduceLT, Int.reduceToNat, Nat.reduceAdd, Nat.reduceSub, Nat.reduceMul, reduceCtorEq, XTS];(repeat (refine And.intro ?_ ?_; focus (clear hK'; intros; simp_all; done)));(try (refine hK' _ _ ?_; clear hK'; clear K')))
      |((with_reducible refine swp_cond ?_ ?_);rfl;refine ⟨_, rfl, fun h => ?_, fun h => ?_⟩ <;> (try (exfalso; exact absurd h (by decide)))))
    refine stop_callF rfl (by simp only [UN, LM, Nat.reduceBEq, Nat.reduceLeDiff, Int.reduceLE, Int.reduceLT, Int.reduceToNat, Nat.reduceAdd, Nat.reduceSub, Nat.reduceMul, reduceCtorEq]) rfl rfl (hc) ?_
    simp only [UN, LM, Nat.reduceBEq, Nat.reduceLeDiff, Int.reduceLE, Int.reduceLT, Int.reduceToNat, Nat.reduceAdd, Nat.reduceSub, Nat.reduceMul, reduceCtorEq, XTS, inX, dropS, ]
    (repeat (refine And.intro ?_ ?_; focus (clear hK'; intros; simp_all; done)))
    (try (refine hK' _ _ ?_; clear hK'; clear K'))
    repeat' (first
      |(with_reducible first|refine swp_seq ?_|refine swp_block ?_|refine swp_skip ?_|refine swp_ret ?_|refine swp_exit ?_|refine swp_label ?_|refine kseq_n ?_|refine kseq_x ?_|refine kseq_r ?_|refine kblk_n ?_|refine kblk_r ?_|refine kblk_xs ?_|refine kloop_x ?_|refine kloop_r ?_)
      |((with_reducible refine kblk_xn ?_ ?_);rfl)
      |((with_reducible refine swp_regionP ?_ ?_ (fun K' hK' => ?_));rfl;rfl;simp only [UN, LM, Nat.reduceBEq, Nat.reduceLeDiff, Int.reduceLE, Int.reduceLT, Int.reduceToNat, Nat.reduceAdd, Nat.reduceSub, Nat.reduceMul, reduceCtorEq, XTS];(repeat (refine And.intro ?_ ?_; focus (clear hK'; intros; simp_all; done)));(try (refine hK' _ _ ?_; clear hK'; clear K')))
      |((with_reducible refine swp_cond ?_ ?_);rfl;refine ⟨_, rfl, fun h => ?_, fun h => ?_⟩ <;> (try (exfalso; exact absurd h (by decide)))))
    refine stop_callF rfl (by simp only [UN, LM, Nat.reduceBEq, Nat.reduceLeDiff, Int.reduceLE, Int.reduceLT, Int.reduceToNat, Nat.reduceAdd, Nat.reduceSub, Nat.reduceMul, reduceCtorEq]) rfl rfl (hb) ?_
    simp only [UN, LM, Nat.reduceBEq, Nat.reduceLeDiff, Int.reduceLE, Int.reduceLT, Int.reduceToNat, Nat.reduceAdd, Nat.reduceSub, Nat.reduceMul, reduceCtorEq, XTS, inX, dropS, ]
    (repeat (refine And.intro ?_ ?_; focus (clear hK'; intros; simp_all; done)))
    (try (refine hK' _ _ ?_; clear hK'; clear K'))
    repeat' (first
      |(with_reducible first|refine swp_seq ?_|refine swp_block ?_|refine swp_skip ?_|refine swp_ret ?_|refine swp_exit ?_|refine swp_label ?_|refine kseq_n ?_|refine kseq_x ?_|refine kseq_r ?_|refine kblk_n ?_|refine kblk_r ?_|refine kblk_xs ?_|refine kloop_x ?_|refine kloop_r ?_)
      |((with_reducible refine kblk_xn ?_ ?_);rfl)
      |((with_reducible refine swp_regionP ?_ ?_ (fun K' hK' => ?_));rfl;rfl;simp only [UN, LM, Nat.reduceBEq, Nat.reduceLeDiff, Int.reduceLE, Int.reduceLT, Int.reduceToNat, Nat.reduceAdd, Nat.reduceSub, Nat.reduceMul, reduceCtorEq, XTS];(repeat (refine And.intro ?_ ?_; focus (clear hK'; intros; simp_all; done)));(try (refine hK' _ _ ?_; clear hK'; clear K')))
      |((with_reducible refine swp_cond ?_ ?_);rfl;refine ⟨_, rfl, fun h => ?_, fun h => ?_⟩ <;> (try (exfalso; exact absurd h (by decide)))))
    simp only [Kret, retL, retOne, oneV, UN, LM, Nat.reduceBEq, Nat.reduceLeDiff, Int.reduceLE, Int.reduceLT, Int.reduceToNat, Nat.reduceAdd, Nat.reduceSub, Nat.reduceMul, reduceCtorEq, XTS]
  have g2 : (t == 2) = false := by simpa using t2
  have hes := hes rfl t1 t2
  have hsz := hz rfl t1 t2
  have hcat : (⟨#[34]⟩ : ByteArray) ++ packS (escL s.data.toList) ++ ⟨#[34]⟩ = packS (wr t n s.data.toList) := by
    unfold wr
    rw [if_neg t1, if_neg t2]
    unfold packS
    apply ByteArray.ext
    simp
  refine fn_of_swp (N := 28) Tryd.func25 rfl (by decide) rfl rfl (by simp) (fun C h0 => ?_)
  simp only [argE]
  repeat' (first
    |(with_reducible first|refine swp_seq ?_|refine swp_block ?_|refine swp_skip ?_|refine swp_ret ?_|refine swp_exit ?_|refine swp_label ?_|refine kseq_n ?_|refine kseq_x ?_|refine kseq_r ?_|refine kblk_n ?_|refine kblk_r ?_|refine kblk_xs ?_|refine kloop_x ?_|refine kloop_r ?_)
    |((with_reducible refine kblk_xn ?_ ?_);rfl)
    |((with_reducible refine swp_regionP ?_ ?_ (fun K' hK' => ?_));rfl;rfl;simp only [UN, LM, Nat.reduceBEq, Nat.reduceLeDiff, Int.reduceLE, Int.reduceLT, Int.reduceToNat, Nat.reduceAdd, Nat.reduceSub, Nat.reduceMul, reduceCtorEq, XTS];(repeat (refine And.intro ?_ ?_; focus (clear hK'; intros; simp_all; done)));(try (refine hK' _ _ ?_; clear hK'; clear K')))
    |((with_reducible refine swp_cond ?_ ?_);rfl;refine ⟨_, rfl, fun h => ?_, fun h => ?_⟩ <;> (try (exfalso; exact absurd h (by decide)))))
  refine stop_callF rfl (by simp only [UN, LM, Nat.reduceBEq, Nat.reduceLeDiff, Int.reduceLE, Int.reduceLT, Int.reduceToNat, Nat.reduceAdd, Nat.reduceSub, Nat.reduceMul, reduceCtorEq]) rfl rfl (hc) ?_
  simp only [UN, LM, Nat.reduceBEq, Nat.reduceLeDiff, Int.reduceLE, Int.reduceLT, Int.reduceToNat, Nat.reduceAdd, Nat.reduceSub, Nat.reduceMul, reduceCtorEq, XTS, inX, dropS, ]
  (repeat (refine And.intro ?_ ?_; focus (clear hK'; intros; simp_all; done)))
  (try (refine hK' _ _ ?_; clear hK'; clear K'))
  repeat' (first
    |(with_reducible first|refine swp_seq ?_|refine swp_block ?_|refine swp_skip ?_|refine swp_ret ?_|refine swp_exit ?_|refine swp_label ?_|refine kseq_n ?_|refine kseq_x ?_|refine kseq_r ?_|refine kblk_n ?_|refine kblk_r ?_|refine kblk_xs ?_|refine kloop_x ?_|refine kloop_r ?_)
    |((with_reducible refine kblk_xn ?_ ?_);rfl)
    |((with_reducible refine swp_regionP ?_ ?_ (fun K' hK' => ?_));rfl;rfl;simp only [UN, LM, Nat.reduceBEq, Nat.reduceLeDiff, Int.reduceLE, Int.reduceLT, Int.reduceToNat, Nat.reduceAdd, Nat.reduceSub, Nat.reduceMul, reduceCtorEq, XTS, g1, g2];(repeat (refine And.intro ?_ ?_; focus (clear hK'; intros; simp_all; done)));(try (refine hK' _ _ ?_; clear hK'; clear K')))
    |((with_reducible refine swp_cond ?_ ?_);rfl;refine ⟨_, rfl, fun h => ?_, fun h => ?_⟩ <;> (try (exfalso; exact absurd h (by decide)))))
  refine stop_callF rfl (by simp only [UN, LM, Nat.reduceBEq, Nat.reduceLeDiff, Int.reduceLE, Int.reduceLT, Int.reduceToNat, Nat.reduceAdd, Nat.reduceSub, Nat.reduceMul, reduceCtorEq]) rfl rfl (hes) ?_
  simp only [UN, LM, Nat.reduceBEq, Nat.reduceLeDiff, Int.reduceLE, Int.reduceLT, Int.reduceToNat, Nat.reduceAdd, Nat.reduceSub, Nat.reduceMul, reduceCtorEq, XTS, inX, dropS, ]
  (repeat (refine And.intro ?_ ?_; focus (clear hK'; intros; simp_all; done)))
  (try (refine hK' _ _ ?_; clear hK'; clear K'))
  repeat' (first
    |(with_reducible first|refine swp_seq ?_|refine swp_block ?_|refine swp_skip ?_|refine swp_ret ?_|refine swp_exit ?_|refine swp_label ?_|refine kseq_n ?_|refine kseq_x ?_|refine kseq_r ?_|refine kblk_n ?_|refine kblk_r ?_|refine kblk_xs ?_|refine kloop_x ?_|refine kloop_r ?_)
    |((with_reducible refine kblk_xn ?_ ?_);rfl)
    |((with_reducible refine swp_regionP ?_ ?_ (fun K' hK' => ?_));rfl;rfl;simp only [UN, LM, Nat.reduceBEq, Nat.reduceLeDiff, Int.reduceLE, Int.reduceLT, Int.reduceToNat, Nat.reduceAdd, Nat.reduceSub, Nat.reduceMul, reduceCtorEq, XTS];(repeat (refine And.intro ?_ ?_; focus (clear hK'; intros; simp_all; done)));(try (refine hK' _ _ ?_; clear hK'; clear K')))
    |((with_reducible refine swp_cond ?_ ?_);rfl;refine ⟨_, rfl, fun h => ?_, fun h => ?_⟩ <;> (try (exfalso; exact absurd h (by decide)))))
  have e1 : (⟨#[34]⟩ : ByteArray).size = 1 := rfl
  refine ⟨fun _ => ?_, fun _ => ?_, hK' _ _ ?_⟩
  · rw [e1]; unfold maxLen; omega
  · rw [ByteArray.size_append, e1]; unfold maxLen; omega
  clear hK' K'
  repeat' (first
    |(with_reducible first|refine swp_seq ?_|refine swp_block ?_|refine swp_skip ?_|refine swp_ret ?_|refine swp_exit ?_|refine swp_label ?_|refine kseq_n ?_|refine kseq_x ?_|refine kseq_r ?_|refine kblk_n ?_|refine kblk_r ?_|refine kblk_xs ?_|refine kloop_x ?_|refine kloop_r ?_)
    |((with_reducible refine kblk_xn ?_ ?_);rfl)
    |((with_reducible refine swp_regionP ?_ ?_ (fun K' hK' => ?_));rfl;rfl;simp only [UN, LM, Nat.reduceBEq, Nat.reduceLeDiff, Int.reduceLE, Int.reduceLT, Int.reduceToNat, Nat.reduceAdd, Nat.reduceSub, Nat.reduceMul, reduceCtorEq, XTS];(repeat (refine And.intro ?_ ?_; focus (clear hK'; intros; simp_all; done)));(try (refine hK' _ _ ?_; clear hK'; clear K')))
    |((with_reducible refine swp_cond ?_ ?_);rfl;refine ⟨_, rfl, fun h => ?_, fun h => ?_⟩ <;> (try (exfalso; exact absurd h (by decide)))))
  simp only [Kret, retL, retOne, oneV, UN, LM, Nat.reduceBEq, Nat.reduceLeDiff, Int.reduceLE, Int.reduceLT, Int.reduceToNat, Nat.reduceAdd, Nat.reduceSub, Nat.reduceMul, reduceCtorEq, XTS, hcat]
end Go.Proofs.YtiobdkibbhpojaaDoor
