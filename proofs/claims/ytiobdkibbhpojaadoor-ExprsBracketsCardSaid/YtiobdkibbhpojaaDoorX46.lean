/- duetref.SameExpr by a symbolic walk; expressions of values. -/
import Derived.Test.YtiobdkibbhpojaaDoorX1
set_option linter.unusedVariables false
set_option linter.unusedSimpArgs false
namespace Go.Proofs.YtiobdkibbhpojaaDoor
open Go.RowKit Go.Sw

/-- A value, as an expression. -/
def Ex.ofVa (v : Va) : Ex := .mk 1 ⟨#[]⟩ v.t v.n v.s []
/-- The expression of zeros. -/
def Ex.zero : Ex := .mk 0 ⟨#[]⟩ 0 0 ⟨#[]⟩ []
theorem ds_map : ∀ l : List Ex, Ex.ds l = l.map Ex.d
  | [] => rfl
  | x :: l => by simp [Ex.ds, ds_map l]
mutual
/-- duetref.SameExpr. -/
def same : Ex → Ex → Bool
  | .mk k nm t n s l, .mk k' nm' t' n' s' l' => (k == k') && (nm.toList == nm'.toList) && (t == t' && n == n' && s.toList == s'.toList) && (l.length == l'.length) && sames l l'
def sames : List Ex → List Ex → Bool
  | [], _ => true
  | x :: l, l' => match l' with
    | y :: l' => same x y && sames l l'
    | [] => true
end

set_option maxHeartbeats 4000000 in
set_option maxRecDepth 100000 in
theorem same_step (Γ : Gl) (k : Int) (nm : ByteArray) (t n : Int) (s : ByteArray) (l : List Ex) (hl : l.length ≤ 140737488355328) (ih : ∀ x ∈ l, ∀ y : Ex, DFn Tryd.prog Γ 24 [x.d, y.d] (.v (.bool (same x y))))
    (k' : Int) (nm' : ByteArray) (t' n' : Int) (s' : ByteArray) (l' : List Ex) :
    DFn Tryd.prog Γ 24 [(Ex.mk k nm t n s l).d, (Ex.mk k' nm' t' n' s' l').d] (.v (.bool (same (.mk k nm t n s l) (.mk k' nm' t' n' s' l')))) := by
  have hll := Ex.ds_len l
  have hll' := Ex.ds_len l'
  unfold Ex.d
  refine fn_of_swp (N := 53) Tryd.func24 rfl (by decide) rfl rfl (by simp) (fun C h0 => ?_)
  simp only [argE]
  repeat' (first
    |(with_reducible first|refine swp_seq ?_|refine swp_block ?_|refine swp_skip ?_|refine swp_ret ?_|refine swp_exit ?_|refine swp_label ?_|refine kseq_n ?_|refine kseq_x ?_|refine kseq_r ?_|refine kblk_n ?_|refine kblk_r ?_|refine kblk_xs ?_|refine kloop_x ?_|refine kloop_r ?_)
    |((with_reducible refine kblk_xn ?_ ?_);rfl)
    |((with_reducible refine swp_regionP ?_ ?_ (fun K' hK' => ?_));rfl;rfl;simp only [UN, LM, Nat.reduceBEq, Nat.reduceLeDiff, Int.reduceLE, Int.reduceLT, Int.reduceToNat, Nat.reduceAdd, Nat.reduceSub, Nat.reduceMul, reduceCtorEq, XTS, hll, hll', eqs23];(repeat (refine And.intro ?_ ?_; focus (clear hK'; intros; simp_all; done)));(try (refine hK' _ _ ?_; clear hK'; clear K')))
    |((with_reducible refine swp_cond ?_ ?_);rfl;refine ⟨_, rfl, fun h => ?_, fun h => ?_⟩ <;> (try (exfalso; exact absurd h (by decide)))))
  · simp only [Kret, retL, retOne, oneV, UN, LM, Nat.reduceBEq, Nat.reduceLeDiff, Int.reduceLE, Int.reduceLT, Int.reduceToNat, Nat.reduceAdd, Nat.reduceSub, Nat.reduceMul, reduceCtorEq, XTS]
    have hb : ((k == k') && (nm.toList == nm'.toList) && (t == t' && n == n' && s.toList == s'.toList) && (l.length == l'.length)) = false := by
      by_cases q1 : k = k' <;> by_cases q2 : nm.toList = nm'.toList <;> by_cases q3 : (t == t' && n == n' && s.toList == s'.toList) = true <;> simp_all <;> omega
    simp only [same, hb, Bool.false_and]
  · have hb : ((k == k') && (nm.toList == nm'.toList) && (t == t' && n == n' && s.toList == s'.toList) && (l.length == l'.length)) = true := by
      by_cases q1 : k = k' <;> by_cases q2 : nm.toList = nm'.toList <;> by_cases q3 : (t == t' && n == n' && s.toList == s'.toList) = true <;> simp_all <;> omega
    have hsm : same (.mk k nm t n s l) (.mk k' nm' t' n' s' l') = sames l l' := by simp only [same, hb, Bool.true_and]
    have hlen : l.length = l'.length := by simp only [Bool.and_eq_true, beq_iff_eq] at hb; exact hb.2
    rw [hsm]
    refine swp_loop (α := Nat) (fun j => [(2, .ref 0 0), (3, .ref 1 0), (5, .d (iD j))])
      (fun _ => [(0, .cells [.d (iD k), .d (sD nm), .d (iD t), .d (iD n), .d (sD s), .d (.slc (Ex.ds l))]), (1, .cells [.d (iD k'), .d (sD nm'), .d (iD t'), .d (iD n'), .d (sD s'), .d (.slc (Ex.ds l'))])])
      (fun j => j ≤ l.length ∧ sames l l' = sames (l.drop j) (l'.drop j)) (fun j => l.length - j) 0 ⟨Nat.zero_le _, rfl⟩ (by refine sub_of h0 ?_ ?_ ?_ <;> simp only [US, UN, LM, Nat.reduceBEq, Nat.reduceLeDiff, Int.reduceLE, Int.reduceLT, Int.reduceToNat, Nat.reduceAdd, Nat.reduceSub, Nat.reduceMul, reduceCtorEq, XTS, hll]) (fun j hj => ?_)
    obtain ⟨hj, hch⟩ := hj
    have hb0 : (0 : Int) ≤ (j : Int) := by omega
    by_cases hlt : j < l.length
    · obtain ⟨x, hx⟩ : ∃ x, l[j]? = some x := ⟨l[j], by simp [hlt]⟩
      obtain ⟨y, hy⟩ : ∃ y, l'[j]? = some y := ⟨l'[j]'(by omega), by simp [hlen ▸ hlt]⟩
      have hcall := ih x (List.mem_of_getElem? hx) y
      have hget := Ex.ds_get l j x hx
      have hget' := Ex.ds_get l' j y hy
      have hb1 : (j : Int) < (l.length : Int) := by omega
      have hb2 : (j : Int) < (l'.length : Int) := by omega
      have hw3 : IntKind.i64.wrap ((j : Int) + 1) = ((j + 1 : Nat) : Int) := by rw [wrap_in (by omega) (by omega)]; omega
      have hd : l.drop j = x :: l.drop (j + 1) := by
        obtain ⟨h1, h2⟩ := List.getElem?_eq_some_iff.1 hx
        rw [List.drop_eq_getElem_cons h1, h2]
      have hd' : l'.drop j = y :: l'.drop (j + 1) := by
        obtain ⟨h1, h2⟩ := List.getElem?_eq_some_iff.1 hy
        rw [List.drop_eq_getElem_cons h1, h2]
      rw [hd, hd'] at hch
      simp only [sames] at hch
      generalize same x y = q at hcall hch
      obtain ⟨ka, na, ta, nna, sa, la⟩ := x
      obtain ⟨kb, nb, tb, nnb, sb, lb⟩ := y
      simp only [Ex.d] at hget hget' hcall
      repeat' (first
        |(with_reducible first|refine swp_seq ?_|refine swp_block ?_|refine swp_skip ?_|refine swp_ret ?_|refine swp_exit ?_|refine swp_label ?_|refine kseq_n ?_|refine kseq_x ?_|refine kseq_r ?_|refine kblk_n ?_|refine kblk_r ?_|refine kblk_xs ?_|refine kloop_x ?_|refine kloop_r ?_)
        |((with_reducible refine kblk_xn ?_ ?_);rfl)
        |((with_reducible refine swp_regionP ?_ ?_ (fun K' hK' => ?_));rfl;rfl;simp only [UN, LM, Nat.reduceBEq, Nat.reduceLeDiff, Int.reduceLE, Int.reduceLT, Int.reduceToNat, Nat.reduceAdd, Nat.reduceSub, Nat.reduceMul, reduceCtorEq, XTS, hll, hb1];(repeat (refine And.intro ?_ ?_; focus (clear hK'; intros; simp_all; done)));(try (refine hK' _ _ ?_; clear hK'; clear K')))
        |((with_reducible refine swp_cond ?_ ?_);rfl;refine ⟨_, rfl, fun h => ?_, fun h => ?_⟩ <;> (try (exfalso; exact absurd h (by decide)))))
      · clear h
        (with_reducible refine swp_draw ?_ ?_ ?_ ( [(10, .v (.bool q))]) (fun K' hK' => ?_)
         · kernel_rfl
         · rfl
         · rfl
         simp only [UN, LM, Nat.reduceBEq, Nat.reduceLeDiff, Int.reduceLE, Int.reduceLT, Int.reduceToNat, Nat.reduceAdd, Nat.reduceSub, Nat.reduceMul, reduceCtorEq, XTS, vcA, stepA, callA, rst, lksA, Oper.looksAt, Op.operands, pureOp, Call.operands, List.filterMap_cons, List.filterMap_nil, Option.toList_none, Option.toList_some, Option.bind_some, Option.bind_none, List.getElem?_toArray, Array.toList_append, List.append_nil, D.flat, D.flats, true_or, or_true, forall_const, Int.toNat_natCast, hget, hget', hll, hll', hb0, hb1, hb2, hcall ]
         (try (refine hK' _ _ ?_; clear hK'; clear K')))
        repeat' (first
          |(with_reducible first|refine swp_seq ?_|refine swp_block ?_|refine swp_skip ?_|refine swp_ret ?_|refine swp_exit ?_|refine swp_label ?_|refine kseq_n ?_|refine kseq_x ?_|refine kseq_r ?_|refine kblk_n ?_|refine kblk_r ?_|refine kblk_xs ?_|refine kloop_x ?_|refine kloop_r ?_)
          |((with_reducible refine kblk_xn ?_ ?_);rfl)
          |((with_reducible refine swp_regionP ?_ ?_ (fun K' hK' => ?_));rfl;rfl;simp only [UN, LM, Nat.reduceBEq, Nat.reduceLeDiff, Int.reduceLE, Int.reduceLT, Int.reduceToNat, Nat.reduceAdd, Nat.reduceSub, Nat.reduceMul, reduceCtorEq, XTS, hw3];(repeat (refine And.intro ?_ ?_; focus (clear hK'; intros; simp_all; done)));(try (refine hK' _ _ ?_; clear hK'; clear K')))
          |((with_reducible refine swp_cond ?_ ?_);rfl;refine ⟨_, rfl, fun h => ?_, fun h => ?_⟩ <;> (try (exfalso; exact absurd h (by decide)))))
        · simp only [Kret, retL, retOne, oneV, UN, LM, Nat.reduceBEq, Nat.reduceLeDiff, Int.reduceLE, Int.reduceLT, Int.reduceToNat, Nat.reduceAdd, Nat.reduceSub, Nat.reduceMul, reduceCtorEq, XTS]
          have hq : q = false := by simpa using h
          simp only [hch, hq, Bool.false_and]
        · have hq : q = true := by simpa using h
          refine ⟨j + 1, ⟨(by show j + 1 ≤ l.length; omega), ?_⟩, (by show l.length - (j + 1) < l.length - j; omega), by refine sub_of h0 ?_ ?_ ?_ <;> simp only [US, UN, LM, Nat.reduceBEq, Nat.reduceLeDiff, Int.reduceLE, Int.reduceLT, Int.reduceToNat, Nat.reduceAdd, Nat.reduceSub, Nat.reduceMul, reduceCtorEq, XTS]⟩
          rw [hch, hq, Bool.true_and]
    · have hb1 : ¬ (j : Int) < (l.length : Int) := by omega
      repeat' (first
        |(with_reducible first|refine swp_seq ?_|refine swp_block ?_|refine swp_skip ?_|refine swp_ret ?_|refine swp_exit ?_|refine swp_label ?_|refine kseq_n ?_|refine kseq_x ?_|refine kseq_r ?_|refine kblk_n ?_|refine kblk_r ?_|refine kblk_xs ?_|refine kloop_x ?_|refine kloop_r ?_)
        |((with_reducible refine kblk_xn ?_ ?_);rfl)
        |((with_reducible refine swp_regionP ?_ ?_ (fun K' hK' => ?_));rfl;rfl;simp only [UN, LM, Nat.reduceBEq, Nat.reduceLeDiff, Int.reduceLE, Int.reduceLT, Int.reduceToNat, Nat.reduceAdd, Nat.reduceSub, Nat.reduceMul, reduceCtorEq, XTS, hll, hb1];(repeat (refine And.intro ?_ ?_; focus (clear hK'; intros; simp_all; done)));(try (refine hK' _ _ ?_; clear hK'; clear K')))
        |((with_reducible refine swp_cond ?_ ?_);rfl;refine ⟨_, rfl, fun h => ?_, fun h => ?_⟩ <;> (try (exfalso; exact absurd h (by decide)))))
      simp only [Kret, retL, retOne, oneV, UN, LM, Nat.reduceBEq, Nat.reduceLeDiff, Int.reduceLE, Int.reduceLT, Int.reduceToNat, Nat.reduceAdd, Nat.reduceSub, Nat.reduceMul, reduceCtorEq, XTS]
      rw [hch, List.drop_of_length_le (by omega)]
      rfl
theorem same_fn (Γ : Gl) : ∀ (N : Nat) (x : Ex), x.size ≤ N → x.fits → ∀ y : Ex, DFn Tryd.prog Γ 24 [x.d, y.d] (.v (.bool (same x y)))
  | 0, x, h, _ => by have := x.size_pos; omega
  | N + 1, .mk k nm t n s l, h, hf => fun ⟨k', nm', t', n', s', l'⟩ => same_step Γ k nm t n s l hf.1 (fun x hx => same_fn Γ N x (by have := Ex.size_mem hx; simp only [Ex.size] at h; omega) (Ex.fit_mem hf.2 hx)) k' nm' t' n' s' l'
end Go.Proofs.YtiobdkibbhpojaaDoor
