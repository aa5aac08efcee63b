/- types.shaped: a symbolic walk. -/
-- TYPEST
import Derived.Test.YtgpnomhhnplchaaDoorT2
import Derived.Test.YtgpnomhhnplchaaDoorSwC
set_option linter.unusedVariables false
set_option linter.unusedSimpArgs false
namespace Go.Proofs.YtgpnomhhnplchaaDoor
open Go.RowKit Go.Sw

/-- An api.Type. -/
inductive Tp where
  | mk (k so : Int) (nm : ByteArray) (ls : List ByteArray) (kids : List Tp)
mutual
def Tp.d : Tp → D
  | .mk k so nm ls l => .agg [.v (.int .i64 k), .v (.int .i64 so), .v (.string nm), .slc (ls.map fun b => .v (.string b)), .slc (Tp.ds l)]
def Tp.ds : List Tp → List D
  | [] => []
  | x :: l => Tp.d x :: Tp.ds l
end
theorem Tp.ds_len : ∀ l : List Tp, (Tp.ds l).length = l.length
  | [] => rfl
  | x :: l => by simp [Tp.ds, Tp.ds_len l]
theorem Tp.ds_get : ∀ (l : List Tp) (j : Nat) (x : Tp), l[j]? = some x → (Tp.ds l).getD j default = x.d
  | y :: l, 0, x, h => by simp at h; subst h; simp [Tp.ds]
  | y :: l, j + 1, x, h => by
    have := Tp.ds_get l j x (by simpa using h)
    simpa [Tp.ds] using this
def emptyB (s : ByteArray) : Bool := s.toList == ByteArray.toList ⟨#[]⟩
/-- Is a sort told, where one must be, and none where none must be? -/
def sortB (sort : Bool) (so : Int) : Bool := if sort = true then (if 1 ≤ so then decide (so ≤ 3) else false) else so == 0
/-- What a kind has: kids; a sort, a name, labels? -/
def kindOf (k : Int) (n : Nat) : Option (Nat × Bool × Bool × Bool) :=
  if k = 1 then some (0, false, false, false) else if k = 2 ∨ k = 3 then some (1, true, false, false) else if k = 4 ∨ k = 5 then some (2, false, false, false)
  else if k = 6 ∨ k = 7 then some (n, false, false, true) else if k = 8 then some (1, false, true, false) else if k = 9 then some (0, false, true, false) else none
def shapeB (i : Nat × Bool × Bool × Bool) (so : Int) (nm : ByteArray) (ls : List ByteArray) (n : Nat) : Bool :=
  if n = i.1 then (if sortB i.2.1 so = true then (if (if i.2.2.1 = true then isVarB nm else emptyB nm) = true then (if i.2.2.2 = true then labelsB ls else decide (ls.length = 0)) else false) else false) else false
/-- types.shaped. -/
def shapedB : Tp → Bool
  | .mk k so nm ls l => match kindOf k ls.length with
    | some i => shapeB i so nm ls l.length
    | none => false

/-- What kinds ask for: one of four. -/
theorem kind_four {k : Int} {n : Nat} {i : Nat × Bool × Bool × Bool} (h : kindOf k n = some i) : i.2 = (false, false, false) ∨ i.2 = (true, false, false) ∨ i.2 = (false, false, true) ∨ i.2 = (false, true, false) := by
  unfold kindOf at h
  split at h
  · cases h; exact Or.inl rfl
  split at h
  · cases h; exact Or.inr (Or.inl rfl)
  split at h
  · cases h; exact Or.inl rfl
  split at h
  · cases h; exact Or.inr (Or.inr (Or.inl rfl))
  split at h
  · cases h; exact Or.inr (Or.inr (Or.inr rfl))
  split at h
  · cases h; exact Or.inr (Or.inr (Or.inr rfl))
  · cases h

set_option maxHeartbeats 16000000 in
set_option maxRecDepth 100000 in
theorem shaped_fn (Γ : Gl) (x : Tp) : DFn Tryd.prog Γ 80 [x.d] (.v (.bool (shapedB x))) := by
  obtain ⟨k, so, nm, ls, l⟩ := x
  have hll := Tp.ds_len l
  have hv := isVar_fn Γ nm
  have hlb := labels_fn Γ ls
  obtain ⟨R, hR⟩ : ∃ R, shapedB (.mk k so nm ls l) = R := ⟨_, rfl⟩
  rw [hR]
  simp only [Tp.d]
  refine fn_of_swp (N := 87) Tryd.func80 rfl (by decide) rfl rfl (by simp) (fun C h0 => ?_)
  simp only [argE]
  refine swp_seq ?_
  (with_reducible refine swp_region ?_ (fun K' hK' => ?_)
   · rfl
   simp only [UN, LM, Nat.reduceBEq, Nat.reduceLeDiff, Int.reduceLE, Int.reduceLT, Int.reduceToNat, Nat.reduceAdd, Nat.reduceSub, Nat.reduceMul, reduceCtorEq, TTS]
   (repeat (refine And.intro ?_ ?_; focus (clear hK'; intros; simp_all; done))))
  refine hK' _ _ ?_
  clear hK' K'
  refine kseq_n ?_
  refine swp_seq ?_
  (with_reducible refine swp_region ?_ (fun K' hK' => ?_)
   · rfl
   simp only [UN, LM, Nat.reduceBEq, Nat.reduceLeDiff, Int.reduceLE, Int.reduceLT, Int.reduceToNat, Nat.reduceAdd, Nat.reduceSub, Nat.reduceMul, reduceCtorEq, TTS]
   (repeat (refine And.intro ?_ ?_; focus (clear hK'; intros; simp_all; done))))
  refine hK' _ _ ?_
  clear hK' K'
  refine kseq_n ?_
  refine swp_seq ?_
  refine swp_midF (ι := Nat × Bool × Bool × Bool) (fun i => [(1, .ref 0 0), (3, .d (iD i.1)), (4, .d (.v (.bool i.2.1))), (5, .d (.v (.bool i.2.2.1))), (6, .d (.v (.bool i.2.2.2)))])
    (fun _ => [(0, .cells [.d (iD k), .d (iD so), .d (sD nm), .d (.slc (ls.map sD)), .d (.slc (Tp.ds l))])]) (fun i => kindOf k ls.length = some i) ?_ (fun i hi => ?_)
  · have hRn : kindOf k ls.length = none → R = false := fun h => by rw [← hR, shapedB, h]
    clear hv hlb hR
    repeat' (first
      |(with_reducible first|refine swp_seq ?_|refine swp_block ?_|refine swp_skip ?_|refine swp_ret ?_|refine swp_exit ?_|refine swp_label ?_|refine kseq_n ?_|refine kseq_x ?_|refine kseq_r ?_|refine kblk_n ?_|refine kblk_r ?_|refine kblk_xs ?_|refine kloop_x ?_|refine kloop_r ?_)
      |((with_reducible refine kblk_xn ?_ ?_);rfl)
      |((with_reducible refine swp_regionP ?_ ?_ (fun K' hK' => ?_));rfl;rfl;simp only [UN, LM, Nat.reduceBEq, Nat.reduceLeDiff, Int.reduceLE, Int.reduceLT, Int.reduceToNat, Nat.reduceAdd, Nat.reduceSub, Nat.reduceMul, reduceCtorEq, TTS, List.length_map];(repeat (refine And.intro ?_ ?_; focus (clear hK'; intros; simp_all; done)));(try (refine hK' _ _ ?_; clear hK'; clear K')))
      |((with_reducible refine swp_cond ?_ ?_);rfl;refine ⟨_, rfl, fun h => ?_, fun h => ?_⟩ <;> (try (exfalso; exact absurd h (by decide)))))
    all_goals first
      | (exfalso; clear hRn; simp_all; done)
      | (refine kfam_r ?_; simp only [Kret, retL, retOne, oneV, UN, LM, Nat.reduceBEq, Nat.reduceLeDiff, Int.reduceLE, Int.reduceLT, Int.reduceToNat, Nat.reduceAdd, Nat.reduceSub, Nat.reduceMul, reduceCtorEq, TTS]; rw [hRn (by clear hRn; simp_all [kindOf])]; done)
      | (refine kfam_n (0, false, false, false) ?_ ?_; (focus (clear hRn; simp_all [kindOf]; done)); refine sub_of h0 ?_ ?_ ?_ <;> simp only [US, UN, LM, Nat.reduceBEq, Nat.reduceLeDiff, Int.reduceLE, Int.reduceLT, Int.reduceToNat, Nat.reduceAdd, Nat.reduceSub, Nat.reduceMul, reduceCtorEq, TTS])
      | (refine kfam_n (1, true, false, false) ?_ ?_; (focus (clear hRn; simp_all [kindOf]; done)); refine sub_of h0 ?_ ?_ ?_ <;> simp only [US, UN, LM, Nat.reduceBEq, Nat.reduceLeDiff, Int.reduceLE, Int.reduceLT, Int.reduceToNat, Nat.reduceAdd, Nat.reduceSub, Nat.reduceMul, reduceCtorEq, TTS])
      | (refine kfam_n (2, false, false, false) ?_ ?_; (focus (clear hRn; simp_all [kindOf]; done)); refine sub_of h0 ?_ ?_ ?_ <;> simp only [US, UN, LM, Nat.reduceBEq, Nat.reduceLeDiff, Int.reduceLE, Int.reduceLT, Int.reduceToNat, Nat.reduceAdd, Nat.reduceSub, Nat.reduceMul, reduceCtorEq, TTS])
      | (refine kfam_n (ls.length, false, false, true) ?_ ?_; (focus (clear hRn; simp_all [kindOf]; done)); refine sub_of h0 ?_ ?_ ?_ <;> simp only [US, UN, LM, Nat.reduceBEq, Nat.reduceLeDiff, Int.reduceLE, Int.reduceLT, Int.reduceToNat, Nat.reduceAdd, Nat.reduceSub, Nat.reduceMul, reduceCtorEq, TTS])
      | (refine kfam_n (1, false, true, false) ?_ ?_; (focus (clear hRn; simp_all [kindOf]; done)); refine sub_of h0 ?_ ?_ ?_ <;> simp only [US, UN, LM, Nat.reduceBEq, Nat.reduceLeDiff, Int.reduceLE, Int.reduceLT, Int.reduceToNat, Nat.reduceAdd, Nat.reduceSub, Nat.reduceMul, reduceCtorEq, TTS])
      | (refine kfam_n (0, false, true, false) ?_ ?_; (focus (clear hRn; simp_all [kindOf]; done)); refine sub_of h0 ?_ ?_ ?_ <;> simp only [US, UN, LM, Nat.reduceBEq, Nat.reduceLeDiff, Int.reduceLE, Int.reduceLT, Int.reduceToNat, Nat.reduceAdd, Nat.reduceSub, Nat.reduceMul, reduceCtorEq, TTS])
  have h4 := kind_four hi
  obtain ⟨n, so', nm', ls'⟩ := i
  simp only [Prod.mk.injEq] at h4
  simp only [shapedB, hi] at hR
  rcases h4 with ⟨rfl, rfl, rfl⟩ | ⟨rfl, rfl, rfl⟩ | ⟨rfl, rfl, rfl⟩ | ⟨rfl, rfl, rfl⟩
  · by_cases hn : ¬ l.length = n
    · have g0 : ((l.length : Int) == (n : Int)) = false := by simpa using (by omega : (l.length : Int) ≠ n)
      unfold shapeB at hR
      rw [if_neg hn] at hR
      subst hR
      refine swp_seq ?_
      (with_reducible refine swp_region ?_ (fun K' hK' => ?_)
       · rfl
       simp only [UN, LM, Nat.reduceBEq, Nat.reduceLeDiff, Int.reduceLE, Int.reduceLT, Int.reduceToNat, Nat.reduceAdd, Nat.reduceSub, Nat.reduceMul, reduceCtorEq, TTS, g0, hll, List.length_map, Bool.true_beq, Bool.false_beq, Bool.not_true, Bool.not_false, Bool.false_and, Bool.and_false, Bool.true_and, Bool.and_true, cond_true, cond_false, false_implies, Bool.false_eq_true]
       (repeat (refine And.intro ?_ ?_; focus (clear hK'; intros; simp_all; done))))
      refine stop_unmetB rfl rfl ?_
      simp only [UN, LM, Nat.reduceBEq, Nat.reduceLeDiff, Int.reduceLE, Int.reduceLT, Int.reduceToNat, Nat.reduceAdd, Nat.reduceSub, Nat.reduceMul, reduceCtorEq, TTS, g0, hll, List.length_map, Bool.true_beq, Bool.false_beq, Bool.not_true, Bool.not_false, Bool.false_and, Bool.and_false, Bool.true_and, Bool.and_true, cond_true, cond_false, false_implies, Bool.false_eq_true]
      (try (refine hK' _ _ ?_; clear hK'; clear K'))
      refine stop_unmetB rfl rfl ?_
      simp only [UN, LM, Nat.reduceBEq, Nat.reduceLeDiff, Int.reduceLE, Int.reduceLT, Int.reduceToNat, Nat.reduceAdd, Nat.reduceSub, Nat.reduceMul, reduceCtorEq, TTS, g0, hll, List.length_map, Bool.true_beq, Bool.false_beq, Bool.not_true, Bool.not_false, Bool.false_and, Bool.and_false, Bool.true_and, Bool.and_true, cond_true, cond_false, false_implies, Bool.false_eq_true]
      (try (refine hK' _ _ ?_; clear hK'; clear K'))
      repeat' (first
        |(with_reducible first|refine swp_seq ?_|refine swp_block ?_|refine swp_skip ?_|refine swp_ret ?_|refine swp_exit ?_|refine swp_label ?_|refine kseq_n ?_|refine kseq_x ?_|refine kseq_r ?_|refine kblk_n ?_|refine kblk_r ?_|refine kblk_xs ?_|refine kloop_x ?_|refine kloop_r ?_)
        |((with_reducible refine kblk_xn ?_ ?_);rfl)
        |((with_reducible refine swp_regionP ?_ ?_ (fun K' hK' => ?_));rfl;rfl;simp only [UN, LM, Nat.reduceBEq, Nat.reduceLeDiff, Int.reduceLE, Int.reduceLT, Int.reduceToNat, Nat.reduceAdd, Nat.reduceSub, Nat.reduceMul, reduceCtorEq, TTS];(repeat (refine And.intro ?_ ?_; focus (clear hK'; intros; simp_all; done)));(try (refine hK' _ _ ?_; clear hK'; clear K')))
        |((with_reducible refine swp_cond ?_ ?_);rfl;refine ⟨_, rfl, fun h => ?_, fun h => ?_⟩ <;> (try (exfalso; exact absurd h (by decide)))))
      simp only [Kret, retL, retOne, oneV, UN, LM, Nat.reduceBEq, Nat.reduceLeDiff, Int.reduceLE, Int.reduceLT, Int.reduceToNat, Nat.reduceAdd, Nat.reduceSub, Nat.reduceMul, reduceCtorEq, TTS]
    have hn := Decidable.not_not.1 hn
    subst hn
    have g0 : ((l.length : Int) == (l.length : Int)) = true := by simp
    by_cases h1 : 1 ≤ so
    · have g2 : (so == 0) = false := by simpa using (by omega : so ≠ 0)
      simp only [shapeB, sortB, emptyB, g2, if_true, if_false, ite_true, ite_false, Bool.false_eq_true, decide_true, decide_false] at hR
      subst hR
      by_cases h3 : so ≤ 3
      · skip
        refine swp_seq ?_
        (with_reducible refine swp_region ?_ (fun K' hK' => ?_)
         · rfl
         simp only [UN, LM, Nat.reduceBEq, Nat.reduceLeDiff, Int.reduceLE, Int.reduceLT, Int.reduceToNat, Nat.reduceAdd, Nat.reduceSub, Nat.reduceMul, reduceCtorEq, TTS, g0, h1, h3, hll, List.length_map, Bool.true_beq, Bool.false_beq, Bool.not_true, Bool.not_false, Bool.false_and, Bool.and_false, Bool.true_and, Bool.and_true, cond_true, cond_false, false_implies, Bool.false_eq_true]
         (repeat (refine And.intro ?_ ?_; focus (clear hK'; intros; simp_all; done))))
        refine stop_unmetB rfl rfl ?_
        simp only [UN, LM, Nat.reduceBEq, Nat.reduceLeDiff, Int.reduceLE, Int.reduceLT, Int.reduceToNat, Nat.reduceAdd, Nat.reduceSub, Nat.reduceMul, reduceCtorEq, TTS, g0, h1, h3, hll, List.length_map, Bool.true_beq, Bool.false_beq, Bool.not_true, Bool.not_false, Bool.false_and, Bool.and_false, Bool.true_and, Bool.and_true, cond_true, cond_false, false_implies, Bool.false_eq_true]
        (try (refine hK' _ _ ?_; clear hK'; clear K'))
        refine stop_unmetB rfl rfl ?_
        simp only [UN, LM, Nat.reduceBEq, Nat.reduceLeDiff, Int.reduceLE, Int.reduceLT, Int.reduceToNat, Nat.reduceAdd, Nat.reduceSub, Nat.reduceMul, reduceCtorEq, TTS, g0, h1, h3, hll, List.length_map, Bool.true_beq, Bool.false_beq, Bool.not_true, Bool.not_false, Bool.false_and, Bool.and_false, Bool.true_and, Bool.and_true, cond_true, cond_false, false_implies, Bool.false_eq_true]
        (try (refine hK' _ _ ?_; clear hK'; clear K'))
        repeat' (first
          |(with_reducible first|refine swp_seq ?_|refine swp_block ?_|refine swp_skip ?_|refine swp_ret ?_|refine swp_exit ?_|refine swp_label ?_|refine kseq_n ?_|refine kseq_x ?_|refine kseq_r ?_|refine kblk_n ?_|refine kblk_r ?_|refine kblk_xs ?_|refine kloop_x ?_|refine kloop_r ?_)
          |((with_reducible refine kblk_xn ?_ ?_);rfl)
          |((with_reducible refine swp_regionP ?_ ?_ (fun K' hK' => ?_));rfl;rfl;simp only [UN, LM, Nat.reduceBEq, Nat.reduceLeDiff, Int.reduceLE, Int.reduceLT, Int.reduceToNat, Nat.reduceAdd, Nat.reduceSub, Nat.reduceMul, reduceCtorEq, TTS];(repeat (refine And.intro ?_ ?_; focus (clear hK'; intros; simp_all; done)));(try (refine hK' _ _ ?_; clear hK'; clear K')))
          |((with_reducible refine swp_cond ?_ ?_);rfl;refine ⟨_, rfl, fun h => ?_, fun h => ?_⟩ <;> (try (exfalso; exact absurd h (by decide)))))
        simp only [Kret, retL, retOne, oneV, UN, LM, Nat.reduceBEq, Nat.reduceLeDiff, Int.reduceLE, Int.reduceLT, Int.reduceToNat, Nat.reduceAdd, Nat.reduceSub, Nat.reduceMul, reduceCtorEq, TTS]
      · skip
        refine swp_seq ?_
        (with_reducible refine swp_region ?_ (fun K' hK' => ?_)
         · rfl
         simp only [UN, LM, Nat.reduceBEq, Nat.reduceLeDiff, Int.reduceLE, Int.reduceLT, Int.reduceToNat, Nat.reduceAdd, Nat.reduceSub, Nat.reduceMul, reduceCtorEq, TTS, g0, h1, h3, g2, hll, List.length_map, Bool.true_beq, Bool.false_beq, Bool.not_true, Bool.not_false, Bool.false_and, Bool.and_false, Bool.true_and, Bool.and_true, cond_true, cond_false, false_implies, Bool.false_eq_true]
         (repeat (refine And.intro ?_ ?_; focus (clear hK'; intros; simp_all; done))))
        refine stop_unmetB rfl rfl ?_
        simp only [UN, LM, Nat.reduceBEq, Nat.reduceLeDiff, Int.reduceLE, Int.reduceLT, Int.reduceToNat, Nat.reduceAdd, Nat.reduceSub, Nat.reduceMul, reduceCtorEq, TTS, g0, h1, h3, g2, hll, List.length_map, Bool.true_beq, Bool.false_beq, Bool.not_true, Bool.not_false, Bool.false_and, Bool.and_false, Bool.true_and, Bool.and_true, cond_true, cond_false, false_implies, Bool.false_eq_true]
        (try (refine hK' _ _ ?_; clear hK'; clear K'))
        refine stop_unmetB rfl rfl ?_
        simp only [UN, LM, Nat.reduceBEq, Nat.reduceLeDiff, Int.reduceLE, Int.reduceLT, Int.reduceToNat, Nat.reduceAdd, Nat.reduceSub, Nat.reduceMul, reduceCtorEq, TTS, g0, h1, h3, g2, hll, List.length_map, Bool.true_beq, Bool.false_beq, Bool.not_true, Bool.not_false, Bool.false_and, Bool.and_false, Bool.true_and, Bool.and_true, cond_true, cond_false, false_implies, Bool.false_eq_true]
        (try (refine hK' _ _ ?_; clear hK'; clear K'))
        repeat' (first
          |(with_reducible first|refine swp_seq ?_|refine swp_block ?_|refine swp_skip ?_|refine swp_ret ?_|refine swp_exit ?_|refine swp_label ?_|refine kseq_n ?_|refine kseq_x ?_|refine kseq_r ?_|refine kblk_n ?_|refine kblk_r ?_|refine kblk_xs ?_|refine kloop_x ?_|refine kloop_r ?_)
          |((with_reducible refine kblk_xn ?_ ?_);rfl)
          |((with_reducible refine swp_regionP ?_ ?_ (fun K' hK' => ?_));rfl;rfl;simp only [UN, LM, Nat.reduceBEq, Nat.reduceLeDiff, Int.reduceLE, Int.reduceLT, Int.reduceToNat, Nat.reduceAdd, Nat.reduceSub, Nat.reduceMul, reduceCtorEq, TTS];(repeat (refine And.intro ?_ ?_; focus (clear hK'; intros; simp_all; done)));(try (refine hK' _ _ ?_; clear hK'; clear K')))
          |((with_reducible refine swp_cond ?_ ?_);rfl;refine ⟨_, rfl, fun h => ?_, fun h => ?_⟩ <;> (try (exfalso; exact absurd h (by decide)))))
        simp only [Kret, retL, retOne, oneV, UN, LM, Nat.reduceBEq, Nat.reduceLeDiff, Int.reduceLE, Int.reduceLT, Int.reduceToNat, Nat.reduceAdd, Nat.reduceSub, Nat.reduceMul, reduceCtorEq, TTS]
    · cases g2 : (so == 0) with
      | false =>
        simp only [shapeB, sortB, emptyB, g2, if_true, if_false, ite_true, ite_false, Bool.false_eq_true, decide_true, decide_false] at hR
        subst hR
        refine swp_seq ?_
        (with_reducible refine swp_region ?_ (fun K' hK' => ?_)
         · rfl
         simp only [UN, LM, Nat.reduceBEq, Nat.reduceLeDiff, Int.reduceLE, Int.reduceLT, Int.reduceToNat, Nat.reduceAdd, Nat.reduceSub, Nat.reduceMul, reduceCtorEq, TTS, g0, h1, g2, hll, List.length_map, Bool.true_beq, Bool.false_beq, Bool.not_true, Bool.not_false, Bool.false_and, Bool.and_false, Bool.true_and, Bool.and_true, cond_true, cond_false, false_implies, Bool.false_eq_true]
         (repeat (refine And.intro ?_ ?_; focus (clear hK'; intros; simp_all; done))))
        refine stop_unmetB rfl rfl ?_
        simp only [UN, LM, Nat.reduceBEq, Nat.reduceLeDiff, Int.reduceLE, Int.reduceLT, Int.reduceToNat, Nat.reduceAdd, Nat.reduceSub, Nat.reduceMul, reduceCtorEq, TTS, g0, h1, g2, hll, List.length_map, Bool.true_beq, Bool.false_beq, Bool.not_true, Bool.not_false, Bool.false_and, Bool.and_false, Bool.true_and, Bool.and_true, cond_true, cond_false, false_implies, Bool.false_eq_true]
        (try (refine hK' _ _ ?_; clear hK'; clear K'))
        refine stop_unmetB rfl rfl ?_
        simp only [UN, LM, Nat.reduceBEq, Nat.reduceLeDiff, Int.reduceLE, Int.reduceLT, Int.reduceToNat, Nat.reduceAdd, Nat.reduceSub, Nat.reduceMul, reduceCtorEq, TTS, g0, h1, g2, hll, List.length_map, Bool.true_beq, Bool.false_beq, Bool.not_true, Bool.not_false, Bool.false_and, Bool.and_false, Bool.true_and, Bool.and_true, cond_true, cond_false, false_implies, Bool.false_eq_true]
        (try (refine hK' _ _ ?_; clear hK'; clear K'))
        repeat' (first
          |(with_reducible first|refine swp_seq ?_|refine swp_block ?_|refine swp_skip ?_|refine swp_ret ?_|refine swp_exit ?_|refine swp_label ?_|refine kseq_n ?_|refine kseq_x ?_|refine kseq_r ?_|refine kblk_n ?_|refine kblk_r ?_|refine kblk_xs ?_|refine kloop_x ?_|refine kloop_r ?_)
          |((with_reducible refine kblk_xn ?_ ?_);rfl)
          |((with_reducible refine swp_regionP ?_ ?_ (fun K' hK' => ?_));rfl;rfl;simp only [UN, LM, Nat.reduceBEq, Nat.reduceLeDiff, Int.reduceLE, Int.reduceLT, Int.reduceToNat, Nat.reduceAdd, Nat.reduceSub, Nat.reduceMul, reduceCtorEq, TTS];(repeat (refine And.intro ?_ ?_; focus (clear hK'; intros; simp_all; done)));(try (refine hK' _ _ ?_; clear hK'; clear K')))
          |((with_reducible refine swp_cond ?_ ?_);rfl;refine ⟨_, rfl, fun h => ?_, fun h => ?_⟩ <;> (try (exfalso; exact absurd h (by decide)))))
        simp only [Kret, retL, retOne, oneV, UN, LM, Nat.reduceBEq, Nat.reduceLeDiff, Int.reduceLE, Int.reduceLT, Int.reduceToNat, Nat.reduceAdd, Nat.reduceSub, Nat.reduceMul, reduceCtorEq, TTS]
      | true =>
        cases eV : (nm.toList == ByteArray.toList ⟨#[]⟩) with
        | false =>
          simp only [shapeB, sortB, emptyB, g2, eV, if_true, if_false, ite_true, ite_false, Bool.false_eq_true, decide_true, decide_false] at hR
          subst hR
          refine swp_seq ?_
          (with_reducible refine swp_region ?_ (fun K' hK' => ?_)
           · rfl
           simp only [UN, LM, Nat.reduceBEq, Nat.reduceLeDiff, Int.reduceLE, Int.reduceLT, Int.reduceToNat, Nat.reduceAdd, Nat.reduceSub, Nat.reduceMul, reduceCtorEq, TTS, g0, h1, g2, eV, hll, List.length_map, Bool.true_beq, Bool.false_beq, Bool.not_true, Bool.not_false, Bool.false_and, Bool.and_false, Bool.true_and, Bool.and_true, cond_true, cond_false, false_implies, Bool.false_eq_true]
           (repeat (refine And.intro ?_ ?_; focus (clear hK'; intros; simp_all; done))))
          refine stop_unmetB rfl rfl ?_
          simp only [UN, LM, Nat.reduceBEq, Nat.reduceLeDiff, Int.reduceLE, Int.reduceLT, Int.reduceToNat, Nat.reduceAdd, Nat.reduceSub, Nat.reduceMul, reduceCtorEq, TTS, g0, h1, g2, eV, hll, List.length_map, Bool.true_beq, Bool.false_beq, Bool.not_true, Bool.not_false, Bool.false_and, Bool.and_false, Bool.true_and, Bool.and_true, cond_true, cond_false, false_implies, Bool.false_eq_true]
          (try (refine hK' _ _ ?_; clear hK'; clear K'))
          refine stop_unmetB rfl rfl ?_
          simp only [UN, LM, Nat.reduceBEq, Nat.reduceLeDiff, Int.reduceLE, Int.reduceLT, Int.reduceToNat, Nat.reduceAdd, Nat.reduceSub, Nat.reduceMul, reduceCtorEq, TTS, g0, h1, g2, eV, hll, List.length_map, Bool.true_beq, Bool.false_beq, Bool.not_true, Bool.not_false, Bool.false_and, Bool.and_false, Bool.true_and, Bool.and_true, cond_true, cond_false, false_implies, Bool.false_eq_true]
          (try (refine hK' _ _ ?_; clear hK'; clear K'))
          repeat' (first
            |(with_reducible first|refine swp_seq ?_|refine swp_block ?_|refine swp_skip ?_|refine swp_ret ?_|refine swp_exit ?_|refine swp_label ?_|refine kseq_n ?_|refine kseq_x ?_|refine kseq_r ?_|refine kblk_n ?_|refine kblk_r ?_|refine kblk_xs ?_|refine kloop_x ?_|refine kloop_r ?_)
            |((with_reducible refine kblk_xn ?_ ?_);rfl)
            |((with_reducible refine swp_regionP ?_ ?_ (fun K' hK' => ?_));rfl;rfl;simp only [UN, LM, Nat.reduceBEq, Nat.reduceLeDiff, Int.reduceLE, Int.reduceLT, Int.reduceToNat, Nat.reduceAdd, Nat.reduceSub, Nat.reduceMul, reduceCtorEq, TTS];(repeat (refine And.intro ?_ ?_; focus (clear hK'; intros; simp_all; done)));(try (refine hK' _ _ ?_; clear hK'; clear K')))
            |((with_reducible refine swp_cond ?_ ?_);rfl;refine ⟨_, rfl, fun h => ?_, fun h => ?_⟩ <;> (try (exfalso; exact absurd h (by decide)))))
          simp only [Kret, retL, retOne, oneV, UN, LM, Nat.reduceBEq, Nat.reduceLeDiff, Int.reduceLE, Int.reduceLT, Int.reduceToNat, Nat.reduceAdd, Nat.reduceSub, Nat.reduceMul, reduceCtorEq, TTS]
        | true =>
          by_cases hL : ls.length = 0
          · have gL : ((ls.length : Int) == 0) = true := by simp [hL]
            simp only [shapeB, sortB, emptyB, g2, eV, hL, if_true, if_false, ite_true, ite_false, Bool.false_eq_true, decide_true, decide_false] at hR
            subst hR
            refine swp_seq ?_
            (with_reducible refine swp_region ?_ (fun K' hK' => ?_)
             · rfl
             simp only [UN, LM, Nat.reduceBEq, Nat.reduceLeDiff, Int.reduceLE, Int.reduceLT, Int.reduceToNat, Nat.reduceAdd, Nat.reduceSub, Nat.reduceMul, reduceCtorEq, TTS, g0, h1, g2, eV, gL, hll, List.length_map, Bool.true_beq, Bool.false_beq, Bool.not_true, Bool.not_false, Bool.false_and, Bool.and_false, Bool.true_and, Bool.and_true, cond_true, cond_false, false_implies, Bool.false_eq_true]
             (repeat (refine And.intro ?_ ?_; focus (clear hK'; intros; simp_all; done))))
            refine stop_unmetB rfl rfl ?_
            simp only [UN, LM, Nat.reduceBEq, Nat.reduceLeDiff, Int.reduceLE, Int.reduceLT, Int.reduceToNat, Nat.reduceAdd, Nat.reduceSub, Nat.reduceMul, reduceCtorEq, TTS, g0, h1, g2, eV, gL, hll, List.length_map, Bool.true_beq, Bool.false_beq, Bool.not_true, Bool.not_false, Bool.false_and, Bool.and_false, Bool.true_and, Bool.and_true, cond_true, cond_false, false_implies, Bool.false_eq_true]
            (try (refine hK' _ _ ?_; clear hK'; clear K'))
            refine stop_unmetB rfl rfl ?_
            simp only [UN, LM, Nat.reduceBEq, Nat.reduceLeDiff, Int.reduceLE, Int.reduceLT, Int.reduceToNat, Nat.reduceAdd, Nat.reduceSub, Nat.reduceMul, reduceCtorEq, TTS, g0, h1, g2, eV, gL, hll, List.length_map, Bool.true_beq, Bool.false_beq, Bool.not_true, Bool.not_false, Bool.false_and, Bool.and_false, Bool.true_and, Bool.and_true, cond_true, cond_false, false_implies, Bool.false_eq_true]
            (try (refine hK' _ _ ?_; clear hK'; clear K'))
            repeat' (first
              |(with_reducible first|refine swp_seq ?_|refine swp_block ?_|refine swp_skip ?_|refine swp_ret ?_|refine swp_exit ?_|refine swp_label ?_|refine kseq_n ?_|refine kseq_x ?_|refine kseq_r ?_|refine kblk_n ?_|refine kblk_r ?_|refine kblk_xs ?_|refine kloop_x ?_|refine kloop_r ?_)
              |((with_reducible refine kblk_xn ?_ ?_);rfl)
              |((with_reducible refine swp_regionP ?_ ?_ (fun K' hK' => ?_));rfl;rfl;simp only [UN, LM, Nat.reduceBEq, Nat.reduceLeDiff, Int.reduceLE, Int.reduceLT, Int.reduceToNat, Nat.reduceAdd, Nat.reduceSub, Nat.reduceMul, reduceCtorEq, TTS];(repeat (refine And.intro ?_ ?_; focus (clear hK'; intros; simp_all; done)));(try (refine hK' _ _ ?_; clear hK'; clear K')))
              |((with_reducible refine swp_cond ?_ ?_);rfl;refine ⟨_, rfl, fun h => ?_, fun h => ?_⟩ <;> (try (exfalso; exact absurd h (by decide)))))
            simp only [Kret, retL, retOne, oneV, UN, LM, Nat.reduceBEq, Nat.reduceLeDiff, Int.reduceLE, Int.reduceLT, Int.reduceToNat, Nat.reduceAdd, Nat.reduceSub, Nat.reduceMul, reduceCtorEq, TTS]
          · have gL : ((ls.length : Int) == 0) = false := by simpa using (by omega : (ls.length : Int) ≠ 0)
            simp only [shapeB, sortB, emptyB, g2, eV, hL, if_true, if_false, ite_true, ite_false, Bool.false_eq_true, decide_true, decide_false] at hR
            subst hR
            refine swp_seq ?_
            (with_reducible refine swp_region ?_ (fun K' hK' => ?_)
             · rfl
             simp only [UN, LM, Nat.reduceBEq, Nat.reduceLeDiff, Int.reduceLE, Int.reduceLT, Int.reduceToNat, Nat.reduceAdd, Nat.reduceSub, Nat.reduceMul, reduceCtorEq, TTS, g0, h1, g2, eV, gL, hll, List.length_map, Bool.true_beq, Bool.false_beq, Bool.not_true, Bool.not_false, Bool.false_and, Bool.and_false, Bool.true_and, Bool.and_true, cond_true, cond_false, false_implies, Bool.false_eq_true]
             (repeat (refine And.intro ?_ ?_; focus (clear hK'; intros; simp_all; done))))
            refine stop_unmetB rfl rfl ?_
            simp only [UN, LM, Nat.reduceBEq, Nat.reduceLeDiff, Int.reduceLE, Int.reduceLT, Int.reduceToNat, Nat.reduceAdd, Nat.reduceSub, Nat.reduceMul, reduceCtorEq, TTS, g0, h1, g2, eV, gL, hll, List.length_map, Bool.true_beq, Bool.false_beq, Bool.not_true, Bool.not_false, Bool.false_and, Bool.and_false, Bool.true_and, Bool.and_true, cond_true, cond_false, false_implies, Bool.false_eq_true]
            (try (refine hK' _ _ ?_; clear hK'; clear K'))
            refine stop_unmetB rfl rfl ?_
            simp only [UN, LM, Nat.reduceBEq, Nat.reduceLeDiff, Int.reduceLE, Int.reduceLT, Int.reduceToNat, Nat.reduceAdd, Nat.reduceSub, Nat.reduceMul, reduceCtorEq, TTS, g0, h1, g2, eV, gL, hll, List.length_map, Bool.true_beq, Bool.false_beq, Bool.not_true, Bool.not_false, Bool.false_and, Bool.and_false, Bool.true_and, Bool.and_true, cond_true, cond_false, false_implies, Bool.false_eq_true]
            (try (refine hK' _ _ ?_; clear hK'; clear K'))
            repeat' (first
              |(with_reducible first|refine swp_seq ?_|refine swp_block ?_|refine swp_skip ?_|refine swp_ret ?_|refine swp_exit ?_|refine swp_label ?_|refine kseq_n ?_|refine kseq_x ?_|refine kseq_r ?_|refine kblk_n ?_|refine kblk_r ?_|refine kblk_xs ?_|refine kloop_x ?_|refine kloop_r ?_)
              |((with_reducible refine kblk_xn ?_ ?_);rfl)
              |((with_reducible refine swp_regionP ?_ ?_ (fun K' hK' => ?_));rfl;rfl;simp only [UN, LM, Nat.reduceBEq, Nat.reduceLeDiff, Int.reduceLE, Int.reduceLT, Int.reduceToNat, Nat.reduceAdd, Nat.reduceSub, Nat.reduceMul, reduceCtorEq, TTS];(repeat (refine And.intro ?_ ?_; focus (clear hK'; intros; simp_all; done)));(try (refine hK' _ _ ?_; clear hK'; clear K')))
              |((with_reducible refine swp_cond ?_ ?_);rfl;refine ⟨_, rfl, fun h => ?_, fun h => ?_⟩ <;> (try (exfalso; exact absurd h (by decide)))))
            simp only [Kret, retL, retOne, oneV, UN, LM, Nat.reduceBEq, Nat.reduceLeDiff, Int.reduceLE, Int.reduceLT, Int.reduceToNat, Nat.reduceAdd, Nat.reduceSub, Nat.reduceMul, reduceCtorEq, TTS]
  · by_cases hn : ¬ l.length = n
    · have g0 : ((l.length : Int) == (n : Int)) = false := by simpa using (by omega : (l.length : Int) ≠ n)
      unfold shapeB at hR
      rw [if_neg hn] at hR
      subst hR
      refine swp_seq ?_
      (with_reducible refine swp_region ?_ (fun K' hK' => ?_)
       · rfl
       simp only [UN, LM, Nat.reduceBEq, Nat.reduceLeDiff, Int.reduceLE, Int.reduceLT, Int.reduceToNat, Nat.reduceAdd, Nat.reduceSub, Nat.reduceMul, reduceCtorEq, TTS, g0, hll, List.length_map, Bool.true_beq, Bool.false_beq, Bool.not_true, Bool.not_false, Bool.false_and, Bool.and_false, Bool.true_and, Bool.and_true, cond_true, cond_false, false_implies, Bool.false_eq_true]
       (repeat (refine And.intro ?_ ?_; focus (clear hK'; intros; simp_all; done))))
      refine stop_unmetB rfl rfl ?_
      simp only [UN, LM, Nat.reduceBEq, Nat.reduceLeDiff, Int.reduceLE, Int.reduceLT, Int.reduceToNat, Nat.reduceAdd, Nat.reduceSub, Nat.reduceMul, reduceCtorEq, TTS, g0, hll, List.length_map, Bool.true_beq, Bool.false_beq, Bool.not_true, Bool.not_false, Bool.false_and, Bool.and_false, Bool.true_and, Bool.and_true, cond_true, cond_false, false_implies, Bool.false_eq_true]
      (try (refine hK' _ _ ?_; clear hK'; clear K'))
      refine stop_unmetB rfl rfl ?_
      simp only [UN, LM, Nat.reduceBEq, Nat.reduceLeDiff, Int.reduceLE, Int.reduceLT, Int.reduceToNat, Nat.reduceAdd, Nat.reduceSub, Nat.reduceMul, reduceCtorEq, TTS, g0, hll, List.length_map, Bool.true_beq, Bool.false_beq, Bool.not_true, Bool.not_false, Bool.false_and, Bool.and_false, Bool.true_and, Bool.and_true, cond_true, cond_false, false_implies, Bool.false_eq_true]
      (try (refine hK' _ _ ?_; clear hK'; clear K'))
      repeat' (first
        |(with_reducible first|refine swp_seq ?_|refine swp_block ?_|refine swp_skip ?_|refine swp_ret ?_|refine swp_exit ?_|refine swp_label ?_|refine kseq_n ?_|refine kseq_x ?_|refine kseq_r ?_|refine kblk_n ?_|refine kblk_r ?_|refine kblk_xs ?_|refine kloop_x ?_|refine kloop_r ?_)
        |((with_reducible refine kblk_xn ?_ ?_);rfl)
        |((with_reducible refine swp_regionP ?_ ?_ (fun K' hK' => ?_));rfl;rfl;simp only [UN, LM, Nat.reduceBEq, Nat.reduceLeDiff, Int.reduceLE, Int.reduceLT, Int.reduceToNat, Nat.reduceAdd, Nat.reduceSub, Nat.reduceMul, reduceCtorEq, TTS];(repeat (refine And.intro ?_ ?_; focus (clear hK'; intros; simp_all; done)));(try (refine hK' _ _ ?_; clear hK'; clear K')))
        |((with_reducible refine swp_cond ?_ ?_);rfl;refine ⟨_, rfl, fun h => ?_, fun h => ?_⟩ <;> (try (exfalso; exact absurd h (by decide)))))
      simp only [Kret, retL, retOne, oneV, UN, LM, Nat.reduceBEq, Nat.reduceLeDiff, Int.reduceLE, Int.reduceLT, Int.reduceToNat, Nat.reduceAdd, Nat.reduceSub, Nat.reduceMul, reduceCtorEq, TTS]
    have hn := Decidable.not_not.1 hn
    subst hn
    have g0 : ((l.length : Int) == (l.length : Int)) = true := by simp
    by_cases h1 : 1 ≤ so
    · by_cases h3 : so ≤ 3
      · skip
        cases eV : (nm.toList == ByteArray.toList ⟨#[]⟩) with
        | false =>
          simp only [shapeB, sortB, emptyB, h1, h3, eV, if_true, if_false, ite_true, ite_false, Bool.false_eq_true, decide_true, decide_false] at hR
          subst hR
          refine swp_seq ?_
          (with_reducible refine swp_region ?_ (fun K' hK' => ?_)
           · rfl
           simp only [UN, LM, Nat.reduceBEq, Nat.reduceLeDiff, Int.reduceLE, Int.reduceLT, Int.reduceToNat, Nat.reduceAdd, Nat.reduceSub, Nat.reduceMul, reduceCtorEq, TTS, g0, h1, h3, eV, hll, List.length_map, Bool.true_beq, Bool.false_beq, Bool.not_true, Bool.not_false, Bool.false_and, Bool.and_false, Bool.true_and, Bool.and_true, cond_true, cond_false, false_implies, Bool.false_eq_true]
           (repeat (refine And.intro ?_ ?_; focus (clear hK'; intros; simp_all; done))))
          refine stop_unmetB rfl rfl ?_
          simp only [UN, LM, Nat.reduceBEq, Nat.reduceLeDiff, Int.reduceLE, Int.reduceLT, Int.reduceToNat, Nat.reduceAdd, Nat.reduceSub, Nat.reduceMul, reduceCtorEq, TTS, g0, h1, h3, eV, hll, List.length_map, Bool.true_beq, Bool.false_beq, Bool.not_true, Bool.not_false, Bool.false_and, Bool.and_false, Bool.true_and, Bool.and_true, cond_true, cond_false, false_implies, Bool.false_eq_true]
          (try (refine hK' _ _ ?_; clear hK'; clear K'))
          refine stop_unmetB rfl rfl ?_
          simp only [UN, LM, Nat.reduceBEq, Nat.reduceLeDiff, Int.reduceLE, Int.reduceLT, Int.reduceToNat, Nat.reduceAdd, Nat.reduceSub, Nat.reduceMul, reduceCtorEq, TTS, g0, h1, h3, eV, hll, List.length_map, Bool.true_beq, Bool.false_beq, Bool.not_true, Bool.not_false, Bool.false_and, Bool.and_false, Bool.true_and, Bool.and_true, cond_true, cond_false, false_implies, Bool.false_eq_true]
          (try (refine hK' _ _ ?_; clear hK'; clear K'))
          repeat' (first
            |(with_reducible first|refine swp_seq ?_|refine swp_block ?_|refine swp_skip ?_|refine swp_ret ?_|refine swp_exit ?_|refine swp_label ?_|refine kseq_n ?_|refine kseq_x ?_|refine kseq_r ?_|refine kblk_n ?_|refine kblk_r ?_|refine kblk_xs ?_|refine kloop_x ?_|refine kloop_r ?_)
            |((with_reducible refine kblk_xn ?_ ?_);rfl)
            |((with_reducible refine swp_regionP ?_ ?_ (fun K' hK' => ?_));rfl;rfl;simp only [UN, LM, Nat.reduceBEq, Nat.reduceLeDiff, Int.reduceLE, Int.reduceLT, Int.reduceToNat, Nat.reduceAdd, Nat.reduceSub, Nat.reduceMul, reduceCtorEq, TTS];(repeat (refine And.intro ?_ ?_; focus (clear hK'; intros; simp_all; done)));(try (refine hK' _ _ ?_; clear hK'; clear K')))
            |((with_reducible refine swp_cond ?_ ?_);rfl;refine ⟨_, rfl, fun h => ?_, fun h => ?_⟩ <;> (try (exfalso; exact absurd h (by decide)))))
          simp only [Kret, retL, retOne, oneV, UN, LM, Nat.reduceBEq, Nat.reduceLeDiff, Int.reduceLE, Int.reduceLT, Int.reduceToNat, Nat.reduceAdd, Nat.reduceSub, Nat.reduceMul, reduceCtorEq, TTS]
        | true =>
          by_cases hL : ls.length = 0
          · have gL : ((ls.length : Int) == 0) = true := by simp [hL]
            simp only [shapeB, sortB, emptyB, h1, h3, eV, hL, if_true, if_false, ite_true, ite_false, Bool.false_eq_true, decide_true, decide_false] at hR
            subst hR
            refine swp_seq ?_
            (with_reducible refine swp_region ?_ (fun K' hK' => ?_)
             · rfl
             simp only [UN, LM, Nat.reduceBEq, Nat.reduceLeDiff, Int.reduceLE, Int.reduceLT, Int.reduceToNat, Nat.reduceAdd, Nat.reduceSub, Nat.reduceMul, reduceCtorEq, TTS, g0, h1, h3, eV, gL, hll, List.length_map, Bool.true_beq, Bool.false_beq, Bool.not_true, Bool.not_false, Bool.false_and, Bool.and_false, Bool.true_and, Bool.and_true, cond_true, cond_false, false_implies, Bool.false_eq_true]
             (repeat (refine And.intro ?_ ?_; focus (clear hK'; intros; simp_all; done))))
            refine stop_unmetB rfl rfl ?_
            simp only [UN, LM, Nat.reduceBEq, Nat.reduceLeDiff, Int.reduceLE, Int.reduceLT, Int.reduceToNat, Nat.reduceAdd, Nat.reduceSub, Nat.reduceMul, reduceCtorEq, TTS, g0, h1, h3, eV, gL, hll, List.length_map, Bool.true_beq, Bool.false_beq, Bool.not_true, Bool.not_false, Bool.false_and, Bool.and_false, Bool.true_and, Bool.and_true, cond_true, cond_false, false_implies, Bool.false_eq_true]
            (try (refine hK' _ _ ?_; clear hK'; clear K'))
            refine stop_unmetB rfl rfl ?_
            simp only [UN, LM, Nat.reduceBEq, Nat.reduceLeDiff, Int.reduceLE, Int.reduceLT, Int.reduceToNat, Nat.reduceAdd, Nat.reduceSub, Nat.reduceMul, reduceCtorEq, TTS, g0, h1, h3, eV, gL, hll, List.length_map, Bool.true_beq, Bool.false_beq, Bool.not_true, Bool.not_false, Bool.false_and, Bool.and_false, Bool.true_and, Bool.and_true, cond_true, cond_false, false_implies, Bool.false_eq_true]
            (try (refine hK' _ _ ?_; clear hK'; clear K'))
            repeat' (first
              |(with_reducible first|refine swp_seq ?_|refine swp_block ?_|refine swp_skip ?_|refine swp_ret ?_|refine swp_exit ?_|refine swp_label ?_|refine kseq_n ?_|refine kseq_x ?_|refine kseq_r ?_|refine kblk_n ?_|refine kblk_r ?_|refine kblk_xs ?_|refine kloop_x ?_|refine kloop_r ?_)
              |((with_reducible refine kblk_xn ?_ ?_);rfl)
              |((with_reducible refine swp_regionP ?_ ?_ (fun K' hK' => ?_));rfl;rfl;simp only [UN, LM, Nat.reduceBEq, Nat.reduceLeDiff, Int.reduceLE, Int.reduceLT, Int.reduceToNat, Nat.reduceAdd, Nat.reduceSub, Nat.reduceMul, reduceCtorEq, TTS];(repeat (refine And.intro ?_ ?_; focus (clear hK'; intros; simp_all; done)));(try (refine hK' _ _ ?_; clear hK'; clear K')))
              |((with_reducible refine swp_cond ?_ ?_);rfl;refine ⟨_, rfl, fun h => ?_, fun h => ?_⟩ <;> (try (exfalso; exact absurd h (by decide)))))
            simp only [Kret, retL, retOne, oneV, UN, LM, Nat.reduceBEq, Nat.reduceLeDiff, Int.reduceLE, Int.reduceLT, Int.reduceToNat, Nat.reduceAdd, Nat.reduceSub, Nat.reduceMul, reduceCtorEq, TTS]
          · have gL : ((ls.length : Int) == 0) = false := by simpa using (by omega : (ls.length : Int) ≠ 0)
            simp only [shapeB, sortB, emptyB, h1, h3, eV, hL, if_true, if_false, ite_true, ite_false, Bool.false_eq_true, decide_true, decide_false] at hR
            subst hR
            refine swp_seq ?_
            (with_reducible refine swp_region ?_ (fun K' hK' => ?_)
             · rfl
             simp only [UN, LM, Nat.reduceBEq, Nat.reduceLeDiff, Int.reduceLE, Int.reduceLT, Int.reduceToNat, Nat.reduceAdd, Nat.reduceSub, Nat.reduceMul, reduceCtorEq, TTS, g0, h1, h3, eV, gL, hll, List.length_map, Bool.true_beq, Bool.false_beq, Bool.not_true, Bool.not_false, Bool.false_and, Bool.and_false, Bool.true_and, Bool.and_true, cond_true, cond_false, false_implies, Bool.false_eq_true]
             (repeat (refine And.intro ?_ ?_; focus (clear hK'; intros; simp_all; done))))
            refine stop_unmetB rfl rfl ?_
            simp only [UN, LM, Nat.reduceBEq, Nat.reduceLeDiff, Int.reduceLE, Int.reduceLT, Int.reduceToNat, Nat.reduceAdd, Nat.reduceSub, Nat.reduceMul, reduceCtorEq, TTS, g0, h1, h3, eV, gL, hll, List.length_map, Bool.true_beq, Bool.false_beq, Bool.not_true, Bool.not_false, Bool.false_and, Bool.and_false, Bool.true_and, Bool.and_true, cond_true, cond_false, false_implies, Bool.false_eq_true]
            (try (refine hK' _ _ ?_; clear hK'; clear K'))
            refine stop_unmetB rfl rfl ?_
            simp only [UN, LM, Nat.reduceBEq, Nat.reduceLeDiff, Int.reduceLE, Int.reduceLT, Int.reduceToNat, Nat.reduceAdd, Nat.reduceSub, Nat.reduceMul, reduceCtorEq, TTS, g0, h1, h3, eV, gL, hll, List.length_map, Bool.true_beq, Bool.false_beq, Bool.not_true, Bool.not_false, Bool.false_and, Bool.and_false, Bool.true_and, Bool.and_true, cond_true, cond_false, false_implies, Bool.false_eq_true]
            (try (refine hK' _ _ ?_; clear hK'; clear K'))
            repeat' (first
              |(with_reducible first|refine swp_seq ?_|refine swp_block ?_|refine swp_skip ?_|refine swp_ret ?_|refine swp_exit ?_|refine swp_label ?_|refine kseq_n ?_|refine kseq_x ?_|refine kseq_r ?_|refine kblk_n ?_|refine kblk_r ?_|refine kblk_xs ?_|refine kloop_x ?_|refine kloop_r ?_)
              |((with_reducible refine kblk_xn ?_ ?_);rfl)
              |((with_reducible refine swp_regionP ?_ ?_ (fun K' hK' => ?_));rfl;rfl;simp only [UN, LM, Nat.reduceBEq, Nat.reduceLeDiff, Int.reduceLE, Int.reduceLT, Int.reduceToNat, Nat.reduceAdd, Nat.reduceSub, Nat.reduceMul, reduceCtorEq, TTS];(repeat (refine And.intro ?_ ?_; focus (clear hK'; intros; simp_all; done)));(try (refine hK' _ _ ?_; clear hK'; clear K')))
              |((with_reducible refine swp_cond ?_ ?_);rfl;refine ⟨_, rfl, fun h => ?_, fun h => ?_⟩ <;> (try (exfalso; exact absurd h (by decide)))))
            simp only [Kret, retL, retOne, oneV, UN, LM, Nat.reduceBEq, Nat.reduceLeDiff, Int.reduceLE, Int.reduceLT, Int.reduceToNat, Nat.reduceAdd, Nat.reduceSub, Nat.reduceMul, reduceCtorEq, TTS]
      · skip
        simp only [shapeB, sortB, emptyB, h1, h3, if_true, if_false, ite_true, ite_false, Bool.false_eq_true, decide_true, decide_false] at hR
        subst hR
        refine swp_seq ?_
        (with_reducible refine swp_region ?_ (fun K' hK' => ?_)
         · rfl
         simp only [UN, LM, Nat.reduceBEq, Nat.reduceLeDiff, Int.reduceLE, Int.reduceLT, Int.reduceToNat, Nat.reduceAdd, Nat.reduceSub, Nat.reduceMul, reduceCtorEq, TTS, g0, h1, h3, hll, List.length_map, Bool.true_beq, Bool.false_beq, Bool.not_true, Bool.not_false, Bool.false_and, Bool.and_false, Bool.true_and, Bool.and_true, cond_true, cond_false, false_implies, Bool.false_eq_true]
         (repeat (refine And.intro ?_ ?_; focus (clear hK'; intros; simp_all; done))))
        refine stop_unmetB rfl rfl ?_
        simp only [UN, LM, Nat.reduceBEq, Nat.reduceLeDiff, Int.reduceLE, Int.reduceLT, Int.reduceToNat, Nat.reduceAdd, Nat.reduceSub, Nat.reduceMul, reduceCtorEq, TTS, g0, h1, h3, hll, List.length_map, Bool.true_beq, Bool.false_beq, Bool.not_true, Bool.not_false, Bool.false_and, Bool.and_false, Bool.true_and, Bool.and_true, cond_true, cond_false, false_implies, Bool.false_eq_true]
        (try (refine hK' _ _ ?_; clear hK'; clear K'))
        refine stop_unmetB rfl rfl ?_
        simp only [UN, LM, Nat.reduceBEq, Nat.reduceLeDiff, Int.reduceLE, Int.reduceLT, Int.reduceToNat, Nat.reduceAdd, Nat.reduceSub, Nat.reduceMul, reduceCtorEq, TTS, g0, h1, h3, hll, List.length_map, Bool.true_beq, Bool.false_beq, Bool.not_true, Bool.not_false, Bool.false_and, Bool.and_false, Bool.true_and, Bool.and_true, cond_true, cond_false, false_implies, Bool.false_eq_true]
        (try (refine hK' _ _ ?_; clear hK'; clear K'))
        repeat' (first
          |(with_reducible first|refine swp_seq ?_|refine swp_block ?_|refine swp_skip ?_|refine swp_ret ?_|refine swp_exit ?_|refine swp_label ?_|refine kseq_n ?_|refine kseq_x ?_|refine kseq_r ?_|refine kblk_n ?_|refine kblk_r ?_|refine kblk_xs ?_|refine kloop_x ?_|refine kloop_r ?_)
          |((with_reducible refine kblk_xn ?_ ?_);rfl)
          |((with_reducible refine swp_regionP ?_ ?_ (fun K' hK' => ?_));rfl;rfl;simp only [UN, LM, Nat.reduceBEq, Nat.reduceLeDiff, Int.reduceLE, Int.reduceLT, Int.reduceToNat, Nat.reduceAdd, Nat.reduceSub, Nat.reduceMul, reduceCtorEq, TTS];(repeat (refine And.intro ?_ ?_; focus (clear hK'; intros; simp_all; done)));(try (refine hK' _ _ ?_; clear hK'; clear K')))
          |((with_reducible refine swp_cond ?_ ?_);rfl;refine ⟨_, rfl, fun h => ?_, fun h => ?_⟩ <;> (try (exfalso; exact absurd h (by decide)))))
        simp only [Kret, retL, retOne, oneV, UN, LM, Nat.reduceBEq, Nat.reduceLeDiff, Int.reduceLE, Int.reduceLT, Int.reduceToNat, Nat.reduceAdd, Nat.reduceSub, Nat.reduceMul, reduceCtorEq, TTS]
    · skip
      simp only [shapeB, sortB, emptyB, h1, if_true, if_false, ite_true, ite_false, Bool.false_eq_true, decide_true, decide_false] at hR
      subst hR
      refine swp_seq ?_
      (with_reducible refine swp_region ?_ (fun K' hK' => ?_)
       · rfl
       simp only [UN, LM, Nat.reduceBEq, Nat.reduceLeDiff, Int.reduceLE, Int.reduceLT, Int.reduceToNat, Nat.reduceAdd, Nat.reduceSub, Nat.reduceMul, reduceCtorEq, TTS, g0, h1, hll, List.length_map, Bool.true_beq, Bool.false_beq, Bool.not_true, Bool.not_false, Bool.false_and, Bool.and_false, Bool.true_and, Bool.and_true, cond_true, cond_false, false_implies, Bool.false_eq_true]
       (repeat (refine And.intro ?_ ?_; focus (clear hK'; intros; simp_all; done))))
      refine stop_unmetB rfl rfl ?_
      simp only [UN, LM, Nat.reduceBEq, Nat.reduceLeDiff, Int.reduceLE, Int.reduceLT, Int.reduceToNat, Nat.reduceAdd, Nat.reduceSub, Nat.reduceMul, reduceCtorEq, TTS, g0, h1, hll, List.length_map, Bool.true_beq, Bool.false_beq, Bool.not_true, Bool.not_false, Bool.false_and, Bool.and_false, Bool.true_and, Bool.and_true, cond_true, cond_false, false_implies, Bool.false_eq_true]
      (try (refine hK' _ _ ?_; clear hK'; clear K'))
      refine stop_unmetB rfl rfl ?_
      simp only [UN, LM, Nat.reduceBEq, Nat.reduceLeDiff, Int.reduceLE, Int.reduceLT, Int.reduceToNat, Nat.reduceAdd, Nat.reduceSub, Nat.reduceMul, reduceCtorEq, TTS, g0, h1, hll, List.length_map, Bool.true_beq, Bool.false_beq, Bool.not_true, Bool.not_false, Bool.false_and, Bool.and_false, Bool.true_and, Bool.and_true, cond_true, cond_false, false_implies, Bool.false_eq_true]
      (try (refine hK' _ _ ?_; clear hK'; clear K'))
      repeat' (first
        |(with_reducible first|refine swp_seq ?_|refine swp_block ?_|refine swp_skip ?_|refine swp_ret ?_|refine swp_exit ?_|refine swp_label ?_|refine kseq_n ?_|refine kseq_x ?_|refine kseq_r ?_|refine kblk_n ?_|refine kblk_r ?_|refine kblk_xs ?_|refine kloop_x ?_|refine kloop_r ?_)
        |((with_reducible refine kblk_xn ?_ ?_);rfl)
        |((with_reducible refine swp_regionP ?_ ?_ (fun K' hK' => ?_));rfl;rfl;simp only [UN, LM, Nat.reduceBEq, Nat.reduceLeDiff, Int.reduceLE, Int.reduceLT, Int.reduceToNat, Nat.reduceAdd, Nat.reduceSub, Nat.reduceMul, reduceCtorEq, TTS];(repeat (refine And.intro ?_ ?_; focus (clear hK'; intros; simp_all; done)));(try (refine hK' _ _ ?_; clear hK'; clear K')))
        |((with_reducible refine swp_cond ?_ ?_);rfl;refine ⟨_, rfl, fun h => ?_, fun h => ?_⟩ <;> (try (exfalso; exact absurd h (by decide)))))
      simp only [Kret, retL, retOne, oneV, UN, LM, Nat.reduceBEq, Nat.reduceLeDiff, Int.reduceLE, Int.reduceLT, Int.reduceToNat, Nat.reduceAdd, Nat.reduceSub, Nat.reduceMul, reduceCtorEq, TTS]
  · by_cases hn : ¬ l.length = n
    · have g0 : ((l.length : Int) == (n : Int)) = false := by simpa using (by omega : (l.length : Int) ≠ n)
      unfold shapeB at hR
      rw [if_neg hn] at hR
      subst hR
      refine swp_seq ?_
      (with_reducible refine swp_region ?_ (fun K' hK' => ?_)
       · rfl
       simp only [UN, LM, Nat.reduceBEq, Nat.reduceLeDiff, Int.reduceLE, Int.reduceLT, Int.reduceToNat, Nat.reduceAdd, Nat.reduceSub, Nat.reduceMul, reduceCtorEq, TTS, g0, hll, List.length_map, Bool.true_beq, Bool.false_beq, Bool.not_true, Bool.not_false, Bool.false_and, Bool.and_false, Bool.true_and, Bool.and_true, cond_true, cond_false, false_implies, Bool.false_eq_true]
       (repeat (refine And.intro ?_ ?_; focus (clear hK'; intros; simp_all; done))))
      refine stop_unmetB rfl rfl ?_
      simp only [UN, LM, Nat.reduceBEq, Nat.reduceLeDiff, Int.reduceLE, Int.reduceLT, Int.reduceToNat, Nat.reduceAdd, Nat.reduceSub, Nat.reduceMul, reduceCtorEq, TTS, g0, hll, List.length_map, Bool.true_beq, Bool.false_beq, Bool.not_true, Bool.not_false, Bool.false_and, Bool.and_false, Bool.true_and, Bool.and_true, cond_true, cond_false, false_implies, Bool.false_eq_true]
      (try (refine hK' _ _ ?_; clear hK'; clear K'))
      refine stop_unmetB rfl rfl ?_
      simp only [UN, LM, Nat.reduceBEq, Nat.reduceLeDiff, Int.reduceLE, Int.reduceLT, Int.reduceToNat, Nat.reduceAdd, Nat.reduceSub, Nat.reduceMul, reduceCtorEq, TTS, g0, hll, List.length_map, Bool.true_beq, Bool.false_beq, Bool.not_true, Bool.not_false, Bool.false_and, Bool.and_false, Bool.true_and, Bool.and_true, cond_true, cond_false, false_implies, Bool.false_eq_true]
      (try (refine hK' _ _ ?_; clear hK'; clear K'))
      repeat' (first
        |(with_reducible first|refine swp_seq ?_|refine swp_block ?_|refine swp_skip ?_|refine swp_ret ?_|refine swp_exit ?_|refine swp_label ?_|refine kseq_n ?_|refine kseq_x ?_|refine kseq_r ?_|refine kblk_n ?_|refine kblk_r ?_|refine kblk_xs ?_|refine kloop_x ?_|refine kloop_r ?_)
        |((with_reducible refine kblk_xn ?_ ?_);rfl)
        |((with_reducible refine swp_regionP ?_ ?_ (fun K' hK' => ?_));rfl;rfl;simp only [UN, LM, Nat.reduceBEq, Nat.reduceLeDiff, Int.reduceLE, Int.reduceLT, Int.reduceToNat, Nat.reduceAdd, Nat.reduceSub, Nat.reduceMul, reduceCtorEq, TTS];(repeat (refine And.intro ?_ ?_; focus (clear hK'; intros; simp_all; done)));(try (refine hK' _ _ ?_; clear hK'; clear K')))
        |((with_reducible refine swp_cond ?_ ?_);rfl;refine ⟨_, rfl, fun h => ?_, fun h => ?_⟩ <;> (try (exfalso; exact absurd h (by decide)))))
      simp only [Kret, retL, retOne, oneV, UN, LM, Nat.reduceBEq, Nat.reduceLeDiff, Int.reduceLE, Int.reduceLT, Int.reduceToNat, Nat.reduceAdd, Nat.reduceSub, Nat.reduceMul, reduceCtorEq, TTS]
    have hn := Decidable.not_not.1 hn
    subst hn
    have g0 : ((l.length : Int) == (l.length : Int)) = true := by simp
    by_cases h1 : 1 ≤ so
    · have g2 : (so == 0) = false := by simpa using (by omega : so ≠ 0)
      simp only [shapeB, sortB, emptyB, g2, if_true, if_false, ite_true, ite_false, Bool.false_eq_true, decide_true, decide_false] at hR
      subst hR
      by_cases h3 : so ≤ 3
      · skip
        refine swp_seq ?_
        (with_reducible refine swp_region ?_ (fun K' hK' => ?_)
         · rfl
         simp only [UN, LM, Nat.reduceBEq, Nat.reduceLeDiff, Int.reduceLE, Int.reduceLT, Int.reduceToNat, Nat.reduceAdd, Nat.reduceSub, Nat.reduceMul, reduceCtorEq, TTS, g0, h1, h3, hll, List.length_map, Bool.true_beq, Bool.false_beq, Bool.not_true, Bool.not_false, Bool.false_and, Bool.and_false, Bool.true_and, Bool.and_true, cond_true, cond_false, false_implies, Bool.false_eq_true]
         (repeat (refine And.intro ?_ ?_; focus (clear hK'; intros; simp_all; done))))
        refine stop_unmetB rfl rfl ?_
        simp only [UN, LM, Nat.reduceBEq, Nat.reduceLeDiff, Int.reduceLE, Int.reduceLT, Int.reduceToNat, Nat.reduceAdd, Nat.reduceSub, Nat.reduceMul, reduceCtorEq, TTS, g0, h1, h3, hll, List.length_map, Bool.true_beq, Bool.false_beq, Bool.not_true, Bool.not_false, Bool.false_and, Bool.and_false, Bool.true_and, Bool.and_true, cond_true, cond_false, false_implies, Bool.false_eq_true]
        (try (refine hK' _ _ ?_; clear hK'; clear K'))
        refine stop_unmetB rfl rfl ?_
        simp only [UN, LM, Nat.reduceBEq, Nat.reduceLeDiff, Int.reduceLE, Int.reduceLT, Int.reduceToNat, Nat.reduceAdd, Nat.reduceSub, Nat.reduceMul, reduceCtorEq, TTS, g0, h1, h3, hll, List.length_map, Bool.true_beq, Bool.false_beq, Bool.not_true, Bool.not_false, Bool.false_and, Bool.and_false, Bool.true_and, Bool.and_true, cond_true, cond_false, false_implies, Bool.false_eq_true]
        (try (refine hK' _ _ ?_; clear hK'; clear K'))
        repeat' (first
          |(with_reducible first|refine swp_seq ?_|refine swp_block ?_|refine swp_skip ?_|refine swp_ret ?_|refine swp_exit ?_|refine swp_label ?_|refine kseq_n ?_|refine kseq_x ?_|refine kseq_r ?_|refine kblk_n ?_|refine kblk_r ?_|refine kblk_xs ?_|refine kloop_x ?_|refine kloop_r ?_)
          |((with_reducible refine kblk_xn ?_ ?_);rfl)
          |((with_reducible refine swp_regionP ?_ ?_ (fun K' hK' => ?_));rfl;rfl;simp only [UN, LM, Nat.reduceBEq, Nat.reduceLeDiff, Int.reduceLE, Int.reduceLT, Int.reduceToNat, Nat.reduceAdd, Nat.reduceSub, Nat.reduceMul, reduceCtorEq, TTS];(repeat (refine And.intro ?_ ?_; focus (clear hK'; intros; simp_all; done)));(try (refine hK' _ _ ?_; clear hK'; clear K')))
          |((with_reducible refine swp_cond ?_ ?_);rfl;refine ⟨_, rfl, fun h => ?_, fun h => ?_⟩ <;> (try (exfalso; exact absurd h (by decide)))))
        simp only [Kret, retL, retOne, oneV, UN, LM, Nat.reduceBEq, Nat.reduceLeDiff, Int.reduceLE, Int.reduceLT, Int.reduceToNat, Nat.reduceAdd, Nat.reduceSub, Nat.reduceMul, reduceCtorEq, TTS]
      · skip
        refine swp_seq ?_
        (with_reducible refine swp_region ?_ (fun K' hK' => ?_)
         · rfl
         simp only [UN, LM, Nat.reduceBEq, Nat.reduceLeDiff, Int.reduceLE, Int.reduceLT, Int.reduceToNat, Nat.reduceAdd, Nat.reduceSub, Nat.reduceMul, reduceCtorEq, TTS, g0, h1, h3, g2, hll, List.length_map, Bool.true_beq, Bool.false_beq, Bool.not_true, Bool.not_false, Bool.false_and, Bool.and_false, Bool.true_and, Bool.and_true, cond_true, cond_false, false_implies, Bool.false_eq_true]
         (repeat (refine And.intro ?_ ?_; focus (clear hK'; intros; simp_all; done))))
        refine stop_unmetB rfl rfl ?_
        simp only [UN, LM, Nat.reduceBEq, Nat.reduceLeDiff, Int.reduceLE, Int.reduceLT, Int.reduceToNat, Nat.reduceAdd, Nat.reduceSub, Nat.reduceMul, reduceCtorEq, TTS, g0, h1, h3, g2, hll, List.length_map, Bool.true_beq, Bool.false_beq, Bool.not_true, Bool.not_false, Bool.false_and, Bool.and_false, Bool.true_and, Bool.and_true, cond_true, cond_false, false_implies, Bool.false_eq_true]
        (try (refine hK' _ _ ?_; clear hK'; clear K'))
        refine stop_unmetB rfl rfl ?_
        simp only [UN, LM, Nat.reduceBEq, Nat.reduceLeDiff, Int.reduceLE, Int.reduceLT, Int.reduceToNat, Nat.reduceAdd, Nat.reduceSub, Nat.reduceMul, reduceCtorEq, TTS, g0, h1, h3, g2, hll, List.length_map, Bool.true_beq, Bool.false_beq, Bool.not_true, Bool.not_false, Bool.false_and, Bool.and_false, Bool.true_and, Bool.and_true, cond_true, cond_false, false_implies, Bool.false_eq_true]
        (try (refine hK' _ _ ?_; clear hK'; clear K'))
        repeat' (first
          |(with_reducible first|refine swp_seq ?_|refine swp_block ?_|refine swp_skip ?_|refine swp_ret ?_|refine swp_exit ?_|refine swp_label ?_|refine kseq_n ?_|refine kseq_x ?_|refine kseq_r ?_|refine kblk_n ?_|refine kblk_r ?_|refine kblk_xs ?_|refine kloop_x ?_|refine kloop_r ?_)
          |((with_reducible refine kblk_xn ?_ ?_);rfl)
          |((with_reducible refine swp_regionP ?_ ?_ (fun K' hK' => ?_));rfl;rfl;simp only [UN, LM, Nat.reduceBEq, Nat.reduceLeDiff, Int.reduceLE, Int.reduceLT, Int.reduceToNat, Nat.reduceAdd, Nat.reduceSub, Nat.reduceMul, reduceCtorEq, TTS];(repeat (refine And.intro ?_ ?_; focus (clear hK'; intros; simp_all; done)));(try (refine hK' _ _ ?_; clear hK'; clear K')))
          |((with_reducible refine swp_cond ?_ ?_);rfl;refine ⟨_, rfl, fun h => ?_, fun h => ?_⟩ <;> (try (exfalso; exact absurd h (by decide)))))
        simp only [Kret, retL, retOne, oneV, UN, LM, Nat.reduceBEq, Nat.reduceLeDiff, Int.reduceLE, Int.reduceLT, Int.reduceToNat, Nat.reduceAdd, Nat.reduceSub, Nat.reduceMul, reduceCtorEq, TTS]
    · cases g2 : (so == 0) with
      | false =>
        simp only [shapeB, sortB, emptyB, g2, if_true, if_false, ite_true, ite_false, Bool.false_eq_true, decide_true, decide_false] at hR
        subst hR
        refine swp_seq ?_
        (with_reducible refine swp_region ?_ (fun K' hK' => ?_)
         · rfl
         simp only [UN, LM, Nat.reduceBEq, Nat.reduceLeDiff, Int.reduceLE, Int.reduceLT, Int.reduceToNat, Nat.reduceAdd, Nat.reduceSub, Nat.reduceMul, reduceCtorEq, TTS, g0, h1, g2, hll, List.length_map, Bool.true_beq, Bool.false_beq, Bool.not_true, Bool.not_false, Bool.false_and, Bool.and_false, Bool.true_and, Bool.and_true, cond_true, cond_false, false_implies, Bool.false_eq_true]
         (repeat (refine And.intro ?_ ?_; focus (clear hK'; intros; simp_all; done))))
        refine stop_unmetB rfl rfl ?_
        simp only [UN, LM, Nat.reduceBEq, Nat.reduceLeDiff, Int.reduceLE, Int.reduceLT, Int.reduceToNat, Nat.reduceAdd, Nat.reduceSub, Nat.reduceMul, reduceCtorEq, TTS, g0, h1, g2, hll, List.length_map, Bool.true_beq, Bool.false_beq, Bool.not_true, Bool.not_false, Bool.false_and, Bool.and_false, Bool.true_and, Bool.and_true, cond_true, cond_false, false_implies, Bool.false_eq_true]
        (try (refine hK' _ _ ?_; clear hK'; clear K'))
        refine stop_unmetB rfl rfl ?_
        simp only [UN, LM, Nat.reduceBEq, Nat.reduceLeDiff, Int.reduceLE, Int.reduceLT, Int.reduceToNat, Nat.reduceAdd, Nat.reduceSub, Nat.reduceMul, reduceCtorEq, TTS, g0, h1, g2, hll, List.length_map, Bool.true_beq, Bool.false_beq, Bool.not_true, Bool.not_false, Bool.false_and, Bool.and_false, Bool.true_and, Bool.and_true, cond_true, cond_false, false_implies, Bool.false_eq_true]
        (try (refine hK' _ _ ?_; clear hK'; clear K'))
        repeat' (first
          |(with_reducible first|refine swp_seq ?_|refine swp_block ?_|refine swp_skip ?_|refine swp_ret ?_|refine swp_exit ?_|refine swp_label ?_|refine kseq_n ?_|refine kseq_x ?_|refine kseq_r ?_|refine kblk_n ?_|refine kblk_r ?_|refine kblk_xs ?_|refine kloop_x ?_|refine kloop_r ?_)
          |((with_reducible refine kblk_xn ?_ ?_);rfl)
          |((with_reducible refine swp_regionP ?_ ?_ (fun K' hK' => ?_));rfl;rfl;simp only [UN, LM, Nat.reduceBEq, Nat.reduceLeDiff, Int.reduceLE, Int.reduceLT, Int.reduceToNat, Nat.reduceAdd, Nat.reduceSub, Nat.reduceMul, reduceCtorEq, TTS];(repeat (refine And.intro ?_ ?_; focus (clear hK'; intros; simp_all; done)));(try (refine hK' _ _ ?_; clear hK'; clear K')))
          |((with_reducible refine swp_cond ?_ ?_);rfl;refine ⟨_, rfl, fun h => ?_, fun h => ?_⟩ <;> (try (exfalso; exact absurd h (by decide)))))
        simp only [Kret, retL, retOne, oneV, UN, LM, Nat.reduceBEq, Nat.reduceLeDiff, Int.reduceLE, Int.reduceLT, Int.reduceToNat, Nat.reduceAdd, Nat.reduceSub, Nat.reduceMul, reduceCtorEq, TTS]
      | true =>
        cases eV : (nm.toList == ByteArray.toList ⟨#[]⟩) with
        | false =>
          simp only [shapeB, sortB, emptyB, g2, eV, if_true, if_false, ite_true, ite_false, Bool.false_eq_true, decide_true, decide_false] at hR
          subst hR
          refine swp_seq ?_
          (with_reducible refine swp_region ?_ (fun K' hK' => ?_)
           · rfl
           simp only [UN, LM, Nat.reduceBEq, Nat.reduceLeDiff, Int.reduceLE, Int.reduceLT, Int.reduceToNat, Nat.reduceAdd, Nat.reduceSub, Nat.reduceMul, reduceCtorEq, TTS, g0, h1, g2, eV, hll, List.length_map, Bool.true_beq, Bool.false_beq, Bool.not_true, Bool.not_false, Bool.false_and, Bool.and_false, Bool.true_and, Bool.and_true, cond_true, cond_false, false_implies, Bool.false_eq_true]
           (repeat (refine And.intro ?_ ?_; focus (clear hK'; intros; simp_all; done))))
          refine stop_unmetB rfl rfl ?_
          simp only [UN, LM, Nat.reduceBEq, Nat.reduceLeDiff, Int.reduceLE, Int.reduceLT, Int.reduceToNat, Nat.reduceAdd, Nat.reduceSub, Nat.reduceMul, reduceCtorEq, TTS, g0, h1, g2, eV, hll, List.length_map, Bool.true_beq, Bool.false_beq, Bool.not_true, Bool.not_false, Bool.false_and, Bool.and_false, Bool.true_and, Bool.and_true, cond_true, cond_false, false_implies, Bool.false_eq_true]
          (try (refine hK' _ _ ?_; clear hK'; clear K'))
          refine stop_unmetB rfl rfl ?_
          simp only [UN, LM, Nat.reduceBEq, Nat.reduceLeDiff, Int.reduceLE, Int.reduceLT, Int.reduceToNat, Nat.reduceAdd, Nat.reduceSub, Nat.reduceMul, reduceCtorEq, TTS, g0, h1, g2, eV, hll, List.length_map, Bool.true_beq, Bool.false_beq, Bool.not_true, Bool.not_false, Bool.false_and, Bool.and_false, Bool.true_and, Bool.and_true, cond_true, cond_false, false_implies, Bool.false_eq_true]
          (try (refine hK' _ _ ?_; clear hK'; clear K'))
          repeat' (first
            |(with_reducible first|refine swp_seq ?_|refine swp_block ?_|refine swp_skip ?_|refine swp_ret ?_|refine swp_exit ?_|refine swp_label ?_|refine kseq_n ?_|refine kseq_x ?_|refine kseq_r ?_|refine kblk_n ?_|refine kblk_r ?_|refine kblk_xs ?_|refine kloop_x ?_|refine kloop_r ?_)
            |((with_reducible refine kblk_xn ?_ ?_);rfl)
            |((with_reducible refine swp_regionP ?_ ?_ (fun K' hK' => ?_));rfl;rfl;simp only [UN, LM, Nat.reduceBEq, Nat.reduceLeDiff, Int.reduceLE, Int.reduceLT, Int.reduceToNat, Nat.reduceAdd, Nat.reduceSub, Nat.reduceMul, reduceCtorEq, TTS];(repeat (refine And.intro ?_ ?_; focus (clear hK'; intros; simp_all; done)));(try (refine hK' _ _ ?_; clear hK'; clear K')))
            |((with_reducible refine swp_cond ?_ ?_);rfl;refine ⟨_, rfl, fun h => ?_, fun h => ?_⟩ <;> (try (exfalso; exact absurd h (by decide)))))
          simp only [Kret, retL, retOne, oneV, UN, LM, Nat.reduceBEq, Nat.reduceLeDiff, Int.reduceLE, Int.reduceLT, Int.reduceToNat, Nat.reduceAdd, Nat.reduceSub, Nat.reduceMul, reduceCtorEq, TTS]
        | true =>
          cases eL : labelsB ls with
          | false =>
            rw [eL] at hlb
            simp only [shapeB, sortB, emptyB, g2, eV, eL, if_true, if_false, ite_true, ite_false, Bool.false_eq_true, decide_true, decide_false] at hR
            subst hR
            refine swp_seq ?_
            (with_reducible refine swp_region ?_ (fun K' hK' => ?_)
             · rfl
             simp only [UN, LM, Nat.reduceBEq, Nat.reduceLeDiff, Int.reduceLE, Int.reduceLT, Int.reduceToNat, Nat.reduceAdd, Nat.reduceSub, Nat.reduceMul, reduceCtorEq, TTS, g0, h1, g2, eV, hll, List.length_map, Bool.true_beq, Bool.false_beq, Bool.not_true, Bool.not_false, Bool.false_and, Bool.and_false, Bool.true_and, Bool.and_true, cond_true, cond_false, false_implies, Bool.false_eq_true]
             (repeat (refine And.intro ?_ ?_; focus (clear hK'; intros; simp_all; done))))
            refine stop_unmetB rfl rfl ?_
            simp only [UN, LM, Nat.reduceBEq, Nat.reduceLeDiff, Int.reduceLE, Int.reduceLT, Int.reduceToNat, Nat.reduceAdd, Nat.reduceSub, Nat.reduceMul, reduceCtorEq, TTS, g0, h1, g2, eV, hll, List.length_map, Bool.true_beq, Bool.false_beq, Bool.not_true, Bool.not_false, Bool.false_and, Bool.and_false, Bool.true_and, Bool.and_true, cond_true, cond_false, false_implies, Bool.false_eq_true]
            (try (refine hK' _ _ ?_; clear hK'; clear K'))
            refine stop_guard rfl ?_
            refine stop_callF rfl (by simp only [UN, LM, Nat.reduceBEq, Nat.reduceLeDiff, Int.reduceLE, Int.reduceLT, Int.reduceToNat, Nat.reduceAdd, Nat.reduceSub, Nat.reduceMul, reduceCtorEq]) rfl rfl (hlb) ?_
            simp only [UN, LM, Nat.reduceBEq, Nat.reduceLeDiff, Int.reduceLE, Int.reduceLT, Int.reduceToNat, Nat.reduceAdd, Nat.reduceSub, Nat.reduceMul, reduceCtorEq, TTS, inX, dropS, g0, h1, g2, eV, hll, List.length_map, Bool.true_beq, Bool.false_beq, Bool.not_true, Bool.not_false, Bool.false_and, Bool.and_false, Bool.true_and, Bool.and_true, cond_true, cond_false, false_implies, Bool.false_eq_true]
            (repeat (refine And.intro ?_ ?_; focus (clear hK'; intros; simp_all; done)))
            (try (refine hK' _ _ ?_; clear hK'; clear K'))
            repeat' (first
              |(with_reducible first|refine swp_seq ?_|refine swp_block ?_|refine swp_skip ?_|refine swp_ret ?_|refine swp_exit ?_|refine swp_label ?_|refine kseq_n ?_|refine kseq_x ?_|refine kseq_r ?_|refine kblk_n ?_|refine kblk_r ?_|refine kblk_xs ?_|refine kloop_x ?_|refine kloop_r ?_)
              |((with_reducible refine kblk_xn ?_ ?_);rfl)
              |((with_reducible refine swp_regionP ?_ ?_ (fun K' hK' => ?_));rfl;rfl;simp only [UN, LM, Nat.reduceBEq, Nat.reduceLeDiff, Int.reduceLE, Int.reduceLT, Int.reduceToNat, Nat.reduceAdd, Nat.reduceSub, Nat.reduceMul, reduceCtorEq, TTS];(repeat (refine And.intro ?_ ?_; focus (clear hK'; intros; simp_all; done)));(try (refine hK' _ _ ?_; clear hK'; clear K')))
              |((with_reducible refine swp_cond ?_ ?_);rfl;refine ⟨_, rfl, fun h => ?_, fun h => ?_⟩ <;> (try (exfalso; exact absurd h (by decide)))))
            simp only [Kret, retL, retOne, oneV, UN, LM, Nat.reduceBEq, Nat.reduceLeDiff, Int.reduceLE, Int.reduceLT, Int.reduceToNat, Nat.reduceAdd, Nat.reduceSub, Nat.reduceMul, reduceCtorEq, TTS]
          | true =>
            rw [eL] at hlb
            simp only [shapeB, sortB, emptyB, g2, eV, eL, if_true, if_false, ite_true, ite_false, Bool.false_eq_true, decide_true, decide_false] at hR
            subst hR
            refine swp_seq ?_
            (with_reducible refine swp_region ?_ (fun K' hK' => ?_)
             · rfl
             simp only [UN, LM, Nat.reduceBEq, Nat.reduceLeDiff, Int.reduceLE, Int.reduceLT, Int.reduceToNat, Nat.reduceAdd, Nat.reduceSub, Nat.reduceMul, reduceCtorEq, TTS, g0, h1, g2, eV, hll, List.length_map, Bool.true_beq, Bool.false_beq, Bool.not_true, Bool.not_false, Bool.false_and, Bool.and_false, Bool.true_and, Bool.and_true, cond_true, cond_false, false_implies, Bool.false_eq_true]
             (repeat (refine And.intro ?_ ?_; focus (clear hK'; intros; simp_all; done))))
            refine stop_unmetB rfl rfl ?_
            simp only [UN, LM, Nat.reduceBEq, Nat.reduceLeDiff, Int.reduceLE, Int.reduceLT, Int.reduceToNat, Nat.reduceAdd, Nat.reduceSub, Nat.reduceMul, reduceCtorEq, TTS, g0, h1, g2, eV, hll, List.length_map, Bool.true_beq, Bool.false_beq, Bool.not_true, Bool.not_false, Bool.false_and, Bool.and_false, Bool.true_and, Bool.and_true, cond_true, cond_false, false_implies, Bool.false_eq_true]
            (try (refine hK' _ _ ?_; clear hK'; clear K'))
            refine stop_guard rfl ?_
            refine stop_callF rfl (by simp only [UN, LM, Nat.reduceBEq, Nat.reduceLeDiff, Int.reduceLE, Int.reduceLT, Int.reduceToNat, Nat.reduceAdd, Nat.reduceSub, Nat.reduceMul, reduceCtorEq]) rfl rfl (hlb) ?_
            simp only [UN, LM, Nat.reduceBEq, Nat.reduceLeDiff, Int.reduceLE, Int.reduceLT, Int.reduceToNat, Nat.reduceAdd, Nat.reduceSub, Nat.reduceMul, reduceCtorEq, TTS, inX, dropS, g0, h1, g2, eV, hll, List.length_map, Bool.true_beq, Bool.false_beq, Bool.not_true, Bool.not_false, Bool.false_and, Bool.and_false, Bool.true_and, Bool.and_true, cond_true, cond_false, false_implies, Bool.false_eq_true]
            (repeat (refine And.intro ?_ ?_; focus (clear hK'; intros; simp_all; done)))
            (try (refine hK' _ _ ?_; clear hK'; clear K'))
            repeat' (first
              |(with_reducible first|refine swp_seq ?_|refine swp_block ?_|refine swp_skip ?_|refine swp_ret ?_|refine swp_exit ?_|refine swp_label ?_|refine kseq_n ?_|refine kseq_x ?_|refine kseq_r ?_|refine kblk_n ?_|refine kblk_r ?_|refine kblk_xs ?_|refine kloop_x ?_|refine kloop_r ?_)
              |((with_reducible refine kblk_xn ?_ ?_);rfl)
              |((with_reducible refine swp_regionP ?_ ?_ (fun K' hK' => ?_));rfl;rfl;simp only [UN, LM, Nat.reduceBEq, Nat.reduceLeDiff, Int.reduceLE, Int.reduceLT, Int.reduceToNat, Nat.reduceAdd, Nat.reduceSub, Nat.reduceMul, reduceCtorEq, TTS];(repeat (refine And.intro ?_ ?_; focus (clear hK'; intros; simp_all; done)));(try (refine hK' _ _ ?_; clear hK'; clear K')))
              |((with_reducible refine swp_cond ?_ ?_);rfl;refine ⟨_, rfl, fun h => ?_, fun h => ?_⟩ <;> (try (exfalso; exact absurd h (by decide)))))
            simp only [Kret, retL, retOne, oneV, UN, LM, Nat.reduceBEq, Nat.reduceLeDiff, Int.reduceLE, Int.reduceLT, Int.reduceToNat, Nat.reduceAdd, Nat.reduceSub, Nat.reduceMul, reduceCtorEq, TTS]
  · by_cases hn : ¬ l.length = n
    · have g0 : ((l.length : Int) == (n : Int)) = false := by simpa using (by omega : (l.length : Int) ≠ n)
      unfold shapeB at hR
      rw [if_neg hn] at hR
      subst hR
      refine swp_seq ?_
      (with_reducible refine swp_region ?_ (fun K' hK' => ?_)
       · rfl
       simp only [UN, LM, Nat.reduceBEq, Nat.reduceLeDiff, Int.reduceLE, Int.reduceLT, Int.reduceToNat, Nat.reduceAdd, Nat.reduceSub, Nat.reduceMul, reduceCtorEq, TTS, g0, hll, List.length_map, Bool.true_beq, Bool.false_beq, Bool.not_true, Bool.not_false, Bool.false_and, Bool.and_false, Bool.true_and, Bool.and_true, cond_true, cond_false, false_implies, Bool.false_eq_true]
       (repeat (refine And.intro ?_ ?_; focus (clear hK'; intros; simp_all; done))))
      refine stop_unmetB rfl rfl ?_
      simp only [UN, LM, Nat.reduceBEq, Nat.reduceLeDiff, Int.reduceLE, Int.reduceLT, Int.reduceToNat, Nat.reduceAdd, Nat.reduceSub, Nat.reduceMul, reduceCtorEq, TTS, g0, hll, List.length_map, Bool.true_beq, Bool.false_beq, Bool.not_true, Bool.not_false, Bool.false_and, Bool.and_false, Bool.true_and, Bool.and_true, cond_true, cond_false, false_implies, Bool.false_eq_true]
      (try (refine hK' _ _ ?_; clear hK'; clear K'))
      refine stop_unmetB rfl rfl ?_
      simp only [UN, LM, Nat.reduceBEq, Nat.reduceLeDiff, Int.reduceLE, Int.reduceLT, Int.reduceToNat, Nat.reduceAdd, Nat.reduceSub, Nat.reduceMul, reduceCtorEq, TTS, g0, hll, List.length_map, Bool.true_beq, Bool.false_beq, Bool.not_true, Bool.not_false, Bool.false_and, Bool.and_false, Bool.true_and, Bool.and_true, cond_true, cond_false, false_implies, Bool.false_eq_true]
      (try (refine hK' _ _ ?_; clear hK'; clear K'))
      repeat' (first
        |(with_reducible first|refine swp_seq ?_|refine swp_block ?_|refine swp_skip ?_|refine swp_ret ?_|refine swp_exit ?_|refine swp_label ?_|refine kseq_n ?_|refine kseq_x ?_|refine kseq_r ?_|refine kblk_n ?_|refine kblk_r ?_|refine kblk_xs ?_|refine kloop_x ?_|refine kloop_r ?_)
        |((with_reducible refine kblk_xn ?_ ?_);rfl)
        |((with_reducible refine swp_regionP ?_ ?_ (fun K' hK' => ?_));rfl;rfl;simp only [UN, LM, Nat.reduceBEq, Nat.reduceLeDiff, Int.reduceLE, Int.reduceLT, Int.reduceToNat, Nat.reduceAdd, Nat.reduceSub, Nat.reduceMul, reduceCtorEq, TTS];(repeat (refine And.intro ?_ ?_; focus (clear hK'; intros; simp_all; done)));(try (refine hK' _ _ ?_; clear hK'; clear K')))
        |((with_reducible refine swp_cond ?_ ?_);rfl;refine ⟨_, rfl, fun h => ?_, fun h => ?_⟩ <;> (try (exfalso; exact absurd h (by decide)))))
      simp only [Kret, retL, retOne, oneV, UN, LM, Nat.reduceBEq, Nat.reduceLeDiff, Int.reduceLE, Int.reduceLT, Int.reduceToNat, Nat.reduceAdd, Nat.reduceSub, Nat.reduceMul, reduceCtorEq, TTS]
    have hn := Decidable.not_not.1 hn
    subst hn
    have g0 : ((l.length : Int) == (l.length : Int)) = true := by simp
    by_cases h1 : 1 ≤ so
    · have g2 : (so == 0) = false := by simpa using (by omega : so ≠ 0)
      simp only [shapeB, sortB, emptyB, g2, if_true, if_false, ite_true, ite_false, Bool.false_eq_true, decide_true, decide_false] at hR
      subst hR
      by_cases h3 : so ≤ 3
      · skip
        refine swp_seq ?_
        (with_reducible refine swp_region ?_ (fun K' hK' => ?_)
         · rfl
         simp only [UN, LM, Nat.reduceBEq, Nat.reduceLeDiff, Int.reduceLE, Int.reduceLT, Int.reduceToNat, Nat.reduceAdd, Nat.reduceSub, Nat.reduceMul, reduceCtorEq, TTS, g0, h1, h3, hll, List.length_map, Bool.true_beq, Bool.false_beq, Bool.not_true, Bool.not_false, Bool.false_and, Bool.and_false, Bool.true_and, Bool.and_true, cond_true, cond_false, false_implies, Bool.false_eq_true]
         (repeat (refine And.intro ?_ ?_; focus (clear hK'; intros; simp_all; done))))
        refine stop_unmetB rfl rfl ?_
        simp only [UN, LM, Nat.reduceBEq, Nat.reduceLeDiff, Int.reduceLE, Int.reduceLT, Int.reduceToNat, Nat.reduceAdd, Nat.reduceSub, Nat.reduceMul, reduceCtorEq, TTS, g0, h1, h3, hll, List.length_map, Bool.true_beq, Bool.false_beq, Bool.not_true, Bool.not_false, Bool.false_and, Bool.and_false, Bool.true_and, Bool.and_true, cond_true, cond_false, false_implies, Bool.false_eq_true]
        (try (refine hK' _ _ ?_; clear hK'; clear K'))
        refine stop_unmetB rfl rfl ?_
        simp only [UN, LM, Nat.reduceBEq, Nat.reduceLeDiff, Int.reduceLE, Int.reduceLT, Int.reduceToNat, Nat.reduceAdd, Nat.reduceSub, Nat.reduceMul, reduceCtorEq, TTS, g0, h1, h3, hll, List.length_map, Bool.true_beq, Bool.false_beq, Bool.not_true, Bool.not_false, Bool.false_and, Bool.and_false, Bool.true_and, Bool.and_true, cond_true, cond_false, false_implies, Bool.false_eq_true]
        (try (refine hK' _ _ ?_; clear hK'; clear K'))
        repeat' (first
          |(with_reducible first|refine swp_seq ?_|refine swp_block ?_|refine swp_skip ?_|refine swp_ret ?_|refine swp_exit ?_|refine swp_label ?_|refine kseq_n ?_|refine kseq_x ?_|refine kseq_r ?_|refine kblk_n ?_|refine kblk_r ?_|refine kblk_xs ?_|refine kloop_x ?_|refine kloop_r ?_)
          |((with_reducible refine kblk_xn ?_ ?_);rfl)
          |((with_reducible refine swp_regionP ?_ ?_ (fun K' hK' => ?_));rfl;rfl;simp only [UN, LM, Nat.reduceBEq, Nat.reduceLeDiff, Int.reduceLE, Int.reduceLT, Int.reduceToNat, Nat.reduceAdd, Nat.reduceSub, Nat.reduceMul, reduceCtorEq, TTS];(repeat (refine And.intro ?_ ?_; focus (clear hK'; intros; simp_all; done)));(try (refine hK' _ _ ?_; clear hK'; clear K')))
          |((with_reducible refine swp_cond ?_ ?_);rfl;refine ⟨_, rfl, fun h => ?_, fun h => ?_⟩ <;> (try (exfalso; exact absurd h (by decide)))))
        simp only [Kret, retL, retOne, oneV, UN, LM, Nat.reduceBEq, Nat.reduceLeDiff, Int.reduceLE, Int.reduceLT, Int.reduceToNat, Nat.reduceAdd, Nat.reduceSub, Nat.reduceMul, reduceCtorEq, TTS]
      · skip
        refine swp_seq ?_
        (with_reducible refine swp_region ?_ (fun K' hK' => ?_)
         · rfl
         simp only [UN, LM, Nat.reduceBEq, Nat.reduceLeDiff, Int.reduceLE, Int.reduceLT, Int.reduceToNat, Nat.reduceAdd, Nat.reduceSub, Nat.reduceMul, reduceCtorEq, TTS, g0, h1, h3, g2, hll, List.length_map, Bool.true_beq, Bool.false_beq, Bool.not_true, Bool.not_false, Bool.false_and, Bool.and_false, Bool.true_and, Bool.and_true, cond_true, cond_false, false_implies, Bool.false_eq_true]
         (repeat (refine And.intro ?_ ?_; focus (clear hK'; intros; simp_all; done))))
        refine stop_unmetB rfl rfl ?_
        simp only [UN, LM, Nat.reduceBEq, Nat.reduceLeDiff, Int.reduceLE, Int.reduceLT, Int.reduceToNat, Nat.reduceAdd, Nat.reduceSub, Nat.reduceMul, reduceCtorEq, TTS, g0, h1, h3, g2, hll, List.length_map, Bool.true_beq, Bool.false_beq, Bool.not_true, Bool.not_false, Bool.false_and, Bool.and_false, Bool.true_and, Bool.and_true, cond_true, cond_false, false_implies, Bool.false_eq_true]
        (try (refine hK' _ _ ?_; clear hK'; clear K'))
        refine stop_unmetB rfl rfl ?_
        simp only [UN, LM, Nat.reduceBEq, Nat.reduceLeDiff, Int.reduceLE, Int.reduceLT, Int.reduceToNat, Nat.reduceAdd, Nat.reduceSub, Nat.reduceMul, reduceCtorEq, TTS, g0, h1, h3, g2, hll, List.length_map, Bool.true_beq, Bool.false_beq, Bool.not_true, Bool.not_false, Bool.false_and, Bool.and_false, Bool.true_and, Bool.and_true, cond_true, cond_false, false_implies, Bool.false_eq_true]
        (try (refine hK' _ _ ?_; clear hK'; clear K'))
        repeat' (first
          |(with_reducible first|refine swp_seq ?_|refine swp_block ?_|refine swp_skip ?_|refine swp_ret ?_|refine swp_exit ?_|refine swp_label ?_|refine kseq_n ?_|refine kseq_x ?_|refine kseq_r ?_|refine kblk_n ?_|refine kblk_r ?_|refine kblk_xs ?_|refine kloop_x ?_|refine kloop_r ?_)
          |((with_reducible refine kblk_xn ?_ ?_);rfl)
          |((with_reducible refine swp_regionP ?_ ?_ (fun K' hK' => ?_));rfl;rfl;simp only [UN, LM, Nat.reduceBEq, Nat.reduceLeDiff, Int.reduceLE, Int.reduceLT, Int.reduceToNat, Nat.reduceAdd, Nat.reduceSub, Nat.reduceMul, reduceCtorEq, TTS];(repeat (refine And.intro ?_ ?_; focus (clear hK'; intros; simp_all; done)));(try (refine hK' _ _ ?_; clear hK'; clear K')))
          |((with_reducible refine swp_cond ?_ ?_);rfl;refine ⟨_, rfl, fun h => ?_, fun h => ?_⟩ <;> (try (exfalso; exact absurd h (by decide)))))
        simp only [Kret, retL, retOne, oneV, UN, LM, Nat.reduceBEq, Nat.reduceLeDiff, Int.reduceLE, Int.reduceLT, Int.reduceToNat, Nat.reduceAdd, Nat.reduceSub, Nat.reduceMul, reduceCtorEq, TTS]
    · cases g2 : (so == 0) with
      | false =>
        simp only [shapeB, sortB, emptyB, g2, if_true, if_false, ite_true, ite_false, Bool.false_eq_true, decide_true, decide_false] at hR
        subst hR
        refine swp_seq ?_
        (with_reducible refine swp_region ?_ (fun K' hK' => ?_)
         · rfl
         simp only [UN, LM, Nat.reduceBEq, Nat.reduceLeDiff, Int.reduceLE, Int.reduceLT, Int.reduceToNat, Nat.reduceAdd, Nat.reduceSub, Nat.reduceMul, reduceCtorEq, TTS, g0, h1, g2, hll, List.length_map, Bool.true_beq, Bool.false_beq, Bool.not_true, Bool.not_false, Bool.false_and, Bool.and_false, Bool.true_and, Bool.and_true, cond_true, cond_false, false_implies, Bool.false_eq_true]
         (repeat (refine And.intro ?_ ?_; focus (clear hK'; intros; simp_all; done))))
        refine stop_unmetB rfl rfl ?_
        simp only [UN, LM, Nat.reduceBEq, Nat.reduceLeDiff, Int.reduceLE, Int.reduceLT, Int.reduceToNat, Nat.reduceAdd, Nat.reduceSub, Nat.reduceMul, reduceCtorEq, TTS, g0, h1, g2, hll, List.length_map, Bool.true_beq, Bool.false_beq, Bool.not_true, Bool.not_false, Bool.false_and, Bool.and_false, Bool.true_and, Bool.and_true, cond_true, cond_false, false_implies, Bool.false_eq_true]
        (try (refine hK' _ _ ?_; clear hK'; clear K'))
        refine stop_unmetB rfl rfl ?_
        simp only [UN, LM, Nat.reduceBEq, Nat.reduceLeDiff, Int.reduceLE, Int.reduceLT, Int.reduceToNat, Nat.reduceAdd, Nat.reduceSub, Nat.reduceMul, reduceCtorEq, TTS, g0, h1, g2, hll, List.length_map, Bool.true_beq, Bool.false_beq, Bool.not_true, Bool.not_false, Bool.false_and, Bool.and_false, Bool.true_and, Bool.and_true, cond_true, cond_false, false_implies, Bool.false_eq_true]
        (try (refine hK' _ _ ?_; clear hK'; clear K'))
        repeat' (first
          |(with_reducible first|refine swp_seq ?_|refine swp_block ?_|refine swp_skip ?_|refine swp_ret ?_|refine swp_exit ?_|refine swp_label ?_|refine kseq_n ?_|refine kseq_x ?_|refine kseq_r ?_|refine kblk_n ?_|refine kblk_r ?_|refine kblk_xs ?_|refine kloop_x ?_|refine kloop_r ?_)
          |((with_reducible refine kblk_xn ?_ ?_);rfl)
          |((with_reducible refine swp_regionP ?_ ?_ (fun K' hK' => ?_));rfl;rfl;simp only [UN, LM, Nat.reduceBEq, Nat.reduceLeDiff, Int.reduceLE, Int.reduceLT, Int.reduceToNat, Nat.reduceAdd, Nat.reduceSub, Nat.reduceMul, reduceCtorEq, TTS];(repeat (refine And.intro ?_ ?_; focus (clear hK'; intros; simp_all; done)));(try (refine hK' _ _ ?_; clear hK'; clear K')))
          |((with_reducible refine swp_cond ?_ ?_);rfl;refine ⟨_, rfl, fun h => ?_, fun h => ?_⟩ <;> (try (exfalso; exact absurd h (by decide)))))
        simp only [Kret, retL, retOne, oneV, UN, LM, Nat.reduceBEq, Nat.reduceLeDiff, Int.reduceLE, Int.reduceLT, Int.reduceToNat, Nat.reduceAdd, Nat.reduceSub, Nat.reduceMul, reduceCtorEq, TTS]
      | true =>
        cases eV : isVarB nm with
        | false =>
          rw [eV] at hv
          simp only [shapeB, sortB, emptyB, g2, eV, if_true, if_false, ite_true, ite_false, Bool.false_eq_true, decide_true, decide_false] at hR
          subst hR
          refine swp_seq ?_
          (with_reducible refine swp_region ?_ (fun K' hK' => ?_)
           · rfl
           simp only [UN, LM, Nat.reduceBEq, Nat.reduceLeDiff, Int.reduceLE, Int.reduceLT, Int.reduceToNat, Nat.reduceAdd, Nat.reduceSub, Nat.reduceMul, reduceCtorEq, TTS, g0, h1, g2, hll, List.length_map, Bool.true_beq, Bool.false_beq, Bool.not_true, Bool.not_false, Bool.false_and, Bool.and_false, Bool.true_and, Bool.and_true, cond_true, cond_false, false_implies, Bool.false_eq_true]
           (repeat (refine And.intro ?_ ?_; focus (clear hK'; intros; simp_all; done))))
          refine stop_guard rfl ?_
          refine stop_callF rfl (by simp only [UN, LM, Nat.reduceBEq, Nat.reduceLeDiff, Int.reduceLE, Int.reduceLT, Int.reduceToNat, Nat.reduceAdd, Nat.reduceSub, Nat.reduceMul, reduceCtorEq]) rfl rfl (hv) ?_
          simp only [UN, LM, Nat.reduceBEq, Nat.reduceLeDiff, Int.reduceLE, Int.reduceLT, Int.reduceToNat, Nat.reduceAdd, Nat.reduceSub, Nat.reduceMul, reduceCtorEq, TTS, inX, dropS, g0, h1, g2, hll, List.length_map, Bool.true_beq, Bool.false_beq, Bool.not_true, Bool.not_false, Bool.false_and, Bool.and_false, Bool.true_and, Bool.and_true, cond_true, cond_false, false_implies, Bool.false_eq_true]
          (repeat (refine And.intro ?_ ?_; focus (clear hK'; intros; simp_all; done)))
          (try (refine hK' _ _ ?_; clear hK'; clear K'))
          refine stop_unmetB rfl rfl ?_
          simp only [UN, LM, Nat.reduceBEq, Nat.reduceLeDiff, Int.reduceLE, Int.reduceLT, Int.reduceToNat, Nat.reduceAdd, Nat.reduceSub, Nat.reduceMul, reduceCtorEq, TTS, g0, h1, g2, hll, List.length_map, Bool.true_beq, Bool.false_beq, Bool.not_true, Bool.not_false, Bool.false_and, Bool.and_false, Bool.true_and, Bool.and_true, cond_true, cond_false, false_implies, Bool.false_eq_true]
          (try (refine hK' _ _ ?_; clear hK'; clear K'))
          repeat' (first
            |(with_reducible first|refine swp_seq ?_|refine swp_block ?_|refine swp_skip ?_|refine swp_ret ?_|refine swp_exit ?_|refine swp_label ?_|refine kseq_n ?_|refine kseq_x ?_|refine kseq_r ?_|refine kblk_n ?_|refine kblk_r ?_|refine kblk_xs ?_|refine kloop_x ?_|refine kloop_r ?_)
            |((with_reducible refine kblk_xn ?_ ?_);rfl)
            |((with_reducible refine swp_regionP ?_ ?_ (fun K' hK' => ?_));rfl;rfl;simp only [UN, LM, Nat.reduceBEq, Nat.reduceLeDiff, Int.reduceLE, Int.reduceLT, Int.reduceToNat, Nat.reduceAdd, Nat.reduceSub, Nat.reduceMul, reduceCtorEq, TTS];(repeat (refine And.intro ?_ ?_; focus (clear hK'; intros; simp_all; done)));(try (refine hK' _ _ ?_; clear hK'; clear K')))
            |((with_reducible refine swp_cond ?_ ?_);rfl;refine ⟨_, rfl, fun h => ?_, fun h => ?_⟩ <;> (try (exfalso; exact absurd h (by decide)))))
          simp only [Kret, retL, retOne, oneV, UN, LM, Nat.reduceBEq, Nat.reduceLeDiff, Int.reduceLE, Int.reduceLT, Int.reduceToNat, Nat.reduceAdd, Nat.reduceSub, Nat.reduceMul, reduceCtorEq, TTS]
        | true =>
          rw [eV] at hv
          by_cases hL : ls.length = 0
          · have gL : ((ls.length : Int) == 0) = true := by simp [hL]
            simp only [shapeB, sortB, emptyB, g2, eV, hL, if_true, if_false, ite_true, ite_false, Bool.false_eq_true, decide_true, decide_false] at hR
            subst hR
            refine swp_seq ?_
            (with_reducible refine swp_region ?_ (fun K' hK' => ?_)
             · rfl
             simp only [UN, LM, Nat.reduceBEq, Nat.reduceLeDiff, Int.reduceLE, Int.reduceLT, Int.reduceToNat, Nat.reduceAdd, Nat.reduceSub, Nat.reduceMul, reduceCtorEq, TTS, g0, h1, g2, gL, hll, List.length_map, Bool.true_beq, Bool.false_beq, Bool.not_true, Bool.not_false, Bool.false_and, Bool.and_false, Bool.true_and, Bool.and_true, cond_true, cond_false, false_implies, Bool.false_eq_true]
             (repeat (refine And.intro ?_ ?_; focus (clear hK'; intros; simp_all; done))))
            refine stop_guard rfl ?_
            refine stop_callF rfl (by simp only [UN, LM, Nat.reduceBEq, Nat.reduceLeDiff, Int.reduceLE, Int.reduceLT, Int.reduceToNat, Nat.reduceAdd, Nat.reduceSub, Nat.reduceMul, reduceCtorEq]) rfl rfl (hv) ?_
            simp only [UN, LM, Nat.reduceBEq, Nat.reduceLeDiff, Int.reduceLE, Int.reduceLT, Int.reduceToNat, Nat.reduceAdd, Nat.reduceSub, Nat.reduceMul, reduceCtorEq, TTS, inX, dropS, g0, h1, g2, gL, hll, List.length_map, Bool.true_beq, Bool.false_beq, Bool.not_true, Bool.not_false, Bool.false_and, Bool.and_false, Bool.true_and, Bool.and_true, cond_true, cond_false, false_implies, Bool.false_eq_true]
            (repeat (refine And.intro ?_ ?_; focus (clear hK'; intros; simp_all; done)))
            (try (refine hK' _ _ ?_; clear hK'; clear K'))
            refine stop_unmetB rfl rfl ?_
            simp only [UN, LM, Nat.reduceBEq, Nat.reduceLeDiff, Int.reduceLE, Int.reduceLT, Int.reduceToNat, Nat.reduceAdd, Nat.reduceSub, Nat.reduceMul, reduceCtorEq, TTS, g0, h1, g2, gL, hll, List.length_map, Bool.true_beq, Bool.false_beq, Bool.not_true, Bool.not_false, Bool.false_and, Bool.and_false, Bool.true_and, Bool.and_true, cond_true, cond_false, false_implies, Bool.false_eq_true]
            (try (refine hK' _ _ ?_; clear hK'; clear K'))
            repeat' (first
              |(with_reducible first|refine swp_seq ?_|refine swp_block ?_|refine swp_skip ?_|refine swp_ret ?_|refine swp_exit ?_|refine swp_label ?_|refine kseq_n ?_|refine kseq_x ?_|refine kseq_r ?_|refine kblk_n ?_|refine kblk_r ?_|refine kblk_xs ?_|refine kloop_x ?_|refine kloop_r ?_)
              |((with_reducible refine kblk_xn ?_ ?_);rfl)
              |((with_reducible refine swp_regionP ?_ ?_ (fun K' hK' => ?_));rfl;rfl;simp only [UN, LM, Nat.reduceBEq, Nat.reduceLeDiff, Int.reduceLE, Int.reduceLT, Int.reduceToNat, Nat.reduceAdd, Nat.reduceSub, Nat.reduceMul, reduceCtorEq, TTS];(repeat (refine And.intro ?_ ?_; focus (clear hK'; intros; simp_all; done)));(try (refine hK' _ _ ?_; clear hK'; clear K')))
              |((with_reducible refine swp_cond ?_ ?_);rfl;refine ⟨_, rfl, fun h => ?_, fun h => ?_⟩ <;> (try (exfalso; exact absurd h (by decide)))))
            simp only [Kret, retL, retOne, oneV, UN, LM, Nat.reduceBEq, Nat.reduceLeDiff, Int.reduceLE, Int.reduceLT, Int.reduceToNat, Nat.reduceAdd, Nat.reduceSub, Nat.reduceMul, reduceCtorEq, TTS]
          · have gL : ((ls.length : Int) == 0) = false := by simpa using (by omega : (ls.length : Int) ≠ 0)
            simp only [shapeB, sortB, emptyB, g2, eV, hL, if_true, if_false, ite_true, ite_false, Bool.false_eq_true, decide_true, decide_false] at hR
            subst hR
            refine swp_seq ?_
            (with_reducible refine swp_region ?_ (fun K' hK' => ?_)
             · rfl
             simp only [UN, LM, Nat.reduceBEq, Nat.reduceLeDiff, Int.reduceLE, Int.reduceLT, Int.reduceToNat, Nat.reduceAdd, Nat.reduceSub, Nat.reduceMul, reduceCtorEq, TTS, g0, h1, g2, gL, hll, List.length_map, Bool.true_beq, Bool.false_beq, Bool.not_true, Bool.not_false, Bool.false_and, Bool.and_false, Bool.true_and, Bool.and_true, cond_true, cond_false, false_implies, Bool.false_eq_true]
             (repeat (refine And.intro ?_ ?_; focus (clear hK'; intros; simp_all; done))))
            refine stop_guard rfl ?_
            refine stop_callF rfl (by simp only [UN, LM, Nat.reduceBEq, Nat.reduceLeDiff, Int.reduceLE, Int.reduceLT, Int.reduceToNat, Nat.reduceAdd, Nat.reduceSub, Nat.reduceMul, reduceCtorEq]) rfl rfl (hv) ?_
            simp only [UN, LM, Nat.reduceBEq, Nat.reduceLeDiff, Int.reduceLE, Int.reduceLT, Int.reduceToNat, Nat.reduceAdd, Nat.reduceSub, Nat.reduceMul, reduceCtorEq, TTS, inX, dropS, g0, h1, g2, gL, hll, List.length_map, Bool.true_beq, Bool.false_beq, Bool.not_true, Bool.not_false, Bool.false_and, Bool.and_false, Bool.true_and, Bool.and_true, cond_true, cond_false, false_implies, Bool.false_eq_true]
            (repeat (refine And.intro ?_ ?_; focus (clear hK'; intros; simp_all; done)))
            (try (refine hK' _ _ ?_; clear hK'; clear K'))
            refine stop_unmetB rfl rfl ?_
            simp only [UN, LM, Nat.reduceBEq, Nat.reduceLeDiff, Int.reduceLE, Int.reduceLT, Int.reduceToNat, Nat.reduceAdd, Nat.reduceSub, Nat.reduceMul, reduceCtorEq, TTS, g0, h1, g2, gL, hll, List.length_map, Bool.true_beq, Bool.false_beq, Bool.not_true, Bool.not_false, Bool.false_and, Bool.and_false, Bool.true_and, Bool.and_true, cond_true, cond_false, false_implies, Bool.false_eq_true]
            (try (refine hK' _ _ ?_; clear hK'; clear K'))
            repeat' (first
              |(with_reducible first|refine swp_seq ?_|refine swp_block ?_|refine swp_skip ?_|refine swp_ret ?_|refine swp_exit ?_|refine swp_label ?_|refine kseq_n ?_|refine kseq_x ?_|refine kseq_r ?_|refine kblk_n ?_|refine kblk_r ?_|refine kblk_xs ?_|refine kloop_x ?_|refine kloop_r ?_)
              |((with_reducible refine kblk_xn ?_ ?_);rfl)
              |((with_reducible refine swp_regionP ?_ ?_ (fun K' hK' => ?_));rfl;rfl;simp only [UN, LM, Nat.reduceBEq, Nat.reduceLeDiff, Int.reduceLE, Int.reduceLT, Int.reduceToNat, Nat.reduceAdd, Nat.reduceSub, Nat.reduceMul, reduceCtorEq, TTS];(repeat (refine And.intro ?_ ?_; focus (clear hK'; intros; simp_all; done)));(try (refine hK' _ _ ?_; clear hK'; clear K')))
              |((with_reducible refine swp_cond ?_ ?_);rfl;refine ⟨_, rfl, fun h => ?_, fun h => ?_⟩ <;> (try (exfalso; exact absurd h (by decide)))))
            simp only [Kret, retL, retOne, oneV, UN, LM, Nat.reduceBEq, Nat.reduceLeDiff, Int.reduceLE, Int.reduceLT, Int.reduceToNat, Nat.reduceAdd, Nat.reduceSub, Nat.reduceMul, reduceCtorEq, TTS]
end Go.Proofs.YtgpnomhhnplchaaDoor
