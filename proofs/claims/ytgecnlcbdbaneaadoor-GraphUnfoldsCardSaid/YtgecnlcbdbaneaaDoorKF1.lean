/- The law GraphUnfolds; a symbolic walk. -/
-- TYPESC
import Derived.Test.YtgecnlcbdbaneaaDoorKB3
import Derived.Test.YtgecnlcbdbaneaaDoorKW3
import Derived.Test.YtgecnlcbdbaneaaDoorH14
set_option linter.unusedVariables false
set_option linter.unusedSimpArgs false
namespace Go.Proofs.YtgecnlcbdbaneaaDoor
open Go.RowKit Go.Sw

theorem first_of : ofP endT = [⟨1, 0, [], []⟩] ∧ tCheck endT = 0 := ⟨eqG_iff.1 (by decide +kernel), by decide +kernel⟩
theorem eqG_small {g : List Nd} (Hg : Gd g) : g.length ≤ 140737488355328 ∧ ∀ x ∈ g, x.ls.length ≤ 140737488355328 ∧ x.to.length ≤ 140737488355328 := by
  refine ⟨by have := Hg.le; omega, fun x hx => ?_⟩
  have := Hg.ok x hx
  have h1 := this.ok.ls
  have h2 := this.ok.to
  exact ⟨by omega, by omega⟩
/-- What is written back does the same. -/
theorem back_same {x : Tp} (h : tCheck x = 0) (hb : (backG (ofP x)).2 = true) : tCheck (backG (ofP x)).1 = 0 ∧ ofP (backG (ofP x)).1 = ofP x := by
  have G := ofP_gd h
  obtain ⟨h1, h2⟩ := back_spec G.pos G.ok G.sh G.le hb
  exact ⟨h1, (of_iff h1 h).2 fun n => (h2 n).trans (ofP_obs h n)⟩
set_option maxHeartbeats 16000000 in
set_option maxRecDepth 100000 in
theorem unfoldsLaw (Γ : Gl) (x : Tp) : DFn Tryd.prog Γ 3 [x.d] (.v (.bool true)) := by
  have hF := of_fn Γ endT
  unfold OfFn at hF
  rw [first_of.1, first_of.2] at hF
  simp only [endT, Tp.d, Tp.ds, List.map_nil, List.map_cons] at hF
  have hO := of_fn Γ x
  unfold OfFn at hO
  by_cases hc : tCheck x = 0
  rotate_left
  · have e : ofP x = [] := by unfold ofP; rw [if_neg hc]
    rw [e] at hO
    have g1 : (tCheck x != 0) = true := by simpa using hc
    generalize tCheck x = c at *
    obtain ⟨k, so, nm, ls, l⟩ := x
    simp only [Tp.d, List.map_nil] at hO ⊢
    refine fn_of_swp (N := 81) Tryd.func3 rfl (by decide) rfl rfl (by simp) (fun C h0 => ?_)
    simp only [argE]
    repeat' (first
      |(with_reducible first|refine swp_seq ?_|refine swp_block ?_|refine swp_skip ?_|refine swp_ret ?_|refine swp_exit ?_|refine swp_label ?_|refine kseq_n ?_|refine kseq_x ?_|refine kseq_r ?_|refine kblk_n ?_|refine kblk_r ?_|refine kblk_xs ?_|refine kloop_x ?_|refine kloop_r ?_)
      |((with_reducible refine kblk_xn ?_ ?_);rfl)
      |((with_reducible refine swp_regionP ?_ ?_ (fun K' hK' => ?_));rfl;rfl;simp only [UN, LM, Nat.reduceBEq, Nat.reduceLeDiff, Int.reduceLE, Int.reduceLT, Int.reduceToNat, Nat.reduceAdd, Nat.reduceSub, Nat.reduceMul, reduceCtorEq, TAS, TBS, TCS];(repeat (refine And.intro ?_ ?_; focus (clear hK'; intros; simp_all; done)));(try (refine hK' _ _ ?_; clear hK'; clear K')))
      |((with_reducible refine swp_cond ?_ ?_);rfl;refine ⟨_, rfl, fun h => ?_, fun h => ?_⟩ <;> (try (exfalso; exact absurd h (by decide)))))
    refine stop_call h0 rfl (by simp only [UN, LM, Nat.reduceBEq, Nat.reduceLeDiff, Int.reduceLE, Int.reduceLT, Int.reduceToNat, Nat.reduceAdd, Nat.reduceSub, Nat.reduceMul, reduceCtorEq]) rfl (by simp only [keepS, UN, LM, Nat.reduceBEq, Nat.reduceLeDiff, Int.reduceLE, Int.reduceLT, Int.reduceToNat, Nat.reduceAdd, Nat.reduceSub, Nat.reduceMul, reduceCtorEq]) (hF) ?_
    simp only [UN, LM, Nat.reduceBEq, Nat.reduceLeDiff, Int.reduceLE, Int.reduceLT, Int.reduceToNat, Nat.reduceAdd, Nat.reduceSub, Nat.reduceMul, reduceCtorEq, TAS, TBS, TCS, inX, dropS, ]
    (repeat (refine And.intro ?_ ?_; focus (clear hK'; intros; simp_all; done)))
    (try (refine hK' _ _ ?_; clear hK'; clear K'))
    repeat' (first
      |(with_reducible first|refine swp_seq ?_|refine swp_block ?_|refine swp_skip ?_|refine swp_ret ?_|refine swp_exit ?_|refine swp_label ?_|refine kseq_n ?_|refine kseq_x ?_|refine kseq_r ?_|refine kblk_n ?_|refine kblk_r ?_|refine kblk_xs ?_|refine kloop_x ?_|refine kloop_r ?_)
      |((with_reducible refine kblk_xn ?_ ?_);rfl)
      |((with_reducible refine swp_regionP ?_ ?_ (fun K' hK' => ?_));rfl;rfl;simp only [UN, LM, Nat.reduceBEq, Nat.reduceLeDiff, Int.reduceLE, Int.reduceLT, Int.reduceToNat, Nat.reduceAdd, Nat.reduceSub, Nat.reduceMul, reduceCtorEq, TAS, TBS, TCS, bne_self_eq_false, List.length_cons, List.length_nil, Bool.not_true, Bool.not_false, cond_true, cond_false];(repeat (refine And.intro ?_ ?_; focus (clear hK'; intros; simp_all; done)));(try (refine hK' _ _ ?_; clear hK'; clear K')))
      |((with_reducible refine swp_cond ?_ ?_);rfl;refine ⟨_, rfl, fun h => ?_, fun h => ?_⟩ <;> (try (exfalso; exact absurd h (by decide)))))
    refine stop_call h0 rfl (by simp only [UN, LM, Nat.reduceBEq, Nat.reduceLeDiff, Int.reduceLE, Int.reduceLT, Int.reduceToNat, Nat.reduceAdd, Nat.reduceSub, Nat.reduceMul, reduceCtorEq]) rfl (by simp only [keepS, UN, LM, Nat.reduceBEq, Nat.reduceLeDiff, Int.reduceLE, Int.reduceLT, Int.reduceToNat, Nat.reduceAdd, Nat.reduceSub, Nat.reduceMul, reduceCtorEq]) (hO) ?_
    simp only [UN, LM, Nat.reduceBEq, Nat.reduceLeDiff, Int.reduceLE, Int.reduceLT, Int.reduceToNat, Nat.reduceAdd, Nat.reduceSub, Nat.reduceMul, reduceCtorEq, TAS, TBS, TCS, inX, dropS, ]
    (repeat (refine And.intro ?_ ?_; focus (clear hK'; intros; simp_all; done)))
    (try (refine hK' _ _ ?_; clear hK'; clear K'))
    repeat' (first
      |(with_reducible first|refine swp_seq ?_|refine swp_block ?_|refine swp_skip ?_|refine swp_ret ?_|refine swp_exit ?_|refine swp_label ?_|refine kseq_n ?_|refine kseq_x ?_|refine kseq_r ?_|refine kblk_n ?_|refine kblk_r ?_|refine kblk_xs ?_|refine kloop_x ?_|refine kloop_r ?_)
      |((with_reducible refine kblk_xn ?_ ?_);rfl)
      |((with_reducible refine swp_regionP ?_ ?_ (fun K' hK' => ?_));rfl;rfl;simp only [UN, LM, Nat.reduceBEq, Nat.reduceLeDiff, Int.reduceLE, Int.reduceLT, Int.reduceToNat, Nat.reduceAdd, Nat.reduceSub, Nat.reduceMul, reduceCtorEq, TAS, TBS, TCS, g1];(repeat (refine And.intro ?_ ?_; focus (clear hK'; intros; simp_all; done)));(try (refine hK' _ _ ?_; clear hK'; clear K')))
      |((with_reducible refine swp_cond ?_ ?_);rfl;refine ⟨_, rfl, fun h => ?_, fun h => ?_⟩ <;> (try (exfalso; exact absurd h (by decide)))))
    simp only [Kret, retL, retOne, oneV, UN, LM, Nat.reduceBEq, Nat.reduceLeDiff, Int.reduceLE, Int.reduceLT, Int.reduceToNat, Nat.reduceAdd, Nat.reduceSub, Nat.reduceMul, reduceCtorEq, TAS, TBS, TCS]
  have hU := unfold_fn Γ x
  unfold unfA at hU
  rw [if_pos hc] at hU
  have G := ofP_gd hc
  have hB := Back_fn Γ G
  unfold BackA at hB
  have hS := same_fn Γ x (unfP x)
  have hspec := unf_spec hc
  have hu8 : ((unfP x).kd == 8) = false := by simpa using hspec.2
  have hsm : (unfP x).size ≤ 60 → sameP x (unfP x) = true ∧ bErr x (unfP x) = 0 := fun h => by
    obtain ⟨a, b⟩ := unf_same hc h
    have e : bErr x (unfP x) = 0 := bErr_of hc a
    refine ⟨?_, e⟩
    unfold sameP
    rw [if_pos e, b]
    exact eqG_iff.2 rfl
  have hbs := back_same hc
  have hO2 := of_fn Γ (backG (ofP x)).1
  unfold OfFn at hO2
  have hE := equalG_fn Γ (ofP x) (ofP x) (eqG_small G).1 (eqG_small G).2
  rw [eqG_iff.2 rfl] at hE
  rw [hc] at hO
  clear hspec
  generalize hz : backG (ofP x) = z at *
  obtain ⟨z, v⟩ := z
  generalize hA : (ofP x) = A at *
  generalize unfP x = u at *
  generalize sameP x u = sb at *
  generalize bErr x u = be at *
  obtain ⟨k, so, nm, ls, l⟩ := x
  obtain ⟨uk, uso, unm, uls, ul⟩ := u
  simp only [Tp.d, tp0, Tp.ds, List.map_nil, Tp.kd] at hO hU hB hS hO2 hu8 ⊢
  cases v with
  | false =>
    rw [if_neg (by decide)] at hB
    by_cases h60 : 60 < (Tp.mk uk uso unm uls ul).size
    · rw [if_pos h60] at hU
      refine fn_of_swp (N := 81) Tryd.func3 rfl (by decide) rfl rfl (by simp) (fun C h0 => ?_)
      simp only [argE]
      repeat' (first
        |(with_reducible first|refine swp_seq ?_|refine swp_block ?_|refine swp_skip ?_|refine swp_ret ?_|refine swp_exit ?_|refine swp_label ?_|refine kseq_n ?_|refine kseq_x ?_|refine kseq_r ?_|refine kblk_n ?_|refine kblk_r ?_|refine kblk_xs ?_|refine kloop_x ?_|refine kloop_r ?_)
        |((with_reducible refine kblk_xn ?_ ?_);rfl)
        |((with_reducible refine swp_regionP ?_ ?_ (fun K' hK' => ?_));rfl;rfl;simp only [UN, LM, Nat.reduceBEq, Nat.reduceLeDiff, Int.reduceLE, Int.reduceLT, Int.reduceToNat, Nat.reduceAdd, Nat.reduceSub, Nat.reduceMul, reduceCtorEq, TAS, TBS, TCS];(repeat (refine And.intro ?_ ?_; focus (clear hK'; intros; simp_all; done)));(try (refine hK' _ _ ?_; clear hK'; clear K')))
        |((with_reducible refine swp_cond ?_ ?_);rfl;refine ⟨_, rfl, fun h => ?_, fun h => ?_⟩ <;> (try (exfalso; exact absurd h (by decide)))))
      refine stop_call h0 rfl (by simp only [UN, LM, Nat.reduceBEq, Nat.reduceLeDiff, Int.reduceLE, Int.reduceLT, Int.reduceToNat, Nat.reduceAdd, Nat.reduceSub, Nat.reduceMul, reduceCtorEq]) rfl (by simp only [keepS, UN, LM, Nat.reduceBEq, Nat.reduceLeDiff, Int.reduceLE, Int.reduceLT, Int.reduceToNat, Nat.reduceAdd, Nat.reduceSub, Nat.reduceMul, reduceCtorEq]) (hF) ?_
      simp only [UN, LM, Nat.reduceBEq, Nat.reduceLeDiff, Int.reduceLE, Int.reduceLT, Int.reduceToNat, Nat.reduceAdd, Nat.reduceSub, Nat.reduceMul, reduceCtorEq, TAS, TBS, TCS, inX, dropS, ]
      (repeat (refine And.intro ?_ ?_; focus (clear hK'; intros; simp_all; done)))
      (try (refine hK' _ _ ?_; clear hK'; clear K'))
      repeat' (first
        |(with_reducible first|refine swp_seq ?_|refine swp_block ?_|refine swp_skip ?_|refine swp_ret ?_|refine swp_exit ?_|refine swp_label ?_|refine kseq_n ?_|refine kseq_x ?_|refine kseq_r ?_|refine kblk_n ?_|refine kblk_r ?_|refine kblk_xs ?_|refine kloop_x ?_|refine kloop_r ?_)
        |((with_reducible refine kblk_xn ?_ ?_);rfl)
        |((with_reducible refine swp_regionP ?_ ?_ (fun K' hK' => ?_));rfl;rfl;simp only [UN, LM, Nat.reduceBEq, Nat.reduceLeDiff, Int.reduceLE, Int.reduceLT, Int.reduceToNat, Nat.reduceAdd, Nat.reduceSub, Nat.reduceMul, reduceCtorEq, TAS, TBS, TCS, bne_self_eq_false, List.length_cons, List.length_nil, Bool.not_true, Bool.not_false, cond_true, cond_false];(repeat (refine And.intro ?_ ?_; focus (clear hK'; intros; simp_all; done)));(try (refine hK' _ _ ?_; clear hK'; clear K')))
        |((with_reducible refine swp_cond ?_ ?_);rfl;refine ⟨_, rfl, fun h => ?_, fun h => ?_⟩ <;> (try (exfalso; exact absurd h (by decide)))))
      refine stop_call h0 rfl (by simp only [UN, LM, Nat.reduceBEq, Nat.reduceLeDiff, Int.reduceLE, Int.reduceLT, Int.reduceToNat, Nat.reduceAdd, Nat.reduceSub, Nat.reduceMul, reduceCtorEq]) rfl (by simp only [keepS, UN, LM, Nat.reduceBEq, Nat.reduceLeDiff, Int.reduceLE, Int.reduceLT, Int.reduceToNat, Nat.reduceAdd, Nat.reduceSub, Nat.reduceMul, reduceCtorEq]) (hO) ?_
      simp only [UN, LM, Nat.reduceBEq, Nat.reduceLeDiff, Int.reduceLE, Int.reduceLT, Int.reduceToNat, Nat.reduceAdd, Nat.reduceSub, Nat.reduceMul, reduceCtorEq, TAS, TBS, TCS, inX, dropS, ]
      (repeat (refine And.intro ?_ ?_; focus (clear hK'; intros; simp_all; done)))
      (try (refine hK' _ _ ?_; clear hK'; clear K'))
      repeat' (first
        |(with_reducible first|refine swp_seq ?_|refine swp_block ?_|refine swp_skip ?_|refine swp_ret ?_|refine swp_exit ?_|refine swp_label ?_|refine kseq_n ?_|refine kseq_x ?_|refine kseq_r ?_|refine kblk_n ?_|refine kblk_r ?_|refine kblk_xs ?_|refine kloop_x ?_|refine kloop_r ?_)
        |((with_reducible refine kblk_xn ?_ ?_);rfl)
        |((with_reducible refine swp_regionP ?_ ?_ (fun K' hK' => ?_));rfl;rfl;simp only [UN, LM, Nat.reduceBEq, Nat.reduceLeDiff, Int.reduceLE, Int.reduceLT, Int.reduceToNat, Nat.reduceAdd, Nat.reduceSub, Nat.reduceMul, reduceCtorEq, TAS, TBS, TCS, bne_self_eq_false];(repeat (refine And.intro ?_ ?_; focus (clear hK'; intros; simp_all; done)));(try (refine hK' _ _ ?_; clear hK'; clear K')))
        |((with_reducible refine swp_cond ?_ ?_);rfl;refine ⟨_, rfl, fun h => ?_, fun h => ?_⟩ <;> (try (exfalso; exact absurd h (by decide)))))
      refine stop_call h0 rfl (by simp only [UN, LM, Nat.reduceBEq, Nat.reduceLeDiff, Int.reduceLE, Int.reduceLT, Int.reduceToNat, Nat.reduceAdd, Nat.reduceSub, Nat.reduceMul, reduceCtorEq]) rfl (by simp only [keepS, UN, LM, Nat.reduceBEq, Nat.reduceLeDiff, Int.reduceLE, Int.reduceLT, Int.reduceToNat, Nat.reduceAdd, Nat.reduceSub, Nat.reduceMul, reduceCtorEq]) (hU) ?_
      simp only [UN, LM, Nat.reduceBEq, Nat.reduceLeDiff, Int.reduceLE, Int.reduceLT, Int.reduceToNat, Nat.reduceAdd, Nat.reduceSub, Nat.reduceMul, reduceCtorEq, TAS, TBS, TCS, inX, dropS, ]
      (repeat (refine And.intro ?_ ?_; focus (clear hK'; intros; simp_all; done)))
      (try (refine hK' _ _ ?_; clear hK'; clear K'))
      repeat' (first
        |(with_reducible first|refine swp_seq ?_|refine swp_block ?_|refine swp_skip ?_|refine swp_ret ?_|refine swp_exit ?_|refine swp_label ?_|refine kseq_n ?_|refine kseq_x ?_|refine kseq_r ?_|refine kblk_n ?_|refine kblk_r ?_|refine kblk_xs ?_|refine kloop_x ?_|refine kloop_r ?_)
        |((with_reducible refine kblk_xn ?_ ?_);rfl)
        |((with_reducible refine swp_regionP ?_ ?_ (fun K' hK' => ?_));rfl;rfl;simp only [UN, LM, Nat.reduceBEq, Nat.reduceLeDiff, Int.reduceLE, Int.reduceLT, Int.reduceToNat, Nat.reduceAdd, Nat.reduceSub, Nat.reduceMul, reduceCtorEq, TAS, TBS, TCS, bne_self_eq_false];(repeat (refine And.intro ?_ ?_; focus (clear hK'; intros; simp_all; done)));(try (refine hK' _ _ ?_; clear hK'; clear K')))
        |((with_reducible refine swp_cond ?_ ?_);rfl;refine ⟨_, rfl, fun h => ?_, fun h => ?_⟩ <;> (try (exfalso; exact absurd h (by decide)))))
      refine stop_call h0 rfl (by simp only [UN, LM, Nat.reduceBEq, Nat.reduceLeDiff, Int.reduceLE, Int.reduceLT, Int.reduceToNat, Nat.reduceAdd, Nat.reduceSub, Nat.reduceMul, reduceCtorEq]) rfl (by simp only [keepS, UN, LM, Nat.reduceBEq, Nat.reduceLeDiff, Int.reduceLE, Int.reduceLT, Int.reduceToNat, Nat.reduceAdd, Nat.reduceSub, Nat.reduceMul, reduceCtorEq]) (hB) ?_
      simp only [UN, LM, Nat.reduceBEq, Nat.reduceLeDiff, Int.reduceLE, Int.reduceLT, Int.reduceToNat, Nat.reduceAdd, Nat.reduceSub, Nat.reduceMul, reduceCtorEq, TAS, TBS, TCS, inX, dropS, ]
      (repeat (refine And.intro ?_ ?_; focus (clear hK'; intros; simp_all; done)))
      (try (refine hK' _ _ ?_; clear hK'; clear K'))
      repeat' (first
        |(with_reducible first|refine swp_seq ?_|refine swp_block ?_|refine swp_skip ?_|refine swp_ret ?_|refine swp_exit ?_|refine swp_label ?_|refine kseq_n ?_|refine kseq_x ?_|refine kseq_r ?_|refine kblk_n ?_|refine kblk_r ?_|refine kblk_xs ?_|refine kloop_x ?_|refine kloop_r ?_)
        |((with_reducible refine kblk_xn ?_ ?_);rfl)
        |((with_reducible refine swp_regionP ?_ ?_ (fun K' hK' => ?_));rfl;rfl;simp only [UN, LM, Nat.reduceBEq, Nat.reduceLeDiff, Int.reduceLE, Int.reduceLT, Int.reduceToNat, Nat.reduceAdd, Nat.reduceSub, Nat.reduceMul, reduceCtorEq, TAS, TBS, TCS, bne_self_eq_false];(repeat (refine And.intro ?_ ?_; focus (clear hK'; intros; simp_all; done)));(try (refine hK' _ _ ?_; clear hK'; clear K')))
        |((with_reducible refine swp_cond ?_ ?_);rfl;refine ⟨_, rfl, fun h => ?_, fun h => ?_⟩ <;> (try (exfalso; exact absurd h (by decide)))))
      simp only [Kret, retL, retOne, oneV, UN, LM, Nat.reduceBEq, Nat.reduceLeDiff, Int.reduceLE, Int.reduceLT, Int.reduceToNat, Nat.reduceAdd, Nat.reduceSub, Nat.reduceMul, reduceCtorEq, TAS, TBS, TCS]
    · rw [if_neg h60] at hU
      obtain ⟨rfl, rfl⟩ := hsm (by omega)
      refine fn_of_swp (N := 81) Tryd.func3 rfl (by decide) rfl rfl (by simp) (fun C h0 => ?_)
      simp only [argE]
      repeat' (first
        |(with_reducible first|refine swp_seq ?_|refine swp_block ?_|refine swp_skip ?_|refine swp_ret ?_|refine swp_exit ?_|refine swp_label ?_|refine kseq_n ?_|refine kseq_x ?_|refine kseq_r ?_|refine kblk_n ?_|refine kblk_r ?_|refine kblk_xs ?_|refine kloop_x ?_|refine kloop_r ?_)
        |((with_reducible refine kblk_xn ?_ ?_);rfl)
        |((with_reducible refine swp_regionP ?_ ?_ (fun K' hK' => ?_));rfl;rfl;simp only [UN, LM, Nat.reduceBEq, Nat.reduceLeDiff, Int.reduceLE, Int.reduceLT, Int.reduceToNat, Nat.reduceAdd, Nat.reduceSub, Nat.reduceMul, reduceCtorEq, TAS, TBS, TCS];(repeat (refine And.intro ?_ ?_; focus (clear hK'; intros; simp_all; done)));(try (refine hK' _ _ ?_; clear hK'; clear K')))
        |((with_reducible refine swp_cond ?_ ?_);rfl;refine ⟨_, rfl, fun h => ?_, fun h => ?_⟩ <;> (try (exfalso; exact absurd h (by decide)))))
      refine stop_call h0 rfl (by simp only [UN, LM, Nat.reduceBEq, Nat.reduceLeDiff, Int.reduceLE, Int.reduceLT, Int.reduceToNat, Nat.reduceAdd, Nat.reduceSub, Nat.reduceMul, reduceCtorEq]) rfl (by simp only [keepS, UN, LM, Nat.reduceBEq, Nat.reduceLeDiff, Int.reduceLE, Int.reduceLT, Int.reduceToNat, Nat.reduceAdd, Nat.reduceSub, Nat.reduceMul, reduceCtorEq]) (hF) ?_
      simp only [UN, LM, Nat.reduceBEq, Nat.reduceLeDiff, Int.reduceLE, Int.reduceLT, Int.reduceToNat, Nat.reduceAdd, Nat.reduceSub, Nat.reduceMul, reduceCtorEq, TAS, TBS, TCS, inX, dropS, ]
      (repeat (refine And.intro ?_ ?_; focus (clear hK'; intros; simp_all; done)))
      (try (refine hK' _ _ ?_; clear hK'; clear K'))
      repeat' (first
        |(with_reducible first|refine swp_seq ?_|refine swp_block ?_|refine swp_skip ?_|refine swp_ret ?_|refine swp_exit ?_|refine swp_label ?_|refine kseq_n ?_|refine kseq_x ?_|refine kseq_r ?_|refine kblk_n ?_|refine kblk_r ?_|refine kblk_xs ?_|refine kloop_x ?_|refine kloop_r ?_)
        |((with_reducible refine kblk_xn ?_ ?_);rfl)
        |((with_reducible refine swp_regionP ?_ ?_ (fun K' hK' => ?_));rfl;rfl;simp only [UN, LM, Nat.reduceBEq, Nat.reduceLeDiff, Int.reduceLE, Int.reduceLT, Int.reduceToNat, Nat.reduceAdd, Nat.reduceSub, Nat.reduceMul, reduceCtorEq, TAS, TBS, TCS, bne_self_eq_false, List.length_cons, List.length_nil, Bool.not_true, Bool.not_false, cond_true, cond_false];(repeat (refine And.intro ?_ ?_; focus (clear hK'; intros; simp_all; done)));(try (refine hK' _ _ ?_; clear hK'; clear K')))
        |((with_reducible refine swp_cond ?_ ?_);rfl;refine ⟨_, rfl, fun h => ?_, fun h => ?_⟩ <;> (try (exfalso; exact absurd h (by decide)))))
      refine stop_call h0 rfl (by simp only [UN, LM, Nat.reduceBEq, Nat.reduceLeDiff, Int.reduceLE, Int.reduceLT, Int.reduceToNat, Nat.reduceAdd, Nat.reduceSub, Nat.reduceMul, reduceCtorEq]) rfl (by simp only [keepS, UN, LM, Nat.reduceBEq, Nat.reduceLeDiff, Int.reduceLE, Int.reduceLT, Int.reduceToNat, Nat.reduceAdd, Nat.reduceSub, Nat.reduceMul, reduceCtorEq]) (hO) ?_
      simp only [UN, LM, Nat.reduceBEq, Nat.reduceLeDiff, Int.reduceLE, Int.reduceLT, Int.reduceToNat, Nat.reduceAdd, Nat.reduceSub, Nat.reduceMul, reduceCtorEq, TAS, TBS, TCS, inX, dropS, ]
      (repeat (refine And.intro ?_ ?_; focus (clear hK'; intros; simp_all; done)))
      (try (refine hK' _ _ ?_; clear hK'; clear K'))
      repeat' (first
        |(with_reducible first|refine swp_seq ?_|refine swp_block ?_|refine swp_skip ?_|refine swp_ret ?_|refine swp_exit ?_|refine swp_label ?_|refine kseq_n ?_|refine kseq_x ?_|refine kseq_r ?_|refine kblk_n ?_|refine kblk_r ?_|refine kblk_xs ?_|refine kloop_x ?_|refine kloop_r ?_)
        |((with_reducible refine kblk_xn ?_ ?_);rfl)
        |((with_reducible refine swp_regionP ?_ ?_ (fun K' hK' => ?_));rfl;rfl;simp only [UN, LM, Nat.reduceBEq, Nat.reduceLeDiff, Int.reduceLE, Int.reduceLT, Int.reduceToNat, Nat.reduceAdd, Nat.reduceSub, Nat.reduceMul, reduceCtorEq, TAS, TBS, TCS, bne_self_eq_false];(repeat (refine And.intro ?_ ?_; focus (clear hK'; intros; simp_all; done)));(try (refine hK' _ _ ?_; clear hK'; clear K')))
        |((with_reducible refine swp_cond ?_ ?_);rfl;refine ⟨_, rfl, fun h => ?_, fun h => ?_⟩ <;> (try (exfalso; exact absurd h (by decide)))))
      refine stop_call h0 rfl (by simp only [UN, LM, Nat.reduceBEq, Nat.reduceLeDiff, Int.reduceLE, Int.reduceLT, Int.reduceToNat, Nat.reduceAdd, Nat.reduceSub, Nat.reduceMul, reduceCtorEq]) rfl (by simp only [keepS, UN, LM, Nat.reduceBEq, Nat.reduceLeDiff, Int.reduceLE, Int.reduceLT, Int.reduceToNat, Nat.reduceAdd, Nat.reduceSub, Nat.reduceMul, reduceCtorEq]) (hU) ?_
      simp only [UN, LM, Nat.reduceBEq, Nat.reduceLeDiff, Int.reduceLE, Int.reduceLT, Int.reduceToNat, Nat.reduceAdd, Nat.reduceSub, Nat.reduceMul, reduceCtorEq, TAS, TBS, TCS, inX, dropS, ]
      (repeat (refine And.intro ?_ ?_; focus (clear hK'; intros; simp_all; done)))
      (try (refine hK' _ _ ?_; clear hK'; clear K'))
      repeat' (first
        |(with_reducible first|refine swp_seq ?_|refine swp_block ?_|refine swp_skip ?_|refine swp_ret ?_|refine swp_exit ?_|refine swp_label ?_|refine kseq_n ?_|refine kseq_x ?_|refine kseq_r ?_|refine kblk_n ?_|refine kblk_r ?_|refine kblk_xs ?_|refine kloop_x ?_|refine kloop_r ?_)
        |((with_reducible refine kblk_xn ?_ ?_);rfl)
        |((with_reducible refine swp_regionP ?_ ?_ (fun K' hK' => ?_));rfl;rfl;simp only [UN, LM, Nat.reduceBEq, Nat.reduceLeDiff, Int.reduceLE, Int.reduceLT, Int.reduceToNat, Nat.reduceAdd, Nat.reduceSub, Nat.reduceMul, reduceCtorEq, TAS, TBS, TCS, bne_self_eq_false];(repeat (refine And.intro ?_ ?_; focus (clear hK'; intros; simp_all; done)));(try (refine hK' _ _ ?_; clear hK'; clear K')))
        |((with_reducible refine swp_cond ?_ ?_);rfl;refine ⟨_, rfl, fun h => ?_, fun h => ?_⟩ <;> (try (exfalso; exact absurd h (by decide)))))
      refine stop_call h0 rfl (by simp only [UN, LM, Nat.reduceBEq, Nat.reduceLeDiff, Int.reduceLE, Int.reduceLT, Int.reduceToNat, Nat.reduceAdd, Nat.reduceSub, Nat.reduceMul, reduceCtorEq]) rfl (by simp only [keepS, UN, LM, Nat.reduceBEq, Nat.reduceLeDiff, Int.reduceLE, Int.reduceLT, Int.reduceToNat, Nat.reduceAdd, Nat.reduceSub, Nat.reduceMul, reduceCtorEq]) (hS) ?_
      simp only [UN, LM, Nat.reduceBEq, Nat.reduceLeDiff, Int.reduceLE, Int.reduceLT, Int.reduceToNat, Nat.reduceAdd, Nat.reduceSub, Nat.reduceMul, reduceCtorEq, TAS, TBS, TCS, inX, dropS, ]
      (repeat (refine And.intro ?_ ?_; focus (clear hK'; intros; simp_all; done)))
      (try (refine hK' _ _ ?_; clear hK'; clear K'))
      repeat' (first
        |(with_reducible first|refine swp_seq ?_|refine swp_block ?_|refine swp_skip ?_|refine swp_ret ?_|refine swp_exit ?_|refine swp_label ?_|refine kseq_n ?_|refine kseq_x ?_|refine kseq_r ?_|refine kblk_n ?_|refine kblk_r ?_|refine kblk_xs ?_|refine kloop_x ?_|refine kloop_r ?_)
        |((with_reducible refine kblk_xn ?_ ?_);rfl)
        |((with_reducible refine swp_regionP ?_ ?_ (fun K' hK' => ?_));rfl;rfl;simp only [UN, LM, Nat.reduceBEq, Nat.reduceLeDiff, Int.reduceLE, Int.reduceLT, Int.reduceToNat, Nat.reduceAdd, Nat.reduceSub, Nat.reduceMul, reduceCtorEq, TAS, TBS, TCS, bne_self_eq_false, hu8, Bool.not_true, Bool.not_false, cond_true, cond_false];(repeat (refine And.intro ?_ ?_; focus (clear hK'; intros; simp_all; done)));(try (refine hK' _ _ ?_; clear hK'; clear K')))
        |((with_reducible refine swp_cond ?_ ?_);rfl;refine ⟨_, rfl, fun h => ?_, fun h => ?_⟩ <;> (try (exfalso; exact absurd h (by decide)))))
      refine stop_call h0 rfl (by simp only [UN, LM, Nat.reduceBEq, Nat.reduceLeDiff, Int.reduceLE, Int.reduceLT, Int.reduceToNat, Nat.reduceAdd, Nat.reduceSub, Nat.reduceMul, reduceCtorEq]) rfl (by simp only [keepS, UN, LM, Nat.reduceBEq, Nat.reduceLeDiff, Int.reduceLE, Int.reduceLT, Int.reduceToNat, Nat.reduceAdd, Nat.reduceSub, Nat.reduceMul, reduceCtorEq]) (hB) ?_
      simp only [UN, LM, Nat.reduceBEq, Nat.reduceLeDiff, Int.reduceLE, Int.reduceLT, Int.reduceToNat, Nat.reduceAdd, Nat.reduceSub, Nat.reduceMul, reduceCtorEq, TAS, TBS, TCS, inX, dropS, ]
      (repeat (refine And.intro ?_ ?_; focus (clear hK'; intros; simp_all; done)))
      (try (refine hK' _ _ ?_; clear hK'; clear K'))
      repeat' (first
        |(with_reducible first|refine swp_seq ?_|refine swp_block ?_|refine swp_skip ?_|refine swp_ret ?_|refine swp_exit ?_|refine swp_label ?_|refine kseq_n ?_|refine kseq_x ?_|refine kseq_r ?_|refine kblk_n ?_|refine kblk_r ?_|refine kblk_xs ?_|refine kloop_x ?_|refine kloop_r ?_)
        |((with_reducible refine kblk_xn ?_ ?_);rfl)
        |((with_reducible refine swp_regionP ?_ ?_ (fun K' hK' => ?_));rfl;rfl;simp only [UN, LM, Nat.reduceBEq, Nat.reduceLeDiff, Int.reduceLE, Int.reduceLT, Int.reduceToNat, Nat.reduceAdd, Nat.reduceSub, Nat.reduceMul, reduceCtorEq, TAS, TBS, TCS, bne_self_eq_false];(repeat (refine And.intro ?_ ?_; focus (clear hK'; intros; simp_all; done)));(try (refine hK' _ _ ?_; clear hK'; clear K')))
        |((with_reducible refine swp_cond ?_ ?_);rfl;refine ⟨_, rfl, fun h => ?_, fun h => ?_⟩ <;> (try (exfalso; exact absurd h (by decide)))))
      simp only [Kret, retL, retOne, oneV, UN, LM, Nat.reduceBEq, Nat.reduceLeDiff, Int.reduceLE, Int.reduceLT, Int.reduceToNat, Nat.reduceAdd, Nat.reduceSub, Nat.reduceMul, reduceCtorEq, TAS, TBS, TCS]
  | true =>
    rw [if_pos rfl] at hB
    obtain ⟨e1, e2⟩ := hbs rfl
    rw [e1, e2] at hO2
    obtain ⟨zk, zso, znm, zls, zl⟩ := z
    simp only [Tp.d] at hB hO2
    by_cases h60 : 60 < (Tp.mk uk uso unm uls ul).size
    · rw [if_pos h60] at hU
      refine fn_of_swp (N := 81) Tryd.func3 rfl (by decide) rfl rfl (by simp) (fun C h0 => ?_)
      simp only [argE]
      repeat' (first
        |(with_reducible first|refine swp_seq ?_|refine swp_block ?_|refine swp_skip ?_|refine swp_ret ?_|refine swp_exit ?_|refine swp_label ?_|refine kseq_n ?_|refine kseq_x ?_|refine kseq_r ?_|refine kblk_n ?_|refine kblk_r ?_|refine kblk_xs ?_|refine kloop_x ?_|refine kloop_r ?_)
        |((with_reducible refine kblk_xn ?_ ?_);rfl)
        |((with_reducible refine swp_regionP ?_ ?_ (fun K' hK' => ?_));rfl;rfl;simp only [UN, LM, Nat.reduceBEq, Nat.reduceLeDiff, Int.reduceLE, Int.reduceLT, Int.reduceToNat, Nat.reduceAdd, Nat.reduceSub, Nat.reduceMul, reduceCtorEq, TAS, TBS, TCS];(repeat (refine And.intro ?_ ?_; focus (clear hK'; intros; simp_all; done)));(try (refine hK' _ _ ?_; clear hK'; clear K')))
        |((with_reducible refine swp_cond ?_ ?_);rfl;refine ⟨_, rfl, fun h => ?_, fun h => ?_⟩ <;> (try (exfalso; exact absurd h (by decide)))))
      refine stop_call h0 rfl (by simp only [UN, LM, Nat.reduceBEq, Nat.reduceLeDiff, Int.reduceLE, Int.reduceLT, Int.reduceToNat, Nat.reduceAdd, Nat.reduceSub, Nat.reduceMul, reduceCtorEq]) rfl (by simp only [keepS, UN, LM, Nat.reduceBEq, Nat.reduceLeDiff, Int.reduceLE, Int.reduceLT, Int.reduceToNat, Nat.reduceAdd, Nat.reduceSub, Nat.reduceMul, reduceCtorEq]) (hF) ?_
      simp only [UN, LM, Nat.reduceBEq, Nat.reduceLeDiff, Int.reduceLE, Int.reduceLT, Int.reduceToNat, Nat.reduceAdd, Nat.reduceSub, Nat.reduceMul, reduceCtorEq, TAS, TBS, TCS, inX, dropS, ]
      (repeat (refine And.intro ?_ ?_; focus (clear hK'; intros; simp_all; done)))
      (try (refine hK' _ _ ?_; clear hK'; clear K'))
      repeat' (first
        |(with_reducible first|refine swp_seq ?_|refine swp_block ?_|refine swp_skip ?_|refine swp_ret ?_|refine swp_exit ?_|refine swp_label ?_|refine kseq_n ?_|refine kseq_x ?_|refine kseq_r ?_|refine kblk_n ?_|refine kblk_r ?_|refine kblk_xs ?_|refine kloop_x ?_|refine kloop_r ?_)
        |((with_reducible refine kblk_xn ?_ ?_);rfl)
        |((with_reducible refine swp_regionP ?_ ?_ (fun K' hK' => ?_));rfl;rfl;simp only [UN, LM, Nat.reduceBEq, Nat.reduceLeDiff, Int.reduceLE, Int.reduceLT, Int.reduceToNat, Nat.reduceAdd, Nat.reduceSub, Nat.reduceMul, reduceCtorEq, TAS, TBS, TCS, bne_self_eq_false, List.length_cons, List.length_nil, Bool.not_true, Bool.not_false, cond_true, cond_false];(repeat (refine And.intro ?_ ?_; focus (clear hK'; intros; simp_all; done)));(try (refine hK' _ _ ?_; clear hK'; clear K')))
        |((with_reducible refine swp_cond ?_ ?_);rfl;refine ⟨_, rfl, fun h => ?_, fun h => ?_⟩ <;> (try (exfalso; exact absurd h (by decide)))))
      refine stop_call h0 rfl (by simp only [UN, LM, Nat.reduceBEq, Nat.reduceLeDiff, Int.reduceLE, Int.reduceLT, Int.reduceToNat, Nat.reduceAdd, Nat.reduceSub, Nat.reduceMul, reduceCtorEq]) rfl (by simp only [keepS, UN, LM, Nat.reduceBEq, Nat.reduceLeDiff, Int.reduceLE, Int.reduceLT, Int.reduceToNat, Nat.reduceAdd, Nat.reduceSub, Nat.reduceMul, reduceCtorEq]) (hO) ?_
      simp only [UN, LM, Nat.reduceBEq, Nat.reduceLeDiff, Int.reduceLE, Int.reduceLT, Int.reduceToNat, Nat.reduceAdd, Nat.reduceSub, Nat.reduceMul, reduceCtorEq, TAS, TBS, TCS, inX, dropS, ]
      (repeat (refine And.intro ?_ ?_; focus (clear hK'; intros; simp_all; done)))
      (try (refine hK' _ _ ?_; clear hK'; clear K'))
      repeat' (first
        |(with_reducible first|refine swp_seq ?_|refine swp_block ?_|refine swp_skip ?_|refine swp_ret ?_|refine swp_exit ?_|refine swp_label ?_|refine kseq_n ?_|refine kseq_x ?_|refine kseq_r ?_|refine kblk_n ?_|refine kblk_r ?_|refine kblk_xs ?_|refine kloop_x ?_|refine kloop_r ?_)
        |((with_reducible refine kblk_xn ?_ ?_);rfl)
        |((with_reducible refine swp_regionP ?_ ?_ (fun K' hK' => ?_));rfl;rfl;simp only [UN, LM, Nat.reduceBEq, Nat.reduceLeDiff, Int.reduceLE, Int.reduceLT, Int.reduceToNat, Nat.reduceAdd, Nat.reduceSub, Nat.reduceMul, reduceCtorEq, TAS, TBS, TCS, bne_self_eq_false];(repeat (refine And.intro ?_ ?_; focus (clear hK'; intros; simp_all; done)));(try (refine hK' _ _ ?_; clear hK'; clear K')))
        |((with_reducible refine swp_cond ?_ ?_);rfl;refine ⟨_, rfl, fun h => ?_, fun h => ?_⟩ <;> (try (exfalso; exact absurd h (by decide)))))
      refine stop_call h0 rfl (by simp only [UN, LM, Nat.reduceBEq, Nat.reduceLeDiff, Int.reduceLE, Int.reduceLT, Int.reduceToNat, Nat.reduceAdd, Nat.reduceSub, Nat.reduceMul, reduceCtorEq]) rfl (by simp only [keepS, UN, LM, Nat.reduceBEq, Nat.reduceLeDiff, Int.reduceLE, Int.reduceLT, Int.reduceToNat, Nat.reduceAdd, Nat.reduceSub, Nat.reduceMul, reduceCtorEq]) (hU) ?_
      simp only [UN, LM, Nat.reduceBEq, Nat.reduceLeDiff, Int.reduceLE, Int.reduceLT, Int.reduceToNat, Nat.reduceAdd, Nat.reduceSub, Nat.reduceMul, reduceCtorEq, TAS, TBS, TCS, inX, dropS, ]
      (repeat (refine And.intro ?_ ?_; focus (clear hK'; intros; simp_all; done)))
      (try (refine hK' _ _ ?_; clear hK'; clear K'))
      repeat' (first
        |(with_reducible first|refine swp_seq ?_|refine swp_block ?_|refine swp_skip ?_|refine swp_ret ?_|refine swp_exit ?_|refine swp_label ?_|refine kseq_n ?_|refine kseq_x ?_|refine kseq_r ?_|refine kblk_n ?_|refine kblk_r ?_|refine kblk_xs ?_|refine kloop_x ?_|refine kloop_r ?_)
        |((with_reducible refine kblk_xn ?_ ?_);rfl)
        |((with_reducible refine swp_regionP ?_ ?_ (fun K' hK' => ?_));rfl;rfl;simp only [UN, LM, Nat.reduceBEq, Nat.reduceLeDiff, Int.reduceLE, Int.reduceLT, Int.reduceToNat, Nat.reduceAdd, Nat.reduceSub, Nat.reduceMul, reduceCtorEq, TAS, TBS, TCS, bne_self_eq_false];(repeat (refine And.intro ?_ ?_; focus (clear hK'; intros; simp_all; done)));(try (refine hK' _ _ ?_; clear hK'; clear K')))
        |((with_reducible refine swp_cond ?_ ?_);rfl;refine ⟨_, rfl, fun h => ?_, fun h => ?_⟩ <;> (try (exfalso; exact absurd h (by decide)))))
      refine stop_call h0 rfl (by simp only [UN, LM, Nat.reduceBEq, Nat.reduceLeDiff, Int.reduceLE, Int.reduceLT, Int.reduceToNat, Nat.reduceAdd, Nat.reduceSub, Nat.reduceMul, reduceCtorEq]) rfl (by simp only [keepS, UN, LM, Nat.reduceBEq, Nat.reduceLeDiff, Int.reduceLE, Int.reduceLT, Int.reduceToNat, Nat.reduceAdd, Nat.reduceSub, Nat.reduceMul, reduceCtorEq]) (hB) ?_
      simp only [UN, LM, Nat.reduceBEq, Nat.reduceLeDiff, Int.reduceLE, Int.reduceLT, Int.reduceToNat, Nat.reduceAdd, Nat.reduceSub, Nat.reduceMul, reduceCtorEq, TAS, TBS, TCS, inX, dropS, ]
      (repeat (refine And.intro ?_ ?_; focus (clear hK'; intros; simp_all; done)))
      (try (refine hK' _ _ ?_; clear hK'; clear K'))
      repeat' (first
        |(with_reducible first|refine swp_seq ?_|refine swp_block ?_|refine swp_skip ?_|refine swp_ret ?_|refine swp_exit ?_|refine swp_label ?_|refine kseq_n ?_|refine kseq_x ?_|refine kseq_r ?_|refine kblk_n ?_|refine kblk_r ?_|refine kblk_xs ?_|refine kloop_x ?_|refine kloop_r ?_)
        |((with_reducible refine kblk_xn ?_ ?_);rfl)
        |((with_reducible refine swp_regionP ?_ ?_ (fun K' hK' => ?_));rfl;rfl;simp only [UN, LM, Nat.reduceBEq, Nat.reduceLeDiff, Int.reduceLE, Int.reduceLT, Int.reduceToNat, Nat.reduceAdd, Nat.reduceSub, Nat.reduceMul, reduceCtorEq, TAS, TBS, TCS, bne_self_eq_false];(repeat (refine And.intro ?_ ?_; focus (clear hK'; intros; simp_all; done)));(try (refine hK' _ _ ?_; clear hK'; clear K')))
        |((with_reducible refine swp_cond ?_ ?_);rfl;refine ⟨_, rfl, fun h => ?_, fun h => ?_⟩ <;> (try (exfalso; exact absurd h (by decide)))))
      refine stop_call h0 rfl (by simp only [UN, LM, Nat.reduceBEq, Nat.reduceLeDiff, Int.reduceLE, Int.reduceLT, Int.reduceToNat, Nat.reduceAdd, Nat.reduceSub, Nat.reduceMul, reduceCtorEq]) rfl (by simp only [keepS, UN, LM, Nat.reduceBEq, Nat.reduceLeDiff, Int.reduceLE, Int.reduceLT, Int.reduceToNat, Nat.reduceAdd, Nat.reduceSub, Nat.reduceMul, reduceCtorEq]) (hO2) ?_
      simp only [UN, LM, Nat.reduceBEq, Nat.reduceLeDiff, Int.reduceLE, Int.reduceLT, Int.reduceToNat, Nat.reduceAdd, Nat.reduceSub, Nat.reduceMul, reduceCtorEq, TAS, TBS, TCS, inX, dropS, ]
      (repeat (refine And.intro ?_ ?_; focus (clear hK'; intros; simp_all; done)))
      (try (refine hK' _ _ ?_; clear hK'; clear K'))
      repeat' (first
        |(with_reducible first|refine swp_seq ?_|refine swp_block ?_|refine swp_skip ?_|refine swp_ret ?_|refine swp_exit ?_|refine swp_label ?_|refine kseq_n ?_|refine kseq_x ?_|refine kseq_r ?_|refine kblk_n ?_|refine kblk_r ?_|refine kblk_xs ?_|refine kloop_x ?_|refine kloop_r ?_)
        |((with_reducible refine kblk_xn ?_ ?_);rfl)
        |((with_reducible refine swp_regionP ?_ ?_ (fun K' hK' => ?_));rfl;rfl;simp only [UN, LM, Nat.reduceBEq, Nat.reduceLeDiff, Int.reduceLE, Int.reduceLT, Int.reduceToNat, Nat.reduceAdd, Nat.reduceSub, Nat.reduceMul, reduceCtorEq, TAS, TBS, TCS, beq_self_eq_true];(repeat (refine And.intro ?_ ?_; focus (clear hK'; intros; simp_all; done)));(try (refine hK' _ _ ?_; clear hK'; clear K')))
        |((with_reducible refine swp_cond ?_ ?_);rfl;refine ⟨_, rfl, fun h => ?_, fun h => ?_⟩ <;> (try (exfalso; exact absurd h (by decide)))))
      (with_reducible refine swp_regionA ?_ ( [(5, bD true)]) (fun K' hK' => ?_)
       · rfl
       simp only [UN, LM, Nat.reduceBEq, Nat.reduceLeDiff, Int.reduceLE, Int.reduceLT, Int.reduceToNat, Nat.reduceAdd, Nat.reduceSub, Nat.reduceMul, reduceCtorEq, TAS, TBS, TCS, vcA, stepA, callA, rst, lksA, Oper.looksAt, Op.operands, pureOp, Call.operands, List.filterMap_cons, List.filterMap_nil, Option.toList_none, Option.toList_some, Option.bind_some, Option.bind_none, List.getElem?_toArray, Array.toList_append, List.append_nil, D.flat, D.flats, true_or, or_true, forall_const, beq_self_eq_true, hE, Bool.not_true, Bool.not_false, cond_true, cond_false ]
       (repeat (refine And.intro ?_ ?_; focus (clear hK'; intros; simp_all; done)))
       (try (refine hK' _ _ ?_; clear hK'; clear K')))
      repeat' (first
        |(with_reducible first|refine swp_seq ?_|refine swp_block ?_|refine swp_skip ?_|refine swp_ret ?_|refine swp_exit ?_|refine swp_label ?_|refine kseq_n ?_|refine kseq_x ?_|refine kseq_r ?_|refine kblk_n ?_|refine kblk_r ?_|refine kblk_xs ?_|refine kloop_x ?_|refine kloop_r ?_)
        |((with_reducible refine kblk_xn ?_ ?_);rfl)
        |((with_reducible refine swp_regionP ?_ ?_ (fun K' hK' => ?_));rfl;rfl;simp only [UN, LM, Nat.reduceBEq, Nat.reduceLeDiff, Int.reduceLE, Int.reduceLT, Int.reduceToNat, Nat.reduceAdd, Nat.reduceSub, Nat.reduceMul, reduceCtorEq, TAS, TBS, TCS];(repeat (refine And.intro ?_ ?_; focus (clear hK'; intros; simp_all; done)));(try (refine hK' _ _ ?_; clear hK'; clear K')))
        |((with_reducible refine swp_cond ?_ ?_);rfl;refine ⟨_, rfl, fun h => ?_, fun h => ?_⟩ <;> (try (exfalso; exact absurd h (by decide)))))
      simp only [Kret, retL, retOne, oneV, UN, LM, Nat.reduceBEq, Nat.reduceLeDiff, Int.reduceLE, Int.reduceLT, Int.reduceToNat, Nat.reduceAdd, Nat.reduceSub, Nat.reduceMul, reduceCtorEq, TAS, TBS, TCS]
    · rw [if_neg h60] at hU
      obtain ⟨rfl, rfl⟩ := hsm (by omega)
      refine fn_of_swp (N := 81) Tryd.func3 rfl (by decide) rfl rfl (by simp) (fun C h0 => ?_)
      simp only [argE]
      repeat' (first
        |(with_reducible first|refine swp_seq ?_|refine swp_block ?_|refine swp_skip ?_|refine swp_ret ?_|refine swp_exit ?_|refine swp_label ?_|refine kseq_n ?_|refine kseq_x ?_|refine kseq_r ?_|refine kblk_n ?_|refine kblk_r ?_|refine kblk_xs ?_|refine kloop_x ?_|refine kloop_r ?_)
        |((with_reducible refine kblk_xn ?_ ?_);rfl)
        |((with_reducible refine swp_regionP ?_ ?_ (fun K' hK' => ?_));rfl;rfl;simp only [UN, LM, Nat.reduceBEq, Nat.reduceLeDiff, Int.reduceLE, Int.reduceLT, Int.reduceToNat, Nat.reduceAdd, Nat.reduceSub, Nat.reduceMul, reduceCtorEq, TAS, TBS, TCS];(repeat (refine And.intro ?_ ?_; focus (clear hK'; intros; simp_all; done)));(try (refine hK' _ _ ?_; clear hK'; clear K')))
        |((with_reducible refine swp_cond ?_ ?_);rfl;refine ⟨_, rfl, fun h => ?_, fun h => ?_⟩ <;> (try (exfalso; exact absurd h (by decide)))))
      refine stop_call h0 rfl (by simp only [UN, LM, Nat.reduceBEq, Nat.reduceLeDiff, Int.reduceLE, Int.reduceLT, Int.reduceToNat, Nat.reduceAdd, Nat.reduceSub, Nat.reduceMul, reduceCtorEq]) rfl (by simp only [keepS, UN, LM, Nat.reduceBEq, Nat.reduceLeDiff, Int.reduceLE, Int.reduceLT, Int.reduceToNat, Nat.reduceAdd, Nat.reduceSub, Nat.reduceMul, reduceCtorEq]) (hF) ?_
      simp only [UN, LM, Nat.reduceBEq, Nat.reduceLeDiff, Int.reduceLE, Int.reduceLT, Int.reduceToNat, Nat.reduceAdd, Nat.reduceSub, Nat.reduceMul, reduceCtorEq, TAS, TBS, TCS, inX, dropS, ]
      (repeat (refine And.intro ?_ ?_; focus (clear hK'; intros; simp_all; done)))
      (try (refine hK' _ _ ?_; clear hK'; clear K'))
      repeat' (first
        |(with_reducible first|refine swp_seq ?_|refine swp_block ?_|refine swp_skip ?_|refine swp_ret ?_|refine swp_exit ?_|refine swp_label ?_|refine kseq_n ?_|refine kseq_x ?_|refine kseq_r ?_|refine kblk_n ?_|refine kblk_r ?_|refine kblk_xs ?_|refine kloop_x ?_|refine kloop_r ?_)
        |((with_reducible refine kblk_xn ?_ ?_);rfl)
        |((with_reducible refine swp_regionP ?_ ?_ (fun K' hK' => ?_));rfl;rfl;simp only [UN, LM, Nat.reduceBEq, Nat.reduceLeDiff, Int.reduceLE, Int.reduceLT, Int.reduceToNat, Nat.reduceAdd, Nat.reduceSub, Nat.reduceMul, reduceCtorEq, TAS, TBS, TCS, bne_self_eq_false, List.length_cons, List.length_nil, Bool.not_true, Bool.not_false, cond_true, cond_false];(repeat (refine And.intro ?_ ?_; focus (clear hK'; intros; simp_all; done)));(try (refine hK' _ _ ?_; clear hK'; clear K')))
        |((with_reducible refine swp_cond ?_ ?_);rfl;refine ⟨_, rfl, fun h => ?_, fun h => ?_⟩ <;> (try (exfalso; exact absurd h (by decide)))))
      refine stop_call h0 rfl (by simp only [UN, LM, Nat.reduceBEq, Nat.reduceLeDiff, Int.reduceLE, Int.reduceLT, Int.reduceToNat, Nat.reduceAdd, Nat.reduceSub, Nat.reduceMul, reduceCtorEq]) rfl (by simp only [keepS, UN, LM, Nat.reduceBEq, Nat.reduceLeDiff, Int.reduceLE, Int.reduceLT, Int.reduceToNat, Nat.reduceAdd, Nat.reduceSub, Nat.reduceMul, reduceCtorEq]) (hO) ?_
      simp only [UN, LM, Nat.reduceBEq, Nat.reduceLeDiff, Int.reduceLE, Int.reduceLT, Int.reduceToNat, Nat.reduceAdd, Nat.reduceSub, Nat.reduceMul, reduceCtorEq, TAS, TBS, TCS, inX, dropS, ]
      (repeat (refine And.intro ?_ ?_; focus (clear hK'; intros; simp_all; done)))
      (try (refine hK' _ _ ?_; clear hK'; clear K'))
      repeat' (first
        |(with_reducible first|refine swp_seq ?_|refine swp_block ?_|refine swp_skip ?_|refine swp_ret ?_|refine swp_exit ?_|refine swp_label ?_|refine kseq_n ?_|refine kseq_x ?_|refine kseq_r ?_|refine kblk_n ?_|refine kblk_r ?_|refine kblk_xs ?_|refine kloop_x ?_|refine kloop_r ?_)
        |((with_reducible refine kblk_xn ?_ ?_);rfl)
        |((with_reducible refine swp_regionP ?_ ?_ (fun K' hK' => ?_));rfl;rfl;simp only [UN, LM, Nat.reduceBEq, Nat.reduceLeDiff, Int.reduceLE, Int.reduceLT, Int.reduceToNat, Nat.reduceAdd, Nat.reduceSub, Nat.reduceMul, reduceCtorEq, TAS, TBS, TCS, bne_self_eq_false];(repeat (refine And.intro ?_ ?_; focus (clear hK'; intros; simp_all; done)));(try (refine hK' _ _ ?_; clear hK'; clear K')))
        |((with_reducible refine swp_cond ?_ ?_);rfl;refine ⟨_, rfl, fun h => ?_, fun h => ?_⟩ <;> (try (exfalso; exact absurd h (by decide)))))
      refine stop_call h0 rfl (by simp only [UN, LM, Nat.reduceBEq, Nat.reduceLeDiff, Int.reduceLE, Int.reduceLT, Int.reduceToNat, Nat.reduceAdd, Nat.reduceSub, Nat.reduceMul, reduceCtorEq]) rfl (by simp only [keepS, UN, LM, Nat.reduceBEq, Nat.reduceLeDiff, Int.reduceLE, Int.reduceLT, Int.reduceToNat, Nat.reduceAdd, Nat.reduceSub, Nat.reduceMul, reduceCtorEq]) (hU) ?_
      simp only [UN, LM, Nat.reduceBEq, Nat.reduceLeDiff, Int.reduceLE, Int.reduceLT, Int.reduceToNat, Nat.reduceAdd, Nat.reduceSub, Nat.reduceMul, reduceCtorEq, TAS, TBS, TCS, inX, dropS, ]
      (repeat (refine And.intro ?_ ?_; focus (clear hK'; intros; simp_all; done)))
      (try (refine hK' _ _ ?_; clear hK'; clear K'))
      repeat' (first
        |(with_reducible first|refine swp_seq ?_|refine swp_block ?_|refine swp_skip ?_|refine swp_ret ?_|refine swp_exit ?_|refine swp_label ?_|refine kseq_n ?_|refine kseq_x ?_|refine kseq_r ?_|refine kblk_n ?_|refine kblk_r ?_|refine kblk_xs ?_|refine kloop_x ?_|refine kloop_r ?_)
        |((with_reducible refine kblk_xn ?_ ?_);rfl)
        |((with_reducible refine swp_regionP ?_ ?_ (fun K' hK' => ?_));rfl;rfl;simp only [UN, LM, Nat.reduceBEq, Nat.reduceLeDiff, Int.reduceLE, Int.reduceLT, Int.reduceToNat, Nat.reduceAdd, Nat.reduceSub, Nat.reduceMul, reduceCtorEq, TAS, TBS, TCS, bne_self_eq_false];(repeat (refine And.intro ?_ ?_; focus (clear hK'; intros; simp_all; done)));(try (refine hK' _ _ ?_; clear hK'; clear K')))
        |((with_reducible refine swp_cond ?_ ?_);rfl;refine ⟨_, rfl, fun h => ?_, fun h => ?_⟩ <;> (try (exfalso; exact absurd h (by decide)))))
      refine stop_call h0 rfl (by simp only [UN, LM, Nat.reduceBEq, Nat.reduceLeDiff, Int.reduceLE, Int.reduceLT, Int.reduceToNat, Nat.reduceAdd, Nat.reduceSub, Nat.reduceMul, reduceCtorEq]) rfl (by simp only [keepS, UN, LM, Nat.reduceBEq, Nat.reduceLeDiff, Int.reduceLE, Int.reduceLT, Int.reduceToNat, Nat.reduceAdd, Nat.reduceSub, Nat.reduceMul, reduceCtorEq]) (hS) ?_
      simp only [UN, LM, Nat.reduceBEq, Nat.reduceLeDiff, Int.reduceLE, Int.reduceLT, Int.reduceToNat, Nat.reduceAdd, Nat.reduceSub, Nat.reduceMul, reduceCtorEq, TAS, TBS, TCS, inX, dropS, ]
      (repeat (refine And.intro ?_ ?_; focus (clear hK'; intros; simp_all; done)))
      (try (refine hK' _ _ ?_; clear hK'; clear K'))
      repeat' (first
        |(with_reducible first|refine swp_seq ?_|refine swp_block ?_|refine swp_skip ?_|refine swp_ret ?_|refine swp_exit ?_|refine swp_label ?_|refine kseq_n ?_|refine kseq_x ?_|refine kseq_r ?_|refine kblk_n ?_|refine kblk_r ?_|refine kblk_xs ?_|refine kloop_x ?_|refine kloop_r ?_)
        |((with_reducible refine kblk_xn ?_ ?_);rfl)
        |((with_reducible refine swp_regionP ?_ ?_ (fun K' hK' => ?_));rfl;rfl;simp only [UN, LM, Nat.reduceBEq, Nat.reduceLeDiff, Int.reduceLE, Int.reduceLT, Int.reduceToNat, Nat.reduceAdd, Nat.reduceSub, Nat.reduceMul, reduceCtorEq, TAS, TBS, TCS, bne_self_eq_false, hu8, Bool.not_true, Bool.not_false, cond_true, cond_false];(repeat (refine And.intro ?_ ?_; focus (clear hK'; intros; simp_all; done)));(try (refine hK' _ _ ?_; clear hK'; clear K')))
        |((with_reducible refine swp_cond ?_ ?_);rfl;refine ⟨_, rfl, fun h => ?_, fun h => ?_⟩ <;> (try (exfalso; exact absurd h (by decide)))))
      refine stop_call h0 rfl (by simp only [UN, LM, Nat.reduceBEq, Nat.reduceLeDiff, Int.reduceLE, Int.reduceLT, Int.reduceToNat, Nat.reduceAdd, Nat.reduceSub, Nat.reduceMul, reduceCtorEq]) rfl (by simp only [keepS, UN, LM, Nat.reduceBEq, Nat.reduceLeDiff, Int.reduceLE, Int.reduceLT, Int.reduceToNat, Nat.reduceAdd, Nat.reduceSub, Nat.reduceMul, reduceCtorEq]) (hB) ?_
      simp only [UN, LM, Nat.reduceBEq, Nat.reduceLeDiff, Int.reduceLE, Int.reduceLT, Int.reduceToNat, Nat.reduceAdd, Nat.reduceSub, Nat.reduceMul, reduceCtorEq, TAS, TBS, TCS, inX, dropS, ]
      (repeat (refine And.intro ?_ ?_; focus (clear hK'; intros; simp_all; done)))
      (try (refine hK' _ _ ?_; clear hK'; clear K'))
      repeat' (first
        |(with_reducible first|refine swp_seq ?_|refine swp_block ?_|refine swp_skip ?_|refine swp_ret ?_|refine swp_exit ?_|refine swp_label ?_|refine kseq_n ?_|refine kseq_x ?_|refine kseq_r ?_|refine kblk_n ?_|refine kblk_r ?_|refine kblk_xs ?_|refine kloop_x ?_|refine kloop_r ?_)
        |((with_reducible refine kblk_xn ?_ ?_);rfl)
        |((with_reducible refine swp_regionP ?_ ?_ (fun K' hK' => ?_));rfl;rfl;simp only [UN, LM, Nat.reduceBEq, Nat.reduceLeDiff, Int.reduceLE, Int.reduceLT, Int.reduceToNat, Nat.reduceAdd, Nat.reduceSub, Nat.reduceMul, reduceCtorEq, TAS, TBS, TCS, bne_self_eq_false];(repeat (refine And.intro ?_ ?_; focus (clear hK'; intros; simp_all; done)));(try (refine hK' _ _ ?_; clear hK'; clear K')))
        |((with_reducible refine swp_cond ?_ ?_);rfl;refine ⟨_, rfl, fun h => ?_, fun h => ?_⟩ <;> (try (exfalso; exact absurd h (by decide)))))
      refine stop_call h0 rfl (by simp only [UN, LM, Nat.reduceBEq, Nat.reduceLeDiff, Int.reduceLE, Int.reduceLT, Int.reduceToNat, Nat.reduceAdd, Nat.reduceSub, Nat.reduceMul, reduceCtorEq]) rfl (by simp only [keepS, UN, LM, Nat.reduceBEq, Nat.reduceLeDiff, Int.reduceLE, Int.reduceLT, Int.reduceToNat, Nat.reduceAdd, Nat.reduceSub, Nat.reduceMul, reduceCtorEq]) (hO2) ?_
      simp only [UN, LM, Nat.reduceBEq, Nat.reduceLeDiff, Int.reduceLE, Int.reduceLT, Int.reduceToNat, Nat.reduceAdd, Nat.reduceSub, Nat.reduceMul, reduceCtorEq, TAS, TBS, TCS, inX, dropS, ]
      (repeat (refine And.intro ?_ ?_; focus (clear hK'; intros; simp_all; done)))
      (try (refine hK' _ _ ?_; clear hK'; clear K'))
      repeat' (first
        |(with_reducible first|refine swp_seq ?_|refine swp_block ?_|refine swp_skip ?_|refine swp_ret ?_|refine swp_exit ?_|refine swp_label ?_|refine kseq_n ?_|refine kseq_x ?_|refine kseq_r ?_|refine kblk_n ?_|refine kblk_r ?_|refine kblk_xs ?_|refine kloop_x ?_|refine kloop_r ?_)
        |((with_reducible refine kblk_xn ?_ ?_);rfl)
        |((with_reducible refine swp_regionP ?_ ?_ (fun K' hK' => ?_));rfl;rfl;simp only [UN, LM, Nat.reduceBEq, Nat.reduceLeDiff, Int.reduceLE, Int.reduceLT, Int.reduceToNat, Nat.reduceAdd, Nat.reduceSub, Nat.reduceMul, reduceCtorEq, TAS, TBS, TCS, beq_self_eq_true];(repeat (refine And.intro ?_ ?_; focus (clear hK'; intros; simp_all; done)));(try (refine hK' _ _ ?_; clear hK'; clear K')))
        |((with_reducible refine swp_cond ?_ ?_);rfl;refine ⟨_, rfl, fun h => ?_, fun h => ?_⟩ <;> (try (exfalso; exact absurd h (by decide)))))
      (with_reducible refine swp_regionA ?_ ( [(5, bD true)]) (fun K' hK' => ?_)
       · rfl
       simp only [UN, LM, Nat.reduceBEq, Nat.reduceLeDiff, Int.reduceLE, Int.reduceLT, Int.reduceToNat, Nat.reduceAdd, Nat.reduceSub, Nat.reduceMul, reduceCtorEq, TAS, TBS, TCS, vcA, stepA, callA, rst, lksA, Oper.looksAt, Op.operands, pureOp, Call.operands, List.filterMap_cons, List.filterMap_nil, Option.toList_none, Option.toList_some, Option.bind_some, Option.bind_none, List.getElem?_toArray, Array.toList_append, List.append_nil, D.flat, D.flats, true_or, or_true, forall_const, beq_self_eq_true, hE, Bool.not_true, Bool.not_false, cond_true, cond_false ]
       (repeat (refine And.intro ?_ ?_; focus (clear hK'; intros; simp_all; done)))
       (try (refine hK' _ _ ?_; clear hK'; clear K')))
      repeat' (first
        |(with_reducible first|refine swp_seq ?_|refine swp_block ?_|refine swp_skip ?_|refine swp_ret ?_|refine swp_exit ?_|refine swp_label ?_|refine kseq_n ?_|refine kseq_x ?_|refine kseq_r ?_|refine kblk_n ?_|refine kblk_r ?_|refine kblk_xs ?_|refine kloop_x ?_|refine kloop_r ?_)
        |((with_reducible refine kblk_xn ?_ ?_);rfl)
        |((with_reducible refine swp_regionP ?_ ?_ (fun K' hK' => ?_));rfl;rfl;simp only [UN, LM, Nat.reduceBEq, Nat.reduceLeDiff, Int.reduceLE, Int.reduceLT, Int.reduceToNat, Nat.reduceAdd, Nat.reduceSub, Nat.reduceMul, reduceCtorEq, TAS, TBS, TCS];(repeat (refine And.intro ?_ ?_; focus (clear hK'; intros; simp_all; done)));(try (refine hK' _ _ ?_; clear hK'; clear K')))
        |((with_reducible refine swp_cond ?_ ?_);rfl;refine ⟨_, rfl, fun h => ?_, fun h => ?_⟩ <;> (try (exfalso; exact absurd h (by decide)))))
      simp only [Kret, retL, retOne, oneV, UN, LM, Nat.reduceBEq, Nat.reduceLeDiff, Int.reduceLE, Int.reduceLT, Int.reduceToNat, Nat.reduceAdd, Nat.reduceSub, Nat.reduceMul, reduceCtorEq, TAS, TBS, TCS]
end Go.Proofs.YtgecnlcbdbaneaaDoor
