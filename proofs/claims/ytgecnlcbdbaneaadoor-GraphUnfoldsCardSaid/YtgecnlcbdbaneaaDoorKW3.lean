/- types.twin, types.put, types.Unfold of types that are right; a symbolic walk. -/
-- TYPESC
import Derived.Test.YtgecnlcbdbaneaaDoorKW2
set_option linter.unusedVariables false
set_option linter.unusedSimpArgs false
namespace Go.Proofs.YtgecnlcbdbaneaaDoor
open Go.RowKit Go.Sw

theorem var_ne {nm : ByteArray} (h : isVarB nm = true) : nm.toList ≠ noB.toList := fun e => by
  rw [tl_inj e] at h
  exact absurd h (by decide +kernel)
theorem put_twin (Γ : Gl) {t : Tp} (h : OkT t) : DFn Tryd.prog Γ 48 [t.d, sD noB, tp0.d] t.d := by
  have node : ∀ (k so : Int) (nm : ByteArray) (ls : List ByteArray) (l : List Tp), l.length ≤ 6 → ls.length ≤ 6 → (k = 9 ∨ k = 8 → nm.toList ≠ noB.toList) → (∀ x ∈ l, DFn Tryd.prog Γ 48 [x.d, sD noB, tp0.d] x.d) → DFn Tryd.prog Γ 48 [(Tp.mk k so nm ls l).d, sD noB, tp0.d] (Tp.mk k so nm ls l).d := fun k so nm ls l h1 h2 h3 ih =>
    put_step Γ noB tp0 k so nm ls l (.mk k so nm ls l) id h1 h2 (fun e e' => absurd e' (h3 (.inl e))) (fun e e' => absurd e' (h3 (.inr e))) fun _ _ => ⟨by rw [List.map_id], ih⟩
  induction h with
  | nil => exact node _ _ _ _ _ (by simp) (by simp) (fun h => by omega) (fun x hx => by cases hx)
  | pass k so x hk h1 h3 hx ih => exact node _ _ _ _ _ (by simp) (by simp) (fun h => by omega) (fun y hy => by rw [show y = x by simpa using hy]; exact ih)
  | give k x y hk hx hy ih1 ih2 => exact node _ _ _ _ _ (by simp) (by simp) (fun h => by omega) (fun z hz => by
      rcases List.mem_cons.1 hz with rfl | hz
      · exact ih1
      · rw [show z = y by simpa using hz]; exact ih2)
  | pick k ls l hk hl hn h ih => exact node _ _ _ _ _ (by have := labels_len hl; omega) (labels_len hl) (fun h => by omega) ih
  | bind nm x hn hx ih => exact node _ _ _ _ _ (by simp) (by simp) (fun _ => var_ne hn) (fun y hy => by rw [show y = x by simpa using hy]; exact ih)
  | var nm hn => exact node _ _ _ _ _ (by simp) (by simp) (fun _ => var_ne hn) (fun x hx => by cases hx)
set_option maxHeartbeats 4000000 in
set_option maxRecDepth 100000 in
theorem twin_fn (Γ : Gl) {t : Tp} (h : OkT t) : DFn Tryd.prog Γ 47 [t.d] t.d := by
  have hp := put_twin Γ h
  obtain ⟨k, so, nm, ls, l⟩ := t
  simp only [Tp.d, tp0, Tp.ds, List.map_nil] at hp ⊢
  refine fn_of_swp (N := 6) Tryd.func47 rfl (by decide) rfl rfl (by simp) (fun C h0 => ?_)
  simp only [argE]
  repeat' (first
    |(with_reducible first|refine swp_seq ?_|refine swp_block ?_|refine swp_skip ?_|refine swp_ret ?_|refine swp_exit ?_|refine swp_label ?_|refine kseq_n ?_|refine kseq_x ?_|refine kseq_r ?_|refine kblk_n ?_|refine kblk_r ?_|refine kblk_xs ?_|refine kloop_x ?_|refine kloop_r ?_)
    |((with_reducible refine kblk_xn ?_ ?_);rfl)
    |((with_reducible refine swp_regionP ?_ ?_ (fun K' hK' => ?_));rfl;rfl;simp only [UN, LM, Nat.reduceBEq, Nat.reduceLeDiff, Int.reduceLE, Int.reduceLT, Int.reduceToNat, Nat.reduceAdd, Nat.reduceSub, Nat.reduceMul, reduceCtorEq, TAS, TBS, TCS];(repeat (refine And.intro ?_ ?_; focus (clear hK'; intros; simp_all; done)));(try (refine hK' _ _ ?_; clear hK'; clear K')))
    |((with_reducible refine swp_cond ?_ ?_);rfl;refine ⟨_, rfl, fun h => ?_, fun h => ?_⟩ <;> (try (exfalso; exact absurd h (by decide)))))
  refine stop_call h0 rfl (by simp only [UN, LM, Nat.reduceBEq, Nat.reduceLeDiff, Int.reduceLE, Int.reduceLT, Int.reduceToNat, Nat.reduceAdd, Nat.reduceSub, Nat.reduceMul, reduceCtorEq]) rfl (by simp only [keepS, UN, LM, Nat.reduceBEq, Nat.reduceLeDiff, Int.reduceLE, Int.reduceLT, Int.reduceToNat, Nat.reduceAdd, Nat.reduceSub, Nat.reduceMul, reduceCtorEq]) (hp) ?_
  simp only [UN, LM, Nat.reduceBEq, Nat.reduceLeDiff, Int.reduceLE, Int.reduceLT, Int.reduceToNat, Nat.reduceAdd, Nat.reduceSub, Nat.reduceMul, reduceCtorEq, TAS, TBS, TCS, inX, dropS, ]
  (repeat (refine And.intro ?_ ?_; focus (clear hK'; intros; simp_all; done)))
  (try (refine hK' _ _ ?_; clear hK'; clear K'))
  repeat' (first
    |(with_reducible first|refine swp_seq ?_|refine swp_block ?_|refine swp_skip ?_|refine swp_ret ?_|refine swp_exit ?_|refine swp_label ?_|refine kseq_n ?_|refine kseq_x ?_|refine kseq_r ?_|refine kblk_n ?_|refine kblk_r ?_|refine kblk_xs ?_|refine kloop_x ?_|refine kloop_r ?_)
    |((with_reducible refine kblk_xn ?_ ?_);rfl)
    |((with_reducible refine swp_regionP ?_ ?_ (fun K' hK' => ?_));rfl;rfl;simp only [UN, LM, Nat.reduceBEq, Nat.reduceLeDiff, Int.reduceLE, Int.reduceLT, Int.reduceToNat, Nat.reduceAdd, Nat.reduceSub, Nat.reduceMul, reduceCtorEq, TAS, TBS, TCS];(repeat (refine And.intro ?_ ?_; focus (clear hK'; intros; simp_all; done)));(try (refine hK' _ _ ?_; clear hK'; clear K')))
    |((with_reducible refine swp_cond ?_ ?_);rfl;refine ⟨_, rfl, fun h => ?_, fun h => ?_⟩ <;> (try (exfalso; exact absurd h (by decide)))))
  simp only [Kret, retL, retOne, oneV, UN, LM, Nat.reduceBEq, Nat.reduceLeDiff, Int.reduceLE, Int.reduceLT, Int.reduceToNat, Nat.reduceAdd, Nat.reduceSub, Nat.reduceMul, reduceCtorEq, TAS, TBS, TCS]
theorem put_fn (Γ : Gl) (a : ByteArray) {s t : Tp} (h : OkT t) (hs : OkT s) : DFn Tryd.prog Γ 48 [t.d, sD a, s.d] (putT a s t).d := by
  have hts := twin_fn Γ hs
  have node : ∀ (k so : Int) (nm : ByteArray) (ls : List ByteArray) (l : List Tp), OkT (.mk k so nm ls l) → l.length ≤ 6 → ls.length ≤ 6 → k ≠ 9 → k ≠ 8 → (∀ x ∈ l, DFn Tryd.prog Γ 48 [x.d, sD a, s.d] (putT a s x).d) → DFn Tryd.prog Γ 48 [(Tp.mk k so nm ls l).d, sD a, s.d] (putT a s (Tp.mk k so nm ls l)).d := fun k so nm ls l ho h1 h2 h9 h8 ih =>
    put_step Γ a s k so nm ls l _ (putT a s) h1 h2 (fun e => absurd e h9) (fun e => absurd e h8) fun _ _ => ⟨putT_node h9 h8 ho, ih⟩
  induction h with
  | nil => exact node _ _ _ _ _ .nil (by simp) (by simp) (by decide) (by decide) (fun x hx => by cases hx)
  | pass k so x hk h1 h3 hx ih => exact node _ _ _ _ _ (.pass k so x hk h1 h3 hx) (by simp) (by simp) (by omega) (by omega) (fun y hy => by rw [show y = x by simpa using hy]; exact ih)
  | give k x y hk hx hy ih1 ih2 => exact node _ _ _ _ _ (.give k x y hk hx hy) (by simp) (by simp) (by omega) (by omega) (fun z hz => by
      rcases List.mem_cons.1 hz with rfl | hz
      · exact ih1
      · rw [show z = y by simpa using hz]; exact ih2)
  | pick k ls l hk hl hn h ih => exact node _ _ _ _ _ (.pick k ls l hk hl hn h) (by have := labels_len hl; omega) (labels_len hl) (by omega) (by omega) ih
  | bind nm x hn hx ih =>
    refine put_step Γ a s 8 0 nm [] [x] _ (putT a s) (by simp) (by simp) (fun e => by omega) (fun _ e => ?_) fun _ h8 => ⟨?_, fun y hy => by rw [show y = x by simpa using hy]; exact ih⟩
    · rw [putT_bind (.bind nm x hn hx), if_pos (tl_inj e)]
      exact twin_fn Γ (.bind nm x hn hx)
    · rw [putT_bind (.bind nm x hn hx), if_neg (fun e => h8 ⟨rfl, by rw [e]⟩)]
      rfl
  | var nm hn =>
    refine put_step Γ a s 9 0 nm [] [] _ (putT a s) (by simp) (by simp) (fun _ e => ?_) (fun e => by omega) fun h9 _ => ⟨?_, fun y hy => by cases hy⟩
    · rw [putT_var, if_pos (tl_inj e)]
      exact hts
    · rw [putT_var, if_neg (fun e => h9 ⟨rfl, by rw [e]⟩)]
      rfl
def unfA (x : Tp) : D := if tCheck x = 0 then (if 60 < (unfP x).size then .tup [tp0.d, iD 2] else .tup [(unfP x).d, iD 0]) else .tup [tp0.d, iD (tCheck x)]
set_option maxHeartbeats 8000000 in
set_option maxRecDepth 100000 in
theorem unfold_fn (Γ : Gl) (x : Tp) : DFn Tryd.prog Γ 13 [x.d] (unfA x) := by
  have hC := TCheck_fn Γ x
  unfold unfA
  by_cases hc : tCheck x = 0
  rotate_left
  · rw [if_neg hc]
    have g : (tCheck x != 0) = true := by simpa using hc
    generalize tCheck x = c at *
    obtain ⟨k, so, nm, ls, l⟩ := x
    simp only [Tp.d, tp0, Tp.ds, List.map_nil] at hC ⊢
    refine fn_of_swp (N := 29) Tryd.func13 rfl (by decide) rfl rfl (by simp) (fun C h0 => ?_)
    simp only [argE]
    repeat' (first
      |(with_reducible first|refine swp_seq ?_|refine swp_block ?_|refine swp_skip ?_|refine swp_ret ?_|refine swp_exit ?_|refine swp_label ?_|refine kseq_n ?_|refine kseq_x ?_|refine kseq_r ?_|refine kblk_n ?_|refine kblk_r ?_|refine kblk_xs ?_|refine kloop_x ?_|refine kloop_r ?_)
      |((with_reducible refine kblk_xn ?_ ?_);rfl)
      |((with_reducible refine swp_regionP ?_ ?_ (fun K' hK' => ?_));rfl;rfl;simp only [UN, LM, Nat.reduceBEq, Nat.reduceLeDiff, Int.reduceLE, Int.reduceLT, Int.reduceToNat, Nat.reduceAdd, Nat.reduceSub, Nat.reduceMul, reduceCtorEq, TAS, TBS, TCS];(repeat (refine And.intro ?_ ?_; focus (clear hK'; intros; simp_all; done)));(try (refine hK' _ _ ?_; clear hK'; clear K')))
      |((with_reducible refine swp_cond ?_ ?_);rfl;refine ⟨_, rfl, fun h => ?_, fun h => ?_⟩ <;> (try (exfalso; exact absurd h (by decide)))))
    refine stop_callF rfl (by simp only [UN, LM, Nat.reduceBEq, Nat.reduceLeDiff, Int.reduceLE, Int.reduceLT, Int.reduceToNat, Nat.reduceAdd, Nat.reduceSub, Nat.reduceMul, reduceCtorEq]) rfl rfl (hC) ?_
    simp only [UN, LM, Nat.reduceBEq, Nat.reduceLeDiff, Int.reduceLE, Int.reduceLT, Int.reduceToNat, Nat.reduceAdd, Nat.reduceSub, Nat.reduceMul, reduceCtorEq, TAS, TBS, TCS, inX, dropS, ]
    (repeat (refine And.intro ?_ ?_; focus (clear hK'; intros; simp_all; done)))
    (try (refine hK' _ _ ?_; clear hK'; clear K'))
    repeat' (first
      |(with_reducible first|refine swp_seq ?_|refine swp_block ?_|refine swp_skip ?_|refine swp_ret ?_|refine swp_exit ?_|refine swp_label ?_|refine kseq_n ?_|refine kseq_x ?_|refine kseq_r ?_|refine kblk_n ?_|refine kblk_r ?_|refine kblk_xs ?_|refine kloop_x ?_|refine kloop_r ?_)
      |((with_reducible refine kblk_xn ?_ ?_);rfl)
      |((with_reducible refine swp_regionP ?_ ?_ (fun K' hK' => ?_));rfl;rfl;simp only [UN, LM, Nat.reduceBEq, Nat.reduceLeDiff, Int.reduceLE, Int.reduceLT, Int.reduceToNat, Nat.reduceAdd, Nat.reduceSub, Nat.reduceMul, reduceCtorEq, TAS, TBS, TCS, g];(repeat (refine And.intro ?_ ?_; focus (clear hK'; intros; simp_all; done)));(try (refine hK' _ _ ?_; clear hK'; clear K')))
      |((with_reducible refine swp_cond ?_ ?_);rfl;refine ⟨_, rfl, fun h => ?_, fun h => ?_⟩ <;> (try (exfalso; exact absurd h (by decide)))))
    simp only [Kret, retL, retOne, oneV, UN, LM, Nat.reduceBEq, Nat.reduceLeDiff, Int.reduceLE, Int.reduceLT, Int.reduceToNat, Nat.reduceAdd, Nat.reduceSub, Nat.reduceMul, reduceCtorEq, TAS, TBS, TCS]
  rw [if_pos hc]
  rw [hc] at hC
  have hT := twin_fn Γ (check_all hc).1
  obtain ⟨R, hR⟩ : ∃ R, unfP x = R := ⟨_, rfl⟩
  have hx0 := Unf.refl hc
  rw [hR]
  obtain ⟨u, hu⟩ : ∃ u, x = u := ⟨_, rfl⟩
  rw [hu] at hC hT ⊢
  have hx0 : Unf x u := hu ▸ hx0
  have hR : unfP u = R := hu ▸ hR
  have hux := hu
  clear hu
  obtain ⟨k, so, nm, ls, l⟩ := u
  simp only [Tp.d] at hC hT ⊢
  refine fn_of_swp (N := 29) Tryd.func13 rfl (by decide) rfl rfl (by simp) (fun C h0 => ?_)
  simp only [argE]
  repeat' (first
    |(with_reducible first|refine swp_seq ?_|refine swp_block ?_|refine swp_skip ?_|refine swp_ret ?_|refine swp_exit ?_|refine swp_label ?_|refine kseq_n ?_|refine kseq_x ?_|refine kseq_r ?_|refine kblk_n ?_|refine kblk_r ?_|refine kblk_xs ?_|refine kloop_x ?_|refine kloop_r ?_)
    |((with_reducible refine kblk_xn ?_ ?_);rfl)
    |((with_reducible refine swp_regionP ?_ ?_ (fun K' hK' => ?_));rfl;rfl;simp only [UN, LM, Nat.reduceBEq, Nat.reduceLeDiff, Int.reduceLE, Int.reduceLT, Int.reduceToNat, Nat.reduceAdd, Nat.reduceSub, Nat.reduceMul, reduceCtorEq, TAS, TBS, TCS];(repeat (refine And.intro ?_ ?_; focus (clear hK'; intros; simp_all; done)));(try (refine hK' _ _ ?_; clear hK'; clear K')))
    |((with_reducible refine swp_cond ?_ ?_);rfl;refine ⟨_, rfl, fun h => ?_, fun h => ?_⟩ <;> (try (exfalso; exact absurd h (by decide)))))
  refine stop_callF rfl (by simp only [UN, LM, Nat.reduceBEq, Nat.reduceLeDiff, Int.reduceLE, Int.reduceLT, Int.reduceToNat, Nat.reduceAdd, Nat.reduceSub, Nat.reduceMul, reduceCtorEq]) rfl rfl (hC) ?_
  simp only [UN, LM, Nat.reduceBEq, Nat.reduceLeDiff, Int.reduceLE, Int.reduceLT, Int.reduceToNat, Nat.reduceAdd, Nat.reduceSub, Nat.reduceMul, reduceCtorEq, TAS, TBS, TCS, inX, dropS, ]
  (repeat (refine And.intro ?_ ?_; focus (clear hK'; intros; simp_all; done)))
  (try (refine hK' _ _ ?_; clear hK'; clear K'))
  repeat' (first
    |(with_reducible first|refine swp_seq ?_|refine swp_block ?_|refine swp_skip ?_|refine swp_ret ?_|refine swp_exit ?_|refine swp_label ?_|refine kseq_n ?_|refine kseq_x ?_|refine kseq_r ?_|refine kblk_n ?_|refine kblk_r ?_|refine kblk_xs ?_|refine kloop_x ?_|refine kloop_r ?_)
    |((with_reducible refine kblk_xn ?_ ?_);rfl)
    |((with_reducible refine swp_regionP ?_ ?_ (fun K' hK' => ?_));rfl;rfl;simp only [UN, LM, Nat.reduceBEq, Nat.reduceLeDiff, Int.reduceLE, Int.reduceLT, Int.reduceToNat, Nat.reduceAdd, Nat.reduceSub, Nat.reduceMul, reduceCtorEq, TAS, TBS, TCS, bne_self_eq_false];(repeat (refine And.intro ?_ ?_; focus (clear hK'; intros; simp_all; done)));(try (refine hK' _ _ ?_; clear hK'; clear K')))
    |((with_reducible refine swp_cond ?_ ?_);rfl;refine ⟨_, rfl, fun h => ?_, fun h => ?_⟩ <;> (try (exfalso; exact absurd h (by decide)))))
  refine stop_call h0 rfl (by simp only [UN, LM, Nat.reduceBEq, Nat.reduceLeDiff, Int.reduceLE, Int.reduceLT, Int.reduceToNat, Nat.reduceAdd, Nat.reduceSub, Nat.reduceMul, reduceCtorEq]) rfl (by simp only [keepS, UN, LM, Nat.reduceBEq, Nat.reduceLeDiff, Int.reduceLE, Int.reduceLT, Int.reduceToNat, Nat.reduceAdd, Nat.reduceSub, Nat.reduceMul, reduceCtorEq]) (hT) ?_
  simp only [UN, LM, Nat.reduceBEq, Nat.reduceLeDiff, Int.reduceLE, Int.reduceLT, Int.reduceToNat, Nat.reduceAdd, Nat.reduceSub, Nat.reduceMul, reduceCtorEq, TAS, TBS, TCS, inX, dropS, ]
  (repeat (refine And.intro ?_ ?_; focus (clear hK'; intros; simp_all; done)))
  (try (refine hK' _ _ ?_; clear hK'; clear K'))
  repeat' (first
    |(with_reducible first|refine swp_seq ?_|refine swp_block ?_|refine swp_skip ?_|refine swp_ret ?_|refine swp_exit ?_|refine swp_label ?_|refine kseq_n ?_|refine kseq_x ?_|refine kseq_r ?_|refine kblk_n ?_|refine kblk_r ?_|refine kblk_xs ?_|refine kloop_x ?_|refine kloop_r ?_)
    |((with_reducible refine kblk_xn ?_ ?_);rfl)
    |((with_reducible refine swp_regionP ?_ ?_ (fun K' hK' => ?_));rfl;rfl;simp only [UN, LM, Nat.reduceBEq, Nat.reduceLeDiff, Int.reduceLE, Int.reduceLT, Int.reduceToNat, Nat.reduceAdd, Nat.reduceSub, Nat.reduceMul, reduceCtorEq, TAS, TBS, TCS];(repeat (refine And.intro ?_ ?_; focus (clear hK'; intros; simp_all; done)));(try (refine hK' _ _ ?_; clear hK'; clear K')))
    |((with_reducible refine swp_cond ?_ ?_);rfl;refine ⟨_, rfl, fun h => ?_, fun h => ?_⟩ <;> (try (exfalso; exact absurd h (by decide)))))
  refine swp_loop (α := Tp) (fun _ => [(1, .ref 0 0), (2, .ref 1 0), (3, .d (iD 0))]) (fun t => [(0, .cells t.cs), (1, .cells [.d (iD 0), .d (iD 0), .d (sD noB), .nil, .nil])])
    (fun t => Unf x t ∧ unfP t = R) hrT (.mk k so nm ls l) ⟨hx0, hR⟩ (by simp only [Tp.cs]; refine sub_of h0 ?_ ?_ ?_ <;> simp only [US, UN, LM, Nat.reduceBEq, Nat.reduceLeDiff, Int.reduceLE, Int.reduceLT, Int.reduceToNat, Nat.reduceAdd, Nat.reduceSub, Nat.reduceMul, reduceCtorEq, TAS, TBS, TCS]) (fun t ht => ?_)
  obtain ⟨hU, hq⟩ := ht
  clear hC hT hx0 hR hux
  obtain ⟨tk, tso, tnm, tls, tl⟩ := t
  simp only [Tp.cs]
  by_cases h8 : tk = 8
  · subst h8
    have hl : ∃ b, tl = [b] := by
      cases hU.ok with
      | pass k so x hk h1 h3 hx => omega
      | give k x y hk hx hy => omega
      | pick k ls l hk hl hn h => omega
      | bind nm x hn hx => exact ⟨x, rfl⟩
    obtain ⟨b, rfl⟩ := hl
    have hob : OkT b := by
      cases hU.ok with
      | pass k so x hk h1 h3 hx => omega
      | pick k ls l hk hl hn h => omega
      | bind nm x hn hx => exact hx
    have hp := put_fn Γ tnm hob hU.ok
    have hs := hU.step
    rw [unf_bind hU] at hq
    generalize putT tnm (.mk 8 tso tnm tls [b]) b = z at *
    obtain ⟨bk, bso, bnm, bls, bl⟩ := b
    obtain ⟨zk, zso, znm, zls, zl⟩ := z
    simp only [Tp.d, Tp.ds] at hp
    simp only [Tp.ds, Tp.d]
    repeat' (first
      |(with_reducible first|refine swp_seq ?_|refine swp_block ?_|refine swp_skip ?_|refine swp_ret ?_|refine swp_exit ?_|refine swp_label ?_|refine kseq_n ?_|refine kseq_x ?_|refine kseq_r ?_|refine kblk_n ?_|refine kblk_r ?_|refine kblk_xs ?_|refine kloop_x ?_|refine kloop_r ?_)
      |((with_reducible refine kblk_xn ?_ ?_);rfl)
      |((with_reducible refine swp_regionP ?_ ?_ (fun K' hK' => ?_));rfl;rfl;simp only [UN, LM, Nat.reduceBEq, Nat.reduceLeDiff, Int.reduceLE, Int.reduceLT, Int.reduceToNat, Nat.reduceAdd, Nat.reduceSub, Nat.reduceMul, reduceCtorEq, TAS, TBS, TCS];(repeat (refine And.intro ?_ ?_; focus (clear hK'; intros; simp_all; done)));(try (refine hK' _ _ ?_; clear hK'; clear K')))
      |((with_reducible refine swp_cond ?_ ?_);rfl;refine ⟨_, rfl, fun h => ?_, fun h => ?_⟩ <;> (try (exfalso; exact absurd h (by decide)))))
    (with_reducible refine swp_drawX ?_ ?_ ?_ (⟨⟨[(7, .agg [iD zk, iD zso, sD znm, .slc (zls.map sD), .slc (Tp.ds zl)])], []⟩, [], [], [], []⟩) _ rfl (fun K' hK' gops fin hgops hfin => ?_)
     · kernel_rfl
     · rfl
     · rfl
     repeat' first
       | (refine vcX_dead rfl trivial (by simp only [UN, LM, Nat.reduceBEq, Nat.reduceLeDiff, Int.reduceLE, Int.reduceLT, Int.reduceToNat, Nat.reduceAdd, Nat.reduceSub, Nat.reduceMul, reduceCtorEq, TAS, TBS, TCS, Eff.env, Eff.st, jkE, jkS, UA, LM]; rfl) (by simp only [List.nil_append, List.cons_append]; rfl) (by simp only [Nat.reduceAdd]; rfl) ?_)
       | (refine vcX_step rfl rfl trivial (by simp only [UN, LM, Nat.reduceBEq, Nat.reduceLeDiff, Int.reduceLE, Int.reduceLT, Int.reduceToNat, Nat.reduceAdd, Nat.reduceSub, Nat.reduceMul, reduceCtorEq, TAS, TBS, TCS, stepX, stepX1, frzR, stepX0, callN, storeE, dAll, setE, callM, mArgs, SV.calm, SV.calms, callB, callP, bArgs, hasR, hins, hin, yes, inX, stepW, callR, effO, srcE, Eff.env, Eff.st, writeOp, callA, pureOp, Bool.or_true, Bool.true_or, Bool.or_self, Bool.or_false, Bool.false_or, Bool.not_true, Bool.not_false, D.flat, D.flats, true_or, or_true, forall_const, UA, hp, List.getD_cons_zero, List.length_cons, List.length_nil ]; rfl) ?_ (by simp only [UN, LM, Nat.reduceBEq, Nat.reduceLeDiff, Int.reduceLE, Int.reduceLT, Int.reduceToNat, Nat.reduceAdd, Nat.reduceSub, Nat.reduceMul, reduceCtorEq, TAS, TBS, TCS, Eff.env, Eff.st, jkE, jkS, UA, LM]; rfl) (by simp only [UN, LM, Nat.reduceBEq, Nat.reduceLeDiff, Int.reduceLE, Int.reduceLT, Int.reduceToNat, Nat.reduceAdd, Nat.reduceSub, Nat.reduceMul, reduceCtorEq, TAS, TBS, TCS, Eff.env, Eff.st, jkE, jkS, UA, LM]; rfl) (by simp only [List.nil_append, List.cons_append]; rfl) (by simp only [Nat.reduceAdd]; rfl) ?_; focus (first | trivial | ((repeat' (refine And.intro ?_ ?_)) <;> first | trivial | assumption | (clear hK' hfin hgops; intros; simp_all; done))))
     (refine vcX_nil (by subst hfin; kernel_rfl) ?_)
     clear hfin hgops fin gops
     (try (refine hK' _ _ ?_; clear hK'; clear K')))
    repeat' (first
      |(with_reducible first|refine swp_seq ?_|refine swp_block ?_|refine swp_skip ?_|refine swp_ret ?_|refine swp_exit ?_|refine swp_label ?_|refine kseq_n ?_|refine kseq_x ?_|refine kseq_r ?_|refine kblk_n ?_|refine kblk_r ?_|refine kblk_xs ?_|refine kloop_x ?_|refine kloop_r ?_)
      |((with_reducible refine kblk_xn ?_ ?_);rfl)
      |((with_reducible refine swp_regionP ?_ ?_ (fun K' hK' => ?_));rfl;rfl;simp only [UN, LM, Nat.reduceBEq, Nat.reduceLeDiff, Int.reduceLE, Int.reduceLT, Int.reduceToNat, Nat.reduceAdd, Nat.reduceSub, Nat.reduceMul, reduceCtorEq, TAS, TBS, TCS];(repeat (refine And.intro ?_ ?_; focus (clear hK'; intros; simp_all; done)));(try (refine hK' _ _ ?_; clear hK'; clear K')))
      |((with_reducible refine swp_cond ?_ ?_);rfl;refine ⟨_, rfl, fun h => ?_, fun h => ?_⟩ <;> (try (exfalso; exact absurd h (by decide)))))
    refine ⟨.mk zk zso znm zls zl, ⟨hs.1, hq⟩, by omega, by simp only [Tp.cs]; refine sub_of h0 ?_ ?_ ?_ <;> simp only [US, UN, LM, Nat.reduceBEq, Nat.reduceLeDiff, Int.reduceLE, Int.reduceLT, Int.reduceToNat, Nat.reduceAdd, Nat.reduceSub, Nat.reduceMul, reduceCtorEq, TAS, TBS, TCS]⟩
  · have g8 : (tk == 8) = false := by simpa using h8
    rw [unf_node (t := .mk tk tso tnm tls tl) h8] at hq
    subst hq
    have hz := hU.small hc
    have hS := size_fn Γ hU.ok (by omega)
    generalize hn : (Tp.mk tk tso tnm tls tl).size = n at *
    simp only [Tp.d] at hS
    by_cases h60 : 60 < n
    · rw [if_pos h60]
      have g6 : (60 : Int) < (n : Int) := by omega
      simp only [tp0, Tp.d, Tp.ds, List.map_nil]
      repeat' (first
        |(with_reducible first|refine swp_seq ?_|refine swp_block ?_|refine swp_skip ?_|refine swp_ret ?_|refine swp_exit ?_|refine swp_label ?_|refine kseq_n ?_|refine kseq_x ?_|refine kseq_r ?_|refine kblk_n ?_|refine kblk_r ?_|refine kblk_xs ?_|refine kloop_x ?_|refine kloop_r ?_)
        |((with_reducible refine kblk_xn ?_ ?_);rfl)
        |((with_reducible refine swp_regionP ?_ ?_ (fun K' hK' => ?_));rfl;rfl;simp only [UN, LM, Nat.reduceBEq, Nat.reduceLeDiff, Int.reduceLE, Int.reduceLT, Int.reduceToNat, Nat.reduceAdd, Nat.reduceSub, Nat.reduceMul, reduceCtorEq, TAS, TBS, TCS, g8];(repeat (refine And.intro ?_ ?_; focus (clear hK'; intros; simp_all; done)));(try (refine hK' _ _ ?_; clear hK'; clear K')))
        |((with_reducible refine swp_cond ?_ ?_);rfl;refine ⟨_, rfl, fun h => ?_, fun h => ?_⟩ <;> (try (exfalso; exact absurd h (by decide)))))
      refine stop_callF rfl (by simp only [UN, LM, Nat.reduceBEq, Nat.reduceLeDiff, Int.reduceLE, Int.reduceLT, Int.reduceToNat, Nat.reduceAdd, Nat.reduceSub, Nat.reduceMul, reduceCtorEq]) rfl rfl (hS) ?_
      simp only [UN, LM, Nat.reduceBEq, Nat.reduceLeDiff, Int.reduceLE, Int.reduceLT, Int.reduceToNat, Nat.reduceAdd, Nat.reduceSub, Nat.reduceMul, reduceCtorEq, TAS, TBS, TCS, inX, dropS, g6]
      (repeat (refine And.intro ?_ ?_; focus (clear hK'; intros; simp_all; done)))
      (try (refine hK' _ _ ?_; clear hK'; clear K'))
      repeat' (first
        |(with_reducible first|refine swp_seq ?_|refine swp_block ?_|refine swp_skip ?_|refine swp_ret ?_|refine swp_exit ?_|refine swp_label ?_|refine kseq_n ?_|refine kseq_x ?_|refine kseq_r ?_|refine kblk_n ?_|refine kblk_r ?_|refine kblk_xs ?_|refine kloop_x ?_|refine kloop_r ?_)
        |((with_reducible refine kblk_xn ?_ ?_);rfl)
        |((with_reducible refine swp_regionP ?_ ?_ (fun K' hK' => ?_));rfl;rfl;simp only [UN, LM, Nat.reduceBEq, Nat.reduceLeDiff, Int.reduceLE, Int.reduceLT, Int.reduceToNat, Nat.reduceAdd, Nat.reduceSub, Nat.reduceMul, reduceCtorEq, TAS, TBS, TCS, g6];(repeat (refine And.intro ?_ ?_; focus (clear hK'; intros; simp_all; done)));(try (refine hK' _ _ ?_; clear hK'; clear K')))
        |((with_reducible refine swp_cond ?_ ?_);rfl;refine ⟨_, rfl, fun h => ?_, fun h => ?_⟩ <;> (try (exfalso; exact absurd h (by decide)))))
      simp only [Kret, retL, retOne, oneV, UN, LM, Nat.reduceBEq, Nat.reduceLeDiff, Int.reduceLE, Int.reduceLT, Int.reduceToNat, Nat.reduceAdd, Nat.reduceSub, Nat.reduceMul, reduceCtorEq, TAS, TBS, TCS]
    · rw [if_neg h60]
      have g6 : ¬ (60 : Int) < (n : Int) := by omega
      simp only [Tp.d]
      repeat' (first
        |(with_reducible first|refine swp_seq ?_|refine swp_block ?_|refine swp_skip ?_|refine swp_ret ?_|refine swp_exit ?_|refine swp_label ?_|refine kseq_n ?_|refine kseq_x ?_|refine kseq_r ?_|refine kblk_n ?_|refine kblk_r ?_|refine kblk_xs ?_|refine kloop_x ?_|refine kloop_r ?_)
        |((with_reducible refine kblk_xn ?_ ?_);rfl)
        |((with_reducible refine swp_regionP ?_ ?_ (fun K' hK' => ?_));rfl;rfl;simp only [UN, LM, Nat.reduceBEq, Nat.reduceLeDiff, Int.reduceLE, Int.reduceLT, Int.reduceToNat, Nat.reduceAdd, Nat.reduceSub, Nat.reduceMul, reduceCtorEq, TAS, TBS, TCS, g8];(repeat (refine And.intro ?_ ?_; focus (clear hK'; intros; simp_all; done)));(try (refine hK' _ _ ?_; clear hK'; clear K')))
        |((with_reducible refine swp_cond ?_ ?_);rfl;refine ⟨_, rfl, fun h => ?_, fun h => ?_⟩ <;> (try (exfalso; exact absurd h (by decide)))))
      refine stop_callF rfl (by simp only [UN, LM, Nat.reduceBEq, Nat.reduceLeDiff, Int.reduceLE, Int.reduceLT, Int.reduceToNat, Nat.reduceAdd, Nat.reduceSub, Nat.reduceMul, reduceCtorEq]) rfl rfl (hS) ?_
      simp only [UN, LM, Nat.reduceBEq, Nat.reduceLeDiff, Int.reduceLE, Int.reduceLT, Int.reduceToNat, Nat.reduceAdd, Nat.reduceSub, Nat.reduceMul, reduceCtorEq, TAS, TBS, TCS, inX, dropS, g6]
      (repeat (refine And.intro ?_ ?_; focus (clear hK'; intros; simp_all; done)))
      (try (refine hK' _ _ ?_; clear hK'; clear K'))
      repeat' (first
        |(with_reducible first|refine swp_seq ?_|refine swp_block ?_|refine swp_skip ?_|refine swp_ret ?_|refine swp_exit ?_|refine swp_label ?_|refine kseq_n ?_|refine kseq_x ?_|refine kseq_r ?_|refine kblk_n ?_|refine kblk_r ?_|refine kblk_xs ?_|refine kloop_x ?_|refine kloop_r ?_)
        |((with_reducible refine kblk_xn ?_ ?_);rfl)
        |((with_reducible refine swp_regionP ?_ ?_ (fun K' hK' => ?_));rfl;rfl;simp only [UN, LM, Nat.reduceBEq, Nat.reduceLeDiff, Int.reduceLE, Int.reduceLT, Int.reduceToNat, Nat.reduceAdd, Nat.reduceSub, Nat.reduceMul, reduceCtorEq, TAS, TBS, TCS, g6];(repeat (refine And.intro ?_ ?_; focus (clear hK'; intros; simp_all; done)));(try (refine hK' _ _ ?_; clear hK'; clear K')))
        |((with_reducible refine swp_cond ?_ ?_);rfl;refine ⟨_, rfl, fun h => ?_, fun h => ?_⟩ <;> (try (exfalso; exact absurd h (by decide)))))
      simp only [Kret, retL, retOne, oneV, UN, LM, Nat.reduceBEq, Nat.reduceLeDiff, Int.reduceLE, Int.reduceLT, Int.reduceToNat, Nat.reduceAdd, Nat.reduceSub, Nat.reduceMul, reduceCtorEq, TAS, TBS, TCS]
end Go.Proofs.YtgecnlcbdbaneaaDoor
