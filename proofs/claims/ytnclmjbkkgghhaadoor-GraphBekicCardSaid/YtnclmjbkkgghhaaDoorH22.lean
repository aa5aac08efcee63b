/- duetkeep.free and put; a symbolic walk. -/
-- TYPESB
import Derived.Test.YtnclmjbkkgghhaaDoorHQ7
import Derived.Test.YtnclmjbkkgghhaaDoorH21
set_option linter.unusedVariables false
set_option linter.unusedSimpArgs false
namespace Go.Proofs.YtnclmjbkkgghhaaDoor
open Go.RowKit Go.Sw

/-- The first of those for which it is so. -/
def idxT (p : Tp → Bool) : List Tp → Nat → Int
  | [], _ => -1
  | b :: l, j => if p b = true then (j : Int) else idxT p l (j + 1)
theorem idxT_free (a : ByteArray) : ∀ (l : List Tp) (j : Nat), decide (0 ≤ idxT (fun x => freeB x a) l j) = freeBs l a
  | [], j => by simp [idxT, freeBs]
  | b :: l, j => by
    unfold idxT freeBs
    by_cases h : freeB b a = true
    · rw [if_pos h, if_pos h]; simp
    · rw [if_neg h, if_neg h, idxT_free a l (j + 1)]
def Free1 (Γ : Gl) (x : Tp) (a : ByteArray) : Prop := SFn Tryd.prog Γ 59 [.d x.d, .fptr (sD a) 0] [] (.d (.v (.bool (freeB x a)))) []
set_option maxHeartbeats 4000000 in
set_option maxRecDepth 100000 in
theorem indexT_fn (Γ : Gl) (a : ByteArray) (l : List Tp) (hl : l.length ≤ 140737488355328) (hf : ∀ x ∈ l, Free1 Γ x a) :
    SFn Tryd.prog Γ 68 [.d (.slc (Tp.ds l)), .clo 59 [.fptr (sD a) 0]] [] (.d (iD (idxT (fun x => freeB x a) l 0))) [] := by
  have hll := Tp.ds_len l
  obtain ⟨p, hp⟩ : ∃ p, (fun x => freeB x a) = p := ⟨_, rfl⟩
  have hpx : ∀ x, freeB x a = p x := fun x => congrFun hp x
  rw [hp]
  refine sfn_of_swp (N := 19) Tryd.func68 rfl (by decide) rfl rfl (by simp) (fun C h0 => ?_)
  simp only [argS]
  repeat' (first
    |(with_reducible first|refine swp_seq ?_|refine swp_block ?_|refine swp_skip ?_|refine swp_ret ?_|refine swp_exit ?_|refine swp_label ?_|refine kseq_n ?_|refine kseq_x ?_|refine kseq_r ?_|refine kblk_n ?_|refine kblk_r ?_|refine kblk_xs ?_|refine kloop_x ?_|refine kloop_r ?_)
    |((with_reducible refine kblk_xn ?_ ?_);rfl)
    |((with_reducible refine swp_regionP ?_ ?_ (fun K' hK' => ?_));rfl;rfl;simp only [UN, LM, Nat.reduceBEq, Nat.reduceLeDiff, Int.reduceLE, Int.reduceLT, Int.reduceToNat, Nat.reduceAdd, Nat.reduceSub, Nat.reduceMul, reduceCtorEq, TAS, TBS, hll];(repeat (refine And.intro ?_ ?_; focus (clear hK'; intros; simp_all; done)));(try (refine hK' _ _ ?_; clear hK'; clear K')))
    |((with_reducible refine swp_cond ?_ ?_);rfl;refine ⟨_, rfl, fun h => ?_, fun h => ?_⟩ <;> (try (exfalso; exact absurd h (by decide)))))
  refine swp_loop (α := Nat) (fun j => [(0, .d (.slc (Tp.ds l))), (1, .clo 59 [.fptr (sD a) 0]), (7, .d (iD l.length)), (8, .d (iD j))]) (fun _ => [])
    (fun j => j ≤ l.length ∧ idxT p l 0 = idxT p (l.drop j) j) (fun j => l.length - j) 0 ⟨Nat.zero_le _, rfl⟩ (by refine sub_of h0 ?_ ?_ ?_ <;> simp only [US, UN, LM, Nat.reduceBEq, Nat.reduceLeDiff, Int.reduceLE, Int.reduceLT, Int.reduceToNat, Nat.reduceAdd, Nat.reduceSub, Nat.reduceMul, reduceCtorEq, TAS, TBS, hll]) (fun j hj => ?_)
  obtain ⟨hj, hch⟩ := hj
  have hb0 : (0 : Int) ≤ (j : Int) := by omega
  by_cases hlt : j < l.length
  · obtain ⟨b, hx⟩ : ∃ b, l[j]? = some b := ⟨l[j], by simp [hlt]⟩
    have hcall := hf b (List.mem_of_getElem? hx)
    unfold Free1 at hcall
    rw [hpx] at hcall
    have hget := Tp.ds_get l j b hx
    have hb1 : (j : Int) < (l.length : Int) := by omega
    have hw3 : IntKind.i64.wrap ((j : Int) + 1) = ((j + 1 : Nat) : Int) := by rw [wrap_in (by omega) (by omega)]; omega
    have hd : l.drop j = b :: l.drop (j + 1) := by
      obtain ⟨h1, h2⟩ := List.getElem?_eq_some_iff.1 hx
      rw [List.drop_eq_getElem_cons h1, h2]
    rw [hd] at hch
    simp only [idxT] at hch
    obtain ⟨pb, hpb⟩ : ∃ pb, p b = pb := ⟨_, rfl⟩
    rw [hpb] at hcall hch
    obtain ⟨k, so, nm, ls, l'⟩ := b
    simp only [Tp.d] at hget hcall
    repeat' (first
      |(with_reducible first|refine swp_seq ?_|refine swp_block ?_|refine swp_skip ?_|refine swp_ret ?_|refine swp_exit ?_|refine swp_label ?_|refine kseq_n ?_|refine kseq_x ?_|refine kseq_r ?_|refine kblk_n ?_|refine kblk_r ?_|refine kblk_xs ?_|refine kloop_x ?_|refine kloop_r ?_)
      |((with_reducible refine kblk_xn ?_ ?_);rfl)
      |((with_reducible refine swp_regionP ?_ ?_ (fun K' hK' => ?_));rfl;rfl;simp only [UN, LM, Nat.reduceBEq, Nat.reduceLeDiff, Int.reduceLE, Int.reduceLT, Int.reduceToNat, Nat.reduceAdd, Nat.reduceSub, Nat.reduceMul, reduceCtorEq, TAS, TBS, Int.toNat_natCast, hget, hll, hb0, hb1];(repeat (refine And.intro ?_ ?_; focus (clear hK'; intros; simp_all; done)));(try (refine hK' _ _ ?_; clear hK'; clear K')))
      |((with_reducible refine swp_cond ?_ ?_);rfl;refine ⟨_, rfl, fun h => ?_, fun h => ?_⟩ <;> (try (exfalso; exact absurd h (by decide)))))
    refine stop_callV rfl rfl (by simp only [UN, LM, Nat.reduceBEq, Nat.reduceLeDiff, Int.reduceLE, Int.reduceLT, Int.reduceToNat, Nat.reduceAdd, Nat.reduceSub, Nat.reduceMul, reduceCtorEq]) (by simp only [argF, argOne, hin, hins, UN, LM, Nat.reduceBEq, Nat.reduceLeDiff, Int.reduceLE, Int.reduceLT, Int.reduceToNat, Nat.reduceAdd, Nat.reduceSub, Nat.reduceMul, reduceCtorEq, Option.isSome_some]) (by simp only [subC, UN, LM, Nat.reduceBEq, Nat.reduceLeDiff, Int.reduceLE, Int.reduceLT, Int.reduceToNat, Nat.reduceAdd, Nat.reduceSub, Nat.reduceMul, reduceCtorEq]) (by simp only [hinB, hin, hins, UN, LM, Nat.reduceBEq, Nat.reduceLeDiff, Int.reduceLE, Int.reduceLT, Int.reduceToNat, Nat.reduceAdd, Nat.reduceSub, Nat.reduceMul, reduceCtorEq, Option.isSome_some]) (by simp only [sameD, newS, lk, nbeq, Nat.reduceBEq, cond_false, cond_true, Option.isNone_none, and_self, true_and, and_true]) (hcall) ?_
    simp only [UN, LM, Nat.reduceBEq, Nat.reduceLeDiff, Int.reduceLE, Int.reduceLT, Int.reduceToNat, Nat.reduceAdd, Nat.reduceSub, Nat.reduceMul, reduceCtorEq, TAS, TBS, UM, ]
    (try (refine hK' _ _ ?_; clear hK'; clear K'))
    repeat' (first
      |(with_reducible first|refine swp_seq ?_|refine swp_block ?_|refine swp_skip ?_|refine swp_ret ?_|refine swp_exit ?_|refine swp_label ?_|refine kseq_n ?_|refine kseq_x ?_|refine kseq_r ?_|refine kblk_n ?_|refine kblk_r ?_|refine kblk_xs ?_|refine kloop_x ?_|refine kloop_r ?_)
      |((with_reducible refine kblk_xn ?_ ?_);rfl)
      |((with_reducible refine swp_regionP ?_ ?_ (fun K' hK' => ?_));rfl;rfl;simp only [UN, LM, Nat.reduceBEq, Nat.reduceLeDiff, Int.reduceLE, Int.reduceLT, Int.reduceToNat, Nat.reduceAdd, Nat.reduceSub, Nat.reduceMul, reduceCtorEq, TAS, TBS, hw3];(repeat (refine And.intro ?_ ?_; focus (clear hK'; intros; simp_all; done)));(try (refine hK' _ _ ?_; clear hK'; clear K')))
      |((with_reducible refine swp_cond ?_ ?_);rfl;refine ⟨_, rfl, fun h => ?_, fun h => ?_⟩ <;> (try (exfalso; exact absurd h (by decide)))))
    · simp only [KretS, retL, retOne, oneV, US, UN, LM, Nat.reduceBEq, Nat.reduceLeDiff, Int.reduceLE, Int.reduceLT, Int.reduceToNat, Nat.reduceAdd, Nat.reduceSub, Nat.reduceMul, reduceCtorEq, TAS, TBS, h0]
      have h : pb = true := by simpa using h
      rw [hch, if_pos h]
    · have h : ¬ pb = true := by simpa using h
      rw [if_neg h] at hch
      refine ⟨j + 1, ⟨(by show j + 1 ≤ l.length; omega), hch⟩, (by show l.length - (j + 1) < l.length - j; omega), by refine sub_of h0 ?_ ?_ ?_ <;> simp only [US, UN, LM, Nat.reduceBEq, Nat.reduceLeDiff, Int.reduceLE, Int.reduceLT, Int.reduceToNat, Nat.reduceAdd, Nat.reduceSub, Nat.reduceMul, reduceCtorEq, TAS, TBS]⟩
  · have hb1 : ¬ (j : Int) < (l.length : Int) := by omega
    repeat' (first
      |(with_reducible first|refine swp_seq ?_|refine swp_block ?_|refine swp_skip ?_|refine swp_ret ?_|refine swp_exit ?_|refine swp_label ?_|refine kseq_n ?_|refine kseq_x ?_|refine kseq_r ?_|refine kblk_n ?_|refine kblk_r ?_|refine kblk_xs ?_|refine kloop_x ?_|refine kloop_r ?_)
      |((with_reducible refine kblk_xn ?_ ?_);rfl)
      |((with_reducible refine swp_regionP ?_ ?_ (fun K' hK' => ?_));rfl;rfl;simp only [UN, LM, Nat.reduceBEq, Nat.reduceLeDiff, Int.reduceLE, Int.reduceLT, Int.reduceToNat, Nat.reduceAdd, Nat.reduceSub, Nat.reduceMul, reduceCtorEq, TAS, TBS, hb1];(repeat (refine And.intro ?_ ?_; focus (clear hK'; intros; simp_all; done)));(try (refine hK' _ _ ?_; clear hK'; clear K')))
      |((with_reducible refine swp_cond ?_ ?_);rfl;refine ⟨_, rfl, fun h => ?_, fun h => ?_⟩ <;> (try (exfalso; exact absurd h (by decide)))))
    simp only [KretS, retL, retOne, oneV, US, UN, LM, Nat.reduceBEq, Nat.reduceLeDiff, Int.reduceLE, Int.reduceLT, Int.reduceToNat, Nat.reduceAdd, Nat.reduceSub, Nat.reduceMul, reduceCtorEq, TAS, TBS, h0]
    rw [hch, List.drop_of_length_le (by omega)]
    rfl
set_option maxHeartbeats 4000000 in
set_option maxRecDepth 100000 in
theorem containsT_fn (Γ : Gl) (a : ByteArray) (l : List Tp) (hl : l.length ≤ 140737488355328) (hf : ∀ x ∈ l, Free1 Γ x a) :
    SFn Tryd.prog Γ 58 [.d (.slc (Tp.ds l)), .clo 59 [.fptr (sD a) 0]] [] (.d (.v (.bool (freeBs l a)))) [] := by
  have hc := indexT_fn Γ a l hl hf
  refine sfn_of_swp (N := 9) Tryd.func58 rfl (by decide) rfl rfl (by simp) (fun C h0 => ?_)
  simp only [argS]
  repeat' (first
    |(with_reducible first|refine swp_seq ?_|refine swp_block ?_|refine swp_skip ?_|refine swp_ret ?_|refine swp_exit ?_|refine swp_label ?_|refine kseq_n ?_|refine kseq_x ?_|refine kseq_r ?_|refine kblk_n ?_|refine kblk_r ?_|refine kblk_xs ?_|refine kloop_x ?_|refine kloop_r ?_)
    |((with_reducible refine kblk_xn ?_ ?_);rfl)
    |((with_reducible refine swp_regionP ?_ ?_ (fun K' hK' => ?_));rfl;rfl;simp only [UN, LM, Nat.reduceBEq, Nat.reduceLeDiff, Int.reduceLE, Int.reduceLT, Int.reduceToNat, Nat.reduceAdd, Nat.reduceSub, Nat.reduceMul, reduceCtorEq, TAS, TBS];(repeat (refine And.intro ?_ ?_; focus (clear hK'; intros; simp_all; done)));(try (refine hK' _ _ ?_; clear hK'; clear K')))
    |((with_reducible refine swp_cond ?_ ?_);rfl;refine ⟨_, rfl, fun h => ?_, fun h => ?_⟩ <;> (try (exfalso; exact absurd h (by decide)))))
  refine stop_cS rfl (by simp only [UA, UN, LM, Nat.reduceBEq, Nat.reduceLeDiff, Int.reduceLE, Int.reduceLT, Int.reduceToNat, Nat.reduceAdd, Nat.reduceSub, Nat.reduceMul, reduceCtorEq]) (hc) ?_
  simp only [UN, LM, Nat.reduceBEq, Nat.reduceLeDiff, Int.reduceLE, Int.reduceLT, Int.reduceToNat, Nat.reduceAdd, Nat.reduceSub, Nat.reduceMul, reduceCtorEq, TAS, TBS, UM, ]
  (try (refine hK' _ _ ?_; clear hK'; clear K'))
  repeat' (first
    |(with_reducible first|refine swp_seq ?_|refine swp_block ?_|refine swp_skip ?_|refine swp_ret ?_|refine swp_exit ?_|refine swp_label ?_|refine kseq_n ?_|refine kseq_x ?_|refine kseq_r ?_|refine kblk_n ?_|refine kblk_r ?_|refine kblk_xs ?_|refine kloop_x ?_|refine kloop_r ?_)
    |((with_reducible refine kblk_xn ?_ ?_);rfl)
    |((with_reducible refine swp_regionP ?_ ?_ (fun K' hK' => ?_));rfl;rfl;simp only [UN, LM, Nat.reduceBEq, Nat.reduceLeDiff, Int.reduceLE, Int.reduceLT, Int.reduceToNat, Nat.reduceAdd, Nat.reduceSub, Nat.reduceMul, reduceCtorEq, TAS, TBS];(repeat (refine And.intro ?_ ?_; focus (clear hK'; intros; simp_all; done)));(try (refine hK' _ _ ?_; clear hK'; clear K')))
    |((with_reducible refine swp_cond ?_ ?_);rfl;refine ⟨_, rfl, fun h => ?_, fun h => ?_⟩ <;> (try (exfalso; exact absurd h (by decide)))))
  simp only [KretS, retL, retOne, oneV, US, UN, LM, Nat.reduceBEq, Nat.reduceLeDiff, Int.reduceLE, Int.reduceLT, Int.reduceToNat, Nat.reduceAdd, Nat.reduceSub, Nat.reduceMul, reduceCtorEq, TAS, TBS, h0]
  rw [← idxT_free a l 0]
def FreeS (Γ : Gl) (x : Tp) : Prop := ∀ a : ByteArray, DFn Tryd.prog Γ 36 [x.d, sD a] (.v (.bool (freeB x a)))
set_option maxHeartbeats 4000000 in
set_option maxRecDepth 100000 in
theorem free1_fn (Γ : Gl) (x : Tp) (a : ByteArray) (h : FreeS Γ x) : Free1 Γ x a := by
  have hc := h a
  unfold Free1
  generalize freeB x a = r at *
  obtain ⟨k, so, nm, ls, l⟩ := x
  simp only [Tp.d] at hc ⊢
  refine sfn_of_swp (N := 7) Tryd.func59 rfl (by decide) rfl rfl (by simp) (fun C h0 => ?_)
  simp only [argS]
  repeat' (first
    |(with_reducible first|refine swp_seq ?_|refine swp_block ?_|refine swp_skip ?_|refine swp_ret ?_|refine swp_exit ?_|refine swp_label ?_|refine kseq_n ?_|refine kseq_x ?_|refine kseq_r ?_|refine kblk_n ?_|refine kblk_r ?_|refine kblk_xs ?_|refine kloop_x ?_|refine kloop_r ?_)
    |((with_reducible refine kblk_xn ?_ ?_);rfl)
    |((with_reducible refine swp_regionP ?_ ?_ (fun K' hK' => ?_));rfl;rfl;simp only [UN, LM, Nat.reduceBEq, Nat.reduceLeDiff, Int.reduceLE, Int.reduceLT, Int.reduceToNat, Nat.reduceAdd, Nat.reduceSub, Nat.reduceMul, reduceCtorEq, TAS, TBS];(repeat (refine And.intro ?_ ?_; focus (clear hK'; intros; simp_all; done)));(try (refine hK' _ _ ?_; clear hK'; clear K')))
    |((with_reducible refine swp_cond ?_ ?_);rfl;refine ⟨_, rfl, fun h => ?_, fun h => ?_⟩ <;> (try (exfalso; exact absurd h (by decide)))))
  refine stop_callF rfl (by simp only [UN, LM, Nat.reduceBEq, Nat.reduceLeDiff, Int.reduceLE, Int.reduceLT, Int.reduceToNat, Nat.reduceAdd, Nat.reduceSub, Nat.reduceMul, reduceCtorEq]) rfl rfl (hc) ?_
  simp only [UN, LM, Nat.reduceBEq, Nat.reduceLeDiff, Int.reduceLE, Int.reduceLT, Int.reduceToNat, Nat.reduceAdd, Nat.reduceSub, Nat.reduceMul, reduceCtorEq, TAS, TBS, inX, dropS, ]
  (repeat (refine And.intro ?_ ?_; focus (clear hK'; intros; simp_all; done)))
  (try (refine hK' _ _ ?_; clear hK'; clear K'))
  repeat' (first
    |(with_reducible first|refine swp_seq ?_|refine swp_block ?_|refine swp_skip ?_|refine swp_ret ?_|refine swp_exit ?_|refine swp_label ?_|refine kseq_n ?_|refine kseq_x ?_|refine kseq_r ?_|refine kblk_n ?_|refine kblk_r ?_|refine kblk_xs ?_|refine kloop_x ?_|refine kloop_r ?_)
    |((with_reducible refine kblk_xn ?_ ?_);rfl)
    |((with_reducible refine swp_regionP ?_ ?_ (fun K' hK' => ?_));rfl;rfl;simp only [UN, LM, Nat.reduceBEq, Nat.reduceLeDiff, Int.reduceLE, Int.reduceLT, Int.reduceToNat, Nat.reduceAdd, Nat.reduceSub, Nat.reduceMul, reduceCtorEq, TAS, TBS];(repeat (refine And.intro ?_ ?_; focus (clear hK'; intros; simp_all; done)));(try (refine hK' _ _ ?_; clear hK'; clear K')))
    |((with_reducible refine swp_cond ?_ ?_);rfl;refine ⟨_, rfl, fun h => ?_, fun h => ?_⟩ <;> (try (exfalso; exact absurd h (by decide)))))
  simp only [KretS, retL, retOne, oneV, US, UN, LM, Nat.reduceBEq, Nat.reduceLeDiff, Int.reduceLE, Int.reduceLT, Int.reduceToNat, Nat.reduceAdd, Nat.reduceSub, Nat.reduceMul, reduceCtorEq, TAS, TBS, h0]
set_option maxHeartbeats 8000000 in
set_option maxRecDepth 100000 in
theorem free_node (Γ : Gl) (k so : Int) (nm : ByteArray) (ls : List ByteArray) (l : List Tp) (hl : l.length ≤ 6) (ih : ∀ x ∈ l, FreeS Γ x) : FreeS Γ (.mk k so nm ls l) := by
  intro a
  have hll := Tp.ds_len l
  have hc := containsT_fn Γ a l (by omega) fun x hx => free1_fn Γ x a (ih x hx)
  unfold freeB
  simp only [Tp.d]
  by_cases h9 : k = 9
  · rw [if_pos h9]
    have g9 : (k == 9) = true := by simpa using h9
    refine fn_of_swp (N := 27) Tryd.func36 rfl (by decide) rfl rfl (by simp) (fun C h0 => ?_)
    simp only [argE]
    repeat' (first
      |(with_reducible first|refine swp_seq ?_|refine swp_block ?_|refine swp_skip ?_|refine swp_ret ?_|refine swp_exit ?_|refine swp_label ?_|refine kseq_n ?_|refine kseq_x ?_|refine kseq_r ?_|refine kblk_n ?_|refine kblk_r ?_|refine kblk_xs ?_|refine kloop_x ?_|refine kloop_r ?_)
      |((with_reducible refine kblk_xn ?_ ?_);rfl)
      |((with_reducible refine swp_regionP ?_ ?_ (fun K' hK' => ?_));rfl;rfl;simp only [UN, LM, Nat.reduceBEq, Nat.reduceLeDiff, Int.reduceLE, Int.reduceLT, Int.reduceToNat, Nat.reduceAdd, Nat.reduceSub, Nat.reduceMul, reduceCtorEq, TAS, TBS, g9];(repeat (refine And.intro ?_ ?_; focus (clear hK'; intros; simp_all; done)));(try (refine hK' _ _ ?_; clear hK'; clear K')))
      |((with_reducible refine swp_cond ?_ ?_);rfl;refine ⟨_, rfl, fun h => ?_, fun h => ?_⟩ <;> (try (exfalso; exact absurd h (by decide)))))
    simp only [Kret, retL, retOne, oneV, UN, LM, Nat.reduceBEq, Nat.reduceLeDiff, Int.reduceLE, Int.reduceLT, Int.reduceToNat, Nat.reduceAdd, Nat.reduceSub, Nat.reduceMul, reduceCtorEq, TAS, TBS]
  rw [if_neg h9]
  have g9 : (k == 9) = false := by simpa using h9
  have sta : (if k = 8 ∧ nm.toList = a.toList then false else freeBs l a) = (if (k != 8 || nm.toList != a.toList) = true then freeBs l a else false) := by
    by_cases h8 : k = 8 <;> by_cases hn : nm.toList = a.toList <;> simp [h8, hn]
  rw [sta]
  clear sta
  generalize freeBs l a = r at *
  refine fn_of_swp (N := 27) Tryd.func36 rfl (by decide) rfl rfl (by simp) (fun C h0 => ?_)
  simp only [argE]
  refine swp_seq ?_
  refine swp_midK [(2, .ref 0 0), (3, .fptr (sD a) 0), (4, .d (bD false))] [(0, .cells [.d (iD k), .d (iD so), .d (sD nm), .d (.slc (ls.map sD)), .d (.slc (Tp.ds l))])] ?_ ?_
  · repeat' (first
      |(with_reducible first|refine swp_seq ?_|refine swp_block ?_|refine swp_skip ?_|refine swp_ret ?_|refine swp_exit ?_|refine swp_label ?_|refine kseq_n ?_|refine kseq_x ?_|refine kseq_r ?_|refine kblk_n ?_|refine kblk_r ?_|refine kblk_xs ?_|refine kloop_x ?_|refine kloop_r ?_)
      |((with_reducible refine kblk_xn ?_ ?_);rfl)
      |((with_reducible refine swp_regionP ?_ ?_ (fun K' hK' => ?_));rfl;rfl;simp only [UN, LM, Nat.reduceBEq, Nat.reduceLeDiff, Int.reduceLE, Int.reduceLT, Int.reduceToNat, Nat.reduceAdd, Nat.reduceSub, Nat.reduceMul, reduceCtorEq, TAS, TBS];(repeat (refine And.intro ?_ ?_; focus (clear hK'; intros; simp_all; done)));(try (refine hK' _ _ ?_; clear hK'; clear K')))
      |((with_reducible refine swp_cond ?_ ?_);rfl;refine ⟨_, rfl, fun h => ?_, fun h => ?_⟩ <;> (try (exfalso; exact absurd h (by decide)))))
    refine ⟨rfl, ?_⟩
    refine sub_of h0 ?_ ?_ ?_ <;> simp only [US, UN, LM, Nat.reduceBEq, Nat.reduceLeDiff, Int.reduceLE, Int.reduceLT, Int.reduceToNat, Nat.reduceAdd, Nat.reduceSub, Nat.reduceMul, reduceCtorEq, TAS, TBS]
  repeat' (first
    |(with_reducible first|refine swp_seq ?_|refine swp_block ?_|refine swp_skip ?_|refine swp_ret ?_|refine swp_exit ?_|refine swp_label ?_|refine kseq_n ?_|refine kseq_x ?_|refine kseq_r ?_|refine kblk_n ?_|refine kblk_r ?_|refine kblk_xs ?_|refine kloop_x ?_|refine kloop_r ?_)
    |((with_reducible refine kblk_xn ?_ ?_);rfl)
    |((with_reducible refine swp_regionP ?_ ?_ (fun K' hK' => ?_));rfl;rfl;simp only [UN, LM, Nat.reduceBEq, Nat.reduceLeDiff, Int.reduceLE, Int.reduceLT, Int.reduceToNat, Nat.reduceAdd, Nat.reduceSub, Nat.reduceMul, reduceCtorEq, TAS, TBS, g9];(repeat (refine And.intro ?_ ?_; focus (clear hK'; intros; simp_all; done)));(try (refine hK' _ _ ?_; clear hK'; clear K')))
    |((with_reducible refine swp_cond ?_ ?_);rfl;refine ⟨_, rfl, fun h => ?_, fun h => ?_⟩ <;> (try (exfalso; exact absurd h (by decide)))))
  cases g8 : (k != 8) with
  | true =>
    (with_reducible refine swp_region ?_ (fun K' hK' => ?_)
     · rfl
     simp only [UN, LM, Nat.reduceBEq, Nat.reduceLeDiff, Int.reduceLE, Int.reduceLT, Int.reduceToNat, Nat.reduceAdd, Nat.reduceSub, Nat.reduceMul, reduceCtorEq, TAS, TBS, g8, Bool.not_true, Bool.not_false, Bool.true_or, Bool.false_or, cond_true, cond_false]
     (repeat (refine And.intro ?_ ?_; focus (clear hK'; intros; simp_all; done))))
    refine stop_guard rfl ?_
    refine stop_cS rfl (by simp only [UA, UN, LM, Nat.reduceBEq, Nat.reduceLeDiff, Int.reduceLE, Int.reduceLT, Int.reduceToNat, Nat.reduceAdd, Nat.reduceSub, Nat.reduceMul, reduceCtorEq]) (hc) ?_
    simp only [UN, LM, Nat.reduceBEq, Nat.reduceLeDiff, Int.reduceLE, Int.reduceLT, Int.reduceToNat, Nat.reduceAdd, Nat.reduceSub, Nat.reduceMul, reduceCtorEq, TAS, TBS, UM, Bool.not_true, Bool.not_false, Bool.true_or, Bool.false_or, cond_true, cond_false]
    (try (refine hK' _ _ ?_; clear hK'; clear K'))
    repeat' (first
      |(with_reducible first|refine swp_seq ?_|refine swp_block ?_|refine swp_skip ?_|refine swp_ret ?_|refine swp_exit ?_|refine swp_label ?_|refine kseq_n ?_|refine kseq_x ?_|refine kseq_r ?_|refine kblk_n ?_|refine kblk_r ?_|refine kblk_xs ?_|refine kloop_x ?_|refine kloop_r ?_)
      |((with_reducible refine kblk_xn ?_ ?_);rfl)
      |((with_reducible refine swp_regionP ?_ ?_ (fun K' hK' => ?_));rfl;rfl;simp only [UN, LM, Nat.reduceBEq, Nat.reduceLeDiff, Int.reduceLE, Int.reduceLT, Int.reduceToNat, Nat.reduceAdd, Nat.reduceSub, Nat.reduceMul, reduceCtorEq, TAS, TBS];(repeat (refine And.intro ?_ ?_; focus (clear hK'; intros; simp_all; done)));(try (refine hK' _ _ ?_; clear hK'; clear K')))
      |((with_reducible refine swp_cond ?_ ?_);rfl;refine ⟨_, rfl, fun h => ?_, fun h => ?_⟩ <;> (try (exfalso; exact absurd h (by decide)))))
    simp only [Kret, retL, retOne, oneV, UN, LM, Nat.reduceBEq, Nat.reduceLeDiff, Int.reduceLE, Int.reduceLT, Int.reduceToNat, Nat.reduceAdd, Nat.reduceSub, Nat.reduceMul, reduceCtorEq, TAS, TBS]
    simp
  | false =>
    cases gn : (nm.toList != a.toList) with
    | true =>
      have gn' : (nm.toList == a.toList) = false := by simpa [bne] using gn
      (with_reducible refine swp_region ?_ (fun K' hK' => ?_)
       · rfl
       simp only [UN, LM, Nat.reduceBEq, Nat.reduceLeDiff, Int.reduceLE, Int.reduceLT, Int.reduceToNat, Nat.reduceAdd, Nat.reduceSub, Nat.reduceMul, reduceCtorEq, TAS, TBS, g8, gn, gn', Bool.not_true, Bool.not_false, Bool.true_or, Bool.false_or, cond_true, cond_false]
       (repeat (refine And.intro ?_ ?_; focus (clear hK'; intros; simp_all; done))))
      refine stop_guard rfl ?_
      refine stop_cS rfl (by simp only [UA, UN, LM, Nat.reduceBEq, Nat.reduceLeDiff, Int.reduceLE, Int.reduceLT, Int.reduceToNat, Nat.reduceAdd, Nat.reduceSub, Nat.reduceMul, reduceCtorEq]) (hc) ?_
      simp only [UN, LM, Nat.reduceBEq, Nat.reduceLeDiff, Int.reduceLE, Int.reduceLT, Int.reduceToNat, Nat.reduceAdd, Nat.reduceSub, Nat.reduceMul, reduceCtorEq, TAS, TBS, UM, Bool.not_true, Bool.not_false, Bool.true_or, Bool.false_or, cond_true, cond_false]
      (try (refine hK' _ _ ?_; clear hK'; clear K'))
      repeat' (first
        |(with_reducible first|refine swp_seq ?_|refine swp_block ?_|refine swp_skip ?_|refine swp_ret ?_|refine swp_exit ?_|refine swp_label ?_|refine kseq_n ?_|refine kseq_x ?_|refine kseq_r ?_|refine kblk_n ?_|refine kblk_r ?_|refine kblk_xs ?_|refine kloop_x ?_|refine kloop_r ?_)
        |((with_reducible refine kblk_xn ?_ ?_);rfl)
        |((with_reducible refine swp_regionP ?_ ?_ (fun K' hK' => ?_));rfl;rfl;simp only [UN, LM, Nat.reduceBEq, Nat.reduceLeDiff, Int.reduceLE, Int.reduceLT, Int.reduceToNat, Nat.reduceAdd, Nat.reduceSub, Nat.reduceMul, reduceCtorEq, TAS, TBS];(repeat (refine And.intro ?_ ?_; focus (clear hK'; intros; simp_all; done)));(try (refine hK' _ _ ?_; clear hK'; clear K')))
        |((with_reducible refine swp_cond ?_ ?_);rfl;refine ⟨_, rfl, fun h => ?_, fun h => ?_⟩ <;> (try (exfalso; exact absurd h (by decide)))))
      simp only [Kret, retL, retOne, oneV, UN, LM, Nat.reduceBEq, Nat.reduceLeDiff, Int.reduceLE, Int.reduceLT, Int.reduceToNat, Nat.reduceAdd, Nat.reduceSub, Nat.reduceMul, reduceCtorEq, TAS, TBS]
      simp
    | false =>
      have gn' : (nm.toList == a.toList) = true := by simpa [bne] using gn
      (with_reducible refine swp_region ?_ (fun K' hK' => ?_)
       · rfl
       simp only [UN, LM, Nat.reduceBEq, Nat.reduceLeDiff, Int.reduceLE, Int.reduceLT, Int.reduceToNat, Nat.reduceAdd, Nat.reduceSub, Nat.reduceMul, reduceCtorEq, TAS, TBS, g8, gn, gn', Bool.not_true, Bool.not_false, Bool.true_or, Bool.false_or, cond_true, cond_false]
       (repeat (refine And.intro ?_ ?_; focus (clear hK'; intros; simp_all; done))))
      refine stop_unmetB rfl rfl ?_
      simp only [UN, LM, Nat.reduceBEq, Nat.reduceLeDiff, Int.reduceLE, Int.reduceLT, Int.reduceToNat, Nat.reduceAdd, Nat.reduceSub, Nat.reduceMul, reduceCtorEq, TAS, TBS, Bool.not_true, Bool.not_false, Bool.true_or, Bool.false_or, cond_true, cond_false]
      (try (refine hK' _ _ ?_; clear hK'; clear K'))
      repeat' (first
        |(with_reducible first|refine swp_seq ?_|refine swp_block ?_|refine swp_skip ?_|refine swp_ret ?_|refine swp_exit ?_|refine swp_label ?_|refine kseq_n ?_|refine kseq_x ?_|refine kseq_r ?_|refine kblk_n ?_|refine kblk_r ?_|refine kblk_xs ?_|refine kloop_x ?_|refine kloop_r ?_)
        |((with_reducible refine kblk_xn ?_ ?_);rfl)
        |((with_reducible refine swp_regionP ?_ ?_ (fun K' hK' => ?_));rfl;rfl;simp only [UN, LM, Nat.reduceBEq, Nat.reduceLeDiff, Int.reduceLE, Int.reduceLT, Int.reduceToNat, Nat.reduceAdd, Nat.reduceSub, Nat.reduceMul, reduceCtorEq, TAS, TBS];(repeat (refine And.intro ?_ ?_; focus (clear hK'; intros; simp_all; done)));(try (refine hK' _ _ ?_; clear hK'; clear K')))
        |((with_reducible refine swp_cond ?_ ?_);rfl;refine ⟨_, rfl, fun h => ?_, fun h => ?_⟩ <;> (try (exfalso; exact absurd h (by decide)))))
      simp only [Kret, retL, retOne, oneV, UN, LM, Nat.reduceBEq, Nat.reduceLeDiff, Int.reduceLE, Int.reduceLT, Int.reduceToNat, Nat.reduceAdd, Nat.reduceSub, Nat.reduceMul, reduceCtorEq, TAS, TBS]
      simp
theorem free_all (Γ : Gl) {x : Tp} (h : OkT x) : FreeS Γ x := by
  induction h with
  | nil => exact free_node Γ 1 0 noB [] [] (by simp) (fun x hx => by cases hx)
  | pass k so x hk h1 h3 hx ih => exact free_node Γ k so noB [] [x] (by simp) (fun y hy => by rw [show y = x by simpa using hy]; exact ih)
  | give k x y hk hx hy ih1 ih2 => exact free_node Γ k 0 noB [] [x, y] (by simp) (fun z hz => by
      rcases List.mem_cons.1 hz with rfl | hz
      · exact ih1
      · rw [show z = y by simpa using hz]; exact ih2)
  | pick k ls l hk hl hn h ih => exact free_node Γ k 0 noB ls l (by have := labels_len hl; omega) ih
  | bind nm x hn hx ih => exact free_node Γ 8 0 nm [] [x] (by simp) (fun y hy => by rw [show y = x by simpa using hy]; exact ih)
  | var nm hn => exact free_node Γ 9 0 nm [] [] (by simp) (fun x hx => by cases hx)
def PutS (Γ : Gl) (a : ByteArray) (s : Tp) (c : ByteArray) (t : Tp) : Prop := DFn Tryd.prog Γ 13 [t.d, sD a, s.d, sD c] (.tup [(putP a s c t).1.d, bD (putP a s c t).2])
theorem ds_map2 : ∀ l : List Tp, Tp.ds l = l.map Tp.d
  | [] => rfl
  | x :: l => by simp [Tp.ds, ds_map2 l]
theorem ds_app (l : List Tp) (x : Tp) : Tp.ds (l ++ [x]) = Tp.ds l ++ [x.d] := by simp [ds_map2]
theorem putL_snoc (a : ByteArray) (s : Tp) (c : ByteArray) (x : Tp) : ∀ l : List Tp, putL a s c (l ++ [x]) = match putL a s c l with | some l' => if (putP a s c x).2 = true then some (l' ++ [(putP a s c x).1]) else none | none => none
  | [] => by simp [putL]
  | y :: l => by
    rw [List.cons_append, putL, putL, putL_snoc a s c x l]
    by_cases hy : (putP a s c y).2 = true
    · rw [if_pos hy, if_pos hy]
      cases putL a s c l with
      | none => rfl
      | some l' =>
        simp only [Option.map_some]
        by_cases hx : (putP a s c x).2 = true
        · rw [if_pos hx, if_pos hx]; rfl
        · rw [if_neg hx, if_neg hx]; rfl
    · rw [if_neg hy, if_neg hy]
theorem putL_bad {a : ByteArray} {s : Tp} {c : ByteArray} : ∀ {l l' : List Tp}, putL a s c l = none → putL a s c (l ++ l') = none
  | [], l', h => by cases h
  | x :: l, l', h => by
    rw [putL] at h
    rw [List.cons_append, putL]
    split
    · rename_i hx
      rw [if_pos hx] at h
      rw [putL_bad (l := l) (by cases hl : putL a s c l with | none => rfl | some l2 => rw [hl] at h; cases h)]
      rfl
    · rfl
set_option maxHeartbeats 8000000 in
set_option maxRecDepth 100000 in
theorem put_node (Γ : Gl) (a : ByteArray) (s : Tp) (c : ByteArray) (k so : Int) (nm : ByteArray) (ls : List ByteArray) (l : List Tp) (hl : l.length ≤ 6) (hk8 : k = 8 → ∃ x, l = [x] ∧ FreeS Γ x) (ih : ∀ x ∈ l, PutS Γ a s c x) : PutS Γ a s c (.mk k so nm ls l) := by
  unfold PutS
  have hll := Tp.ds_len l
  obtain ⟨R, hR⟩ : ∃ R, putP a s c (.mk k so nm ls l) = R := ⟨_, rfl⟩
  rw [hR]
  rw [putP] at hR
  obtain ⟨sk, sso, snm, sls, sl⟩ := s
  simp only [Tp.d]
  refine fn_of_swp (N := 81) Tryd.func13 rfl (by decide) rfl rfl (by simp) (fun C h0 => ?_)
  simp only [argE]
  repeat' (first
    |(with_reducible first|refine swp_seq ?_|refine swp_block ?_|refine swp_skip ?_|refine swp_ret ?_|refine swp_exit ?_|refine swp_label ?_|refine kseq_n ?_|refine kseq_x ?_|refine kseq_r ?_|refine kblk_n ?_|refine kblk_r ?_|refine kblk_xs ?_|refine kloop_x ?_|refine kloop_r ?_)
    |((with_reducible refine kblk_xn ?_ ?_);rfl)
    |((with_reducible refine swp_regionP ?_ ?_ (fun K' hK' => ?_));rfl;rfl;simp only [UN, LM, Nat.reduceBEq, Nat.reduceLeDiff, Int.reduceLE, Int.reduceLT, Int.reduceToNat, Nat.reduceAdd, Nat.reduceSub, Nat.reduceMul, reduceCtorEq, TAS, TBS];(repeat (refine And.intro ?_ ?_; focus (clear hK'; intros; simp_all; done)));(try (refine hK' _ _ ?_; clear hK'; clear K')))
    |((with_reducible refine swp_cond ?_ ?_);rfl;refine ⟨_, rfl, fun h => ?_, fun h => ?_⟩ <;> (try (exfalso; exact absurd h (by decide)))))
  · have hc : k = 9 ∧ nm.toList = a.toList := by
      cases h9 : k == 9 with
      | false => rw [h9] at h; cases h
      | true => rw [h9] at h; exact ⟨by simpa using h9, by simpa using h⟩
    rw [if_pos hc] at hR
    subst hR
    simp only [Kret, retL, retOne, oneV, UN, LM, Nat.reduceBEq, Nat.reduceLeDiff, Int.reduceLE, Int.reduceLT, Int.reduceToNat, Nat.reduceAdd, Nat.reduceSub, Nat.reduceMul, reduceCtorEq, TAS, TBS, Tp.d]
  · have hc : k = 8 ∧ nm.toList = a.toList := by
      cases h8 : k == 8 with
      | false => rw [h8] at h; cases h
      | true => rw [h8] at h; exact ⟨by simpa using h8, by simpa using h⟩
    rw [if_neg (fun h => by omega), if_pos hc] at hR
    subst hR
    simp only [Kret, retL, retOne, oneV, UN, LM, Nat.reduceBEq, Nat.reduceLeDiff, Int.reduceLE, Int.reduceLT, Int.reduceToNat, Nat.reduceAdd, Nat.reduceSub, Nat.reduceMul, reduceCtorEq, TAS, TBS, Tp.d]
  rename_i h9
  have hn9 : ¬ (k = 9 ∧ nm.toList = a.toList) := fun ⟨e1, e2⟩ => by simp [e1, e2] at h9
  have hn8 : ¬ (k = 8 ∧ nm.toList = a.toList) := fun ⟨e1, e2⟩ => by simp [e1, e2] at h
  clear h h9
  rw [if_neg hn9, if_neg hn8] at hR
  refine swp_midF (ι := Bool) (fun v => [(1, .d (sD a)), (3, .d (sD c)), (4, .ref 0 0), (6, .ref 1 0), (8, .ref 2 0), (51, .d (bD v))])
    (fun _ => [(0, .cells [.d (iD k), .d (iD so), .d (sD nm), .d (.slc (ls.map sD)), .d (.slc (Tp.ds l))]), (1, .cells [.d (iD sk), .d (iD sso), .d (sD snm), .d (.slc (sls.map sD)), .d (.slc (Tp.ds sl))]), (2, .cells [.d (iD 0), .d (iD 0), .d (sD noB), .nil, .nil])])
    (fun v => (v = true ↔ k = 8 ∧ nm.toList = c.toList ∧ freeF l a = true)) ?_ (fun v hv => ?_)
  · by_cases h8 : k = 8
    · subst h8
      obtain ⟨x, rfl, hF⟩ := hk8 rfl
      have hF := hF a
      obtain ⟨xk, xso, xnm, xls, xl⟩ := x
      have e1 : Tp.ds [.mk xk xso xnm xls xl] = [.agg [iD xk, iD xso, sD xnm, .slc (xls.map sD), .slc (Tp.ds xl)]] := by simp only [Tp.ds, Tp.d]
      rw [e1] at hll ⊢
      simp only [Tp.d] at hF
      cases gc : (nm.toList == c.toList) with
      | true =>
        (with_reducible refine swp_region ?_ (fun K' hK' => ?_)
         · rfl
         simp only [UN, LM, Nat.reduceBEq, Nat.reduceLeDiff, Int.reduceLE, Int.reduceLT, Int.reduceToNat, Nat.reduceAdd, Nat.reduceSub, Nat.reduceMul, reduceCtorEq, TAS, TBS, gc, List.length_cons, List.length_nil, List.getD_cons_zero, Bool.not_true, Bool.not_false, cond_true, cond_false]
         (repeat (refine And.intro ?_ ?_; focus (clear hK'; intros; simp_all; done))))
        refine stop_guard rfl ?_
        refine stop_callF rfl (by simp only [UN, LM, Nat.reduceBEq, Nat.reduceLeDiff, Int.reduceLE, Int.reduceLT, Int.reduceToNat, Nat.reduceAdd, Nat.reduceSub, Nat.reduceMul, reduceCtorEq]) rfl rfl (hF) ?_
        simp only [UN, LM, Nat.reduceBEq, Nat.reduceLeDiff, Int.reduceLE, Int.reduceLT, Int.reduceToNat, Nat.reduceAdd, Nat.reduceSub, Nat.reduceMul, reduceCtorEq, TAS, TBS, inX, dropS, Bool.not_true, Bool.not_false, cond_true, cond_false]
        (repeat (refine And.intro ?_ ?_; focus (clear hK'; intros; simp_all; done)))
        (try (refine hK' _ _ ?_; clear hK'; clear K'))
        repeat' (first
          |(with_reducible first|refine swp_seq ?_|refine swp_block ?_|refine swp_skip ?_|refine swp_ret ?_|refine swp_exit ?_|refine swp_label ?_|refine kseq_n ?_|refine kseq_x ?_|refine kseq_r ?_|refine kblk_n ?_|refine kblk_r ?_|refine kblk_xs ?_|refine kloop_x ?_|refine kloop_r ?_)
          |((with_reducible refine kblk_xn ?_ ?_);rfl)
          |((with_reducible refine swp_regionP ?_ ?_ (fun K' hK' => ?_));rfl;rfl;simp only [UN, LM, Nat.reduceBEq, Nat.reduceLeDiff, Int.reduceLE, Int.reduceLT, Int.reduceToNat, Nat.reduceAdd, Nat.reduceSub, Nat.reduceMul, reduceCtorEq, TAS, TBS];(repeat (refine And.intro ?_ ?_; focus (clear hK'; intros; simp_all; done)));(try (refine hK' _ _ ?_; clear hK'; clear K')))
          |((with_reducible refine swp_cond ?_ ?_);rfl;refine ⟨_, rfl, fun h => ?_, fun h => ?_⟩ <;> (try (exfalso; exact absurd h (by decide)))))
        refine kfam_n (freeB (.mk xk xso xnm xls xl) a) ?_ ?_
        · simp only [freeF, true_and]
          exact ⟨fun h => ⟨by simpa using gc, h⟩, fun h => h.2⟩
        · refine sub_of h0 ?_ ?_ ?_ <;> simp only [US, UN, LM, Nat.reduceBEq, Nat.reduceLeDiff, Int.reduceLE, Int.reduceLT, Int.reduceToNat, Nat.reduceAdd, Nat.reduceSub, Nat.reduceMul, reduceCtorEq, TAS, TBS]
      | false =>
        (with_reducible refine swp_region ?_ (fun K' hK' => ?_)
         · rfl
         simp only [UN, LM, Nat.reduceBEq, Nat.reduceLeDiff, Int.reduceLE, Int.reduceLT, Int.reduceToNat, Nat.reduceAdd, Nat.reduceSub, Nat.reduceMul, reduceCtorEq, TAS, TBS, gc, List.length_cons, List.length_nil, List.getD_cons_zero, Bool.not_true, Bool.not_false, cond_true, cond_false]
         (repeat (refine And.intro ?_ ?_; focus (clear hK'; intros; simp_all; done))))
        refine stop_unmetB rfl rfl ?_
        simp only [UN, LM, Nat.reduceBEq, Nat.reduceLeDiff, Int.reduceLE, Int.reduceLT, Int.reduceToNat, Nat.reduceAdd, Nat.reduceSub, Nat.reduceMul, reduceCtorEq, TAS, TBS, Bool.not_true, Bool.not_false, cond_true, cond_false]
        (try (refine hK' _ _ ?_; clear hK'; clear K'))
        repeat' (first
          |(with_reducible first|refine swp_seq ?_|refine swp_block ?_|refine swp_skip ?_|refine swp_ret ?_|refine swp_exit ?_|refine swp_label ?_|refine kseq_n ?_|refine kseq_x ?_|refine kseq_r ?_|refine kblk_n ?_|refine kblk_r ?_|refine kblk_xs ?_|refine kloop_x ?_|refine kloop_r ?_)
          |((with_reducible refine kblk_xn ?_ ?_);rfl)
          |((with_reducible refine swp_regionP ?_ ?_ (fun K' hK' => ?_));rfl;rfl;simp only [UN, LM, Nat.reduceBEq, Nat.reduceLeDiff, Int.reduceLE, Int.reduceLT, Int.reduceToNat, Nat.reduceAdd, Nat.reduceSub, Nat.reduceMul, reduceCtorEq, TAS, TBS];(repeat (refine And.intro ?_ ?_; focus (clear hK'; intros; simp_all; done)));(try (refine hK' _ _ ?_; clear hK'; clear K')))
          |((with_reducible refine swp_cond ?_ ?_);rfl;refine ⟨_, rfl, fun h => ?_, fun h => ?_⟩ <;> (try (exfalso; exact absurd h (by decide)))))
        refine kfam_n false ?_ ?_
        · simp only [Bool.false_eq_true, false_iff]
          intro h; rw [h.2.1] at gc; simp at gc
        · refine sub_of h0 ?_ ?_ ?_ <;> simp only [US, UN, LM, Nat.reduceBEq, Nat.reduceLeDiff, Int.reduceLE, Int.reduceLT, Int.reduceToNat, Nat.reduceAdd, Nat.reduceSub, Nat.reduceMul, reduceCtorEq, TAS, TBS]
    · have g8 : (k == 8) = false := by simpa using h8
      (with_reducible refine swp_regionS (fun K' hK' => ?_))
      refine vcTo_ok 4 rfl ?_
      simp only [UN, LM, Nat.reduceBEq, Nat.reduceLeDiff, Int.reduceLE, Int.reduceLT, Int.reduceToNat, Nat.reduceAdd, Nat.reduceSub, Nat.reduceMul, reduceCtorEq, TAS, TBS, vcTo, g8, Bool.not_true, Bool.not_false, cond_true, cond_false]
      (repeat (refine And.intro ?_ ?_; focus (clear hK'; intros; simp_all; done)))
      iterate 4 (refine stop_unmetS rfl rfl ?_; simp only [putO, UN, LM, Nat.reduceBEq, Nat.reduceLeDiff, Int.reduceLE, Int.reduceLT, Int.reduceToNat, Nat.reduceAdd, Nat.reduceSub, Nat.reduceMul, reduceCtorEq, Bool.not_true, Bool.not_false, cond_true, cond_false])
      refine vcTo_ok 2 rfl ?_
      simp only [UN, LM, Nat.reduceBEq, Nat.reduceLeDiff, Int.reduceLE, Int.reduceLT, Int.reduceToNat, Nat.reduceAdd, Nat.reduceSub, Nat.reduceMul, reduceCtorEq, TAS, TBS, vcTo, Bool.not_true, Bool.not_false, cond_true, cond_false]
      (repeat (refine And.intro ?_ ?_; focus (clear hK'; intros; simp_all; done)))
      iterate 5 (refine stop_unmetS rfl rfl ?_; simp only [putO, UN, LM, Nat.reduceBEq, Nat.reduceLeDiff, Int.reduceLE, Int.reduceLT, Int.reduceToNat, Nat.reduceAdd, Nat.reduceSub, Nat.reduceMul, reduceCtorEq, Bool.not_true, Bool.not_false, cond_true, cond_false])
      refine stop_unmetB rfl rfl ?_
      simp only [UN, LM, Nat.reduceBEq, Nat.reduceLeDiff, Int.reduceLE, Int.reduceLT, Int.reduceToNat, Nat.reduceAdd, Nat.reduceSub, Nat.reduceMul, reduceCtorEq, TAS, TBS, Bool.not_true, Bool.not_false, cond_true, cond_false]
      (try (refine hK' _ _ ?_; clear hK'; clear K'))
      repeat' (first
        |(with_reducible first|refine swp_seq ?_|refine swp_block ?_|refine swp_skip ?_|refine swp_ret ?_|refine swp_exit ?_|refine swp_label ?_|refine kseq_n ?_|refine kseq_x ?_|refine kseq_r ?_|refine kblk_n ?_|refine kblk_r ?_|refine kblk_xs ?_|refine kloop_x ?_|refine kloop_r ?_)
        |((with_reducible refine kblk_xn ?_ ?_);rfl)
        |((with_reducible refine swp_regionP ?_ ?_ (fun K' hK' => ?_));rfl;rfl;simp only [UN, LM, Nat.reduceBEq, Nat.reduceLeDiff, Int.reduceLE, Int.reduceLT, Int.reduceToNat, Nat.reduceAdd, Nat.reduceSub, Nat.reduceMul, reduceCtorEq, TAS, TBS];(repeat (refine And.intro ?_ ?_; focus (clear hK'; intros; simp_all; done)));(try (refine hK' _ _ ?_; clear hK'; clear K')))
        |((with_reducible refine swp_cond ?_ ?_);rfl;refine ⟨_, rfl, fun h => ?_, fun h => ?_⟩ <;> (try (exfalso; exact absurd h (by decide)))))
      refine kfam_n false ?_ ?_
      · simp only [Bool.false_eq_true, false_iff]
        exact fun h => h8 h.1
      · refine sub_of h0 ?_ ?_ ?_ <;> simp only [US, UN, LM, Nat.reduceBEq, Nat.reduceLeDiff, Int.reduceLE, Int.reduceLT, Int.reduceToNat, Nat.reduceAdd, Nat.reduceSub, Nat.reduceMul, reduceCtorEq, TAS, TBS]
  · cases v with
    | true =>
      have hv := hv.1 rfl
      rw [if_pos hv] at hR
      subst hR
      repeat' (first
        |(with_reducible first|refine swp_seq ?_|refine swp_block ?_|refine swp_skip ?_|refine swp_ret ?_|refine swp_exit ?_|refine swp_label ?_|refine kseq_n ?_|refine kseq_x ?_|refine kseq_r ?_|refine kblk_n ?_|refine kblk_r ?_|refine kblk_xs ?_|refine kloop_x ?_|refine kloop_r ?_)
        |((with_reducible refine kblk_xn ?_ ?_);rfl)
        |((with_reducible refine swp_regionP ?_ ?_ (fun K' hK' => ?_));rfl;rfl;simp only [UN, LM, Nat.reduceBEq, Nat.reduceLeDiff, Int.reduceLE, Int.reduceLT, Int.reduceToNat, Nat.reduceAdd, Nat.reduceSub, Nat.reduceMul, reduceCtorEq, TAS, TBS];(repeat (refine And.intro ?_ ?_; focus (clear hK'; intros; simp_all; done)));(try (refine hK' _ _ ?_; clear hK'; clear K')))
        |((with_reducible refine swp_cond ?_ ?_);rfl;refine ⟨_, rfl, fun h => ?_, fun h => ?_⟩ <;> (try (exfalso; exact absurd h (by decide)))))
      simp only [Kret, retL, retOne, oneV, UN, LM, Nat.reduceBEq, Nat.reduceLeDiff, Int.reduceLE, Int.reduceLT, Int.reduceToNat, Nat.reduceAdd, Nat.reduceSub, Nat.reduceMul, reduceCtorEq, TAS, TBS, Tp.d]
    | false =>
      have hv : ¬ (k = 8 ∧ nm.toList = c.toList ∧ freeF l a = true) := fun h => absurd (hv.2 h) (by decide)
      rw [if_neg hv] at hR
      repeat' (first
        |(with_reducible first|refine swp_seq ?_|refine swp_block ?_|refine swp_skip ?_|refine swp_ret ?_|refine swp_exit ?_|refine swp_label ?_|refine kseq_n ?_|refine kseq_x ?_|refine kseq_r ?_|refine kblk_n ?_|refine kblk_r ?_|refine kblk_xs ?_|refine kloop_x ?_|refine kloop_r ?_)
        |((with_reducible refine kblk_xn ?_ ?_);rfl)
        |((with_reducible refine swp_regionP ?_ ?_ (fun K' hK' => ?_));rfl;rfl;simp only [UN, LM, Nat.reduceBEq, Nat.reduceLeDiff, Int.reduceLE, Int.reduceLT, Int.reduceToNat, Nat.reduceAdd, Nat.reduceSub, Nat.reduceMul, reduceCtorEq, TAS, TBS, hll];(repeat (refine And.intro ?_ ?_; focus (clear hK'; intros; simp_all; done)));(try (refine hK' _ _ ?_; clear hK'; clear K')))
        |((with_reducible refine swp_cond ?_ ?_);rfl;refine ⟨_, rfl, fun h => ?_, fun h => ?_⟩ <;> (try (exfalso; exact absurd h (by decide)))))
      refine swp_nilB 3 4 5 5 rfl rfl rfl (by decide) ?_
      simp only [UN, LM, Nat.reduceBEq, Nat.reduceLeDiff, Int.reduceLE, Int.reduceLT, Int.reduceToNat, Nat.reduceAdd, Nat.reduceSub, Nat.reduceMul, reduceCtorEq]
      refine swp_loop (α := Nat × List Tp) (fun q => [(1, .d (sD a)), (3, .d (sD c)), (4, .ref 0 0), (6, .ref 1 0), (8, .ref 2 0), (10, .ref 3 0), (56, .d (.slc (Tp.ds l))), (57, .d (iD l.length)), (58, .d (iD q.1))])
        (fun q => [(0, .cells [.d (iD k), .d (iD so), .d (sD nm), .d (.slc (ls.map sD)), .d (.slc (Tp.ds l))]), (1, .cells [.d (iD sk), .d (iD sso), .d (sD snm), .d (.slc (sls.map sD)), .d (.slc (Tp.ds sl))]), (2, .cells [.d (iD 0), .d (iD 0), .d (sD noB), .nil, .nil]), (3, .cells [.d (iD k), .d (iD so), .d (sD nm), .d (.slc (ls.map sD)), .own 5]), (5, .row 5 (Tp.ds q.2))])
        (fun q => q.1 ≤ l.length ∧ putL a (.mk sk sso snm sls sl) c (l.take q.1) = some q.2) (fun q => l.length - q.1) (0, []) ⟨Nat.zero_le _, rfl⟩ (by refine sub_of h0 ?_ ?_ ?_ <;> simp only [US, UN, LM, Nat.reduceBEq, Nat.reduceLeDiff, Int.reduceLE, Int.reduceLT, Int.reduceToNat, Nat.reduceAdd, Nat.reduceSub, Nat.reduceMul, reduceCtorEq, TAS, TBS, hll, Tp.ds]) (fun q hq => ?_)
      obtain ⟨j, acc⟩ := q
      obtain ⟨hj, hq⟩ := hq
      simp only at hj hq
      have hal : (Tp.ds acc).length = j := by
        rw [Tp.ds_len, (putL_some hq).2, List.length_map, List.length_take]; omega
      have hj0 : (0 : Int) ≤ (j : Int) := by omega
      by_cases hjl : j < l.length
      · obtain ⟨y, hy⟩ : ∃ y, l[j]? = some y := ⟨l[j], by simp [hjl]⟩
        have hcall := ih y (List.mem_of_getElem? hy)
        unfold PutS at hcall
        have hget := Tp.ds_get l j y hy
        have hj1 : (j : Int) < (l.length : Int) := by omega
        have hw2 : IntKind.i64.wrap ((j : Int) + 1) = ((j + 1 : Nat) : Int) := by rw [wrap_in (by omega) (by omega)]; omega
        have htk : l.take (j + 1) = l.take j ++ [y] := by rw [List.take_add_one, hy]; rfl
        have hsn := putL_snoc a (.mk sk sso snm sls sl) c y (l.take j)
        rw [← htk, hq] at hsn
        simp only at hsn
        obtain ⟨z, v, hz⟩ : ∃ z v, putP a (.mk sk sso snm sls sl) c y = (z, v) := ⟨_, _, rfl⟩
        rw [hz] at hcall hsn
        obtain ⟨yk, yso, ynm, yls, yl⟩ := y
        obtain ⟨zk, zso, znm, zls, zl⟩ := z
        simp only [Tp.d] at hget hcall
        cases v with
        | true =>
          simp only [if_true] at hsn
          have hm : Tp.ds acc ++ [.agg [iD zk, iD zso, sD znm, .slc (zls.map sD), .slc (Tp.ds zl)]] = Tp.ds (acc ++ [.mk zk zso znm zls zl]) := by
            rw [ds_app]; rfl
          have hn5 : (j + 1) * 80 ≤ 140737488355328 := by omega
          have hn6 : j + 1 ≤ maxLen := by unfold maxLen; omega
          repeat' (first
            |(with_reducible first|refine swp_seq ?_|refine swp_block ?_|refine swp_skip ?_|refine swp_ret ?_|refine swp_exit ?_|refine swp_label ?_|refine kseq_n ?_|refine kseq_x ?_|refine kseq_r ?_|refine kblk_n ?_|refine kblk_r ?_|refine kblk_xs ?_|refine kloop_x ?_|refine kloop_r ?_)
            |((with_reducible refine kblk_xn ?_ ?_);rfl)
            |((with_reducible refine swp_regionP ?_ ?_ (fun K' hK' => ?_));rfl;rfl;simp only [UN, LM, Nat.reduceBEq, Nat.reduceLeDiff, Int.reduceLE, Int.reduceLT, Int.reduceToNat, Nat.reduceAdd, Nat.reduceSub, Nat.reduceMul, reduceCtorEq, TAS, TBS, Int.toNat_natCast, hll, hget, hj0, hj1];(repeat (refine And.intro ?_ ?_; focus (clear hK'; intros; simp_all; done)));(try (refine hK' _ _ ?_; clear hK'; clear K')))
            |((with_reducible refine swp_cond ?_ ?_);rfl;refine ⟨_, rfl, fun h => ?_, fun h => ?_⟩ <;> (try (exfalso; exact absurd h (by decide)))))
          refine stop_call h0 rfl (by simp only [UN, LM, Nat.reduceBEq, Nat.reduceLeDiff, Int.reduceLE, Int.reduceLT, Int.reduceToNat, Nat.reduceAdd, Nat.reduceSub, Nat.reduceMul, reduceCtorEq]) rfl (by simp only [keepS, UN, LM, Nat.reduceBEq, Nat.reduceLeDiff, Int.reduceLE, Int.reduceLT, Int.reduceToNat, Nat.reduceAdd, Nat.reduceSub, Nat.reduceMul, reduceCtorEq]) (hcall) ?_
          simp only [UN, LM, Nat.reduceBEq, Nat.reduceLeDiff, Int.reduceLE, Int.reduceLT, Int.reduceToNat, Nat.reduceAdd, Nat.reduceSub, Nat.reduceMul, reduceCtorEq, TAS, TBS, inX, dropS, ]
          (repeat (refine And.intro ?_ ?_; focus (clear hK'; intros; simp_all; done)))
          (try (refine hK' _ _ ?_; clear hK'; clear K'))
          repeat' (first
            |(with_reducible first|refine swp_seq ?_|refine swp_block ?_|refine swp_skip ?_|refine swp_ret ?_|refine swp_exit ?_|refine swp_label ?_|refine kseq_n ?_|refine kseq_x ?_|refine kseq_r ?_|refine kblk_n ?_|refine kblk_r ?_|refine kblk_xs ?_|refine kloop_x ?_|refine kloop_r ?_)
            |((with_reducible refine kblk_xn ?_ ?_);rfl)
            |((with_reducible refine swp_regionP ?_ ?_ (fun K' hK' => ?_));rfl;rfl;simp only [UN, LM, Nat.reduceBEq, Nat.reduceLeDiff, Int.reduceLE, Int.reduceLT, Int.reduceToNat, Nat.reduceAdd, Nat.reduceSub, Nat.reduceMul, reduceCtorEq, TAS, TBS, hal, hn5, hn6, hm, hw2, Bool.not_true, Bool.not_false, cond_true, cond_false];(repeat (refine And.intro ?_ ?_; focus (clear hK'; intros; simp_all; done)));(try (refine hK' _ _ ?_; clear hK'; clear K')))
            |((with_reducible refine swp_cond ?_ ?_);rfl;refine ⟨_, rfl, fun h => ?_, fun h => ?_⟩ <;> (try (exfalso; exact absurd h (by decide)))))
          -- TRACE
          refine ⟨(j + 1, acc ++ [.mk zk zso znm zls zl]), ⟨(by show j + 1 ≤ l.length; omega), hsn⟩, (by show l.length - (j + 1) < l.length - j; omega), by refine sub_of h0 ?_ ?_ ?_ <;> simp only [US, UN, LM, Nat.reduceBEq, Nat.reduceLeDiff, Int.reduceLE, Int.reduceLT, Int.reduceToNat, Nat.reduceAdd, Nat.reduceSub, Nat.reduceMul, reduceCtorEq, TAS, TBS]⟩
        | false =>
          have hbad : putL a (.mk sk sso snm sls sl) c l = none := by
            rw [← List.take_append_drop (j + 1) l]
            exact putL_bad (by rw [hsn]; rfl)
          rw [hbad] at hR
          subst hR
          repeat' (first
            |(with_reducible first|refine swp_seq ?_|refine swp_block ?_|refine swp_skip ?_|refine swp_ret ?_|refine swp_exit ?_|refine swp_label ?_|refine kseq_n ?_|refine kseq_x ?_|refine kseq_r ?_|refine kblk_n ?_|refine kblk_r ?_|refine kblk_xs ?_|refine kloop_x ?_|refine kloop_r ?_)
            |((with_reducible refine kblk_xn ?_ ?_);rfl)
            |((with_reducible refine swp_regionP ?_ ?_ (fun K' hK' => ?_));rfl;rfl;simp only [UN, LM, Nat.reduceBEq, Nat.reduceLeDiff, Int.reduceLE, Int.reduceLT, Int.reduceToNat, Nat.reduceAdd, Nat.reduceSub, Nat.reduceMul, reduceCtorEq, TAS, TBS, Int.toNat_natCast, hll, hget, hj0, hj1];(repeat (refine And.intro ?_ ?_; focus (clear hK'; intros; simp_all; done)));(try (refine hK' _ _ ?_; clear hK'; clear K')))
            |((with_reducible refine swp_cond ?_ ?_);rfl;refine ⟨_, rfl, fun h => ?_, fun h => ?_⟩ <;> (try (exfalso; exact absurd h (by decide)))))
          refine stop_call h0 rfl (by simp only [UN, LM, Nat.reduceBEq, Nat.reduceLeDiff, Int.reduceLE, Int.reduceLT, Int.reduceToNat, Nat.reduceAdd, Nat.reduceSub, Nat.reduceMul, reduceCtorEq]) rfl (by simp only [keepS, UN, LM, Nat.reduceBEq, Nat.reduceLeDiff, Int.reduceLE, Int.reduceLT, Int.reduceToNat, Nat.reduceAdd, Nat.reduceSub, Nat.reduceMul, reduceCtorEq]) (hcall) ?_
          simp only [UN, LM, Nat.reduceBEq, Nat.reduceLeDiff, Int.reduceLE, Int.reduceLT, Int.reduceToNat, Nat.reduceAdd, Nat.reduceSub, Nat.reduceMul, reduceCtorEq, TAS, TBS, inX, dropS, ]
          (repeat (refine And.intro ?_ ?_; focus (clear hK'; intros; simp_all; done)))
          (try (refine hK' _ _ ?_; clear hK'; clear K'))
          repeat' (first
            |(with_reducible first|refine swp_seq ?_|refine swp_block ?_|refine swp_skip ?_|refine swp_ret ?_|refine swp_exit ?_|refine swp_label ?_|refine kseq_n ?_|refine kseq_x ?_|refine kseq_r ?_|refine kblk_n ?_|refine kblk_r ?_|refine kblk_xs ?_|refine kloop_x ?_|refine kloop_r ?_)
            |((with_reducible refine kblk_xn ?_ ?_);rfl)
            |((with_reducible refine swp_regionP ?_ ?_ (fun K' hK' => ?_));rfl;rfl;simp only [UN, LM, Nat.reduceBEq, Nat.reduceLeDiff, Int.reduceLE, Int.reduceLT, Int.reduceToNat, Nat.reduceAdd, Nat.reduceSub, Nat.reduceMul, reduceCtorEq, TAS, TBS, Bool.not_true, Bool.not_false, cond_true, cond_false];(repeat (refine And.intro ?_ ?_; focus (clear hK'; intros; simp_all; done)));(try (refine hK' _ _ ?_; clear hK'; clear K')))
            |((with_reducible refine swp_cond ?_ ?_);rfl;refine ⟨_, rfl, fun h => ?_, fun h => ?_⟩ <;> (try (exfalso; exact absurd h (by decide)))))
          simp only [Kret, retL, retOne, oneV, UN, LM, Nat.reduceBEq, Nat.reduceLeDiff, Int.reduceLE, Int.reduceLT, Int.reduceToNat, Nat.reduceAdd, Nat.reduceSub, Nat.reduceMul, reduceCtorEq, TAS, TBS, Tp.d]
      · have hj1 : ¬ (j : Int) < (l.length : Int) := by omega
        rw [List.take_of_length_le (by omega)] at hq
        rw [hq] at hR
        subst hR
        repeat' (first
          |(with_reducible first|refine swp_seq ?_|refine swp_block ?_|refine swp_skip ?_|refine swp_ret ?_|refine swp_exit ?_|refine swp_label ?_|refine kseq_n ?_|refine kseq_x ?_|refine kseq_r ?_|refine kblk_n ?_|refine kblk_r ?_|refine kblk_xs ?_|refine kloop_x ?_|refine kloop_r ?_)
          |((with_reducible refine kblk_xn ?_ ?_);rfl)
          |((with_reducible refine swp_regionP ?_ ?_ (fun K' hK' => ?_));rfl;rfl;simp only [UN, LM, Nat.reduceBEq, Nat.reduceLeDiff, Int.reduceLE, Int.reduceLT, Int.reduceToNat, Nat.reduceAdd, Nat.reduceSub, Nat.reduceMul, reduceCtorEq, TAS, TBS, hj1];(repeat (refine And.intro ?_ ?_; focus (clear hK'; intros; simp_all; done)));(try (refine hK' _ _ ?_; clear hK'; clear K')))
          |((with_reducible refine swp_cond ?_ ?_);rfl;refine ⟨_, rfl, fun h => ?_, fun h => ?_⟩ <;> (try (exfalso; exact absurd h (by decide)))))
        simp only [Kret, retL, retOne, oneV, UN, LM, Nat.reduceBEq, Nat.reduceLeDiff, Int.reduceLE, Int.reduceLT, Int.reduceToNat, Nat.reduceAdd, Nat.reduceSub, Nat.reduceMul, reduceCtorEq, TAS, TBS, Tp.d]
theorem put_all (Γ : Gl) (a : ByteArray) (s : Tp) (c : ByteArray) {t : Tp} (h : OkT t) : PutS Γ a s c t := by
  induction h with
  | nil => exact put_node Γ a s c 1 0 noB [] [] (by simp) (fun h => absurd h (by decide)) (fun x hx => by cases hx)
  | pass k so x hk h1 h3 hx ih => exact put_node Γ a s c k so noB [] [x] (by simp) (fun h => by omega) (fun y hy => by rw [show y = x by simpa using hy]; exact ih)
  | give k x y hk hx hy ih1 ih2 => exact put_node Γ a s c k 0 noB [] [x, y] (by simp) (fun h => by omega) (fun z hz => by
      rcases List.mem_cons.1 hz with rfl | hz
      · exact ih1
      · rw [show z = y by simpa using hz]; exact ih2)
  | pick k ls l hk hl hn h ih => exact put_node Γ a s c k 0 noB ls l (by have := labels_len hl; omega) (fun h => by omega) ih
  | bind nm x hn hx ih => exact put_node Γ a s c 8 0 nm [] [x] (by simp) (fun _ => ⟨x, rfl, free_all Γ hx⟩) (fun y hy => by rw [show y = x by simpa using hy]; exact ih)
  | var nm hn => exact put_node Γ a s c 9 0 nm [] [] (by simp) (fun h => absurd h (by decide)) (fun x hx => by cases hx)
end Go.Proofs.YtnclmjbkkgghhaaDoor
