/- wires' reader: where a number is none; texts; a symbolic walk (printed by mkn14.py). -/
-- TYPESE
import Derived.Test.YtdcplkefmpjppaaDoorDN13
set_option linter.unusedVariables false
set_option linter.unusedSimpArgs false
namespace Go.Proofs.YtdcplkefmpjppaaDoor.GG
open Go.RowKit Go.Sw
open Nat renaming reduceBEq → zn0
open Go.Sw renaming swp_seq → zw0, swp_block → zw1, swp_skip → zw2, swp_ret → zw3, swp_exit → zw4, swp_label → zw5, kseq_n → zw6, kseq_x → zw7, kseq_r → zw8, kblk_n → zw9, kblk_r → zw10, kblk_xs → zw11, kblk_xn → zw12, kloop_x → zw13, kloop_r → zw14, swp_cond → zw15

set_option maxHeartbeats 8000000 in
set_option maxRecDepth 100000 in
theorem rnum_no (Γ : Gl) (s : ByteArray) (hs : s.size ≤ 140737488355328) (a0 : Nat) (ha0 : a0 ≤ s.size) (p b : Nat) (hR : numO s a0 10 0 0 a0 = .no p b) : XFn Tryd.prog Γ 74 [.ref 0 0] (rBox s a0) (stopW (p : Nat)) (rBox s b):=by
 unfold rBox
 refine xfn_of_swp (N:=46) Tryd.func74 rfl (by decide) rfl (by simp) (fun C h0=>?_)
 simp only [argS]
 repeat' (first|(with_reducible apply zz1)|((with_reducible apply zz2);rfl;intro K' hK';simp only [WE,simprocAttr];(repeat (constructor;focus (clear hK';intros;simp_all;done)));(try (apply hK';clear hK' K')))|((with_reducible apply zz3);rfl;all_goals (intro h;try exact absurd h (by decide))))
 refine swp_loop (α := Nat × Nat × Nat) (fun q=>[(0,.ref 0 0),(2,.d (.v (.int .u64 0))),(3,.d (iD (a0 : Nat))),(4,.d (.v (.int .u64 (q.2.1 : Nat)))),(5,.d (iD (q.1 : Nat)))]) (fun q=>[(0,.cells [.d (sD s),.d (iD (q.2.2 : Nat))])])
  (fun q=>NumI s a0 (.no p b) q.1 q.2.1 q.2.2 ∧ q.1 ≤ 9) (fun q=>10 - q.1) (0,0,a0) ⟨⟨10,rfl,(by show (0 : Nat) < 128 ^ 0;decide),ha0,hR⟩,Nat.zero_le _⟩ (by refine sub_of h0 ?_ ?_ ?_ <;> simp only [US,WE,simprocAttr]) (fun q hq=>?_)
 obtain ⟨k,n,a⟩:=q
 obtain ⟨⟨f,hf,hn,ha,hq⟩,hk9⟩:=hq
 simp only at hf hn ha hq hk9
 clear hR
 cases f with
 | zero=>omega
 | succ f =>
  unfold numO at hq
  by_cases hlt : a < s.size
  · rw [if_pos hlt] at hq
    have h1:=rone_ok Γ s hs a hlt
    unfold rBox at h1
    have hc:=atS_lt s a
    generalize atS s a = c at *
    by_cases h9 : k = 9 ∧ 1 < c
    · rw [if_pos h9] at hq
      simp only [Rn.no.injEq] at hq
      obtain ⟨rfl,rfl⟩:=hq
      have g9 : ((k : Int) == 9) = true:=by simp [h9.1]
      have g1 : (1 : Int) < (c : Int):=by omega
      repeat' (first|(with_reducible apply zz1)|((with_reducible apply zz2);rfl;intro K' hK';simp only [WE,simprocAttr];(repeat (constructor;focus (clear hK';intros;simp_all;done)));(try (apply hK';clear hK' K')))|((with_reducible apply zz3);rfl;all_goals (intro h;try exact absurd h (by decide))))
      refine stop_cS rfl (by simp only [UA,WE,simprocAttr]) (h1) ?_
      simp only [WE,simprocAttr,UM, ]
      (try (apply hK';clear hK' K'))
      repeat' (first|(with_reducible first|apply zw0|apply zw1|apply zw2|apply zw3|apply zw4|apply zw5|apply zw6|apply zw7|apply zw8|apply zw9|apply zw10|apply zw11|apply zw13|apply zw14)|((with_reducible refine zw12 ?_ ?_);rfl)|((with_reducible refine swp_regionX ?_ ?_ (fun K' hK' hP'=>?_));rfl;rfl;simp only [WE,simprocAttr,g9,g1];(repeat (constructor;focus (clear hK' hP';intros;simp_all;done)));(try (apply hK';clear hK' hP';clear K')))|((with_reducible refine zw15 ?_ ?_);rfl;refine ⟨_,rfl,fun h=>?_,fun h=>?_⟩ <;> try exact absurd h (by decide)))
      refine stop_mki un103 rfl rfl (by simp only [ok1,val,lk,nbeq,zn0,cond_true,cond_false,Option.getD_some]) rfl rfl ?_
      simp only [WE,simprocAttr]
      refine stop_panic rfl rfl ?_
      refine hP' _ _ _ ?_
      repeat (first | refine kseq_p ?_ | refine kblk_p ?_ | refine kloop_p ?_)
      simp only [KpanS,US,WE,simprocAttr,h0]
      rfl
    rw [if_neg h9] at hq
    have ha7:=and127 c hc
    have hw1 : IntKind.u64.wrap ((c % 128 : Nat) : Int) = ((c % 128 : Nat) : Int):=by rw [wrap_u64];omega
    have hw7 : IntKind.i64.wrap (7 * (k : Int)) = ((7 * k : Nat) : Int):=by rw [wrap_in (by omega) (by omega)];omega
    have hwk : IntKind.i64.wrap ((k : Int) + 1) = ((k + 1 : Nat) : Int):=by rw [wrap_in (by omega) (by omega)];omega
    obtain ⟨b1,b2⟩:=num_bnd (c:=c % 128) hn hk9 (fun e=>by omega) (by omega)
    have hsh:=shl_mul (c:=c % 128) hk9 b2
    have hor:=or_add hn b1
    have ed : c % 128 ≤ 127 ∧ (c < 128 → c % 128 = c):=⟨by omega,fun h=>by omega⟩
    generalize c % 128 = d at *
    by_cases h128 : c < 128
    · rw [if_pos h128] at hq
      by_cases h00 : c = 0 ∧ 0 < k
      rotate_left
      · rw [if_neg h00] at hq;cases hq
      rw [if_pos h00] at hq
      simp only [Rn.no.injEq] at hq
      obtain ⟨rfl,rfl⟩:=hq
      have gc : (c : Int) < 128:=by omega
      have g0 : ((c : Int) == 0) = true:=by simp [h00.1]
      have g5 : (1 : Int) < ((k + 1 : Nat) : Int):=by omega
      by_cases e9 : k = 9
      · have g9 : ((k : Int) == 9) = true:=by simp [e9]
        have g1 : ¬ (1 : Int) < (c : Int):=by omega
        repeat' (first|(with_reducible apply zz1)|((with_reducible apply zz2);rfl;intro K' hK';simp only [WE,simprocAttr];(repeat (constructor;focus (clear hK';intros;simp_all;done)));(try (apply hK';clear hK' K')))|((with_reducible apply zz3);rfl;all_goals (intro h;try exact absurd h (by decide))))
        refine stop_cS rfl (by simp only [UA,WE,simprocAttr]) (h1) ?_
        simp only [WE,simprocAttr,UM, ]
        (try (apply hK';clear hK' K'))
        repeat' (first|(with_reducible apply zz1)|((with_reducible apply zz2);rfl;intro K' hK';simp only [WE,simprocAttr,g9,g1];(repeat (constructor;focus (clear hK';intros;simp_all;done)));(try (apply hK';clear hK' K')))|((with_reducible apply zz3);rfl;all_goals (intro h;try exact absurd h (by decide))))
        refine stop_val (.v (.int .u8 ((d : Nat) : Int))) rfl rfl (fun a w hv=>run_andK (hv (.tmp 22) (.v (.int .u8 (c : Nat))) rfl rfl rfl) rfl ha7) ?_
        simp only [WE,simprocAttr,  hw1,hw7]
        (repeat (constructor;focus (clear hK';intros;simp_all;done)))
        (try (apply hK';clear hK' K'))
        (try simp only [WE,simprocAttr,hw1,hw7])
        (repeat (constructor;focus (clear hK';intros;simp_all;done)))
        (try (apply hK';clear hK' K'))
        refine stop_val (.v (.int .u64 ((d * 128 ^ k : Nat) : Int))) rfl rfl (fun a w hv=>run_shlK (m:=7 * k) (hv (.tmp 24) (.v (.int .u64 ((d : Nat) : Int))) rfl rfl rfl) (hv (.tmp 26) (iD ((7 * k : Nat) : Int)) rfl rfl rfl) hsh) ?_
        simp only [WE,simprocAttr]
        (repeat (constructor;focus (clear hK';intros;simp_all;done)))
        (try (apply hK';clear hK' K'))
        refine stop_val (.v (.int .u64 ((n + d * 128 ^ k : Nat) : Int))) rfl rfl (fun a w hv=>run_orK (hv (.tmp 21) (.v (.int .u64 (n : Nat))) rfl rfl rfl) (hv (.tmp 27) (.v (.int .u64 ((d * 128 ^ k : Nat) : Int))) rfl rfl rfl) hor) ?_
        simp only [WE,simprocAttr]
        (repeat (constructor;focus (clear hK';intros;simp_all;done)))
        (try (apply hK';clear hK' K'))
        repeat' (first|(with_reducible first|apply zw0|apply zw1|apply zw2|apply zw3|apply zw4|apply zw5|apply zw6|apply zw7|apply zw8|apply zw9|apply zw10|apply zw11|apply zw13|apply zw14)|((with_reducible refine zw12 ?_ ?_);rfl)|((with_reducible refine swp_regionX ?_ ?_ (fun K' hK' hP'=>?_));rfl;rfl;simp only [WE,simprocAttr,hwk,gc,g0,g5];(repeat (constructor;focus (clear hK' hP';intros;simp_all;done)));(try (apply hK';clear hK' hP';clear K')))|((with_reducible refine zw15 ?_ ?_);rfl;refine ⟨_,rfl,fun h=>?_,fun h=>?_⟩ <;> try exact absurd h (by decide)))
        refine stop_mki un103 rfl rfl (by simp only [ok1,val,lk,nbeq,zn0,cond_true,cond_false,Option.getD_some]) rfl rfl ?_
        simp only [WE,simprocAttr]
        refine stop_panic rfl rfl ?_
        refine hP' _ _ _ ?_
        repeat (first | refine kseq_p ?_ | refine kblk_p ?_ | refine kloop_p ?_)
        simp only [KpanS,US,WE,simprocAttr,h0]
        rfl
      · have g9 : ((k : Int) == 9) = false:=by rw [beq_eq_false_iff_ne];omega
        repeat' (first|(with_reducible apply zz1)|((with_reducible apply zz2);rfl;intro K' hK';simp only [WE,simprocAttr];(repeat (constructor;focus (clear hK';intros;simp_all;done)));(try (apply hK';clear hK' K')))|((with_reducible apply zz3);rfl;all_goals (intro h;try exact absurd h (by decide))))
        refine stop_cS rfl (by simp only [UA,WE,simprocAttr]) (h1) ?_
        simp only [WE,simprocAttr,UM, ]
        (try (apply hK';clear hK' K'))
        repeat' (first|(with_reducible apply zz1)|((with_reducible apply zz2);rfl;intro K' hK';simp only [WE,simprocAttr,g9];(repeat (constructor;focus (clear hK';intros;simp_all;done)));(try (apply hK';clear hK' K')))|((with_reducible apply zz3);rfl;all_goals (intro h;try exact absurd h (by decide))))
        refine stop_val (.v (.int .u8 ((d : Nat) : Int))) rfl rfl (fun a w hv=>run_andK (hv (.tmp 22) (.v (.int .u8 (c : Nat))) rfl rfl rfl) rfl ha7) ?_
        simp only [WE,simprocAttr,  hw1,hw7]
        (repeat (constructor;focus (clear hK';intros;simp_all;done)))
        (try (apply hK';clear hK' K'))
        (try simp only [WE,simprocAttr,hw1,hw7])
        (repeat (constructor;focus (clear hK';intros;simp_all;done)))
        (try (apply hK';clear hK' K'))
        refine stop_val (.v (.int .u64 ((d * 128 ^ k : Nat) : Int))) rfl rfl (fun a w hv=>run_shlK (m:=7 * k) (hv (.tmp 24) (.v (.int .u64 ((d : Nat) : Int))) rfl rfl rfl) (hv (.tmp 26) (iD ((7 * k : Nat) : Int)) rfl rfl rfl) hsh) ?_
        simp only [WE,simprocAttr]
        (repeat (constructor;focus (clear hK';intros;simp_all;done)))
        (try (apply hK';clear hK' K'))
        refine stop_val (.v (.int .u64 ((n + d * 128 ^ k : Nat) : Int))) rfl rfl (fun a w hv=>run_orK (hv (.tmp 21) (.v (.int .u64 (n : Nat))) rfl rfl rfl) (hv (.tmp 27) (.v (.int .u64 ((d * 128 ^ k : Nat) : Int))) rfl rfl rfl) hor) ?_
        simp only [WE,simprocAttr]
        (repeat (constructor;focus (clear hK';intros;simp_all;done)))
        (try (apply hK';clear hK' K'))
        repeat' (first|(with_reducible first|apply zw0|apply zw1|apply zw2|apply zw3|apply zw4|apply zw5|apply zw6|apply zw7|apply zw8|apply zw9|apply zw10|apply zw11|apply zw13|apply zw14)|((with_reducible refine zw12 ?_ ?_);rfl)|((with_reducible refine swp_regionX ?_ ?_ (fun K' hK' hP'=>?_));rfl;rfl;simp only [WE,simprocAttr,hwk,gc,g0,g5];(repeat (constructor;focus (clear hK' hP';intros;simp_all;done)));(try (apply hK';clear hK' hP';clear K')))|((with_reducible refine zw15 ?_ ?_);rfl;refine ⟨_,rfl,fun h=>?_,fun h=>?_⟩ <;> try exact absurd h (by decide)))
        refine stop_mki un103 rfl rfl (by simp only [ok1,val,lk,nbeq,zn0,cond_true,cond_false,Option.getD_some]) rfl rfl ?_
        simp only [WE,simprocAttr]
        refine stop_panic rfl rfl ?_
        refine hP' _ _ _ ?_
        repeat (first | refine kseq_p ?_ | refine kblk_p ?_ | refine kloop_p ?_)
        simp only [KpanS,US,WE,simprocAttr,h0]
        rfl
    · rw [if_neg h128] at hq
      have gc : ¬ (c : Int) < 128:=by omega
      have g9 : ((k : Int) == 9) = false:=by rw [beq_eq_false_iff_ne];omega
      have g10 : (((k + 1 : Nat) : Int) == 10) = false:=by rw [beq_eq_false_iff_ne];omega
      have hn2 : n + d * 128 ^ k < 128 ^ (k + 1):=by
       have h1 : d * 128 ^ k ≤ 127 * 128 ^ k:=Nat.mul_le_mul_right _ ed.1
       rw [Nat.pow_succ];omega
      repeat' (first|(with_reducible apply zz1)|((with_reducible apply zz2);rfl;intro K' hK';simp only [WE,simprocAttr];(repeat (constructor;focus (clear hK';intros;simp_all;done)));(try (apply hK';clear hK' K')))|((with_reducible apply zz3);rfl;all_goals (intro h;try exact absurd h (by decide))))
      refine stop_cS rfl (by simp only [UA,WE,simprocAttr]) (h1) ?_
      simp only [WE,simprocAttr,UM, ]
      (try (apply hK';clear hK' K'))
      repeat' (first|(with_reducible apply zz1)|((with_reducible apply zz2);rfl;intro K' hK';simp only [WE,simprocAttr,g9];(repeat (constructor;focus (clear hK';intros;simp_all;done)));(try (apply hK';clear hK' K')))|((with_reducible apply zz3);rfl;all_goals (intro h;try exact absurd h (by decide))))
      refine stop_val (.v (.int .u8 ((d : Nat) : Int))) rfl rfl (fun a w hv=>run_andK (hv (.tmp 22) (.v (.int .u8 (c : Nat))) rfl rfl rfl) rfl ha7) ?_
      simp only [WE,simprocAttr,  hw1,hw7]
      (repeat (constructor;focus (clear hK';intros;simp_all;done)))
      (try (apply hK';clear hK' K'))
      (try simp only [WE,simprocAttr,hw1,hw7])
      (repeat (constructor;focus (clear hK';intros;simp_all;done)))
      (try (apply hK';clear hK' K'))
      refine stop_val (.v (.int .u64 ((d * 128 ^ k : Nat) : Int))) rfl rfl (fun a w hv=>run_shlK (m:=7 * k) (hv (.tmp 24) (.v (.int .u64 ((d : Nat) : Int))) rfl rfl rfl) (hv (.tmp 26) (iD ((7 * k : Nat) : Int)) rfl rfl rfl) hsh) ?_
      simp only [WE,simprocAttr]
      (repeat (constructor;focus (clear hK';intros;simp_all;done)))
      (try (apply hK';clear hK' K'))
      refine stop_val (.v (.int .u64 ((n + d * 128 ^ k : Nat) : Int))) rfl rfl (fun a w hv=>run_orK (hv (.tmp 21) (.v (.int .u64 (n : Nat))) rfl rfl rfl) (hv (.tmp 27) (.v (.int .u64 ((d * 128 ^ k : Nat) : Int))) rfl rfl rfl) hor) ?_
      simp only [WE,simprocAttr]
      (repeat (constructor;focus (clear hK';intros;simp_all;done)))
      (try (apply hK';clear hK' K'))
      repeat' (first|(with_reducible apply zz1)|((with_reducible apply zz2);rfl;intro K' hK';simp only [WE,simprocAttr,hwk,gc,g10];(repeat (constructor;focus (clear hK';intros;simp_all;done)));(try (apply hK';clear hK' K')))|((with_reducible apply zz3);rfl;all_goals (intro h;try exact absurd h (by decide))))
      refine ⟨(k + 1,n + d * 128 ^ k,a + 1),⟨⟨f,(by show f + (k + 1) = 10;omega),hn2,(by show a + 1 ≤ s.size;omega),hq⟩,(by show k + 1 ≤ 9;omega)⟩,(by show 10 - (k + 1) < 10 - k;omega),by refine sub_of h0 ?_ ?_ ?_ <;> simp only [US,WE,simprocAttr]⟩
  · rw [if_neg hlt] at hq
    simp only [Rn.no.injEq] at hq
    obtain ⟨rfl,rfl⟩:=hq
    obtain rfl : a = s.size:=by omega
    have hno:=rone_no Γ s
    unfold rBox at hno
    repeat' (first|(with_reducible first|apply zw0|apply zw1|apply zw2|apply zw3|apply zw4|apply zw5|apply zw6|apply zw7|apply zw8|apply zw9|apply zw10|apply zw11|apply zw13|apply zw14)|((with_reducible refine zw12 ?_ ?_);rfl)|((with_reducible refine swp_regionX ?_ ?_ (fun K' hK' hP'=>?_));rfl;rfl;simp only [WE,simprocAttr];(repeat (constructor;focus (clear hK' hP';intros;simp_all;done)));(try (apply hK';clear hK' hP';clear K')))|((with_reducible refine zw15 ?_ ?_);rfl;refine ⟨_,rfl,fun h=>?_,fun h=>?_⟩ <;> try exact absurd h (by decide)))
    refine stop_cX rfl (by simp only [UA,WE,simprocAttr]) (hno) ?_
    simp only [UM,WE,simprocAttr]
    refine hP' _ _ _ ?_
    repeat (first | refine kseq_p ?_ | refine kblk_p ?_ | refine kloop_p ?_)
    simp only [KpanS,US,WE,simprocAttr,h0]
set_option maxHeartbeats 8000000 in
set_option maxRecDepth 100000 in
theorem rtext_ok (Γ : Gl) (s : ByteArray) (hs : s.size ≤ 140737488355328) (a : Nat) (ha : a ≤ s.size) (w : ByteArray) (b : Nat) (hR : txtO s a = .ok w b) : SFn Tryd.prog Γ 75 [.ref 0 0] (rBox s a) (.d (sD w)) (rBox s b):=by
 unfold txtO at hR
 cases hN : numO s a 10 0 0 a with
 | no p b'=>rw [hN] at hR;cases hR
 | ok n b' =>
  rw [hN] at hR
  simp only at hR
  by_cases hl : s.size - b' < n
  · rw [if_pos hl] at hR;cases hR
  rw [if_neg hl] at hR
  simp only [Rx.ok.injEq] at hR
  obtain ⟨rfl,rfl⟩:=hR
  have h1:=rnum_ok Γ s hs a ha n b' hN
  obtain ⟨-,hb', -⟩:=numO_ok 10 0 0 a n b' rfl (by decide) hN
  unfold rBox at h1 ⊢
  have q1 : IntKind.i64.wrap ((s.size : Int) - (b' : Int)) = ((s.size - b' : Nat) : Int):=by rw [wrap_in (by omega) (by omega)];omega
  have q2 : IntKind.u64.wrap ((s.size - b' : Nat) : Int) = ((s.size - b' : Nat) : Int):=by rw [wrap_u64];omega
  have q3 : ¬ ((s.size - b' : Nat) : Int) < (n : Int):=by omega
  have q4 : IntKind.i64.wrap (n : Int) = (n : Int):=by rw [wrap_in (by omega) (by omega)]
  have q5 : IntKind.i64.wrap ((b' : Int) + (n : Int)) = ((b' + n : Nat) : Int):=by rw [wrap_in (by omega) (by omega)];omega
  have q6 : IntKind.i64.wrap (((b' + n : Nat) : Int) - (n : Int)) = (b' : Int):=by rw [wrap_in (by omega) (by omega)];omega
  have q7 : (0 : Int) ≤ (b' : Int):=by omega
  have q8 : (b' : Int) ≤ ((b' + n : Nat) : Int):=by omega
  have q9 : ((b' + n : Nat) : Int) ≤ (s.size : Int):=by omega
  refine sfn_of_swp (N:=51) Tryd.func75 rfl (by decide) rfl rfl (by simp) (fun C h0=>?_)
  simp only [argS]
  repeat' (first|(with_reducible apply zz1)|((with_reducible apply zz2);rfl;intro K' hK';simp only [WE,simprocAttr];(repeat (constructor;focus (clear hK';intros;simp_all;done)));(try (apply hK';clear hK' K')))|((with_reducible apply zz3);rfl;all_goals (intro h;try exact absurd h (by decide))))
  refine stop_cS rfl (by simp only [UA,WE,simprocAttr]) (h1) ?_
  simp only [WE,simprocAttr,UM, ]
  (try (apply hK';clear hK' K'))
  repeat' (first|(with_reducible apply zz1)|((with_reducible apply zz2);rfl;intro K' hK';simp only [WE,simprocAttr];(repeat (constructor;focus (clear hK';intros;simp_all;done)));(try (apply hK';clear hK' K')))|((with_reducible apply zz3);rfl;all_goals (intro h;try exact absurd h (by decide))))
  (with_reducible refine swp_draw ?_ ?_ ?_ ([]) (fun K' hK'=>?_)
   · kernel_rfl
   · rfl
   · rfl
   simp only [WE,simprocAttr,UG,CVS,q1,q2,q3]
   (try (apply hK';clear hK' K')))
  repeat' (first|(with_reducible apply zz1)|((with_reducible apply zz2);rfl;intro K' hK';simp only [WE,simprocAttr,CVS,q4,q5];(repeat (constructor;focus (clear hK';intros;simp_all;done)));(try (apply hK';clear hK' K')))|((with_reducible apply zz3);rfl;all_goals (intro h;try exact absurd h (by decide))))
  -- TRACE
  (with_reducible refine swp_draw ?_ ?_ ?_ ([]) (fun K' hK'=>?_)
   · kernel_rfl
   · rfl
   · rfl
   simp only [WE,simprocAttr,UG,CVS,q4,q6,q7,q8,q9,Int.toNat_natCast,Option.toList_toArray]
   (try (apply hK';clear hK' K')))
  repeat' (first|(with_reducible apply zz1)|((with_reducible apply zz2);rfl;intro K' hK';simp only [WE,simprocAttr];(repeat (constructor;focus (clear hK';intros;simp_all;done)));(try (apply hK';clear hK' K')))|((with_reducible apply zz3);rfl;all_goals (intro h;try exact absurd h (by decide))))
  simp only [KretS,retL,retOne,oneV,US,WE,simprocAttr,h0]
end Go.Proofs.YtdcplkefmpjppaaDoor.GG
