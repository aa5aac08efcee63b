/- wires' reader: bytes, numbers; a symbolic walk. -/
-- TYPESE
import Derived.Test.YtdcplkefmpjppaaDoorDN12
set_option linter.unusedVariables false
set_option linter.unusedSimpArgs false
namespace Go.Proofs.YtdcplkefmpjppaaDoor.GG
open Go.RowKit Go.Sw

def stopW (p : Int) : Value:=.iface 103 (.int .i64 p)
set_option maxHeartbeats 4000000 in
set_option maxRecDepth 100000 in
theorem rone_ok (Γ : Gl) (s : ByteArray) (hs : s.size ≤ 140737488355328) (a : Nat) (ha : a < s.size) : SFn Tryd.prog Γ 73 [.ref 0 0] (rBox s a) (.d (.v (.int .u8 (atS s a : Nat)))) (rBox s (a + 1)):=by
 have g1 : ((a : Int) == (s.size : Int)) = false:=by rw [beq_eq_false_iff_ne];omega
 have hw : IntKind.i64.wrap ((a : Int) + 1) = ((a + 1 : Nat) : Int):=by rw [wrap_in (by omega) (by omega)];omega
 have hw2 : IntKind.i64.wrap (((a + 1 : Nat) : Int) - 1) = (a : Int):=by rw [wrap_in (by omega) (by omega)];omega
 have g2 : (0 : Int) ≤ (a : Int):=by omega
 have g3 : (a : Int) < (s.size : Int):=by omega
 unfold rBox
 refine sfn_of_swp (N:=35) Tryd.func73 rfl (by decide) rfl rfl (by simp) (fun C h0=>?_)
 simp only [argS]
 repeat' (first|(with_reducible apply zz1)|((with_reducible apply zz2);rfl;intro K' hK';simp only [WE,simprocAttr];(repeat (constructor;focus (clear hK';intros;simp_all;done)));(try (apply hK';clear hK' K')))|((with_reducible apply zz3);rfl;all_goals (intro h;try exact absurd h (by decide))))
 (with_reducible refine swp_draw ?_ ?_ ?_ ([]) (fun K' hK'=>?_)
  · kernel_rfl
  · rfl
  · rfl
  simp only [WE,simprocAttr,UG,g1]
  (try (apply hK';clear hK' K')))
 repeat' (first|(with_reducible apply zz1)|((with_reducible apply zz2);rfl;intro K' hK';simp only [WE,simprocAttr,hw];(repeat (constructor;focus (clear hK';intros;simp_all;done)));(try (apply hK';clear hK' K')))|((with_reducible apply zz3);rfl;all_goals (intro h;try exact absurd h (by decide))))
 (with_reducible refine swp_draw ?_ ?_ ?_ ([]) (fun K' hK'=>?_)
  · kernel_rfl
  · rfl
  · rfl
  simp only [WE,simprocAttr,UG,hw2,g2,g3,Int.toNat_natCast]
  (try (apply hK';clear hK' K')))
 repeat' (first|(with_reducible apply zz1)|((with_reducible apply zz2);rfl;intro K' hK';simp only [WE,simprocAttr];(repeat (constructor;focus (clear hK';intros;simp_all;done)));(try (apply hK';clear hK' K')))|((with_reducible apply zz3);rfl;all_goals (intro h;try exact absurd h (by decide))))
 simp only [KretS,retL,retOne,oneV,US,WE,simprocAttr,h0]
set_option maxHeartbeats 4000000 in
set_option maxRecDepth 100000 in
theorem rone_no (Γ : Gl) (s : ByteArray) : XFn Tryd.prog Γ 73 [.ref 0 0] (rBox s s.size) (stopW (s.size : Nat)) (rBox s s.size):=by
 have g1 : ((s.size : Int) == (s.size : Int)) = true:=by simp
 unfold rBox
 refine xfn_of_swp (N:=35) Tryd.func73 rfl (by decide) rfl (by simp) (fun C h0=>?_)
 simp only [argS]
 repeat' (first|(with_reducible apply zz1)|((with_reducible apply zz2);rfl;intro K' hK';simp only [WE,simprocAttr];(repeat (constructor;focus (clear hK';intros;simp_all;done)));(try (apply hK';clear hK' K')))|((with_reducible apply zz3);rfl;all_goals (intro h;try exact absurd h (by decide))))
 (with_reducible refine swp_draw ?_ ?_ ?_ ([]) (fun K' hK'=>?_)
  · kernel_rfl
  · rfl
  · rfl
  simp only [WE,simprocAttr,UG,g1]
  (try (apply hK';clear hK' K')))
 repeat' (first|(with_reducible first|refine swp_seq ?_|refine swp_block ?_|refine swp_skip ?_|refine swp_ret ?_|refine swp_exit ?_|refine swp_label ?_|refine kseq_n ?_|refine kseq_x ?_|refine kseq_r ?_|refine kblk_n ?_|refine kblk_r ?_|refine kblk_xs ?_|refine kloop_x ?_|refine kloop_r ?_)|((with_reducible refine kblk_xn ?_ ?_);rfl)|((with_reducible refine swp_regionX ?_ ?_ (fun K' hK' hP'=>?_));rfl;rfl;simp only [WE,simprocAttr];(repeat (constructor;focus (clear hK' hP';intros;simp_all;done)));(try (apply hK';clear hK' hP';clear K')))|((with_reducible refine swp_cond ?_ ?_);rfl;refine ⟨_,rfl,fun h=>?_,fun h=>?_⟩ <;> try exact absurd h (by decide)))
 refine stop_mki un103 rfl rfl (by simp only [ok1,val,lk,nbeq,Nat.reduceBEq,cond_true,cond_false,Option.getD_some]) rfl rfl ?_
 simp only [WE,simprocAttr]
 refine stop_panic rfl rfl ?_
 refine hP' _ _ _ ?_
 repeat (first | refine kseq_p ?_ | refine kblk_p ?_ | refine kloop_p ?_)
 simp only [KpanS,US,WE,simprocAttr,h0]
 rfl
theorem num_bnd {n c k : Nat} (hn : n < 128 ^ k) (hk : k ≤ 9) (h9 : k = 9 → c ≤ 1) (hc : c ≤ 127) : n + c * 128 ^ k < 18446744073709551616 ∧ c * 128 ^ k < 18446744073709551616:=by
 have hp : (128 : Nat) ^ 9 = 9223372036854775808:=by decide
 by_cases e : k = 9
 · subst e
   have:=h9 rfl
   rw [hp] at hn ⊢
   have : c * 9223372036854775808 ≤ 1 * 9223372036854775808:=Nat.mul_le_mul_right _ this
   omega
 · have h1 : c * 128 ^ k ≤ 127 * 128 ^ k:=Nat.mul_le_mul_right _ hc
   have h2 : (128 : Nat) ^ (k + 1) ≤ 128 ^ 9:=Nat.pow_le_pow_right (by omega) (by omega)
   rw [Nat.pow_succ] at h2
   omega
def NumI (s : ByteArray) (fr : Nat) (R : Rn) (k n a : Nat) : Prop := ∃ f,f + k = 10 ∧ n < 128 ^ k ∧ a ≤ s.size ∧ numO s fr f k n a = R
set_option maxHeartbeats 8000000 in
set_option maxRecDepth 100000 in
theorem rnum_ok (Γ : Gl) (s : ByteArray) (hs : s.size ≤ 140737488355328) (a0 : Nat) (ha0 : a0 ≤ s.size) (m b : Nat) (hR : numO s a0 10 0 0 a0 = .ok m b) : SFn Tryd.prog Γ 74 [.ref 0 0] (rBox s a0) (.d (.v (.int .u64 (m : Nat)))) (rBox s b):=by
 unfold rBox
 refine sfn_of_swp (N:=46) Tryd.func74 rfl (by decide) rfl rfl (by simp) (fun C h0=>?_)
 simp only [argS]
 repeat' (first|(with_reducible apply zz1)|((with_reducible apply zz2);rfl;intro K' hK';simp only [WE,simprocAttr];(repeat (constructor;focus (clear hK';intros;simp_all;done)));(try (apply hK';clear hK' K')))|((with_reducible apply zz3);rfl;all_goals (intro h;try exact absurd h (by decide))))
 refine swp_loop (α := Nat × Nat × Nat) (fun q=>[(0,.ref 0 0),(2,.d (.v (.int .u64 0))),(3,.d (iD (a0 : Nat))),(4,.d (.v (.int .u64 (q.2.1 : Nat)))),(5,.d (iD (q.1 : Nat)))]) (fun q=>[(0,.cells [.d (sD s),.d (iD (q.2.2 : Nat))])])
  (fun q=>NumI s a0 (.ok m b) q.1 q.2.1 q.2.2) (fun q=>10 - q.1) (0,0,a0) ⟨10,rfl,(by show (0 : Nat) < 128 ^ 0;decide),ha0,hR⟩ (by refine sub_of h0 ?_ ?_ ?_ <;> simp only [US,WE,simprocAttr]) (fun q hq=>?_)
 obtain ⟨k,n,a⟩:=q
 obtain ⟨f,hf,hn,ha,hq⟩:=hq
 simp only at hf hn ha hq
 cases f with
 | zero=>unfold numO at hq;cases hq
 | succ f =>
  unfold numO at hq
  by_cases hlt : a < s.size
  · rw [if_pos hlt] at hq
    have h1:=rone_ok Γ s hs a hlt
    unfold rBox at h1
    have hc:=atS_lt s a
    generalize atS s a = c at *
    by_cases h9 : k = 9 ∧ 1 < c
    · rw [if_pos h9] at hq;cases hq
    rw [if_neg h9] at hq
    have hk9 : k ≤ 9:=by omega
    have ha7:=and127 c hc
    have hw1 : IntKind.u64.wrap ((c % 128 : Nat) : Int) = ((c % 128 : Nat) : Int):=by rw [wrap_u64];omega
    have hw7 : IntKind.i64.wrap (7 * (k : Int)) = ((7 * k : Nat) : Int):=by rw [wrap_in (by omega) (by omega)];omega
    have hwk : IntKind.i64.wrap ((k : Int) + 1) = ((k + 1 : Nat) : Int):=by rw [wrap_in (by omega) (by omega)];omega
    obtain ⟨b1,b2⟩:=num_bnd (c:=c % 128) hn hk9 (fun e=>by omega) (by omega)
    have hsh:=shl_mul (c:=c % 128) hk9 b2
    have hor:=or_add hn b1
    have ed : c % 128 ≤ 127 ∧ (c < 128 → c % 128 = c):=⟨by omega,fun h=>by omega⟩
    generalize c % 128 = d at *
    by_cases h128 : c < 128
    · rw [if_pos h128] at hq
      by_cases h00 : c = 0 ∧ 0 < k
      · rw [if_pos h00] at hq;cases hq
      rw [if_neg h00] at hq
      simp only [Rn.ok.injEq] at hq
      obtain ⟨rfl,rfl⟩:=hq
      have gc : (c : Int) < 128:=by omega
      have ec : d = c:=ed.2 h128
      have hre : n + c * 128 ^ k = n + d * 128 ^ k:=by rw [ec]
      rw [hre]
      clear ec hre h128
      have tail : (((c : Int) == 0) = false) ∨ (((c : Int) == 0) = true ∧ ¬ (1 : Int) < ((k + 1 : Nat) : Int)):=by
       by_cases e : c = 0
       · right;refine ⟨by simp [e],?_⟩;omega
       · left;rw [beq_eq_false_iff_ne];omega
      by_cases e9 : k = 9
      · have g9 : ((k : Int) == 9) = true:=by simp [e9]
        have g1 : ¬ (1 : Int) < (c : Int):=by omega
        rcases tail with g0 | ⟨g0,g5⟩
        · repeat' (first|(with_reducible apply zz1)|((with_reducible apply zz2);rfl;intro K' hK';simp only [WE,simprocAttr];(repeat (constructor;focus (clear hK';intros;simp_all;done)));(try (apply hK';clear hK' K')))|((with_reducible apply zz3);rfl;all_goals (intro h;try exact absurd h (by decide))))
          refine stop_cS rfl (by simp only [UA,WE,simprocAttr]) (h1) ?_
          simp only [WE,simprocAttr,UM, ]
          (try (apply hK';clear hK' K'))
          repeat' (first|(with_reducible apply zz1)|((with_reducible apply zz2);rfl;intro K' hK';simp only [WE,simprocAttr,g9,g1];(repeat (constructor;focus (clear hK';intros;simp_all;done)));(try (apply hK';clear hK' K')))|((with_reducible apply zz3);rfl;all_goals (intro h;try exact absurd h (by decide))))
          refine stop_val (.v (.int .u8 ((d : Nat) : Int))) rfl rfl (fun a w hv=>run_andK (hv (.tmp 22) (.v (.int .u8 (c : Nat))) rfl rfl rfl) rfl ha7) ?_
          simp only [WE,simprocAttr,  hw1,hw7]
          (repeat (constructor;focus (clear hK';intros;simp_all;done)))
          (try (apply hK';clear hK' K'))
          (try simp only [WE,simprocAttr,hw1,hw7])
          (repeat (constructor;focus (clear hK';intros;simp_all;done)))
          (try (apply hK';clear hK' K'))
          refine stop_val (.v (.int .u64 ((d * 128 ^ k : Nat) : Int))) rfl rfl (fun a w hv=>run_shlK (m:=7 * k) (hv (.tmp 24) (.v (.int .u64 ((d : Nat) : Int))) rfl rfl rfl) (hv (.tmp 26) (iD ((7 * k : Nat) : Int)) rfl rfl rfl) hsh) ?_
          simp only [WE,simprocAttr]
          (repeat (constructor;focus (clear hK';intros;simp_all;done)))
          (try (apply hK';clear hK' K'))
          refine stop_val (.v (.int .u64 ((n + d * 128 ^ k : Nat) : Int))) rfl rfl (fun a w hv=>run_orK (hv (.tmp 21) (.v (.int .u64 (n : Nat))) rfl rfl rfl) (hv (.tmp 27) (.v (.int .u64 ((d * 128 ^ k : Nat) : Int))) rfl rfl rfl) hor) ?_
          simp only [WE,simprocAttr]
          (repeat (constructor;focus (clear hK';intros;simp_all;done)))
          (try (apply hK';clear hK' K'))
          repeat' (first|(with_reducible apply zz1)|((with_reducible apply zz2);rfl;intro K' hK';simp only [WE,simprocAttr,hwk,gc,g0];(repeat (constructor;focus (clear hK';intros;simp_all;done)));(try (apply hK';clear hK' K')))|((with_reducible apply zz3);rfl;all_goals (intro h;try exact absurd h (by decide))))
          simp only [KretS,retL,retOne,oneV,US,WE,simprocAttr,h0]
        · repeat' (first|(with_reducible apply zz1)|((with_reducible apply zz2);rfl;intro K' hK';simp only [WE,simprocAttr];(repeat (constructor;focus (clear hK';intros;simp_all;done)));(try (apply hK';clear hK' K')))|((with_reducible apply zz3);rfl;all_goals (intro h;try exact absurd h (by decide))))
          refine stop_cS rfl (by simp only [UA,WE,simprocAttr]) (h1) ?_
          simp only [WE,simprocAttr,UM, ]
          (try (apply hK';clear hK' K'))
          repeat' (first|(with_reducible apply zz1)|((with_reducible apply zz2);rfl;intro K' hK';simp only [WE,simprocAttr,g9,g1];(repeat (constructor;focus (clear hK';intros;simp_all;done)));(try (apply hK';clear hK' K')))|((with_reducible apply zz3);rfl;all_goals (intro h;try exact absurd h (by decide))))
          refine stop_val (.v (.int .u8 ((d : Nat) : Int))) rfl rfl (fun a w hv=>run_andK (hv (.tmp 22) (.v (.int .u8 (c : Nat))) rfl rfl rfl) rfl ha7) ?_
          simp only [WE,simprocAttr,  hw1,hw7]
          (repeat (constructor;focus (clear hK';intros;simp_all;done)))
          (try (apply hK';clear hK' K'))
          (try simp only [WE,simprocAttr,hw1,hw7])
          (repeat (constructor;focus (clear hK';intros;simp_all;done)))
          (try (apply hK';clear hK' K'))
          refine stop_val (.v (.int .u64 ((d * 128 ^ k : Nat) : Int))) rfl rfl (fun a w hv=>run_shlK (m:=7 * k) (hv (.tmp 24) (.v (.int .u64 ((d : Nat) : Int))) rfl rfl rfl) (hv (.tmp 26) (iD ((7 * k : Nat) : Int)) rfl rfl rfl) hsh) ?_
          simp only [WE,simprocAttr]
          (repeat (constructor;focus (clear hK';intros;simp_all;done)))
          (try (apply hK';clear hK' K'))
          refine stop_val (.v (.int .u64 ((n + d * 128 ^ k : Nat) : Int))) rfl rfl (fun a w hv=>run_orK (hv (.tmp 21) (.v (.int .u64 (n : Nat))) rfl rfl rfl) (hv (.tmp 27) (.v (.int .u64 ((d * 128 ^ k : Nat) : Int))) rfl rfl rfl) hor) ?_
          simp only [WE,simprocAttr]
          (repeat (constructor;focus (clear hK';intros;simp_all;done)))
          (try (apply hK';clear hK' K'))
          repeat' (first|(with_reducible apply zz1)|((with_reducible apply zz2);rfl;intro K' hK';simp only [WE,simprocAttr,hwk,gc,g0,g5];(repeat (constructor;focus (clear hK';intros;simp_all;done)));(try (apply hK';clear hK' K')))|((with_reducible apply zz3);rfl;all_goals (intro h;try exact absurd h (by decide))))
          simp only [KretS,retL,retOne,oneV,US,WE,simprocAttr,h0]
      · have g9 : ((k : Int) == 9) = false:=by rw [beq_eq_false_iff_ne];omega
        rcases tail with g0 | ⟨g0,g5⟩
        · repeat' (first|(with_reducible apply zz1)|((with_reducible apply zz2);rfl;intro K' hK';simp only [WE,simprocAttr];(repeat (constructor;focus (clear hK';intros;simp_all;done)));(try (apply hK';clear hK' K')))|((with_reducible apply zz3);rfl;all_goals (intro h;try exact absurd h (by decide))))
          refine stop_cS rfl (by simp only [UA,WE,simprocAttr]) (h1) ?_
          simp only [WE,simprocAttr,UM, ]
          (try (apply hK';clear hK' K'))
          repeat' (first|(with_reducible apply zz1)|((with_reducible apply zz2);rfl;intro K' hK';simp only [WE,simprocAttr,g9];(repeat (constructor;focus (clear hK';intros;simp_all;done)));(try (apply hK';clear hK' K')))|((with_reducible apply zz3);rfl;all_goals (intro h;try exact absurd h (by decide))))
          refine stop_val (.v (.int .u8 ((d : Nat) : Int))) rfl rfl (fun a w hv=>run_andK (hv (.tmp 22) (.v (.int .u8 (c : Nat))) rfl rfl rfl) rfl ha7) ?_
          simp only [WE,simprocAttr,  hw1,hw7]
          (repeat (constructor;focus (clear hK';intros;simp_all;done)))
          (try (apply hK';clear hK' K'))
          (try simp only [WE,simprocAttr,hw1,hw7])
          (repeat (constructor;focus (clear hK';intros;simp_all;done)))
          (try (apply hK';clear hK' K'))
          refine stop_val (.v (.int .u64 ((d * 128 ^ k : Nat) : Int))) rfl rfl (fun a w hv=>run_shlK (m:=7 * k) (hv (.tmp 24) (.v (.int .u64 ((d : Nat) : Int))) rfl rfl rfl) (hv (.tmp 26) (iD ((7 * k : Nat) : Int)) rfl rfl rfl) hsh) ?_
          simp only [WE,simprocAttr]
          (repeat (constructor;focus (clear hK';intros;simp_all;done)))
          (try (apply hK';clear hK' K'))
          refine stop_val (.v (.int .u64 ((n + d * 128 ^ k : Nat) : Int))) rfl rfl (fun a w hv=>run_orK (hv (.tmp 21) (.v (.int .u64 (n : Nat))) rfl rfl rfl) (hv (.tmp 27) (.v (.int .u64 ((d * 128 ^ k : Nat) : Int))) rfl rfl rfl) hor) ?_
          simp only [WE,simprocAttr]
          (repeat (constructor;focus (clear hK';intros;simp_all;done)))
          (try (apply hK';clear hK' K'))
          repeat' (first|(with_reducible apply zz1)|((with_reducible apply zz2);rfl;intro K' hK';simp only [WE,simprocAttr,hwk,gc,g0];(repeat (constructor;focus (clear hK';intros;simp_all;done)));(try (apply hK';clear hK' K')))|((with_reducible apply zz3);rfl;all_goals (intro h;try exact absurd h (by decide))))
          simp only [KretS,retL,retOne,oneV,US,WE,simprocAttr,h0]
        · repeat' (first|(with_reducible apply zz1)|((with_reducible apply zz2);rfl;intro K' hK';simp only [WE,simprocAttr];(repeat (constructor;focus (clear hK';intros;simp_all;done)));(try (apply hK';clear hK' K')))|((with_reducible apply zz3);rfl;all_goals (intro h;try exact absurd h (by decide))))
          refine stop_cS rfl (by simp only [UA,WE,simprocAttr]) (h1) ?_
          simp only [WE,simprocAttr,UM, ]
          (try (apply hK';clear hK' K'))
          repeat' (first|(with_reducible apply zz1)|((with_reducible apply zz2);rfl;intro K' hK';simp only [WE,simprocAttr,g9];(repeat (constructor;focus (clear hK';intros;simp_all;done)));(try (apply hK';clear hK' K')))|((with_reducible apply zz3);rfl;all_goals (intro h;try exact absurd h (by decide))))
          refine stop_val (.v (.int .u8 ((d : Nat) : Int))) rfl rfl (fun a w hv=>run_andK (hv (.tmp 22) (.v (.int .u8 (c : Nat))) rfl rfl rfl) rfl ha7) ?_
          simp only [WE,simprocAttr,  hw1,hw7]
          (repeat (constructor;focus (clear hK';intros;simp_all;done)))
          (try (apply hK';clear hK' K'))
          (try simp only [WE,simprocAttr,hw1,hw7])
          (repeat (constructor;focus (clear hK';intros;simp_all;done)))
          (try (apply hK';clear hK' K'))
          refine stop_val (.v (.int .u64 ((d * 128 ^ k : Nat) : Int))) rfl rfl (fun a w hv=>run_shlK (m:=7 * k) (hv (.tmp 24) (.v (.int .u64 ((d : Nat) : Int))) rfl rfl rfl) (hv (.tmp 26) (iD ((7 * k : Nat) : Int)) rfl rfl rfl) hsh) ?_
          simp only [WE,simprocAttr]
          (repeat (constructor;focus (clear hK';intros;simp_all;done)))
          (try (apply hK';clear hK' K'))
          refine stop_val (.v (.int .u64 ((n + d * 128 ^ k : Nat) : Int))) rfl rfl (fun a w hv=>run_orK (hv (.tmp 21) (.v (.int .u64 (n : Nat))) rfl rfl rfl) (hv (.tmp 27) (.v (.int .u64 ((d * 128 ^ k : Nat) : Int))) rfl rfl rfl) hor) ?_
          simp only [WE,simprocAttr]
          (repeat (constructor;focus (clear hK';intros;simp_all;done)))
          (try (apply hK';clear hK' K'))
          repeat' (first|(with_reducible apply zz1)|((with_reducible apply zz2);rfl;intro K' hK';simp only [WE,simprocAttr,hwk,gc,g0,g5];(repeat (constructor;focus (clear hK';intros;simp_all;done)));(try (apply hK';clear hK' K')))|((with_reducible apply zz3);rfl;all_goals (intro h;try exact absurd h (by decide))))
          simp only [KretS,retL,retOne,oneV,US,WE,simprocAttr,h0]
    · rw [if_neg h128] at hq
      have gc : ¬ (c : Int) < 128:=by omega
      have g9 : ((k : Int) == 9) = false:=by rw [beq_eq_false_iff_ne];omega
      have g10 : (((k + 1 : Nat) : Int) == 10) = false:=by rw [beq_eq_false_iff_ne];omega
      have hn2 : n + d * 128 ^ k < 128 ^ (k + 1):=by
       have h1 : d * 128 ^ k ≤ 127 * 128 ^ k:=Nat.mul_le_mul_right _ ed.1
       rw [Nat.pow_succ];omega
      repeat' (first|(with_reducible apply zz1)|((with_reducible apply zz2);rfl;intro K' hK';simp only [WE,simprocAttr];(repeat (constructor;focus (clear hK';intros;simp_all;done)));(try (apply hK';clear hK' K')))|((with_reducible apply zz3);rfl;all_goals (intro h;try exact absurd h (by decide))))
      refine stop_cS rfl (by simp only [UA,WE,simprocAttr]) (h1) ?_
      simp only [WE,simprocAttr,UM, ]
      (try (apply hK';clear hK' K'))
      repeat' (first|(with_reducible apply zz1)|((with_reducible apply zz2);rfl;intro K' hK';simp only [WE,simprocAttr,g9];(repeat (constructor;focus (clear hK';intros;simp_all;done)));(try (apply hK';clear hK' K')))|((with_reducible apply zz3);rfl;all_goals (intro h;try exact absurd h (by decide))))
      refine stop_val (.v (.int .u8 ((d : Nat) : Int))) rfl rfl (fun a w hv=>run_andK (hv (.tmp 22) (.v (.int .u8 (c : Nat))) rfl rfl rfl) rfl ha7) ?_
      simp only [WE,simprocAttr,  hw1,hw7]
      (repeat (constructor;focus (clear hK';intros;simp_all;done)))
      (try (apply hK';clear hK' K'))
      (try simp only [WE,simprocAttr,hw1,hw7])
      (repeat (constructor;focus (clear hK';intros;simp_all;done)))
      (try (apply hK';clear hK' K'))
      refine stop_val (.v (.int .u64 ((d * 128 ^ k : Nat) : Int))) rfl rfl (fun a w hv=>run_shlK (m:=7 * k) (hv (.tmp 24) (.v (.int .u64 ((d : Nat) : Int))) rfl rfl rfl) (hv (.tmp 26) (iD ((7 * k : Nat) : Int)) rfl rfl rfl) hsh) ?_
      simp only [WE,simprocAttr]
      (repeat (constructor;focus (clear hK';intros;simp_all;done)))
      (try (apply hK';clear hK' K'))
      refine stop_val (.v (.int .u64 ((n + d * 128 ^ k : Nat) : Int))) rfl rfl (fun a w hv=>run_orK (hv (.tmp 21) (.v (.int .u64 (n : Nat))) rfl rfl rfl) (hv (.tmp 27) (.v (.int .u64 ((d * 128 ^ k : Nat) : Int))) rfl rfl rfl) hor) ?_
      simp only [WE,simprocAttr]
      (repeat (constructor;focus (clear hK';intros;simp_all;done)))
      (try (apply hK';clear hK' K'))
      repeat' (first|(with_reducible apply zz1)|((with_reducible apply zz2);rfl;intro K' hK';simp only [WE,simprocAttr,hwk,gc,g10];(repeat (constructor;focus (clear hK';intros;simp_all;done)));(try (apply hK';clear hK' K')))|((with_reducible apply zz3);rfl;all_goals (intro h;try exact absurd h (by decide))))
      refine ⟨(k + 1,n + d * 128 ^ k,a + 1),⟨f,(by show f + (k + 1) = 10;omega),hn2,(by show a + 1 ≤ s.size;omega),hq⟩,(by show 10 - (k + 1) < 10 - k;omega),by refine sub_of h0 ?_ ?_ ?_ <;> simp only [US,WE,simprocAttr]⟩
  · rw [if_neg hlt] at hq;cases hq
end Go.Proofs.YtdcplkefmpjppaaDoor.GG
