/- wires' reader: where a text is none; wires.check; a symbolic walk (printed by mkn15.py). -/
-- TYPESE
import Derived.Test.YtdcplkefmpjppaaDoorDN14
import Derived.Test.YtdcplkefmpjppaaDoorDKV1
set_option linter.unusedVariables false
set_option linter.unusedSimpArgs false
namespace Go.Proofs.YtdcplkefmpjppaaDoor.GG
open Go.RowKit Go.Sw

set_option maxHeartbeats 8000000 in
set_option maxRecDepth 100000 in
theorem rtext_no (Γ : Gl) (s : ByteArray) (hs : s.size ≤ 140737488355328) (a : Nat) (ha : a ≤ s.size) (p b : Nat) (hR : txtO s a = .no p b) : XFn Tryd.prog Γ 75 [.ref 0 0] (rBox s a) (stopW (p : Nat)) (rBox s b):=by
 unfold txtO at hR
 cases hN : numO s a 10 0 0 a with
 | no p' b' =>
  rw [hN] at hR
  simp only [Rx.no.injEq] at hR
  obtain ⟨rfl,rfl⟩:=hR
  have hno:=rnum_no Γ s hs a ha _ _ hN
  unfold rBox at hno ⊢
  refine xfn_of_swp (N:=51) Tryd.func75 rfl (by decide) rfl (by simp) (fun C h0=>?_)
  simp only [argS]
  repeat' (first|(with_reducible first|refine swp_seq ?_|refine swp_block ?_|refine swp_skip ?_|refine swp_ret ?_|refine swp_exit ?_|refine swp_label ?_|refine kseq_n ?_|refine kseq_x ?_|refine kseq_r ?_|refine kblk_n ?_|refine kblk_r ?_|refine kblk_xs ?_|refine kloop_x ?_|refine kloop_r ?_)|((with_reducible refine kblk_xn ?_ ?_);rfl)|((with_reducible refine swp_regionX ?_ ?_ (fun K' hK' hP'=>?_));rfl;rfl;simp only [WE,simprocAttr];(repeat (constructor;focus (clear hK' hP';intros;simp_all;done)));(try (apply hK';clear hK' hP';clear K')))|((with_reducible refine swp_cond ?_ ?_);rfl;refine ⟨_,rfl,fun h=>?_,fun h=>?_⟩ <;> try exact absurd h (by decide)))
  refine stop_cX rfl (by simp only [UA,WE,simprocAttr]) (hno) ?_
  simp only [UM,WE,simprocAttr]
  refine hP' _ _ _ ?_
  repeat (first | refine kseq_p ?_ | refine kblk_p ?_ | refine kloop_p ?_)
  simp only [KpanS,US,WE,simprocAttr,h0]
 | ok n b' =>
  rw [hN] at hR
  simp only at hR
  by_cases hl : s.size - b' < n
  rotate_left
  · rw [if_neg hl] at hR;cases hR
  rw [if_pos hl] at hR
  simp only [Rx.no.injEq] at hR
  obtain ⟨rfl,rfl⟩:=hR
  have h1:=rnum_ok Γ s hs a ha n b' hN
  obtain ⟨-,hb', -⟩:=numO_ok 10 0 0 a n b' rfl (by decide) hN
  unfold rBox at h1 ⊢
  have q1 : IntKind.i64.wrap ((s.size : Int) - (b' : Int)) = ((s.size - b' : Nat) : Int):=by rw [wrap_in (by omega) (by omega)];omega
  have q2 : IntKind.u64.wrap ((s.size - b' : Nat) : Int) = ((s.size - b' : Nat) : Int):=by rw [wrap_u64];omega
  have q3 : ((s.size - b' : Nat) : Int) < (n : Int):=by omega
  refine xfn_of_swp (N:=51) Tryd.func75 rfl (by decide) rfl (by simp) (fun C h0=>?_)
  simp only [argS]
  repeat' (first|(with_reducible apply zz1)|((with_reducible apply zz2);rfl;intro K' hK';simp only [WE,simprocAttr];(repeat (constructor;focus (clear hK';intros;simp_all;done)));(try (apply hK';clear hK' K')))|((with_reducible apply zz3);rfl;all_goals (intro h;try exact absurd h (by decide))))
  refine stop_cS rfl (by simp only [UA,WE,simprocAttr]) (h1) ?_
  simp only [WE,simprocAttr,UM, ]
  (try (apply hK';clear hK' K'))
  repeat' (first|(with_reducible apply zz1)|((with_reducible apply zz2);rfl;intro K' hK';simp only [WE,simprocAttr];(repeat (constructor;focus (clear hK';intros;simp_all;done)));(try (apply hK';clear hK' K')))|((with_reducible apply zz3);rfl;all_goals (intro h;try exact absurd h (by decide))))
  (with_reducible refine swp_draw ?_ ?_ ?_ ([]) (fun K' hK'=>?_)
   · kernel_rfl
   · rfl
   · rfl
   simp only [WE,simprocAttr,UG,CVS,q1,q2,q3]
   (try (apply hK';clear hK' K')))
  repeat' (first|(with_reducible first|refine swp_seq ?_|refine swp_block ?_|refine swp_skip ?_|refine swp_ret ?_|refine swp_exit ?_|refine swp_label ?_|refine kseq_n ?_|refine kseq_x ?_|refine kseq_r ?_|refine kblk_n ?_|refine kblk_r ?_|refine kblk_xs ?_|refine kloop_x ?_|refine kloop_r ?_)|((with_reducible refine kblk_xn ?_ ?_);rfl)|((with_reducible refine swp_regionX ?_ ?_ (fun K' hK' hP'=>?_));rfl;rfl;simp only [WE,simprocAttr];(repeat (constructor;focus (clear hK' hP';intros;simp_all;done)));(try (apply hK';clear hK' hP';clear K')))|((with_reducible refine swp_cond ?_ ?_);rfl;refine ⟨_,rfl,fun h=>?_,fun h=>?_⟩ <;> try exact absurd h (by decide)))
  refine stop_mki un103 rfl rfl (by simp only [ok1,val,lk,nbeq,Nat.reduceBEq,cond_true,cond_false,Option.getD_some]) rfl rfl ?_
  simp only [WE,simprocAttr]
  refine stop_panic rfl rfl ?_
  refine hP' _ _ _ ?_
  repeat (first | refine kseq_p ?_ | refine kblk_p ?_ | refine kloop_p ?_)
  simp only [KpanS,US,WE,simprocAttr,h0]
  rfl
def wchk (f : ByteArray → Bool) (kd vs vn : Int) (vS : ByteArray) (c : Tp) (lab : ByteArray) : Int :=
 if kd = 2 ∨ kd = 3 then vchk f vs vn vS else if kd = 4 ∨ kd = 5 then tCheck c else if kd = 6 ∨ kd = 7 then (if isNameB lab = true then 0 else 1) else 1
set_option maxHeartbeats 8000000 in
set_option maxRecDepth 100000 in
theorem wcheck_fn (Γ : Gl) {f : ByteArray → Bool} (hv : VSok Γ f) (kd vs vn : Int) (vS : ByteArray) (c : Tp) (lab : ByteArray) : DFn Tryd.prog Γ 44 [evD kd vs vn vS c lab] (iD (wchk f kd vs vn vS c lab)):=by
 unfold wchk
 have h1:=vcheck_fn Γ hv vs vn vS
 have h2:=TCheck_fn Γ c
 have h3:=isName_fn Γ lab
 generalize vchk f vs vn vS = e1 at *
 generalize tCheck c = e2 at *
 generalize isNameB lab = e3 at *
 obtain ⟨k,so,nm,ls,l⟩:=c
 simp only [Tp.d] at h2
 unfold evD
 simp only
 by_cases k1 : kd = 2 ∨ kd = 3
 · rw [if_pos k1]
   rcases k1 with rfl | rfl
   · refine fn_of_swp (N:=23) Tryd.func44 rfl (by decide) rfl rfl (by simp) (fun C h0=>?_)
     simp only [argE]
     repeat' (first|(with_reducible apply zz1)|((with_reducible apply zz2);rfl;intro K' hK';simp only [WE,simprocAttr,Int.reduceBEq];(repeat (constructor;focus (clear hK';intros;simp_all;done)));(try (apply hK';clear hK' K')))|((with_reducible apply zz3);rfl;all_goals (intro h;try exact absurd h (by decide))))
     refine stop_callF rfl (by simp only [WE,simprocAttr]) rfl rfl (h1) ?_
     simp only [WE,simprocAttr,inX,dropS, ]
     (repeat (constructor;focus (clear hK';intros;simp_all;done)))
     (try (apply hK';clear hK' K'))
     repeat' (first|(with_reducible apply zz1)|((with_reducible apply zz2);rfl;intro K' hK';simp only [WE,simprocAttr];(repeat (constructor;focus (clear hK';intros;simp_all;done)));(try (apply hK';clear hK' K')))|((with_reducible apply zz3);rfl;all_goals (intro h;try exact absurd h (by decide))))
     simp only [Kret,retL,retOne,oneV,WE,simprocAttr]
   · refine fn_of_swp (N:=23) Tryd.func44 rfl (by decide) rfl rfl (by simp) (fun C h0=>?_)
     simp only [argE]
     repeat' (first|(with_reducible apply zz1)|((with_reducible apply zz2);rfl;intro K' hK';simp only [WE,simprocAttr,Int.reduceBEq];(repeat (constructor;focus (clear hK';intros;simp_all;done)));(try (apply hK';clear hK' K')))|((with_reducible apply zz3);rfl;all_goals (intro h;try exact absurd h (by decide))))
     refine stop_callF rfl (by simp only [WE,simprocAttr]) rfl rfl (h1) ?_
     simp only [WE,simprocAttr,inX,dropS, ]
     (repeat (constructor;focus (clear hK';intros;simp_all;done)))
     (try (apply hK';clear hK' K'))
     repeat' (first|(with_reducible apply zz1)|((with_reducible apply zz2);rfl;intro K' hK';simp only [WE,simprocAttr];(repeat (constructor;focus (clear hK';intros;simp_all;done)));(try (apply hK';clear hK' K')))|((with_reducible apply zz3);rfl;all_goals (intro h;try exact absurd h (by decide))))
     simp only [Kret,retL,retOne,oneV,WE,simprocAttr]
 rw [if_neg k1]
 by_cases k2 : kd = 4 ∨ kd = 5
 · rw [if_pos k2]
   rcases k2 with rfl | rfl
   · refine fn_of_swp (N:=23) Tryd.func44 rfl (by decide) rfl rfl (by simp) (fun C h0=>?_)
     simp only [argE]
     repeat' (first|(with_reducible apply zz1)|((with_reducible apply zz2);rfl;intro K' hK';simp only [WE,simprocAttr,Int.reduceBEq];(repeat (constructor;focus (clear hK';intros;simp_all;done)));(try (apply hK';clear hK' K')))|((with_reducible apply zz3);rfl;all_goals (intro h;try exact absurd h (by decide))))
     refine stop_callF rfl (by simp only [WE,simprocAttr]) rfl rfl (h2) ?_
     simp only [WE,simprocAttr,inX,dropS, ]
     (repeat (constructor;focus (clear hK';intros;simp_all;done)))
     (try (apply hK';clear hK' K'))
     repeat' (first|(with_reducible apply zz1)|((with_reducible apply zz2);rfl;intro K' hK';simp only [WE,simprocAttr];(repeat (constructor;focus (clear hK';intros;simp_all;done)));(try (apply hK';clear hK' K')))|((with_reducible apply zz3);rfl;all_goals (intro h;try exact absurd h (by decide))))
     simp only [Kret,retL,retOne,oneV,WE,simprocAttr]
   · refine fn_of_swp (N:=23) Tryd.func44 rfl (by decide) rfl rfl (by simp) (fun C h0=>?_)
     simp only [argE]
     repeat' (first|(with_reducible apply zz1)|((with_reducible apply zz2);rfl;intro K' hK';simp only [WE,simprocAttr,Int.reduceBEq];(repeat (constructor;focus (clear hK';intros;simp_all;done)));(try (apply hK';clear hK' K')))|((with_reducible apply zz3);rfl;all_goals (intro h;try exact absurd h (by decide))))
     refine stop_callF rfl (by simp only [WE,simprocAttr]) rfl rfl (h2) ?_
     simp only [WE,simprocAttr,inX,dropS, ]
     (repeat (constructor;focus (clear hK';intros;simp_all;done)))
     (try (apply hK';clear hK' K'))
     repeat' (first|(with_reducible apply zz1)|((with_reducible apply zz2);rfl;intro K' hK';simp only [WE,simprocAttr];(repeat (constructor;focus (clear hK';intros;simp_all;done)));(try (apply hK';clear hK' K')))|((with_reducible apply zz3);rfl;all_goals (intro h;try exact absurd h (by decide))))
     simp only [Kret,retL,retOne,oneV,WE,simprocAttr]
 rw [if_neg k2]
 by_cases k3 : kd = 6 ∨ kd = 7
 · rw [if_pos k3]
   cases e3 with
   | true =>
    rw [if_pos rfl]
    rcases k3 with rfl | rfl
    · refine fn_of_swp (N:=23) Tryd.func44 rfl (by decide) rfl rfl (by simp) (fun C h0=>?_)
      simp only [argE]
      repeat' (first|(with_reducible apply zz1)|((with_reducible apply zz2);rfl;intro K' hK';simp only [WE,simprocAttr,Int.reduceBEq];(repeat (constructor;focus (clear hK';intros;simp_all;done)));(try (apply hK';clear hK' K')))|((with_reducible apply zz3);rfl;all_goals (intro h;try exact absurd h (by decide))))
      refine stop_callF rfl (by simp only [WE,simprocAttr]) rfl rfl (h3) ?_
      simp only [WE,simprocAttr,inX,dropS, ]
      (repeat (constructor;focus (clear hK';intros;simp_all;done)))
      (try (apply hK';clear hK' K'))
      repeat' (first|(with_reducible apply zz1)|((with_reducible apply zz2);rfl;intro K' hK';simp only [WE,simprocAttr];(repeat (constructor;focus (clear hK';intros;simp_all;done)));(try (apply hK';clear hK' K')))|((with_reducible apply zz3);rfl;all_goals (intro h;try exact absurd h (by decide))))
      simp only [Kret,retL,retOne,oneV,WE,simprocAttr]
    · refine fn_of_swp (N:=23) Tryd.func44 rfl (by decide) rfl rfl (by simp) (fun C h0=>?_)
      simp only [argE]
      repeat' (first|(with_reducible apply zz1)|((with_reducible apply zz2);rfl;intro K' hK';simp only [WE,simprocAttr,Int.reduceBEq];(repeat (constructor;focus (clear hK';intros;simp_all;done)));(try (apply hK';clear hK' K')))|((with_reducible apply zz3);rfl;all_goals (intro h;try exact absurd h (by decide))))
      refine stop_callF rfl (by simp only [WE,simprocAttr]) rfl rfl (h3) ?_
      simp only [WE,simprocAttr,inX,dropS, ]
      (repeat (constructor;focus (clear hK';intros;simp_all;done)))
      (try (apply hK';clear hK' K'))
      repeat' (first|(with_reducible apply zz1)|((with_reducible apply zz2);rfl;intro K' hK';simp only [WE,simprocAttr];(repeat (constructor;focus (clear hK';intros;simp_all;done)));(try (apply hK';clear hK' K')))|((with_reducible apply zz3);rfl;all_goals (intro h;try exact absurd h (by decide))))
      simp only [Kret,retL,retOne,oneV,WE,simprocAttr]
   | false =>
    rw [if_neg (by decide)]
    rcases k3 with rfl | rfl
    · refine fn_of_swp (N:=23) Tryd.func44 rfl (by decide) rfl rfl (by simp) (fun C h0=>?_)
      simp only [argE]
      repeat' (first|(with_reducible apply zz1)|((with_reducible apply zz2);rfl;intro K' hK';simp only [WE,simprocAttr,Int.reduceBEq];(repeat (constructor;focus (clear hK';intros;simp_all;done)));(try (apply hK';clear hK' K')))|((with_reducible apply zz3);rfl;all_goals (intro h;try exact absurd h (by decide))))
      refine stop_callF rfl (by simp only [WE,simprocAttr]) rfl rfl (h3) ?_
      simp only [WE,simprocAttr,inX,dropS, ]
      (repeat (constructor;focus (clear hK';intros;simp_all;done)))
      (try (apply hK';clear hK' K'))
      repeat' (first|(with_reducible apply zz1)|((with_reducible apply zz2);rfl;intro K' hK';simp only [WE,simprocAttr];(repeat (constructor;focus (clear hK';intros;simp_all;done)));(try (apply hK';clear hK' K')))|((with_reducible apply zz3);rfl;all_goals (intro h;try exact absurd h (by decide))))
      simp only [Kret,retL,retOne,oneV,WE,simprocAttr]
    · refine fn_of_swp (N:=23) Tryd.func44 rfl (by decide) rfl rfl (by simp) (fun C h0=>?_)
      simp only [argE]
      repeat' (first|(with_reducible apply zz1)|((with_reducible apply zz2);rfl;intro K' hK';simp only [WE,simprocAttr,Int.reduceBEq];(repeat (constructor;focus (clear hK';intros;simp_all;done)));(try (apply hK';clear hK' K')))|((with_reducible apply zz3);rfl;all_goals (intro h;try exact absurd h (by decide))))
      refine stop_callF rfl (by simp only [WE,simprocAttr]) rfl rfl (h3) ?_
      simp only [WE,simprocAttr,inX,dropS, ]
      (repeat (constructor;focus (clear hK';intros;simp_all;done)))
      (try (apply hK';clear hK' K'))
      repeat' (first|(with_reducible apply zz1)|((with_reducible apply zz2);rfl;intro K' hK';simp only [WE,simprocAttr];(repeat (constructor;focus (clear hK';intros;simp_all;done)));(try (apply hK';clear hK' K')))|((with_reducible apply zz3);rfl;all_goals (intro h;try exact absurd h (by decide))))
      simp only [Kret,retL,retOne,oneV,WE,simprocAttr]
 rw [if_neg k3]
 have g2 : (kd == 2) = false:=by rw [beq_eq_false_iff_ne];omega
 have g3 : (kd == 3) = false:=by rw [beq_eq_false_iff_ne];omega
 have g4 : (kd == 4) = false:=by rw [beq_eq_false_iff_ne];omega
 have g5 : (kd == 5) = false:=by rw [beq_eq_false_iff_ne];omega
 have g6 : (kd == 6) = false:=by rw [beq_eq_false_iff_ne];omega
 have g7 : (kd == 7) = false:=by rw [beq_eq_false_iff_ne];omega
 refine fn_of_swp (N:=23) Tryd.func44 rfl (by decide) rfl rfl (by simp) (fun C h0=>?_)
 simp only [argE]
 repeat' (first|(with_reducible apply zz1)|((with_reducible apply zz2);rfl;intro K' hK';simp only [WE,simprocAttr,g2,g3,g4,g5,g6,g7];(repeat (constructor;focus (clear hK';intros;simp_all;done)));(try (apply hK';clear hK' K')))|((with_reducible apply zz3);rfl;all_goals (intro h;try exact absurd h (by decide))))
 simp only [Kret,retL,retOne,oneV,WE,simprocAttr]
end Go.Proofs.YtdcplkefmpjppaaDoor.GG
