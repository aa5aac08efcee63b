/- wires' reader: an event that carries a type or a label; a symbolic walk (printed by mkn16.py). -/
-- TYPESE
import Derived.Test.YtdcplkefmpjppaaDoorDN16
import Derived.Test.YtdcplkefmpjppaaDoorDT17
set_option linter.unusedVariables false
set_option linter.unusedSimpArgs false
namespace Go.Proofs.YtdcplkefmpjppaaDoor.GG
open Go.RowKit Go.Sw
open Nat renaming reduceBEq → zn0
open Go.Sw renaming swp_seq → zw0, swp_block → zw1, swp_skip → zw2, swp_ret → zw3, swp_exit → zw4, swp_label → zw5, kseq_n → zw6, kseq_x → zw7, kseq_r → zw8, kblk_n → zw9, kblk_r → zw10, kblk_xs → zw11, kblk_xn → zw12, kloop_x → zw13, kloop_r → zw14, swp_cond → zw15

theorem txtO_size {s : ByteArray} {a : Nat} {w : ByteArray} {b : Nat} (hs : s.size < 2 ^ 63) (h : txtO s a = .ok w b) : w.size ≤ s.size:=by
 obtain ⟨h1,h2,h3⟩:=txtO_ok hs h
 have:=congrArg List.length h3
 rw [List.length_drop,sizeL,List.length_append,txtB,List.length_append,sizeL] at this
 omega
theorem clone_fn (Γ : Gl) (w : ByteArray) (hw : w.size ≤ 281474976710656) : DFn Tryd.prog Γ 77 [sD w] (sD w):=by
 have hc : DFn Tryd.prog Γ 101 [sD w] (sD w):=dfn_of (by kernel_rfl) rfl rfl fun x h=>Tryd.stringslite_Clone w x hw
 refine fn_of_swp (N:=5) Tryd.func77 rfl (by decide) rfl rfl (by simp) (fun C h0=>?_)
 simp only [argE]
 repeat' (first|(with_reducible apply zz1)|((with_reducible apply zz2);rfl;intro K' hK';simp only [WE,simprocAttr];(repeat (constructor;focus (clear hK';intros;simp_all;done)));(try (apply hK';clear hK' K')))|((with_reducible apply zz3);rfl;all_goals (intro h;try exact absurd h (by decide))))
 refine stop_callF rfl (by simp only [WE,simprocAttr]) rfl rfl (hc) ?_
 simp only [WE,simprocAttr,inX,dropS, ]
 (repeat (constructor;focus (clear hK';intros;simp_all;done)))
 (try (apply hK';clear hK' K'))
 repeat' (first|(with_reducible apply zz1)|((with_reducible apply zz2);rfl;intro K' hK';simp only [WE,simprocAttr];(repeat (constructor;focus (clear hK';intros;simp_all;done)));(try (apply hK';clear hK' K')))|((with_reducible apply zz3);rfl;all_goals (intro h;try exact absurd h (by decide))))
 simp only [Kret,retL,retOne,oneV,WE,simprocAttr]
set_option maxHeartbeats 8000000 in
set_option maxRecDepth 100000 in
theorem ev_car4_no (Γ : Gl) (s : ByteArray) (hs : s.size ≤ 140737488355328) (a : Nat) (ha : a < s.size) (hk : atS s a = 4) (p b : Nat) (hR : txtO s (a + 1) = .no p b) : RdE Γ s a (.no p b):=by
 have h1:=rone_at Γ s hs a ha 4 (by rw [hk];rfl)
 have h3:=rtext_no Γ s hs (a + 1) (by omega) p b hR
 unfold rBox at h3
 unfold RdE rBox
 refine xfn_of_swp (N:=117) Tryd.func49 rfl (by decide) rfl (by simp) (fun C h0=>?_)
 simp only [argS]
 repeat' (first|(with_reducible apply zz1)|((with_reducible apply zz2);rfl;intro K' hK';simp only [WE,simprocAttr];(repeat (constructor;focus (clear hK';intros;simp_all;done)));(try (apply hK';clear hK' K')))|((with_reducible apply zz3);rfl;all_goals (intro h;try exact absurd h (by decide))))
 refine stop_cS rfl (by simp only [UA,WE,simprocAttr]) (h1) ?_
 simp only [WE,simprocAttr,UM,CVS,w4]
 (try (apply hK';clear hK' K'))
 repeat' (first|(with_reducible first|apply zw0|apply zw1|apply zw2|apply zw3|apply zw4|apply zw5|apply zw6|apply zw7|apply zw8|apply zw9|apply zw10|apply zw11|apply zw13|apply zw14)|((with_reducible refine zw12 ?_ ?_);rfl)|((with_reducible refine swp_regionX ?_ ?_ (fun K' hK' hP'=>?_));rfl;rfl;simp only [WE,simprocAttr,CVS,Int.reduceBEq,w4];(repeat (constructor;focus (clear hK' hP';intros;simp_all;done)));(try (apply hK';clear hK' hP';clear K')))|((with_reducible refine zw15 ?_ ?_);rfl;refine ⟨_,rfl,fun h=>?_,fun h=>?_⟩ <;> try exact absurd h (by decide)))
 refine stop_cX rfl (by simp only [UA,WE,simprocAttr]) (h3) ?_
 simp only [UM,WE,simprocAttr]
 refine hP' _ _ _ ?_
 repeat (first | refine kseq_p ?_ | refine kblk_p ?_ | refine kloop_p ?_)
 simp only [KpanS,US,WE,simprocAttr,h0]
set_option maxHeartbeats 8000000 in
set_option maxRecDepth 100000 in
theorem ev_car4 (Γ : Gl) (s : ByteArray) (hs : s.size ≤ 140737488355328) (a : Nat) {f : ByteArray → Bool} (hf : VSok Γ f) (hG : GD Tryd.prog Γ 1 22 (.slc (sortsL.map sD))) (ha : a < s.size) (hk : atS s a = 4) (w : ByteArray) (b : Nat) (hR : txtO s (a + 1) = .ok w b) (x : Tp) (e t : Int) (hp : DFn Tryd.prog Γ 76 [sD w] (parD (x,e,t))) (he : e = 0) (hc : tCheck x = 0) (hw : wrtT x = w) : RdE Γ s a (.ok ⟨4,0,0,noB,x,noB⟩ b):=by
 have h1:=rone_at Γ s hs a ha 4 (by rw [hk];rfl)
 have h3:=rtext_ok Γ s hs (a + 1) (by omega) w b hR
 unfold rBox at h3
 have hwr:=TWrite_fn Γ hG x
 subst he
 rw [hc,hw] at hwr
 have hck:=wcheck_fn Γ hf 4 0 0 noB x noB
 rw [show wchk f 4 0 0 noB x noB = 0 by unfold wchk;rw [if_neg (by decide),if_pos (by decide)];exact hc] at hck
 clear hc hw
 obtain ⟨xk,xso,xnm,xls,xl⟩:=x
 unfold parD at hp
 simp only [Tp.d,evD] at hp hwr hck ⊢
 unfold RdE rBox
 refine sfn_of_swp (N:=117) Tryd.func49 rfl (by decide) rfl rfl (by simp) (fun C h0=>?_)
 simp only [argS]
 repeat' (first|(with_reducible apply zz1)|((with_reducible apply zz2);rfl;intro K' hK';simp only [WE,simprocAttr];(repeat (constructor;focus (clear hK';intros;simp_all;done)));(try (apply hK';clear hK' K')))|((with_reducible apply zz3);rfl;all_goals (intro h;try exact absurd h (by decide))))
 refine stop_cS rfl (by simp only [UA,WE,simprocAttr]) (h1) ?_
 simp only [WE,simprocAttr,UM,CVS,w4]
 (try (apply hK';clear hK' K'))
 repeat' (first|(with_reducible apply zz1)|((with_reducible apply zz2);rfl;intro K' hK';simp only [WE,simprocAttr,CVS,Int.reduceBEq,w4];(repeat (constructor;focus (clear hK';intros;simp_all;done)));(try (apply hK';clear hK' K')))|((with_reducible apply zz3);rfl;all_goals (intro h;try exact absurd h (by decide))))
 refine stop_cS rfl (by simp only [UA,WE,simprocAttr]) (h3) ?_
 simp only [WE,simprocAttr,UM, ]
 (try (apply hK';clear hK' K'))
 repeat' (first|(with_reducible apply zz1)|((with_reducible apply zz2);rfl;intro K' hK';simp only [WE,simprocAttr];(repeat (constructor;focus (clear hK';intros;simp_all;done)));(try (apply hK';clear hK' K')))|((with_reducible apply zz3);rfl;all_goals (intro h;try exact absurd h (by decide))))
 refine stop_call h0 rfl (by simp only [WE,simprocAttr]) rfl (by simp only [keepS,Option.isSome_some,WE,simprocAttr]) (hp) ?_
 simp only [WE,simprocAttr,inX,dropS, ]
 (repeat (constructor;focus (clear hK';intros;simp_all;done)))
 (try (apply hK';clear hK' K'))
 repeat' (first|(with_reducible apply zz1)|((with_reducible apply zz2);rfl;intro K' hK';simp only [WE,simprocAttr];(repeat (constructor;focus (clear hK';intros;simp_all;done)));(try (apply hK';clear hK' K')))|((with_reducible apply zz3);rfl;all_goals (intro h;try exact absurd h (by decide))))
 refine stop_call h0 rfl (by simp only [WE,simprocAttr]) rfl (by simp only [keepS,Option.isSome_some,WE,simprocAttr]) (hwr) ?_
 simp only [WE,simprocAttr,inX,dropS, ]
 (repeat (constructor;focus (clear hK';intros;simp_all;done)))
 (try (apply hK';clear hK' K'))
 repeat' (first|(with_reducible apply zz1)|((with_reducible apply zz2);rfl;intro K' hK';simp only [WE,simprocAttr,bne_self_eq_false,beq_self_eq_true,Bool.not_true,cond_true,cond_false];(repeat (constructor;focus (clear hK';intros;simp_all;done)));(try (apply hK';clear hK' K')))|((with_reducible apply zz3);rfl;all_goals (intro h;try exact absurd h (by decide))))
 refine stop_callF rfl (by simp only [WE,simprocAttr]) rfl rfl (hck) ?_
 simp only [WE,simprocAttr,inX,dropS,bne_self_eq_false]
 (repeat (constructor;focus (clear hK';intros;simp_all;done)))
 (try (apply hK';clear hK' K'))
 repeat' (first|(with_reducible apply zz1)|((with_reducible apply zz2);rfl;intro K' hK';simp only [WE,simprocAttr,bne_self_eq_false];(repeat (constructor;focus (clear hK';intros;simp_all;done)));(try (apply hK';clear hK' K')))|((with_reducible apply zz3);rfl;all_goals (intro h;try exact absurd h (by decide))))
 simp only [KretS,retL,retOne,oneV,US,WE,simprocAttr,h0,Ev.d,evD]
set_option maxHeartbeats 8000000 in
set_option maxRecDepth 100000 in
theorem ev_car4_bad (Γ : Gl) (s : ByteArray) (hs : s.size ≤ 140737488355328) (a : Nat) (hG : GD Tryd.prog Γ 1 22 (.slc (sortsL.map sD))) (ha : a < s.size) (hk : atS s a = 4) (w : ByteArray) (b : Nat) (hR : txtO s (a + 1) = .ok w b) (x : Tp) (e t : Int) (hp : DFn Tryd.prog Γ 76 [sD w] (parD (x,e,t))) (he : e ≠ 0) : RdE Γ s a (.no (a + 1) b):=by
 have h1:=rone_at Γ s hs a ha 4 (by rw [hk];rfl)
 have h3:=rtext_ok Γ s hs (a + 1) (by omega) w b hR
 unfold rBox at h3
 have hwr:=TWrite_fn Γ hG x
 have ge : (e != 0) = true:=bne_iff_ne.2 he
 generalize wrtT x = u at *
 generalize tCheck x = q at *
 obtain ⟨xk,xso,xnm,xls,xl⟩:=x
 unfold parD at hp
 simp only [Tp.d] at hp hwr
 unfold RdE rBox
 refine xfn_of_swp (N:=117) Tryd.func49 rfl (by decide) rfl (by simp) (fun C h0=>?_)
 simp only [argS]
 repeat' (first|(with_reducible apply zz1)|((with_reducible apply zz2);rfl;intro K' hK';simp only [WE,simprocAttr];(repeat (constructor;focus (clear hK';intros;simp_all;done)));(try (apply hK';clear hK' K')))|((with_reducible apply zz3);rfl;all_goals (intro h;try exact absurd h (by decide))))
 refine stop_cS rfl (by simp only [UA,WE,simprocAttr]) (h1) ?_
 simp only [WE,simprocAttr,UM,CVS,w4]
 (try (apply hK';clear hK' K'))
 repeat' (first|(with_reducible apply zz1)|((with_reducible apply zz2);rfl;intro K' hK';simp only [WE,simprocAttr,CVS,Int.reduceBEq,w4];(repeat (constructor;focus (clear hK';intros;simp_all;done)));(try (apply hK';clear hK' K')))|((with_reducible apply zz3);rfl;all_goals (intro h;try exact absurd h (by decide))))
 refine stop_cS rfl (by simp only [UA,WE,simprocAttr]) (h3) ?_
 simp only [WE,simprocAttr,UM, ]
 (try (apply hK';clear hK' K'))
 repeat' (first|(with_reducible apply zz1)|((with_reducible apply zz2);rfl;intro K' hK';simp only [WE,simprocAttr];(repeat (constructor;focus (clear hK';intros;simp_all;done)));(try (apply hK';clear hK' K')))|((with_reducible apply zz3);rfl;all_goals (intro h;try exact absurd h (by decide))))
 refine stop_call h0 rfl (by simp only [WE,simprocAttr]) rfl (by simp only [keepS,Option.isSome_some,WE,simprocAttr]) (hp) ?_
 simp only [WE,simprocAttr,inX,dropS, ]
 (repeat (constructor;focus (clear hK';intros;simp_all;done)))
 (try (apply hK';clear hK' K'))
 repeat' (first|(with_reducible apply zz1)|((with_reducible apply zz2);rfl;intro K' hK';simp only [WE,simprocAttr];(repeat (constructor;focus (clear hK';intros;simp_all;done)));(try (apply hK';clear hK' K')))|((with_reducible apply zz3);rfl;all_goals (intro h;try exact absurd h (by decide))))
 refine stop_call h0 rfl (by simp only [WE,simprocAttr]) rfl (by simp only [keepS,Option.isSome_some,WE,simprocAttr]) (hwr) ?_
 simp only [WE,simprocAttr,inX,dropS, ]
 (repeat (constructor;focus (clear hK';intros;simp_all;done)))
 (try (apply hK';clear hK' K'))
 repeat' (first|(with_reducible first|apply zw0|apply zw1|apply zw2|apply zw3|apply zw4|apply zw5|apply zw6|apply zw7|apply zw8|apply zw9|apply zw10|apply zw11|apply zw13|apply zw14)|((with_reducible refine zw12 ?_ ?_);rfl)|((with_reducible refine swp_regionX ?_ ?_ (fun K' hK' hP'=>?_));rfl;rfl;simp only [WE,simprocAttr,ge,Bool.not_true,Bool.not_false,cond_true,cond_false];(repeat (constructor;focus (clear hK' hP';intros;simp_all;done)));(try (apply hK';clear hK' hP';clear K')))|((with_reducible refine zw15 ?_ ?_);rfl;refine ⟨_,rfl,fun h=>?_,fun h=>?_⟩ <;> try exact absurd h (by decide)))
 refine stop_mki un103 rfl rfl (by simp only [ok1,val,lk,nbeq,zn0,cond_true,cond_false,Option.getD_some]) rfl rfl ?_
 simp only [WE,simprocAttr]
 refine stop_panic rfl rfl ?_
 refine hP' _ _ _ ?_
 repeat (first | refine kseq_p ?_ | refine kblk_p ?_ | refine kloop_p ?_)
 simp only [KpanS,US,WE,simprocAttr,h0]
 rfl
set_option maxHeartbeats 8000000 in
set_option maxRecDepth 100000 in
theorem ev_car4_oth (Γ : Gl) (s : ByteArray) (hs : s.size ≤ 140737488355328) (a : Nat) (hG : GD Tryd.prog Γ 1 22 (.slc (sortsL.map sD))) (ha : a < s.size) (hk : atS s a = 4) (w : ByteArray) (b : Nat) (hR : txtO s (a + 1) = .ok w b) (x : Tp) (e t : Int) (hp : DFn Tryd.prog Γ 76 [sD w] (parD (x,e,t))) (he : e = 0) (hc : tCheck x = 0) (hw : wrtT x ≠ w) : RdE Γ s a (.no (a + 1) b):=by
 have h1:=rone_at Γ s hs a ha 4 (by rw [hk];rfl)
 have h3:=rtext_ok Γ s hs (a + 1) (by omega) w b hR
 unfold rBox at h3
 have hwr:=TWrite_fn Γ hG x
 subst he
 rw [hc] at hwr
 have gw : ((wrtT x).toList == w.toList) = false:=by rw [beq_eq_false_iff_ne];exact fun q=>hw (list_back q)
 generalize wrtT x = u at *
 clear hc hw
 obtain ⟨xk,xso,xnm,xls,xl⟩:=x
 unfold parD at hp
 simp only [Tp.d] at hp hwr
 unfold RdE rBox
 refine xfn_of_swp (N:=117) Tryd.func49 rfl (by decide) rfl (by simp) (fun C h0=>?_)
 simp only [argS]
 repeat' (first|(with_reducible apply zz1)|((with_reducible apply zz2);rfl;intro K' hK';simp only [WE,simprocAttr];(repeat (constructor;focus (clear hK';intros;simp_all;done)));(try (apply hK';clear hK' K')))|((with_reducible apply zz3);rfl;all_goals (intro h;try exact absurd h (by decide))))
 refine stop_cS rfl (by simp only [UA,WE,simprocAttr]) (h1) ?_
 simp only [WE,simprocAttr,UM,CVS,w4]
 (try (apply hK';clear hK' K'))
 repeat' (first|(with_reducible apply zz1)|((with_reducible apply zz2);rfl;intro K' hK';simp only [WE,simprocAttr,CVS,Int.reduceBEq,w4];(repeat (constructor;focus (clear hK';intros;simp_all;done)));(try (apply hK';clear hK' K')))|((with_reducible apply zz3);rfl;all_goals (intro h;try exact absurd h (by decide))))
 refine stop_cS rfl (by simp only [UA,WE,simprocAttr]) (h3) ?_
 simp only [WE,simprocAttr,UM, ]
 (try (apply hK';clear hK' K'))
 repeat' (first|(with_reducible apply zz1)|((with_reducible apply zz2);rfl;intro K' hK';simp only [WE,simprocAttr];(repeat (constructor;focus (clear hK';intros;simp_all;done)));(try (apply hK';clear hK' K')))|((with_reducible apply zz3);rfl;all_goals (intro h;try exact absurd h (by decide))))
 refine stop_call h0 rfl (by simp only [WE,simprocAttr]) rfl (by simp only [keepS,Option.isSome_some,WE,simprocAttr]) (hp) ?_
 simp only [WE,simprocAttr,inX,dropS, ]
 (repeat (constructor;focus (clear hK';intros;simp_all;done)))
 (try (apply hK';clear hK' K'))
 repeat' (first|(with_reducible apply zz1)|((with_reducible apply zz2);rfl;intro K' hK';simp only [WE,simprocAttr];(repeat (constructor;focus (clear hK';intros;simp_all;done)));(try (apply hK';clear hK' K')))|((with_reducible apply zz3);rfl;all_goals (intro h;try exact absurd h (by decide))))
 refine stop_call h0 rfl (by simp only [WE,simprocAttr]) rfl (by simp only [keepS,Option.isSome_some,WE,simprocAttr]) (hwr) ?_
 simp only [WE,simprocAttr,inX,dropS, ]
 (repeat (constructor;focus (clear hK';intros;simp_all;done)))
 (try (apply hK';clear hK' K'))
 repeat' (first|(with_reducible first|apply zw0|apply zw1|apply zw2|apply zw3|apply zw4|apply zw5|apply zw6|apply zw7|apply zw8|apply zw9|apply zw10|apply zw11|apply zw13|apply zw14)|((with_reducible refine zw12 ?_ ?_);rfl)|((with_reducible refine swp_regionX ?_ ?_ (fun K' hK' hP'=>?_));rfl;rfl;simp only [WE,simprocAttr,gw,bne_self_eq_false,Bool.not_true,Bool.not_false,cond_true,cond_false];(repeat (constructor;focus (clear hK' hP';intros;simp_all;done)));(try (apply hK';clear hK' hP';clear K')))|((with_reducible refine zw15 ?_ ?_);rfl;refine ⟨_,rfl,fun h=>?_,fun h=>?_⟩ <;> try exact absurd h (by decide)))
 refine stop_mki un103 rfl rfl (by simp only [ok1,val,lk,nbeq,zn0,cond_true,cond_false,Option.getD_some]) rfl rfl ?_
 simp only [WE,simprocAttr]
 refine stop_panic rfl rfl ?_
 refine hP' _ _ _ ?_
 repeat (first | refine kseq_p ?_ | refine kblk_p ?_ | refine kloop_p ?_)
 simp only [KpanS,US,WE,simprocAttr,h0]
 rfl
set_option maxHeartbeats 8000000 in
set_option maxRecDepth 100000 in
theorem ev_car5_no (Γ : Gl) (s : ByteArray) (hs : s.size ≤ 140737488355328) (a : Nat) (ha : a < s.size) (hk : atS s a = 5) (p b : Nat) (hR : txtO s (a + 1) = .no p b) : RdE Γ s a (.no p b):=by
 have h1:=rone_at Γ s hs a ha 5 (by rw [hk];rfl)
 have h3:=rtext_no Γ s hs (a + 1) (by omega) p b hR
 unfold rBox at h3
 unfold RdE rBox
 refine xfn_of_swp (N:=117) Tryd.func49 rfl (by decide) rfl (by simp) (fun C h0=>?_)
 simp only [argS]
 repeat' (first|(with_reducible apply zz1)|((with_reducible apply zz2);rfl;intro K' hK';simp only [WE,simprocAttr];(repeat (constructor;focus (clear hK';intros;simp_all;done)));(try (apply hK';clear hK' K')))|((with_reducible apply zz3);rfl;all_goals (intro h;try exact absurd h (by decide))))
 refine stop_cS rfl (by simp only [UA,WE,simprocAttr]) (h1) ?_
 simp only [WE,simprocAttr,UM,CVS,w5]
 (try (apply hK';clear hK' K'))
 repeat' (first|(with_reducible first|apply zw0|apply zw1|apply zw2|apply zw3|apply zw4|apply zw5|apply zw6|apply zw7|apply zw8|apply zw9|apply zw10|apply zw11|apply zw13|apply zw14)|((with_reducible refine zw12 ?_ ?_);rfl)|((with_reducible refine swp_regionX ?_ ?_ (fun K' hK' hP'=>?_));rfl;rfl;simp only [WE,simprocAttr,CVS,Int.reduceBEq,w5];(repeat (constructor;focus (clear hK' hP';intros;simp_all;done)));(try (apply hK';clear hK' hP';clear K')))|((with_reducible refine zw15 ?_ ?_);rfl;refine ⟨_,rfl,fun h=>?_,fun h=>?_⟩ <;> try exact absurd h (by decide)))
 refine stop_cX rfl (by simp only [UA,WE,simprocAttr]) (h3) ?_
 simp only [UM,WE,simprocAttr]
 refine hP' _ _ _ ?_
 repeat (first | refine kseq_p ?_ | refine kblk_p ?_ | refine kloop_p ?_)
 simp only [KpanS,US,WE,simprocAttr,h0]
set_option maxHeartbeats 8000000 in
set_option maxRecDepth 100000 in
theorem ev_car5 (Γ : Gl) (s : ByteArray) (hs : s.size ≤ 140737488355328) (a : Nat) {f : ByteArray → Bool} (hf : VSok Γ f) (hG : GD Tryd.prog Γ 1 22 (.slc (sortsL.map sD))) (ha : a < s.size) (hk : atS s a = 5) (w : ByteArray) (b : Nat) (hR : txtO s (a + 1) = .ok w b) (x : Tp) (e t : Int) (hp : DFn Tryd.prog Γ 76 [sD w] (parD (x,e,t))) (he : e = 0) (hc : tCheck x = 0) (hw : wrtT x = w) : RdE Γ s a (.ok ⟨5,0,0,noB,x,noB⟩ b):=by
 have h1:=rone_at Γ s hs a ha 5 (by rw [hk];rfl)
 have h3:=rtext_ok Γ s hs (a + 1) (by omega) w b hR
 unfold rBox at h3
 have hwr:=TWrite_fn Γ hG x
 subst he
 rw [hc,hw] at hwr
 have hck:=wcheck_fn Γ hf 5 0 0 noB x noB
 rw [show wchk f 5 0 0 noB x noB = 0 by unfold wchk;rw [if_neg (by decide),if_pos (by decide)];exact hc] at hck
 clear hc hw
 obtain ⟨xk,xso,xnm,xls,xl⟩:=x
 unfold parD at hp
 simp only [Tp.d,evD] at hp hwr hck ⊢
 unfold RdE rBox
 refine sfn_of_swp (N:=117) Tryd.func49 rfl (by decide) rfl rfl (by simp) (fun C h0=>?_)
 simp only [argS]
 repeat' (first|(with_reducible apply zz1)|((with_reducible apply zz2);rfl;intro K' hK';simp only [WE,simprocAttr];(repeat (constructor;focus (clear hK';intros;simp_all;done)));(try (apply hK';clear hK' K')))|((with_reducible apply zz3);rfl;all_goals (intro h;try exact absurd h (by decide))))
 refine stop_cS rfl (by simp only [UA,WE,simprocAttr]) (h1) ?_
 simp only [WE,simprocAttr,UM,CVS,w5]
 (try (apply hK';clear hK' K'))
 repeat' (first|(with_reducible apply zz1)|((with_reducible apply zz2);rfl;intro K' hK';simp only [WE,simprocAttr,CVS,Int.reduceBEq,w5];(repeat (constructor;focus (clear hK';intros;simp_all;done)));(try (apply hK';clear hK' K')))|((with_reducible apply zz3);rfl;all_goals (intro h;try exact absurd h (by decide))))
 refine stop_cS rfl (by simp only [UA,WE,simprocAttr]) (h3) ?_
 simp only [WE,simprocAttr,UM, ]
 (try (apply hK';clear hK' K'))
 repeat' (first|(with_reducible apply zz1)|((with_reducible apply zz2);rfl;intro K' hK';simp only [WE,simprocAttr];(repeat (constructor;focus (clear hK';intros;simp_all;done)));(try (apply hK';clear hK' K')))|((with_reducible apply zz3);rfl;all_goals (intro h;try exact absurd h (by decide))))
 refine stop_call h0 rfl (by simp only [WE,simprocAttr]) rfl (by simp only [keepS,Option.isSome_some,WE,simprocAttr]) (hp) ?_
 simp only [WE,simprocAttr,inX,dropS, ]
 (repeat (constructor;focus (clear hK';intros;simp_all;done)))
 (try (apply hK';clear hK' K'))
 repeat' (first|(with_reducible apply zz1)|((with_reducible apply zz2);rfl;intro K' hK';simp only [WE,simprocAttr];(repeat (constructor;focus (clear hK';intros;simp_all;done)));(try (apply hK';clear hK' K')))|((with_reducible apply zz3);rfl;all_goals (intro h;try exact absurd h (by decide))))
 refine stop_call h0 rfl (by simp only [WE,simprocAttr]) rfl (by simp only [keepS,Option.isSome_some,WE,simprocAttr]) (hwr) ?_
 simp only [WE,simprocAttr,inX,dropS, ]
 (repeat (constructor;focus (clear hK';intros;simp_all;done)))
 (try (apply hK';clear hK' K'))
 repeat' (first|(with_reducible apply zz1)|((with_reducible apply zz2);rfl;intro K' hK';simp only [WE,simprocAttr,bne_self_eq_false,beq_self_eq_true,Bool.not_true,cond_true,cond_false];(repeat (constructor;focus (clear hK';intros;simp_all;done)));(try (apply hK';clear hK' K')))|((with_reducible apply zz3);rfl;all_goals (intro h;try exact absurd h (by decide))))
 refine stop_callF rfl (by simp only [WE,simprocAttr]) rfl rfl (hck) ?_
 simp only [WE,simprocAttr,inX,dropS,bne_self_eq_false]
 (repeat (constructor;focus (clear hK';intros;simp_all;done)))
 (try (apply hK';clear hK' K'))
 repeat' (first|(with_reducible apply zz1)|((with_reducible apply zz2);rfl;intro K' hK';simp only [WE,simprocAttr,bne_self_eq_false];(repeat (constructor;focus (clear hK';intros;simp_all;done)));(try (apply hK';clear hK' K')))|((with_reducible apply zz3);rfl;all_goals (intro h;try exact absurd h (by decide))))
 simp only [KretS,retL,retOne,oneV,US,WE,simprocAttr,h0,Ev.d,evD]
set_option maxHeartbeats 8000000 in
set_option maxRecDepth 100000 in
theorem ev_car5_bad (Γ : Gl) (s : ByteArray) (hs : s.size ≤ 140737488355328) (a : Nat) (hG : GD Tryd.prog Γ 1 22 (.slc (sortsL.map sD))) (ha : a < s.size) (hk : atS s a = 5) (w : ByteArray) (b : Nat) (hR : txtO s (a + 1) = .ok w b) (x : Tp) (e t : Int) (hp : DFn Tryd.prog Γ 76 [sD w] (parD (x,e,t))) (he : e ≠ 0) : RdE Γ s a (.no (a + 1) b):=by
 have h1:=rone_at Γ s hs a ha 5 (by rw [hk];rfl)
 have h3:=rtext_ok Γ s hs (a + 1) (by omega) w b hR
 unfold rBox at h3
 have hwr:=TWrite_fn Γ hG x
 have ge : (e != 0) = true:=bne_iff_ne.2 he
 generalize wrtT x = u at *
 generalize tCheck x = q at *
 obtain ⟨xk,xso,xnm,xls,xl⟩:=x
 unfold parD at hp
 simp only [Tp.d] at hp hwr
 unfold RdE rBox
 refine xfn_of_swp (N:=117) Tryd.func49 rfl (by decide) rfl (by simp) (fun C h0=>?_)
 simp only [argS]
 repeat' (first|(with_reducible apply zz1)|((with_reducible apply zz2);rfl;intro K' hK';simp only [WE,simprocAttr];(repeat (constructor;focus (clear hK';intros;simp_all;done)));(try (apply hK';clear hK' K')))|((with_reducible apply zz3);rfl;all_goals (intro h;try exact absurd h (by decide))))
 refine stop_cS rfl (by simp only [UA,WE,simprocAttr]) (h1) ?_
 simp only [WE,simprocAttr,UM,CVS,w5]
 (try (apply hK';clear hK' K'))
 repeat' (first|(with_reducible apply zz1)|((with_reducible apply zz2);rfl;intro K' hK';simp only [WE,simprocAttr,CVS,Int.reduceBEq,w5];(repeat (constructor;focus (clear hK';intros;simp_all;done)));(try (apply hK';clear hK' K')))|((with_reducible apply zz3);rfl;all_goals (intro h;try exact absurd h (by decide))))
 refine stop_cS rfl (by simp only [UA,WE,simprocAttr]) (h3) ?_
 simp only [WE,simprocAttr,UM, ]
 (try (apply hK';clear hK' K'))
 repeat' (first|(with_reducible apply zz1)|((with_reducible apply zz2);rfl;intro K' hK';simp only [WE,simprocAttr];(repeat (constructor;focus (clear hK';intros;simp_all;done)));(try (apply hK';clear hK' K')))|((with_reducible apply zz3);rfl;all_goals (intro h;try exact absurd h (by decide))))
 refine stop_call h0 rfl (by simp only [WE,simprocAttr]) rfl (by simp only [keepS,Option.isSome_some,WE,simprocAttr]) (hp) ?_
 simp only [WE,simprocAttr,inX,dropS, ]
 (repeat (constructor;focus (clear hK';intros;simp_all;done)))
 (try (apply hK';clear hK' K'))
 repeat' (first|(with_reducible apply zz1)|((with_reducible apply zz2);rfl;intro K' hK';simp only [WE,simprocAttr];(repeat (constructor;focus (clear hK';intros;simp_all;done)));(try (apply hK';clear hK' K')))|((with_reducible apply zz3);rfl;all_goals (intro h;try exact absurd h (by decide))))
 refine stop_call h0 rfl (by simp only [WE,simprocAttr]) rfl (by simp only [keepS,Option.isSome_some,WE,simprocAttr]) (hwr) ?_
 simp only [WE,simprocAttr,inX,dropS, ]
 (repeat (constructor;focus (clear hK';intros;simp_all;done)))
 (try (apply hK';clear hK' K'))
 repeat' (first|(with_reducible first|apply zw0|apply zw1|apply zw2|apply zw3|apply zw4|apply zw5|apply zw6|apply zw7|apply zw8|apply zw9|apply zw10|apply zw11|apply zw13|apply zw14)|((with_reducible refine zw12 ?_ ?_);rfl)|((with_reducible refine swp_regionX ?_ ?_ (fun K' hK' hP'=>?_));rfl;rfl;simp only [WE,simprocAttr,ge,Bool.not_true,Bool.not_false,cond_true,cond_false];(repeat (constructor;focus (clear hK' hP';intros;simp_all;done)));(try (apply hK';clear hK' hP';clear K')))|((with_reducible refine zw15 ?_ ?_);rfl;refine ⟨_,rfl,fun h=>?_,fun h=>?_⟩ <;> try exact absurd h (by decide)))
 refine stop_mki un103 rfl rfl (by simp only [ok1,val,lk,nbeq,zn0,cond_true,cond_false,Option.getD_some]) rfl rfl ?_
 simp only [WE,simprocAttr]
 refine stop_panic rfl rfl ?_
 refine hP' _ _ _ ?_
 repeat (first | refine kseq_p ?_ | refine kblk_p ?_ | refine kloop_p ?_)
 simp only [KpanS,US,WE,simprocAttr,h0]
 rfl
set_option maxHeartbeats 8000000 in
set_option maxRecDepth 100000 in
theorem ev_car5_oth (Γ : Gl) (s : ByteArray) (hs : s.size ≤ 140737488355328) (a : Nat) (hG : GD Tryd.prog Γ 1 22 (.slc (sortsL.map sD))) (ha : a < s.size) (hk : atS s a = 5) (w : ByteArray) (b : Nat) (hR : txtO s (a + 1) = .ok w b) (x : Tp) (e t : Int) (hp : DFn Tryd.prog Γ 76 [sD w] (parD (x,e,t))) (he : e = 0) (hc : tCheck x = 0) (hw : wrtT x ≠ w) : RdE Γ s a (.no (a + 1) b):=by
 have h1:=rone_at Γ s hs a ha 5 (by rw [hk];rfl)
 have h3:=rtext_ok Γ s hs (a + 1) (by omega) w b hR
 unfold rBox at h3
 have hwr:=TWrite_fn Γ hG x
 subst he
 rw [hc] at hwr
 have gw : ((wrtT x).toList == w.toList) = false:=by rw [beq_eq_false_iff_ne];exact fun q=>hw (list_back q)
 generalize wrtT x = u at *
 clear hc hw
 obtain ⟨xk,xso,xnm,xls,xl⟩:=x
 unfold parD at hp
 simp only [Tp.d] at hp hwr
 unfold RdE rBox
 refine xfn_of_swp (N:=117) Tryd.func49 rfl (by decide) rfl (by simp) (fun C h0=>?_)
 simp only [argS]
 repeat' (first|(with_reducible apply zz1)|((with_reducible apply zz2);rfl;intro K' hK';simp only [WE,simprocAttr];(repeat (constructor;focus (clear hK';intros;simp_all;done)));(try (apply hK';clear hK' K')))|((with_reducible apply zz3);rfl;all_goals (intro h;try exact absurd h (by decide))))
 refine stop_cS rfl (by simp only [UA,WE,simprocAttr]) (h1) ?_
 simp only [WE,simprocAttr,UM,CVS,w5]
 (try (apply hK';clear hK' K'))
 repeat' (first|(with_reducible apply zz1)|((with_reducible apply zz2);rfl;intro K' hK';simp only [WE,simprocAttr,CVS,Int.reduceBEq,w5];(repeat (constructor;focus (clear hK';intros;simp_all;done)));(try (apply hK';clear hK' K')))|((with_reducible apply zz3);rfl;all_goals (intro h;try exact absurd h (by decide))))
 refine stop_cS rfl (by simp only [UA,WE,simprocAttr]) (h3) ?_
 simp only [WE,simprocAttr,UM, ]
 (try (apply hK';clear hK' K'))
 repeat' (first|(with_reducible apply zz1)|((with_reducible apply zz2);rfl;intro K' hK';simp only [WE,simprocAttr];(repeat (constructor;focus (clear hK';intros;simp_all;done)));(try (apply hK';clear hK' K')))|((with_reducible apply zz3);rfl;all_goals (intro h;try exact absurd h (by decide))))
 refine stop_call h0 rfl (by simp only [WE,simprocAttr]) rfl (by simp only [keepS,Option.isSome_some,WE,simprocAttr]) (hp) ?_
 simp only [WE,simprocAttr,inX,dropS, ]
 (repeat (constructor;focus (clear hK';intros;simp_all;done)))
 (try (apply hK';clear hK' K'))
 repeat' (first|(with_reducible apply zz1)|((with_reducible apply zz2);rfl;intro K' hK';simp only [WE,simprocAttr];(repeat (constructor;focus (clear hK';intros;simp_all;done)));(try (apply hK';clear hK' K')))|((with_reducible apply zz3);rfl;all_goals (intro h;try exact absurd h (by decide))))
 refine stop_call h0 rfl (by simp only [WE,simprocAttr]) rfl (by simp only [keepS,Option.isSome_some,WE,simprocAttr]) (hwr) ?_
 simp only [WE,simprocAttr,inX,dropS, ]
 (repeat (constructor;focus (clear hK';intros;simp_all;done)))
 (try (apply hK';clear hK' K'))
 repeat' (first|(with_reducible first|apply zw0|apply zw1|apply zw2|apply zw3|apply zw4|apply zw5|apply zw6|apply zw7|apply zw8|apply zw9|apply zw10|apply zw11|apply zw13|apply zw14)|((with_reducible refine zw12 ?_ ?_);rfl)|((with_reducible refine swp_regionX ?_ ?_ (fun K' hK' hP'=>?_));rfl;rfl;simp only [WE,simprocAttr,gw,bne_self_eq_false,Bool.not_true,Bool.not_false,cond_true,cond_false];(repeat (constructor;focus (clear hK' hP';intros;simp_all;done)));(try (apply hK';clear hK' hP';clear K')))|((with_reducible refine zw15 ?_ ?_);rfl;refine ⟨_,rfl,fun h=>?_,fun h=>?_⟩ <;> try exact absurd h (by decide)))
 refine stop_mki un103 rfl rfl (by simp only [ok1,val,lk,nbeq,zn0,cond_true,cond_false,Option.getD_some]) rfl rfl ?_
 simp only [WE,simprocAttr]
 refine stop_panic rfl rfl ?_
 refine hP' _ _ _ ?_
 repeat (first | refine kseq_p ?_ | refine kblk_p ?_ | refine kloop_p ?_)
 simp only [KpanS,US,WE,simprocAttr,h0]
 rfl
set_option maxHeartbeats 8000000 in
set_option maxRecDepth 100000 in
theorem ev_lab6_no (Γ : Gl) (s : ByteArray) (hs : s.size ≤ 140737488355328) (a : Nat) (ha : a < s.size) (hk : atS s a = 6) (p b : Nat) (hR : txtO s (a + 1) = .no p b) : RdE Γ s a (.no p b):=by
 have h1:=rone_at Γ s hs a ha 6 (by rw [hk];rfl)
 have h3:=rtext_no Γ s hs (a + 1) (by omega) p b hR
 unfold rBox at h3
 unfold RdE rBox
 refine xfn_of_swp (N:=117) Tryd.func49 rfl (by decide) rfl (by simp) (fun C h0=>?_)
 simp only [argS]
 repeat' (first|(with_reducible apply zz1)|((with_reducible apply zz2);rfl;intro K' hK';simp only [WE,simprocAttr];(repeat (constructor;focus (clear hK';intros;simp_all;done)));(try (apply hK';clear hK' K')))|((with_reducible apply zz3);rfl;all_goals (intro h;try exact absurd h (by decide))))
 refine stop_cS rfl (by simp only [UA,WE,simprocAttr]) (h1) ?_
 simp only [WE,simprocAttr,UM,CVS,w6]
 (try (apply hK';clear hK' K'))
 repeat' (first|(with_reducible first|apply zw0|apply zw1|apply zw2|apply zw3|apply zw4|apply zw5|apply zw6|apply zw7|apply zw8|apply zw9|apply zw10|apply zw11|apply zw13|apply zw14)|((with_reducible refine zw12 ?_ ?_);rfl)|((with_reducible refine swp_regionX ?_ ?_ (fun K' hK' hP'=>?_));rfl;rfl;simp only [WE,simprocAttr,CVS,Int.reduceBEq,w6];(repeat (constructor;focus (clear hK' hP';intros;simp_all;done)));(try (apply hK';clear hK' hP';clear K')))|((with_reducible refine zw15 ?_ ?_);rfl;refine ⟨_,rfl,fun h=>?_,fun h=>?_⟩ <;> try exact absurd h (by decide)))
 refine stop_cX rfl (by simp only [UA,WE,simprocAttr]) (h3) ?_
 simp only [UM,WE,simprocAttr]
 refine hP' _ _ _ ?_
 repeat (first | refine kseq_p ?_ | refine kblk_p ?_ | refine kloop_p ?_)
 simp only [KpanS,US,WE,simprocAttr,h0]
set_option maxHeartbeats 8000000 in
set_option maxRecDepth 100000 in
theorem ev_lab6 (Γ : Gl) (s : ByteArray) (hs : s.size ≤ 140737488355328) (a : Nat) {f : ByteArray → Bool} (hf : VSok Γ f) (ha : a < s.size) (hk : atS s a = 6) (w : ByteArray) (b : Nat) (hR : txtO s (a + 1) = .ok w b) (hn : isNameB w = true) : RdE Γ s a (.ok ⟨6,0,0,noB,tp0,w⟩ b):=by
 have h1:=rone_at Γ s hs a ha 6 (by rw [hk];rfl)
 have h3:=rtext_ok Γ s hs (a + 1) (by omega) w b hR
 unfold rBox at h3
 have hcl:=clone_fn Γ w (by have:=txtO_size (by omega) hR;omega)
 have hck:=wcheck_fn Γ hf 6 0 0 noB tp0 w
 simp only [evD,tp0,Tp.ds,List.map_nil] at hck
 rw [show wchk f 6 0 0 noB (.mk 0 0 noB [] []) w = 0 by unfold wchk;rw [if_neg (by decide),if_neg (by decide),if_pos (by decide),if_pos hn]] at hck
 unfold RdE rBox
 refine sfn_of_swp (N:=117) Tryd.func49 rfl (by decide) rfl rfl (by simp) (fun C h0=>?_)
 simp only [argS]
 repeat' (first|(with_reducible apply zz1)|((with_reducible apply zz2);rfl;intro K' hK';simp only [WE,simprocAttr];(repeat (constructor;focus (clear hK';intros;simp_all;done)));(try (apply hK';clear hK' K')))|((with_reducible apply zz3);rfl;all_goals (intro h;try exact absurd h (by decide))))
 refine stop_cS rfl (by simp only [UA,WE,simprocAttr]) (h1) ?_
 simp only [WE,simprocAttr,UM,CVS,w6]
 (try (apply hK';clear hK' K'))
 repeat' (first|(with_reducible apply zz1)|((with_reducible apply zz2);rfl;intro K' hK';simp only [WE,simprocAttr,CVS,Int.reduceBEq,w6];(repeat (constructor;focus (clear hK';intros;simp_all;done)));(try (apply hK';clear hK' K')))|((with_reducible apply zz3);rfl;all_goals (intro h;try exact absurd h (by decide))))
 refine stop_cS rfl (by simp only [UA,WE,simprocAttr]) (h3) ?_
 simp only [WE,simprocAttr,UM, ]
 (try (apply hK';clear hK' K'))
 repeat' (first|(with_reducible apply zz1)|((with_reducible apply zz2);rfl;intro K' hK';simp only [WE,simprocAttr];(repeat (constructor;focus (clear hK';intros;simp_all;done)));(try (apply hK';clear hK' K')))|((with_reducible apply zz3);rfl;all_goals (intro h;try exact absurd h (by decide))))
 refine stop_callF rfl (by simp only [WE,simprocAttr]) rfl rfl (hcl) ?_
 simp only [WE,simprocAttr,inX,dropS, ]
 (repeat (constructor;focus (clear hK';intros;simp_all;done)))
 (try (apply hK';clear hK' K'))
 repeat' (first|(with_reducible apply zz1)|((with_reducible apply zz2);rfl;intro K' hK';simp only [WE,simprocAttr];(repeat (constructor;focus (clear hK';intros;simp_all;done)));(try (apply hK';clear hK' K')))|((with_reducible apply zz3);rfl;all_goals (intro h;try exact absurd h (by decide))))
 refine stop_callF rfl (by simp only [WE,simprocAttr]) rfl rfl (hck) ?_
 simp only [WE,simprocAttr,inX,dropS,bne_self_eq_false]
 (repeat (constructor;focus (clear hK';intros;simp_all;done)))
 (try (apply hK';clear hK' K'))
 repeat' (first|(with_reducible apply zz1)|((with_reducible apply zz2);rfl;intro K' hK';simp only [WE,simprocAttr,bne_self_eq_false];(repeat (constructor;focus (clear hK';intros;simp_all;done)));(try (apply hK';clear hK' K')))|((with_reducible apply zz3);rfl;all_goals (intro h;try exact absurd h (by decide))))
 simp only [KretS,retL,retOne,oneV,US,WE,simprocAttr,h0,Ev.d,evD,tp0,Tp.ds,List.map_nil]
set_option maxHeartbeats 8000000 in
set_option maxRecDepth 100000 in
theorem ev_lab6_bad (Γ : Gl) (s : ByteArray) (hs : s.size ≤ 140737488355328) (a : Nat) {f : ByteArray → Bool} (hf : VSok Γ f) (ha : a < s.size) (hk : atS s a = 6) (w : ByteArray) (b : Nat) (hR : txtO s (a + 1) = .ok w b) (hn : isNameB w ≠ true) : RdE Γ s a (.no (a + 1) b):=by
 have h1:=rone_at Γ s hs a ha 6 (by rw [hk];rfl)
 have h3:=rtext_ok Γ s hs (a + 1) (by omega) w b hR
 unfold rBox at h3
 have hcl:=clone_fn Γ w (by have:=txtO_size (by omega) hR;omega)
 have hck:=wcheck_fn Γ hf 6 0 0 noB tp0 w
 simp only [evD,tp0,Tp.ds,List.map_nil] at hck
 rw [show wchk f 6 0 0 noB (.mk 0 0 noB [] []) w = 1 by unfold wchk;rw [if_neg (by decide),if_neg (by decide),if_pos (by decide),if_neg hn]] at hck
 have h10 : ((1 : Int) != 0) = true:=by decide
 unfold RdE rBox
 refine xfn_of_swp (N:=117) Tryd.func49 rfl (by decide) rfl (by simp) (fun C h0=>?_)
 simp only [argS]
 repeat' (first|(with_reducible apply zz1)|((with_reducible apply zz2);rfl;intro K' hK';simp only [WE,simprocAttr];(repeat (constructor;focus (clear hK';intros;simp_all;done)));(try (apply hK';clear hK' K')))|((with_reducible apply zz3);rfl;all_goals (intro h;try exact absurd h (by decide))))
 refine stop_cS rfl (by simp only [UA,WE,simprocAttr]) (h1) ?_
 simp only [WE,simprocAttr,UM,CVS,w6]
 (try (apply hK';clear hK' K'))
 repeat' (first|(with_reducible apply zz1)|((with_reducible apply zz2);rfl;intro K' hK';simp only [WE,simprocAttr,CVS,Int.reduceBEq,w6];(repeat (constructor;focus (clear hK';intros;simp_all;done)));(try (apply hK';clear hK' K')))|((with_reducible apply zz3);rfl;all_goals (intro h;try exact absurd h (by decide))))
 refine stop_cS rfl (by simp only [UA,WE,simprocAttr]) (h3) ?_
 simp only [WE,simprocAttr,UM, ]
 (try (apply hK';clear hK' K'))
 repeat' (first|(with_reducible apply zz1)|((with_reducible apply zz2);rfl;intro K' hK';simp only [WE,simprocAttr];(repeat (constructor;focus (clear hK';intros;simp_all;done)));(try (apply hK';clear hK' K')))|((with_reducible apply zz3);rfl;all_goals (intro h;try exact absurd h (by decide))))
 refine stop_callF rfl (by simp only [WE,simprocAttr]) rfl rfl (hcl) ?_
 simp only [WE,simprocAttr,inX,dropS, ]
 (repeat (constructor;focus (clear hK';intros;simp_all;done)))
 (try (apply hK';clear hK' K'))
 repeat' (first|(with_reducible apply zz1)|((with_reducible apply zz2);rfl;intro K' hK';simp only [WE,simprocAttr];(repeat (constructor;focus (clear hK';intros;simp_all;done)));(try (apply hK';clear hK' K')))|((with_reducible apply zz3);rfl;all_goals (intro h;try exact absurd h (by decide))))
 refine stop_callF rfl (by simp only [WE,simprocAttr]) rfl rfl (hck) ?_
 simp only [WE,simprocAttr,inX,dropS,bne_self_eq_false]
 (repeat (constructor;focus (clear hK';intros;simp_all;done)))
 (try (apply hK';clear hK' K'))
 repeat' (first|(with_reducible first|apply zw0|apply zw1|apply zw2|apply zw3|apply zw4|apply zw5|apply zw6|apply zw7|apply zw8|apply zw9|apply zw10|apply zw11|apply zw13|apply zw14)|((with_reducible refine zw12 ?_ ?_);rfl)|((with_reducible refine swp_regionX ?_ ?_ (fun K' hK' hP'=>?_));rfl;rfl;simp only [WE,simprocAttr,bne_self_eq_false,h10];(repeat (constructor;focus (clear hK' hP';intros;simp_all;done)));(try (apply hK';clear hK' hP';clear K')))|((with_reducible refine zw15 ?_ ?_);rfl;refine ⟨_,rfl,fun h=>?_,fun h=>?_⟩ <;> try exact absurd h (by decide)))
 refine stop_mki un103 rfl rfl (by simp only [ok1,val,lk,nbeq,zn0,cond_true,cond_false,Option.getD_some]) rfl rfl ?_
 simp only [WE,simprocAttr]
 refine stop_panic rfl rfl ?_
 refine hP' _ _ _ ?_
 repeat (first | refine kseq_p ?_ | refine kblk_p ?_ | refine kloop_p ?_)
 simp only [KpanS,US,WE,simprocAttr,h0]
 rfl
set_option maxHeartbeats 8000000 in
set_option maxRecDepth 100000 in
theorem ev_lab7_no (Γ : Gl) (s : ByteArray) (hs : s.size ≤ 140737488355328) (a : Nat) (ha : a < s.size) (hk : atS s a = 7) (p b : Nat) (hR : txtO s (a + 1) = .no p b) : RdE Γ s a (.no p b):=by
 have h1:=rone_at Γ s hs a ha 7 (by rw [hk];rfl)
 have h3:=rtext_no Γ s hs (a + 1) (by omega) p b hR
 unfold rBox at h3
 unfold RdE rBox
 refine xfn_of_swp (N:=117) Tryd.func49 rfl (by decide) rfl (by simp) (fun C h0=>?_)
 simp only [argS]
 repeat' (first|(with_reducible apply zz1)|((with_reducible apply zz2);rfl;intro K' hK';simp only [WE,simprocAttr];(repeat (constructor;focus (clear hK';intros;simp_all;done)));(try (apply hK';clear hK' K')))|((with_reducible apply zz3);rfl;all_goals (intro h;try exact absurd h (by decide))))
 refine stop_cS rfl (by simp only [UA,WE,simprocAttr]) (h1) ?_
 simp only [WE,simprocAttr,UM,CVS,w7]
 (try (apply hK';clear hK' K'))
 repeat' (first|(with_reducible first|apply zw0|apply zw1|apply zw2|apply zw3|apply zw4|apply zw5|apply zw6|apply zw7|apply zw8|apply zw9|apply zw10|apply zw11|apply zw13|apply zw14)|((with_reducible refine zw12 ?_ ?_);rfl)|((with_reducible refine swp_regionX ?_ ?_ (fun K' hK' hP'=>?_));rfl;rfl;simp only [WE,simprocAttr,CVS,Int.reduceBEq,w7];(repeat (constructor;focus (clear hK' hP';intros;simp_all;done)));(try (apply hK';clear hK' hP';clear K')))|((with_reducible refine zw15 ?_ ?_);rfl;refine ⟨_,rfl,fun h=>?_,fun h=>?_⟩ <;> try exact absurd h (by decide)))
 refine stop_cX rfl (by simp only [UA,WE,simprocAttr]) (h3) ?_
 simp only [UM,WE,simprocAttr]
 refine hP' _ _ _ ?_
 repeat (first | refine kseq_p ?_ | refine kblk_p ?_ | refine kloop_p ?_)
 simp only [KpanS,US,WE,simprocAttr,h0]
set_option maxHeartbeats 8000000 in
set_option maxRecDepth 100000 in
theorem ev_lab7 (Γ : Gl) (s : ByteArray) (hs : s.size ≤ 140737488355328) (a : Nat) {f : ByteArray → Bool} (hf : VSok Γ f) (ha : a < s.size) (hk : atS s a = 7) (w : ByteArray) (b : Nat) (hR : txtO s (a + 1) = .ok w b) (hn : isNameB w = true) : RdE Γ s a (.ok ⟨7,0,0,noB,tp0,w⟩ b):=by
 have h1:=rone_at Γ s hs a ha 7 (by rw [hk];rfl)
 have h3:=rtext_ok Γ s hs (a + 1) (by omega) w b hR
 unfold rBox at h3
 have hcl:=clone_fn Γ w (by have:=txtO_size (by omega) hR;omega)
 have hck:=wcheck_fn Γ hf 7 0 0 noB tp0 w
 simp only [evD,tp0,Tp.ds,List.map_nil] at hck
 rw [show wchk f 7 0 0 noB (.mk 0 0 noB [] []) w = 0 by unfold wchk;rw [if_neg (by decide),if_neg (by decide),if_pos (by decide),if_pos hn]] at hck
 unfold RdE rBox
 refine sfn_of_swp (N:=117) Tryd.func49 rfl (by decide) rfl rfl (by simp) (fun C h0=>?_)
 simp only [argS]
 repeat' (first|(with_reducible apply zz1)|((with_reducible apply zz2);rfl;intro K' hK';simp only [WE,simprocAttr];(repeat (constructor;focus (clear hK';intros;simp_all;done)));(try (apply hK';clear hK' K')))|((with_reducible apply zz3);rfl;all_goals (intro h;try exact absurd h (by decide))))
 refine stop_cS rfl (by simp only [UA,WE,simprocAttr]) (h1) ?_
 simp only [WE,simprocAttr,UM,CVS,w7]
 (try (apply hK';clear hK' K'))
 repeat' (first|(with_reducible apply zz1)|((with_reducible apply zz2);rfl;intro K' hK';simp only [WE,simprocAttr,CVS,Int.reduceBEq,w7];(repeat (constructor;focus (clear hK';intros;simp_all;done)));(try (apply hK';clear hK' K')))|((with_reducible apply zz3);rfl;all_goals (intro h;try exact absurd h (by decide))))
 refine stop_cS rfl (by simp only [UA,WE,simprocAttr]) (h3) ?_
 simp only [WE,simprocAttr,UM, ]
 (try (apply hK';clear hK' K'))
 repeat' (first|(with_reducible apply zz1)|((with_reducible apply zz2);rfl;intro K' hK';simp only [WE,simprocAttr];(repeat (constructor;focus (clear hK';intros;simp_all;done)));(try (apply hK';clear hK' K')))|((with_reducible apply zz3);rfl;all_goals (intro h;try exact absurd h (by decide))))
 refine stop_callF rfl (by simp only [WE,simprocAttr]) rfl rfl (hcl) ?_
 simp only [WE,simprocAttr,inX,dropS, ]
 (repeat (constructor;focus (clear hK';intros;simp_all;done)))
 (try (apply hK';clear hK' K'))
 repeat' (first|(with_reducible apply zz1)|((with_reducible apply zz2);rfl;intro K' hK';simp only [WE,simprocAttr];(repeat (constructor;focus (clear hK';intros;simp_all;done)));(try (apply hK';clear hK' K')))|((with_reducible apply zz3);rfl;all_goals (intro h;try exact absurd h (by decide))))
 refine stop_callF rfl (by simp only [WE,simprocAttr]) rfl rfl (hck) ?_
 simp only [WE,simprocAttr,inX,dropS,bne_self_eq_false]
 (repeat (constructor;focus (clear hK';intros;simp_all;done)))
 (try (apply hK';clear hK' K'))
 repeat' (first|(with_reducible apply zz1)|((with_reducible apply zz2);rfl;intro K' hK';simp only [WE,simprocAttr,bne_self_eq_false];(repeat (constructor;focus (clear hK';intros;simp_all;done)));(try (apply hK';clear hK' K')))|((with_reducible apply zz3);rfl;all_goals (intro h;try exact absurd h (by decide))))
 simp only [KretS,retL,retOne,oneV,US,WE,simprocAttr,h0,Ev.d,evD,tp0,Tp.ds,List.map_nil]
set_option maxHeartbeats 8000000 in
set_option maxRecDepth 100000 in
theorem ev_lab7_bad (Γ : Gl) (s : ByteArray) (hs : s.size ≤ 140737488355328) (a : Nat) {f : ByteArray → Bool} (hf : VSok Γ f) (ha : a < s.size) (hk : atS s a = 7) (w : ByteArray) (b : Nat) (hR : txtO s (a + 1) = .ok w b) (hn : isNameB w ≠ true) : RdE Γ s a (.no (a + 1) b):=by
 have h1:=rone_at Γ s hs a ha 7 (by rw [hk];rfl)
 have h3:=rtext_ok Γ s hs (a + 1) (by omega) w b hR
 unfold rBox at h3
 have hcl:=clone_fn Γ w (by have:=txtO_size (by omega) hR;omega)
 have hck:=wcheck_fn Γ hf 7 0 0 noB tp0 w
 simp only [evD,tp0,Tp.ds,List.map_nil] at hck
 rw [show wchk f 7 0 0 noB (.mk 0 0 noB [] []) w = 1 by unfold wchk;rw [if_neg (by decide),if_neg (by decide),if_pos (by decide),if_neg hn]] at hck
 have h10 : ((1 : Int) != 0) = true:=by decide
 unfold RdE rBox
 refine xfn_of_swp (N:=117) Tryd.func49 rfl (by decide) rfl (by simp) (fun C h0=>?_)
 simp only [argS]
 repeat' (first|(with_reducible apply zz1)|((with_reducible apply zz2);rfl;intro K' hK';simp only [WE,simprocAttr];(repeat (constructor;focus (clear hK';intros;simp_all;done)));(try (apply hK';clear hK' K')))|((with_reducible apply zz3);rfl;all_goals (intro h;try exact absurd h (by decide))))
 refine stop_cS rfl (by simp only [UA,WE,simprocAttr]) (h1) ?_
 simp only [WE,simprocAttr,UM,CVS,w7]
 (try (apply hK';clear hK' K'))
 repeat' (first|(with_reducible apply zz1)|((with_reducible apply zz2);rfl;intro K' hK';simp only [WE,simprocAttr,CVS,Int.reduceBEq,w7];(repeat (constructor;focus (clear hK';intros;simp_all;done)));(try (apply hK';clear hK' K')))|((with_reducible apply zz3);rfl;all_goals (intro h;try exact absurd h (by decide))))
 refine stop_cS rfl (by simp only [UA,WE,simprocAttr]) (h3) ?_
 simp only [WE,simprocAttr,UM, ]
 (try (apply hK';clear hK' K'))
 repeat' (first|(with_reducible apply zz1)|((with_reducible apply zz2);rfl;intro K' hK';simp only [WE,simprocAttr];(repeat (constructor;focus (clear hK';intros;simp_all;done)));(try (apply hK';clear hK' K')))|((with_reducible apply zz3);rfl;all_goals (intro h;try exact absurd h (by decide))))
 refine stop_callF rfl (by simp only [WE,simprocAttr]) rfl rfl (hcl) ?_
 simp only [WE,simprocAttr,inX,dropS, ]
 (repeat (constructor;focus (clear hK';intros;simp_all;done)))
 (try (apply hK';clear hK' K'))
 repeat' (first|(with_reducible apply zz1)|((with_reducible apply zz2);rfl;intro K' hK';simp only [WE,simprocAttr];(repeat (constructor;focus (clear hK';intros;simp_all;done)));(try (apply hK';clear hK' K')))|((with_reducible apply zz3);rfl;all_goals (intro h;try exact absurd h (by decide))))
 refine stop_callF rfl (by simp only [WE,simprocAttr]) rfl rfl (hck) ?_
 simp only [WE,simprocAttr,inX,dropS,bne_self_eq_false]
 (repeat (constructor;focus (clear hK';intros;simp_all;done)))
 (try (apply hK';clear hK' K'))
 repeat' (first|(with_reducible first|apply zw0|apply zw1|apply zw2|apply zw3|apply zw4|apply zw5|apply zw6|apply zw7|apply zw8|apply zw9|apply zw10|apply zw11|apply zw13|apply zw14)|((with_reducible refine zw12 ?_ ?_);rfl)|((with_reducible refine swp_regionX ?_ ?_ (fun K' hK' hP'=>?_));rfl;rfl;simp only [WE,simprocAttr,bne_self_eq_false,h10];(repeat (constructor;focus (clear hK' hP';intros;simp_all;done)));(try (apply hK';clear hK' hP';clear K')))|((with_reducible refine zw15 ?_ ?_);rfl;refine ⟨_,rfl,fun h=>?_,fun h=>?_⟩ <;> try exact absurd h (by decide)))
 refine stop_mki un103 rfl rfl (by simp only [ok1,val,lk,nbeq,zn0,cond_true,cond_false,Option.getD_some]) rfl rfl ?_
 simp only [WE,simprocAttr]
 refine stop_panic rfl rfl ?_
 refine hP' _ _ _ ?_
 repeat (first | refine kseq_p ?_ | refine kblk_p ?_ | refine kloop_p ?_)
 simp only [KpanS,US,WE,simprocAttr,h0]
 rfl
end Go.Proofs.YtdcplkefmpjppaaDoor.GG
