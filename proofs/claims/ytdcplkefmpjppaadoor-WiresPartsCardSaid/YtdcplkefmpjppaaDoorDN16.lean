/- wires' reader: one event; a symbolic walk (printed by mkn16.py). -/
-- TYPESE
import Derived.Test.YtdcplkefmpjppaaDoorDN15
set_option linter.unusedVariables false
set_option linter.unusedSimpArgs false
namespace Go.Proofs.YtdcplkefmpjppaaDoor.GG
open Go.RowKit Go.Sw
open Nat renaming reduceBEq → zn0
open Go.Sw renaming swp_seq → zw0, swp_block → zw1, swp_skip → zw2, swp_ret → zw3, swp_exit → zw4, swp_label → zw5, kseq_n → zw6, kseq_x → zw7, kseq_r → zw8, kblk_n → zw9, kblk_r → zw10, kblk_xs → zw11, kblk_xn → zw12, kloop_x → zw13, kloop_r → zw14, swp_cond → zw15

inductive Rv where
 | ok (x : Ev) (b : Nat)
 | no (p b : Nat)
def RdE (Γ : Gl) (s : ByteArray) (a : Nat) : Rv → Prop
 | .ok x b=>SFn Tryd.prog Γ 49 [.ref 0 0] (rBox s a) (.d x.d) (rBox s b)
 | .no p b=>XFn Tryd.prog Γ 49 [.ref 0 0] (rBox s a) (stopW (p : Nat)) (rBox s b)
def tp0 : Tp:=.mk 0 0 noB [] []
theorem rone_at (Γ : Gl) (s : ByteArray) (hs : s.size ≤ 140737488355328) (a : Nat) (ha : a < s.size) (i : Int) (hi : ((atS s a : Nat) : Int) = i) : SFn Tryd.prog Γ 73 [.ref 0 0] [(0,.cells [.d (sD s),.d (iD (a : Nat))])] (.d (.v (.int .u8 i))) [(0,.cells [.d (sD s),.d (iD ((a + 1 : Nat) : Int))])]:=by
 subst hi;exact rone_ok Γ s hs a ha
theorem rone_end (Γ : Gl) (s : ByteArray) (a : Nat) (ha : a = s.size) : XFn Tryd.prog Γ 73 [.ref 0 0] [(0,.cells [.d (sD s),.d (iD (a : Nat))])] (stopW (a : Nat)) [(0,.cells [.d (sD s),.d (iD (a : Nat))])]:=by
 subst ha;exact rone_no Γ s
theorem w2 : IntKind.i64.wrap 2 = 2:=by decide
theorem w3 : IntKind.i64.wrap 3 = 3:=by decide
theorem w4 : IntKind.i64.wrap 4 = 4:=by decide
theorem w5 : IntKind.i64.wrap 5 = 5:=by decide
theorem w6 : IntKind.i64.wrap 6 = 6:=by decide
theorem w7 : IntKind.i64.wrap 7 = 7:=by decide
theorem w1 : IntKind.i64.wrap 1 = 1:=by decide
theorem wc (c : Nat) (h : c < 256) : IntKind.i64.wrap (c : Int) = (c : Int):=by rw [wrap_in (by omega) (by omega)]
set_option maxHeartbeats 8000000 in
set_option maxRecDepth 100000 in
theorem ev_other (Γ : Gl) (s : ByteArray) (hs : s.size ≤ 140737488355328) (a : Nat) (ha : a < s.size) (hk : atS s a < 2 ∨ 7 < atS s a) : RdE Γ s a (.no a (a + 1)):=by
 have hc:=atS_lt s a
 have h1:=rone_at Γ s hs a ha _ rfl
 have hwc:=wc _ hc
 generalize atS s a = c at *
 have g2 : ((c : Int) == 2) = false:=by rw [beq_eq_false_iff_ne];omega
 have g3 : ((c : Int) == 3) = false:=by rw [beq_eq_false_iff_ne];omega
 have g4 : ((c : Int) == 4) = false:=by rw [beq_eq_false_iff_ne];omega
 have g5 : ((c : Int) == 5) = false:=by rw [beq_eq_false_iff_ne];omega
 have g6 : ((c : Int) == 6) = false:=by rw [beq_eq_false_iff_ne];omega
 have g7 : ((c : Int) == 7) = false:=by rw [beq_eq_false_iff_ne];omega
 unfold RdE rBox
 refine xfn_of_swp (N:=117) Tryd.func49 rfl (by decide) rfl (by simp) (fun C h0=>?_)
 simp only [argS]
 repeat' (first|(with_reducible apply zz1)|((with_reducible apply zz2);rfl;intro K' hK';simp only [WE,simprocAttr];(repeat (constructor;focus (clear hK';intros;simp_all;done)));(try (apply hK';clear hK' K')))|((with_reducible apply zz3);rfl;all_goals (intro h;try exact absurd h (by decide))))
 refine stop_cS rfl (by simp only [UA,WE,simprocAttr]) (h1) ?_
 simp only [WE,simprocAttr,UM,CVS,hwc]
 (try (apply hK';clear hK' K'))
 repeat' (first|(with_reducible first|apply zw0|apply zw1|apply zw2|apply zw3|apply zw4|apply zw5|apply zw6|apply zw7|apply zw8|apply zw9|apply zw10|apply zw11|apply zw13|apply zw14)|((with_reducible refine zw12 ?_ ?_);rfl)|((with_reducible refine swp_regionX ?_ ?_ (fun K' hK' hP'=>?_));rfl;rfl;simp only [WE,simprocAttr,CVS,hwc,g2,g3,g4,g5,g6,g7];(repeat (constructor;focus (clear hK' hP';intros;simp_all;done)));(try (apply hK';clear hK' hP';clear K')))|((with_reducible refine zw15 ?_ ?_);rfl;refine ⟨_,rfl,fun h=>?_,fun h=>?_⟩ <;> try exact absurd h (by decide)))
 refine stop_mki un103 rfl rfl (by simp only [ok1,val,lk,nbeq,zn0,cond_true,cond_false,Option.getD_some]) rfl rfl ?_
 simp only [WE,simprocAttr]
 refine stop_panic rfl rfl ?_
 refine hP' _ _ _ ?_
 repeat (first | refine kseq_p ?_ | refine kblk_p ?_ | refine kloop_p ?_)
 simp only [KpanS,US,WE,simprocAttr,h0]
 rfl
set_option maxHeartbeats 8000000 in
set_option maxRecDepth 100000 in
theorem ev_end2 (Γ : Gl) (s : ByteArray) (hs : s.size ≤ 140737488355328) (a : Nat) (ha : a < s.size) (hk : atS s a = 2) (he : a + 1 = s.size) : RdE Γ s a (.no (a + 1) (a + 1)):=by
 have h1:=rone_at Γ s hs a ha 2 (by rw [hk];rfl)
 have h2:=rone_end Γ s (a + 1) he
 unfold RdE rBox
 refine xfn_of_swp (N:=117) Tryd.func49 rfl (by decide) rfl (by simp) (fun C h0=>?_)
 simp only [argS]
 repeat' (first|(with_reducible apply zz1)|((with_reducible apply zz2);rfl;intro K' hK';simp only [WE,simprocAttr];(repeat (constructor;focus (clear hK';intros;simp_all;done)));(try (apply hK';clear hK' K')))|((with_reducible apply zz3);rfl;all_goals (intro h;try exact absurd h (by decide))))
 refine stop_cS rfl (by simp only [UA,WE,simprocAttr]) (h1) ?_
 simp only [WE,simprocAttr,UM,CVS,w2]
 (try (apply hK';clear hK' K'))
 repeat' (first|(with_reducible first|apply zw0|apply zw1|apply zw2|apply zw3|apply zw4|apply zw5|apply zw6|apply zw7|apply zw8|apply zw9|apply zw10|apply zw11|apply zw13|apply zw14)|((with_reducible refine zw12 ?_ ?_);rfl)|((with_reducible refine swp_regionX ?_ ?_ (fun K' hK' hP'=>?_));rfl;rfl;simp only [WE,simprocAttr,CVS,Int.reduceBEq,w2];(repeat (constructor;focus (clear hK' hP';intros;simp_all;done)));(try (apply hK';clear hK' hP';clear K')))|((with_reducible refine zw15 ?_ ?_);rfl;refine ⟨_,rfl,fun h=>?_,fun h=>?_⟩ <;> try exact absurd h (by decide)))
 refine stop_cX rfl (by simp only [UA,WE,simprocAttr]) (h2) ?_
 simp only [UM,WE,simprocAttr]
 refine hP' _ _ _ ?_
 repeat (first | refine kseq_p ?_ | refine kblk_p ?_ | refine kloop_p ?_)
 simp only [KpanS,US,WE,simprocAttr,h0]
set_option maxHeartbeats 8000000 in
set_option maxRecDepth 100000 in
theorem ev_bad2 (Γ : Gl) (s : ByteArray) (hs : s.size ≤ 140737488355328) (a : Nat) (ha : a < s.size) (hk : atS s a = 2) (hb : a + 1 < s.size) (hv : atS s (a + 1) = 0 ∨ 3 < atS s (a + 1)) : RdE Γ s a (.no (a + 1) (a + 2)):=by
 have h1:=rone_at Γ s hs a ha 2 (by rw [hk];rfl)
 have h2:=rone_at Γ s hs (a + 1) hb _ rfl
 have hc:=atS_lt s (a + 1)
 have hwc:=wc _ hc
 have hsb : IntKind.i64.wrap (((a + 1 + 1 : Nat) : Int) - 1) = ((a + 1 : Nat) : Int):=by rw [wrap_in (by omega) (by omega)];omega
 generalize atS s (a + 1) = c at *
 have g1 : ((c : Int) == 1) = false:=by rw [beq_eq_false_iff_ne];omega
 have g2 : ((c : Int) == 2) = false:=by rw [beq_eq_false_iff_ne];omega
 have g3 : ((c : Int) == 3) = false:=by rw [beq_eq_false_iff_ne];omega
 unfold RdE rBox
 refine xfn_of_swp (N:=117) Tryd.func49 rfl (by decide) rfl (by simp) (fun C h0=>?_)
 simp only [argS]
 repeat' (first|(with_reducible apply zz1)|((with_reducible apply zz2);rfl;intro K' hK';simp only [WE,simprocAttr];(repeat (constructor;focus (clear hK';intros;simp_all;done)));(try (apply hK';clear hK' K')))|((with_reducible apply zz3);rfl;all_goals (intro h;try exact absurd h (by decide))))
 refine stop_cS rfl (by simp only [UA,WE,simprocAttr]) (h1) ?_
 simp only [WE,simprocAttr,UM,CVS,w2]
 (try (apply hK';clear hK' K'))
 repeat' (first|(with_reducible apply zz1)|((with_reducible apply zz2);rfl;intro K' hK';simp only [WE,simprocAttr,CVS,Int.reduceBEq,w2];(repeat (constructor;focus (clear hK';intros;simp_all;done)));(try (apply hK';clear hK' K')))|((with_reducible apply zz3);rfl;all_goals (intro h;try exact absurd h (by decide))))
 refine stop_cS rfl (by simp only [UA,WE,simprocAttr]) (h2) ?_
 simp only [WE,simprocAttr,UM,CVS,hwc]
 (try (apply hK';clear hK' K'))
 repeat' (first|(with_reducible first|apply zw0|apply zw1|apply zw2|apply zw3|apply zw4|apply zw5|apply zw6|apply zw7|apply zw8|apply zw9|apply zw10|apply zw11|apply zw13|apply zw14)|((with_reducible refine zw12 ?_ ?_);rfl)|((with_reducible refine swp_regionX ?_ ?_ (fun K' hK' hP'=>?_));rfl;rfl;simp only [WE,simprocAttr,CVS,Int.reduceBEq,w2,hwc,g1,g2,g3,hsb];(repeat (constructor;focus (clear hK' hP';intros;simp_all;done)));(try (apply hK';clear hK' hP';clear K')))|((with_reducible refine zw15 ?_ ?_);rfl;refine ⟨_,rfl,fun h=>?_,fun h=>?_⟩ <;> try exact absurd h (by decide)))
 refine stop_mki un103 rfl rfl (by simp only [ok1,val,lk,nbeq,zn0,cond_true,cond_false,Option.getD_some]) rfl rfl ?_
 simp only [WE,simprocAttr,hsb]
 refine stop_panic rfl rfl ?_
 refine hP' _ _ _ ?_
 repeat (first | refine kseq_p ?_ | refine kblk_p ?_ | refine kloop_p ?_)
 simp only [KpanS,US,WE,simprocAttr,h0]
 rfl
set_option maxHeartbeats 8000000 in
set_option maxRecDepth 100000 in
theorem ev_num2_no (Γ : Gl) (s : ByteArray) (hs : s.size ≤ 140737488355328) (a : Nat) (ha : a < s.size) (hk : atS s a = 2) (hb : a + 1 < s.size) (hv : atS s (a + 1) = 1) (p b : Nat) (hR : numO s (a + 2) 10 0 0 (a + 2) = .no p b) : RdE Γ s a (.no p b):=by
 have h1:=rone_at Γ s hs a ha 2 (by rw [hk];rfl)
 have h2:=rone_at Γ s hs (a + 1) hb 1 (by rw [hv];rfl)
 have h3:=rnum_no Γ s hs (a + 2) (by omega) p b hR
 unfold rBox at h3
 unfold RdE rBox
 refine xfn_of_swp (N:=117) Tryd.func49 rfl (by decide) rfl (by simp) (fun C h0=>?_)
 simp only [argS]
 repeat' (first|(with_reducible apply zz1)|((with_reducible apply zz2);rfl;intro K' hK';simp only [WE,simprocAttr];(repeat (constructor;focus (clear hK';intros;simp_all;done)));(try (apply hK';clear hK' K')))|((with_reducible apply zz3);rfl;all_goals (intro h;try exact absurd h (by decide))))
 refine stop_cS rfl (by simp only [UA,WE,simprocAttr]) (h1) ?_
 simp only [WE,simprocAttr,UM,CVS,w2]
 (try (apply hK';clear hK' K'))
 repeat' (first|(with_reducible apply zz1)|((with_reducible apply zz2);rfl;intro K' hK';simp only [WE,simprocAttr,CVS,Int.reduceBEq,w2];(repeat (constructor;focus (clear hK';intros;simp_all;done)));(try (apply hK';clear hK' K')))|((with_reducible apply zz3);rfl;all_goals (intro h;try exact absurd h (by decide))))
 refine stop_cS rfl (by simp only [UA,WE,simprocAttr]) (h2) ?_
 simp only [WE,simprocAttr,UM,CVS,w1]
 (try (apply hK';clear hK' K'))
 repeat' (first|(with_reducible first|apply zw0|apply zw1|apply zw2|apply zw3|apply zw4|apply zw5|apply zw6|apply zw7|apply zw8|apply zw9|apply zw10|apply zw11|apply zw13|apply zw14)|((with_reducible refine zw12 ?_ ?_);rfl)|((with_reducible refine swp_regionX ?_ ?_ (fun K' hK' hP'=>?_));rfl;rfl;simp only [WE,simprocAttr,CVS,Int.reduceBEq,w2,w1];(repeat (constructor;focus (clear hK' hP';intros;simp_all;done)));(try (apply hK';clear hK' hP';clear K')))|((with_reducible refine zw15 ?_ ?_);rfl;refine ⟨_,rfl,fun h=>?_,fun h=>?_⟩ <;> try exact absurd h (by decide)))
 refine stop_cX rfl (by simp only [UA,WE,simprocAttr]) (h3) ?_
 simp only [UM,WE,simprocAttr]
 refine hP' _ _ _ ?_
 repeat (first | refine kseq_p ?_ | refine kblk_p ?_ | refine kloop_p ?_)
 simp only [KpanS,US,WE,simprocAttr,h0]
set_option maxHeartbeats 8000000 in
set_option maxRecDepth 100000 in
theorem ev_num2 (Γ : Gl) (s : ByteArray) (hs : s.size ≤ 140737488355328) (a : Nat) {f : ByteArray → Bool} (hf : VSok Γ f) (ha : a < s.size) (hk : atS s a = 2) (hb : a + 1 < s.size) (hv : atS s (a + 1) = 1) (n b : Nat) (hR : numO s (a + 2) 10 0 0 (a + 2) = .ok n b) : RdE Γ s a (.ok ⟨2,1,unzz n,noB,tp0,noB⟩ b):=by
 have h1:=rone_at Γ s hs a ha 2 (by rw [hk];rfl)
 have h2:=rone_at Γ s hs (a + 1) hb 1 (by rw [hv];rfl)
 have h3:=rnum_ok Γ s hs (a + 2) (by omega) n b hR
 have hn : n < 18446744073709551616:=(numO_ok 10 0 0 (a + 2) n b rfl (by decide) hR).2.2.1
 unfold rBox at h3
 clear hR
 have hsr:=shr1 n
 have han:=and1_u64 n hn
 have hzz:=zz_read hn
 obtain ⟨hf2,hh⟩ : ∃ hf2,hf2 = n / 2:=⟨_,rfl⟩
 obtain ⟨d,hd⟩ : ∃ d,d = Nat.mod n 2:=⟨_,rfl⟩
 rw [← hh] at hsr hzz
 change _ = ((Nat.mod n 2 : Nat) : Int) at han
 rw [← hd] at han
 rw [show HMod.hMod n 2 = d from hd.symm] at hzz
 clear hh hd
 generalize unzz n = N at *
 have hck:=wcheck_fn Γ hf 2 1 N noB tp0 noB
 rw [show wchk f 2 1 N noB tp0 noB = 0 by unfold wchk;rw [if_pos (by decide)];unfold vchk;rw [if_pos rfl,if_pos (by decide +kernel)]] at hck
 simp only [evD,tp0,Tp.ds,List.map_nil] at hck
 unfold RdE rBox
 refine sfn_of_swp (N:=117) Tryd.func49 rfl (by decide) rfl rfl (by simp) (fun C h0=>?_)
 simp only [argS]
 repeat' (first|(with_reducible apply zz1)|((with_reducible apply zz2);rfl;intro K' hK';simp only [WE,simprocAttr];(repeat (constructor;focus (clear hK';intros;simp_all;done)));(try (apply hK';clear hK' K')))|((with_reducible apply zz3);rfl;all_goals (intro h;try exact absurd h (by decide))))
 refine stop_cS rfl (by simp only [UA,WE,simprocAttr]) (h1) ?_
 simp only [WE,simprocAttr,UM,CVS,w2]
 (try (apply hK';clear hK' K'))
 repeat' (first|(with_reducible apply zz1)|((with_reducible apply zz2);rfl;intro K' hK';simp only [WE,simprocAttr,CVS,Int.reduceBEq,w2];(repeat (constructor;focus (clear hK';intros;simp_all;done)));(try (apply hK';clear hK' K')))|((with_reducible apply zz3);rfl;all_goals (intro h;try exact absurd h (by decide))))
 refine stop_cS rfl (by simp only [UA,WE,simprocAttr]) (h2) ?_
 simp only [WE,simprocAttr,UM,CVS,w1]
 (try (apply hK';clear hK' K'))
 repeat' (first|(with_reducible apply zz1)|((with_reducible apply zz2);rfl;intro K' hK';simp only [WE,simprocAttr,CVS,Int.reduceBEq,w2,w1];(repeat (constructor;focus (clear hK';intros;simp_all;done)));(try (apply hK';clear hK' K')))|((with_reducible apply zz3);rfl;all_goals (intro h;try exact absurd h (by decide))))
 refine stop_cS rfl (by simp only [UA,WE,simprocAttr]) (h3) ?_
 simp only [WE,simprocAttr,UM, ]
 (try (apply hK';clear hK' K'))
 repeat' (first|(with_reducible apply zz1)|((with_reducible apply zz2);rfl;intro K' hK';simp only [WE,simprocAttr,CVS,Int.reduceBEq,w2];(repeat (constructor;focus (clear hK';intros;simp_all;done)));(try (apply hK';clear hK' K')))|((with_reducible apply zz3);rfl;all_goals (intro h;try exact absurd h (by decide))))
 refine stop_val (.v (.int .u64 ((hf2 : Nat) : Int))) rfl rfl (fun a w hv=>run_shrK (m:=1) (hv (.tmp 50) (.v (.int .u64 (n : Nat))) rfl rfl rfl) rfl hsr) ?_
 simp only [WE,simprocAttr,  CVS]
 (repeat (constructor;focus (clear hK';intros;simp_all;done)))
 (try (apply hK';clear hK' K'))
 (try simp only [WE,simprocAttr,CVS])
 (repeat (constructor;focus (clear hK';intros;simp_all;done)))
 (try (apply hK';clear hK' K'))
 refine stop_val (.v (.int .u64 ((d : Nat) : Int))) rfl rfl (fun a w hv=>run_andK (hv (.tmp 53) (.v (.int .u64 (n : Nat))) rfl rfl rfl) rfl han) ?_
 simp only [WE,simprocAttr,  CVS]
 (repeat (constructor;focus (clear hK';intros;simp_all;done)))
 (try (apply hK';clear hK' K'))
 (try simp only [WE,simprocAttr,CVS])
 (repeat (constructor;focus (clear hK';intros;simp_all;done)))
 (try (apply hK';clear hK' K'))
 refine stop_val (.v (.int .i64 N)) rfl rfl (fun a w hv=>run_xorK (hv (.tmp 52) (.v (.int .i64 (IntKind.i64.wrap (hf2 : Int)))) rfl rfl rfl) (hv (.tmp 56) (.v (.int .i64 (IntKind.i64.wrap (0 - IntKind.i64.wrap (d : Int))))) rfl rfl rfl) hzz) ?_
 simp only [WE,simprocAttr]
 (repeat (constructor;focus (clear hK';intros;simp_all;done)))
 (try (apply hK';clear hK' K'))
 repeat' (first|(with_reducible apply zz1)|((with_reducible apply zz2);rfl;intro K' hK';simp only [WE,simprocAttr,CVS,Int.reduceBEq,w2];(repeat (constructor;focus (clear hK';intros;simp_all;done)));(try (apply hK';clear hK' K')))|((with_reducible apply zz3);rfl;all_goals (intro h;try exact absurd h (by decide))))
 refine stop_callF rfl (by simp only [WE,simprocAttr]) rfl rfl (hck) ?_
 simp only [WE,simprocAttr,inX,dropS,bne_self_eq_false]
 (repeat (constructor;focus (clear hK';intros;simp_all;done)))
 (try (apply hK';clear hK' K'))
 repeat' (first|(with_reducible apply zz1)|((with_reducible apply zz2);rfl;intro K' hK';simp only [WE,simprocAttr,bne_self_eq_false];(repeat (constructor;focus (clear hK';intros;simp_all;done)));(try (apply hK';clear hK' K')))|((with_reducible apply zz3);rfl;all_goals (intro h;try exact absurd h (by decide))))
 simp only [KretS,retL,retOne,oneV,US,WE,simprocAttr,h0,Ev.d,evD,tp0,Tp.ds,List.map_nil]
set_option maxHeartbeats 8000000 in
set_option maxRecDepth 100000 in
theorem ev_tru2_end (Γ : Gl) (s : ByteArray) (hs : s.size ≤ 140737488355328) (a : Nat) (ha : a < s.size) (hk : atS s a = 2) (hb : a + 1 < s.size) (hv : atS s (a + 1) = 2) (he : a + 2 = s.size) : RdE Γ s a (.no (a + 2) (a + 2)):=by
 have h1:=rone_at Γ s hs a ha 2 (by rw [hk];rfl)
 have h2:=rone_at Γ s hs (a + 1) hb 2 (by rw [hv];rfl)
 have h3:=rone_end Γ s (a + 2) he
 unfold RdE rBox
 refine xfn_of_swp (N:=117) Tryd.func49 rfl (by decide) rfl (by simp) (fun C h0=>?_)
 simp only [argS]
 repeat' (first|(with_reducible apply zz1)|((with_reducible apply zz2);rfl;intro K' hK';simp only [WE,simprocAttr];(repeat (constructor;focus (clear hK';intros;simp_all;done)));(try (apply hK';clear hK' K')))|((with_reducible apply zz3);rfl;all_goals (intro h;try exact absurd h (by decide))))
 refine stop_cS rfl (by simp only [UA,WE,simprocAttr]) (h1) ?_
 simp only [WE,simprocAttr,UM,CVS,w2]
 (try (apply hK';clear hK' K'))
 repeat' (first|(with_reducible apply zz1)|((with_reducible apply zz2);rfl;intro K' hK';simp only [WE,simprocAttr,CVS,Int.reduceBEq,w2];(repeat (constructor;focus (clear hK';intros;simp_all;done)));(try (apply hK';clear hK' K')))|((with_reducible apply zz3);rfl;all_goals (intro h;try exact absurd h (by decide))))
 refine stop_cS rfl (by simp only [UA,WE,simprocAttr]) (h2) ?_
 simp only [WE,simprocAttr,UM,CVS,w2]
 (try (apply hK';clear hK' K'))
 repeat' (first|(with_reducible first|apply zw0|apply zw1|apply zw2|apply zw3|apply zw4|apply zw5|apply zw6|apply zw7|apply zw8|apply zw9|apply zw10|apply zw11|apply zw13|apply zw14)|((with_reducible refine zw12 ?_ ?_);rfl)|((with_reducible refine swp_regionX ?_ ?_ (fun K' hK' hP'=>?_));rfl;rfl;simp only [WE,simprocAttr,CVS,Int.reduceBEq,w2,w2];(repeat (constructor;focus (clear hK' hP';intros;simp_all;done)));(try (apply hK';clear hK' hP';clear K')))|((with_reducible refine zw15 ?_ ?_);rfl;refine ⟨_,rfl,fun h=>?_,fun h=>?_⟩ <;> try exact absurd h (by decide)))
 refine stop_cX rfl (by simp only [UA,WE,simprocAttr]) (h3) ?_
 simp only [UM,WE,simprocAttr]
 refine hP' _ _ _ ?_
 repeat (first | refine kseq_p ?_ | refine kblk_p ?_ | refine kloop_p ?_)
 simp only [KpanS,US,WE,simprocAttr,h0]
set_option maxHeartbeats 8000000 in
set_option maxRecDepth 100000 in
theorem ev_tru2 (Γ : Gl) (s : ByteArray) (hs : s.size ≤ 140737488355328) (a : Nat) {f : ByteArray → Bool} (hf : VSok Γ f) (ha : a < s.size) (hk : atS s a = 2) (hb : a + 1 < s.size) (hv : atS s (a + 1) = 2) (hd : a + 2 < s.size) (hz : wchk f 2 2 ((atS s (a + 2) : Nat) : Int) noB tp0 noB = 0) : RdE Γ s a (.ok ⟨2,2,((atS s (a + 2) : Nat) : Int),noB,tp0,noB⟩ (a + 3)):=by
 have h1:=rone_at Γ s hs a ha 2 (by rw [hk];rfl)
 have h2:=rone_at Γ s hs (a + 1) hb 2 (by rw [hv];rfl)
 have hc:=atS_lt s (a + 2)
 have h3:=rone_at Γ s hs (a + 2) hd _ rfl
 have hwc:=wc _ hc
 generalize atS s (a + 2) = c at *
 have hck:=wcheck_fn Γ hf 2 2 (c : Int) noB tp0 noB
 simp only [evD,tp0,Tp.ds,List.map_nil] at hck
 rw [show wchk f 2 2 (c : Int) noB (.mk 0 0 noB [] []) noB = 0 from hz] at hck
 unfold RdE rBox
 refine sfn_of_swp (N:=117) Tryd.func49 rfl (by decide) rfl rfl (by simp) (fun C h0=>?_)
 simp only [argS]
 repeat' (first|(with_reducible apply zz1)|((with_reducible apply zz2);rfl;intro K' hK';simp only [WE,simprocAttr];(repeat (constructor;focus (clear hK';intros;simp_all;done)));(try (apply hK';clear hK' K')))|((with_reducible apply zz3);rfl;all_goals (intro h;try exact absurd h (by decide))))
 refine stop_cS rfl (by simp only [UA,WE,simprocAttr]) (h1) ?_
 simp only [WE,simprocAttr,UM,CVS,w2]
 (try (apply hK';clear hK' K'))
 repeat' (first|(with_reducible apply zz1)|((with_reducible apply zz2);rfl;intro K' hK';simp only [WE,simprocAttr,CVS,Int.reduceBEq,w2];(repeat (constructor;focus (clear hK';intros;simp_all;done)));(try (apply hK';clear hK' K')))|((with_reducible apply zz3);rfl;all_goals (intro h;try exact absurd h (by decide))))
 refine stop_cS rfl (by simp only [UA,WE,simprocAttr]) (h2) ?_
 simp only [WE,simprocAttr,UM,CVS,w2]
 (try (apply hK';clear hK' K'))
 repeat' (first|(with_reducible apply zz1)|((with_reducible apply zz2);rfl;intro K' hK';simp only [WE,simprocAttr,CVS,Int.reduceBEq,w2,w2];(repeat (constructor;focus (clear hK';intros;simp_all;done)));(try (apply hK';clear hK' K')))|((with_reducible apply zz3);rfl;all_goals (intro h;try exact absurd h (by decide))))
 refine stop_cS rfl (by simp only [UA,WE,simprocAttr]) (h3) ?_
 simp only [WE,simprocAttr,UM,CVS,hwc]
 (try (apply hK';clear hK' K'))
 repeat' (first|(with_reducible apply zz1)|((with_reducible apply zz2);rfl;intro K' hK';simp only [WE,simprocAttr,CVS,Int.reduceBEq,w2];(repeat (constructor;focus (clear hK';intros;simp_all;done)));(try (apply hK';clear hK' K')))|((with_reducible apply zz3);rfl;all_goals (intro h;try exact absurd h (by decide))))
 refine stop_callF rfl (by simp only [WE,simprocAttr]) rfl rfl (hck) ?_
 simp only [WE,simprocAttr,inX,dropS,bne_self_eq_false]
 (repeat (constructor;focus (clear hK';intros;simp_all;done)))
 (try (apply hK';clear hK' K'))
 repeat' (first|(with_reducible apply zz1)|((with_reducible apply zz2);rfl;intro K' hK';simp only [WE,simprocAttr,bne_self_eq_false];(repeat (constructor;focus (clear hK';intros;simp_all;done)));(try (apply hK';clear hK' K')))|((with_reducible apply zz3);rfl;all_goals (intro h;try exact absurd h (by decide))))
 simp only [KretS,retL,retOne,oneV,US,WE,simprocAttr,h0,Ev.d,evD,tp0,Tp.ds,List.map_nil]
set_option maxHeartbeats 8000000 in
set_option maxRecDepth 100000 in
theorem ev_tru2_no (Γ : Gl) (s : ByteArray) (hs : s.size ≤ 140737488355328) (a : Nat) {f : ByteArray → Bool} (hf : VSok Γ f) (ha : a < s.size) (hk : atS s a = 2) (hb : a + 1 < s.size) (hv : atS s (a + 1) = 2) (hd : a + 2 < s.size) (hz : wchk f 2 2 ((atS s (a + 2) : Nat) : Int) noB tp0 noB ≠ 0) : RdE Γ s a (.no (a + 2) (a + 3)):=by
 have h1:=rone_at Γ s hs a ha 2 (by rw [hk];rfl)
 have h2:=rone_at Γ s hs (a + 1) hb 2 (by rw [hv];rfl)
 have hc:=atS_lt s (a + 2)
 have h3:=rone_at Γ s hs (a + 2) hd _ rfl
 have hwc:=wc _ hc
 generalize atS s (a + 2) = c at *
 have hck:=wcheck_fn Γ hf 2 2 (c : Int) noB tp0 noB
 simp only [evD,tp0,Tp.ds,List.map_nil] at hck
 have hne : (wchk f 2 2 (c : Int) noB (.mk 0 0 noB [] []) noB != 0) = true:=bne_iff_ne.2 hz
 generalize wchk f 2 2 (c : Int) noB (.mk 0 0 noB [] []) noB = e at *
 unfold RdE rBox
 refine xfn_of_swp (N:=117) Tryd.func49 rfl (by decide) rfl (by simp) (fun C h0=>?_)
 simp only [argS]
 repeat' (first|(with_reducible apply zz1)|((with_reducible apply zz2);rfl;intro K' hK';simp only [WE,simprocAttr];(repeat (constructor;focus (clear hK';intros;simp_all;done)));(try (apply hK';clear hK' K')))|((with_reducible apply zz3);rfl;all_goals (intro h;try exact absurd h (by decide))))
 refine stop_cS rfl (by simp only [UA,WE,simprocAttr]) (h1) ?_
 simp only [WE,simprocAttr,UM,CVS,w2]
 (try (apply hK';clear hK' K'))
 repeat' (first|(with_reducible apply zz1)|((with_reducible apply zz2);rfl;intro K' hK';simp only [WE,simprocAttr,CVS,Int.reduceBEq,w2];(repeat (constructor;focus (clear hK';intros;simp_all;done)));(try (apply hK';clear hK' K')))|((with_reducible apply zz3);rfl;all_goals (intro h;try exact absurd h (by decide))))
 refine stop_cS rfl (by simp only [UA,WE,simprocAttr]) (h2) ?_
 simp only [WE,simprocAttr,UM,CVS,w2]
 (try (apply hK';clear hK' K'))
 repeat' (first|(with_reducible apply zz1)|((with_reducible apply zz2);rfl;intro K' hK';simp only [WE,simprocAttr,CVS,Int.reduceBEq,w2,w2];(repeat (constructor;focus (clear hK';intros;simp_all;done)));(try (apply hK';clear hK' K')))|((with_reducible apply zz3);rfl;all_goals (intro h;try exact absurd h (by decide))))
 refine stop_cS rfl (by simp only [UA,WE,simprocAttr]) (h3) ?_
 simp only [WE,simprocAttr,UM,CVS,hwc]
 (try (apply hK';clear hK' K'))
 repeat' (first|(with_reducible apply zz1)|((with_reducible apply zz2);rfl;intro K' hK';simp only [WE,simprocAttr,CVS,Int.reduceBEq,w2];(repeat (constructor;focus (clear hK';intros;simp_all;done)));(try (apply hK';clear hK' K')))|((with_reducible apply zz3);rfl;all_goals (intro h;try exact absurd h (by decide))))
 refine stop_callF rfl (by simp only [WE,simprocAttr]) rfl rfl (hck) ?_
 simp only [WE,simprocAttr,inX,dropS,hne]
 (repeat (constructor;focus (clear hK';intros;simp_all;done)))
 (try (apply hK';clear hK' K'))
 repeat' (first|(with_reducible first|apply zw0|apply zw1|apply zw2|apply zw3|apply zw4|apply zw5|apply zw6|apply zw7|apply zw8|apply zw9|apply zw10|apply zw11|apply zw13|apply zw14)|((with_reducible refine zw12 ?_ ?_);rfl)|((with_reducible refine swp_regionX ?_ ?_ (fun K' hK' hP'=>?_));rfl;rfl;simp only [WE,simprocAttr,hne];(repeat (constructor;focus (clear hK' hP';intros;simp_all;done)));(try (apply hK';clear hK' hP';clear K')))|((with_reducible refine zw15 ?_ ?_);rfl;refine ⟨_,rfl,fun h=>?_,fun h=>?_⟩ <;> try exact absurd h (by decide)))
 refine stop_mki un103 rfl rfl (by simp only [ok1,val,lk,nbeq,zn0,cond_true,cond_false,Option.getD_some]) rfl rfl ?_
 simp only [WE,simprocAttr]
 refine stop_panic rfl rfl ?_
 refine hP' _ _ _ ?_
 repeat (first | refine kseq_p ?_ | refine kblk_p ?_ | refine kloop_p ?_)
 simp only [KpanS,US,WE,simprocAttr,h0]
 rfl
set_option maxHeartbeats 8000000 in
set_option maxRecDepth 100000 in
theorem ev_txt2_no (Γ : Gl) (s : ByteArray) (hs : s.size ≤ 140737488355328) (a : Nat) (ha : a < s.size) (hk : atS s a = 2) (hb : a + 1 < s.size) (hv : atS s (a + 1) = 3) (p b : Nat) (hR : txtO s (a + 2) = .no p b) : RdE Γ s a (.no p b):=by
 have h1:=rone_at Γ s hs a ha 2 (by rw [hk];rfl)
 have h2:=rone_at Γ s hs (a + 1) hb 3 (by rw [hv];rfl)
 have h3:=rtext_no Γ s hs (a + 2) (by omega) p b hR
 unfold rBox at h3
 unfold RdE rBox
 refine xfn_of_swp (N:=117) Tryd.func49 rfl (by decide) rfl (by simp) (fun C h0=>?_)
 simp only [argS]
 repeat' (first|(with_reducible apply zz1)|((with_reducible apply zz2);rfl;intro K' hK';simp only [WE,simprocAttr];(repeat (constructor;focus (clear hK';intros;simp_all;done)));(try (apply hK';clear hK' K')))|((with_reducible apply zz3);rfl;all_goals (intro h;try exact absurd h (by decide))))
 refine stop_cS rfl (by simp only [UA,WE,simprocAttr]) (h1) ?_
 simp only [WE,simprocAttr,UM,CVS,w2]
 (try (apply hK';clear hK' K'))
 repeat' (first|(with_reducible apply zz1)|((with_reducible apply zz2);rfl;intro K' hK';simp only [WE,simprocAttr,CVS,Int.reduceBEq,w2];(repeat (constructor;focus (clear hK';intros;simp_all;done)));(try (apply hK';clear hK' K')))|((with_reducible apply zz3);rfl;all_goals (intro h;try exact absurd h (by decide))))
 refine stop_cS rfl (by simp only [UA,WE,simprocAttr]) (h2) ?_
 simp only [WE,simprocAttr,UM,CVS,w3]
 (try (apply hK';clear hK' K'))
 repeat' (first|(with_reducible first|apply zw0|apply zw1|apply zw2|apply zw3|apply zw4|apply zw5|apply zw6|apply zw7|apply zw8|apply zw9|apply zw10|apply zw11|apply zw13|apply zw14)|((with_reducible refine zw12 ?_ ?_);rfl)|((with_reducible refine swp_regionX ?_ ?_ (fun K' hK' hP'=>?_));rfl;rfl;simp only [WE,simprocAttr,CVS,Int.reduceBEq,w2,w3];(repeat (constructor;focus (clear hK' hP';intros;simp_all;done)));(try (apply hK';clear hK' hP';clear K')))|((with_reducible refine zw15 ?_ ?_);rfl;refine ⟨_,rfl,fun h=>?_,fun h=>?_⟩ <;> try exact absurd h (by decide)))
 refine stop_cX rfl (by simp only [UA,WE,simprocAttr]) (h3) ?_
 simp only [UM,WE,simprocAttr]
 refine hP' _ _ _ ?_
 repeat (first | refine kseq_p ?_ | refine kblk_p ?_ | refine kloop_p ?_)
 simp only [KpanS,US,WE,simprocAttr,h0]
set_option maxHeartbeats 8000000 in
set_option maxRecDepth 100000 in
theorem ev_txt2 (Γ : Gl) (s : ByteArray) (hs : s.size ≤ 140737488355328) (a : Nat) {f : ByteArray → Bool} (hf : VSok Γ f) (ha : a < s.size) (hk : atS s a = 2) (hb : a + 1 < s.size) (hv : atS s (a + 1) = 3) (w : ByteArray) (b : Nat) (hR : txtO s (a + 2) = .ok w b) (hz : wchk f 2 3 0 w tp0 noB = 0) : RdE Γ s a (.ok ⟨2,3,0,w,tp0,noB⟩ b):=by
 have h1:=rone_at Γ s hs a ha 2 (by rw [hk];rfl)
 have h2:=rone_at Γ s hs (a + 1) hb 3 (by rw [hv];rfl)
 have h3:=rtext_ok Γ s hs (a + 2) (by omega) w b hR
 unfold rBox at h3
 have hck:=wcheck_fn Γ hf 2 3 0 w tp0 noB
 simp only [evD,tp0,Tp.ds,List.map_nil] at hck
 rw [show wchk f 2 3 0 w (.mk 0 0 noB [] []) noB = 0 from hz] at hck
 unfold RdE rBox
 refine sfn_of_swp (N:=117) Tryd.func49 rfl (by decide) rfl rfl (by simp) (fun C h0=>?_)
 simp only [argS]
 repeat' (first|(with_reducible apply zz1)|((with_reducible apply zz2);rfl;intro K' hK';simp only [WE,simprocAttr];(repeat (constructor;focus (clear hK';intros;simp_all;done)));(try (apply hK';clear hK' K')))|((with_reducible apply zz3);rfl;all_goals (intro h;try exact absurd h (by decide))))
 refine stop_cS rfl (by simp only [UA,WE,simprocAttr]) (h1) ?_
 simp only [WE,simprocAttr,UM,CVS,w2]
 (try (apply hK';clear hK' K'))
 repeat' (first|(with_reducible apply zz1)|((with_reducible apply zz2);rfl;intro K' hK';simp only [WE,simprocAttr,CVS,Int.reduceBEq,w2];(repeat (constructor;focus (clear hK';intros;simp_all;done)));(try (apply hK';clear hK' K')))|((with_reducible apply zz3);rfl;all_goals (intro h;try exact absurd h (by decide))))
 refine stop_cS rfl (by simp only [UA,WE,simprocAttr]) (h2) ?_
 simp only [WE,simprocAttr,UM,CVS,w3]
 (try (apply hK';clear hK' K'))
 repeat' (first|(with_reducible apply zz1)|((with_reducible apply zz2);rfl;intro K' hK';simp only [WE,simprocAttr,CVS,Int.reduceBEq,w2,w3];(repeat (constructor;focus (clear hK';intros;simp_all;done)));(try (apply hK';clear hK' K')))|((with_reducible apply zz3);rfl;all_goals (intro h;try exact absurd h (by decide))))
 refine stop_cS rfl (by simp only [UA,WE,simprocAttr]) (h3) ?_
 simp only [WE,simprocAttr,UM, ]
 (try (apply hK';clear hK' K'))
 repeat' (first|(with_reducible apply zz1)|((with_reducible apply zz2);rfl;intro K' hK';simp only [WE,simprocAttr,CVS,Int.reduceBEq,w2];(repeat (constructor;focus (clear hK';intros;simp_all;done)));(try (apply hK';clear hK' K')))|((with_reducible apply zz3);rfl;all_goals (intro h;try exact absurd h (by decide))))
 refine stop_callF rfl (by simp only [WE,simprocAttr]) rfl rfl (hck) ?_
 simp only [WE,simprocAttr,inX,dropS,bne_self_eq_false]
 (repeat (constructor;focus (clear hK';intros;simp_all;done)))
 (try (apply hK';clear hK' K'))
 repeat' (first|(with_reducible apply zz1)|((with_reducible apply zz2);rfl;intro K' hK';simp only [WE,simprocAttr,bne_self_eq_false];(repeat (constructor;focus (clear hK';intros;simp_all;done)));(try (apply hK';clear hK' K')))|((with_reducible apply zz3);rfl;all_goals (intro h;try exact absurd h (by decide))))
 simp only [KretS,retL,retOne,oneV,US,WE,simprocAttr,h0,Ev.d,evD,tp0,Tp.ds,List.map_nil]
set_option maxHeartbeats 8000000 in
set_option maxRecDepth 100000 in
theorem ev_txt2_bad (Γ : Gl) (s : ByteArray) (hs : s.size ≤ 140737488355328) (a : Nat) {f : ByteArray → Bool} (hf : VSok Γ f) (ha : a < s.size) (hk : atS s a = 2) (hb : a + 1 < s.size) (hv : atS s (a + 1) = 3) (w : ByteArray) (b : Nat) (hR : txtO s (a + 2) = .ok w b) (hz : wchk f 2 3 0 w tp0 noB ≠ 0) : RdE Γ s a (.no (a + 2) b):=by
 have h1:=rone_at Γ s hs a ha 2 (by rw [hk];rfl)
 have h2:=rone_at Γ s hs (a + 1) hb 3 (by rw [hv];rfl)
 have h3:=rtext_ok Γ s hs (a + 2) (by omega) w b hR
 unfold rBox at h3
 have hck:=wcheck_fn Γ hf 2 3 0 w tp0 noB
 simp only [evD,tp0,Tp.ds,List.map_nil] at hck
 have hne : (wchk f 2 3 0 w (.mk 0 0 noB [] []) noB != 0) = true:=bne_iff_ne.2 hz
 generalize wchk f 2 3 0 w (.mk 0 0 noB [] []) noB = e at *
 unfold RdE rBox
 refine xfn_of_swp (N:=117) Tryd.func49 rfl (by decide) rfl (by simp) (fun C h0=>?_)
 simp only [argS]
 repeat' (first|(with_reducible apply zz1)|((with_reducible apply zz2);rfl;intro K' hK';simp only [WE,simprocAttr];(repeat (constructor;focus (clear hK';intros;simp_all;done)));(try (apply hK';clear hK' K')))|((with_reducible apply zz3);rfl;all_goals (intro h;try exact absurd h (by decide))))
 refine stop_cS rfl (by simp only [UA,WE,simprocAttr]) (h1) ?_
 simp only [WE,simprocAttr,UM,CVS,w2]
 (try (apply hK';clear hK' K'))
 repeat' (first|(with_reducible apply zz1)|((with_reducible apply zz2);rfl;intro K' hK';simp only [WE,simprocAttr,CVS,Int.reduceBEq,w2];(repeat (constructor;focus (clear hK';intros;simp_all;done)));(try (apply hK';clear hK' K')))|((with_reducible apply zz3);rfl;all_goals (intro h;try exact absurd h (by decide))))
 refine stop_cS rfl (by simp only [UA,WE,simprocAttr]) (h2) ?_
 simp only [WE,simprocAttr,UM,CVS,w3]
 (try (apply hK';clear hK' K'))
 repeat' (first|(with_reducible apply zz1)|((with_reducible apply zz2);rfl;intro K' hK';simp only [WE,simprocAttr,CVS,Int.reduceBEq,w2,w3];(repeat (constructor;focus (clear hK';intros;simp_all;done)));(try (apply hK';clear hK' K')))|((with_reducible apply zz3);rfl;all_goals (intro h;try exact absurd h (by decide))))
 refine stop_cS rfl (by simp only [UA,WE,simprocAttr]) (h3) ?_
 simp only [WE,simprocAttr,UM, ]
 (try (apply hK';clear hK' K'))
 repeat' (first|(with_reducible apply zz1)|((with_reducible apply zz2);rfl;intro K' hK';simp only [WE,simprocAttr,CVS,Int.reduceBEq,w2];(repeat (constructor;focus (clear hK';intros;simp_all;done)));(try (apply hK';clear hK' K')))|((with_reducible apply zz3);rfl;all_goals (intro h;try exact absurd h (by decide))))
 refine stop_callF rfl (by simp only [WE,simprocAttr]) rfl rfl (hck) ?_
 simp only [WE,simprocAttr,inX,dropS,hne]
 (repeat (constructor;focus (clear hK';intros;simp_all;done)))
 (try (apply hK';clear hK' K'))
 repeat' (first|(with_reducible first|apply zw0|apply zw1|apply zw2|apply zw3|apply zw4|apply zw5|apply zw6|apply zw7|apply zw8|apply zw9|apply zw10|apply zw11|apply zw13|apply zw14)|((with_reducible refine zw12 ?_ ?_);rfl)|((with_reducible refine swp_regionX ?_ ?_ (fun K' hK' hP'=>?_));rfl;rfl;simp only [WE,simprocAttr,hne];(repeat (constructor;focus (clear hK' hP';intros;simp_all;done)));(try (apply hK';clear hK' hP';clear K')))|((with_reducible refine zw15 ?_ ?_);rfl;refine ⟨_,rfl,fun h=>?_,fun h=>?_⟩ <;> try exact absurd h (by decide)))
 refine stop_mki un103 rfl rfl (by simp only [ok1,val,lk,nbeq,zn0,cond_true,cond_false,Option.getD_some]) rfl rfl ?_
 simp only [WE,simprocAttr]
 refine stop_panic rfl rfl ?_
 refine hP' _ _ _ ?_
 repeat (first | refine kseq_p ?_ | refine kblk_p ?_ | refine kloop_p ?_)
 simp only [KpanS,US,WE,simprocAttr,h0]
 rfl
set_option maxHeartbeats 8000000 in
set_option maxRecDepth 100000 in
theorem ev_end3 (Γ : Gl) (s : ByteArray) (hs : s.size ≤ 140737488355328) (a : Nat) (ha : a < s.size) (hk : atS s a = 3) (he : a + 1 = s.size) : RdE Γ s a (.no (a + 1) (a + 1)):=by
 have h1:=rone_at Γ s hs a ha 3 (by rw [hk];rfl)
 have h2:=rone_end Γ s (a + 1) he
 unfold RdE rBox
 refine xfn_of_swp (N:=117) Tryd.func49 rfl (by decide) rfl (by simp) (fun C h0=>?_)
 simp only [argS]
 repeat' (first|(with_reducible apply zz1)|((with_reducible apply zz2);rfl;intro K' hK';simp only [WE,simprocAttr];(repeat (constructor;focus (clear hK';intros;simp_all;done)));(try (apply hK';clear hK' K')))|((with_reducible apply zz3);rfl;all_goals (intro h;try exact absurd h (by decide))))
 refine stop_cS rfl (by simp only [UA,WE,simprocAttr]) (h1) ?_
 simp only [WE,simprocAttr,UM,CVS,w3]
 (try (apply hK';clear hK' K'))
 repeat' (first|(with_reducible first|apply zw0|apply zw1|apply zw2|apply zw3|apply zw4|apply zw5|apply zw6|apply zw7|apply zw8|apply zw9|apply zw10|apply zw11|apply zw13|apply zw14)|((with_reducible refine zw12 ?_ ?_);rfl)|((with_reducible refine swp_regionX ?_ ?_ (fun K' hK' hP'=>?_));rfl;rfl;simp only [WE,simprocAttr,CVS,Int.reduceBEq,w3];(repeat (constructor;focus (clear hK' hP';intros;simp_all;done)));(try (apply hK';clear hK' hP';clear K')))|((with_reducible refine zw15 ?_ ?_);rfl;refine ⟨_,rfl,fun h=>?_,fun h=>?_⟩ <;> try exact absurd h (by decide)))
 refine stop_cX rfl (by simp only [UA,WE,simprocAttr]) (h2) ?_
 simp only [UM,WE,simprocAttr]
 refine hP' _ _ _ ?_
 repeat (first | refine kseq_p ?_ | refine kblk_p ?_ | refine kloop_p ?_)
 simp only [KpanS,US,WE,simprocAttr,h0]
set_option maxHeartbeats 8000000 in
set_option maxRecDepth 100000 in
theorem ev_bad3 (Γ : Gl) (s : ByteArray) (hs : s.size ≤ 140737488355328) (a : Nat) (ha : a < s.size) (hk : atS s a = 3) (hb : a + 1 < s.size) (hv : atS s (a + 1) = 0 ∨ 3 < atS s (a + 1)) : RdE Γ s a (.no (a + 1) (a + 2)):=by
 have h1:=rone_at Γ s hs a ha 3 (by rw [hk];rfl)
 have h2:=rone_at Γ s hs (a + 1) hb _ rfl
 have hc:=atS_lt s (a + 1)
 have hwc:=wc _ hc
 have hsb : IntKind.i64.wrap (((a + 1 + 1 : Nat) : Int) - 1) = ((a + 1 : Nat) : Int):=by rw [wrap_in (by omega) (by omega)];omega
 generalize atS s (a + 1) = c at *
 have g1 : ((c : Int) == 1) = false:=by rw [beq_eq_false_iff_ne];omega
 have g2 : ((c : Int) == 2) = false:=by rw [beq_eq_false_iff_ne];omega
 have g3 : ((c : Int) == 3) = false:=by rw [beq_eq_false_iff_ne];omega
 unfold RdE rBox
 refine xfn_of_swp (N:=117) Tryd.func49 rfl (by decide) rfl (by simp) (fun C h0=>?_)
 simp only [argS]
 repeat' (first|(with_reducible apply zz1)|((with_reducible apply zz2);rfl;intro K' hK';simp only [WE,simprocAttr];(repeat (constructor;focus (clear hK';intros;simp_all;done)));(try (apply hK';clear hK' K')))|((with_reducible apply zz3);rfl;all_goals (intro h;try exact absurd h (by decide))))
 refine stop_cS rfl (by simp only [UA,WE,simprocAttr]) (h1) ?_
 simp only [WE,simprocAttr,UM,CVS,w3]
 (try (apply hK';clear hK' K'))
 repeat' (first|(with_reducible apply zz1)|((with_reducible apply zz2);rfl;intro K' hK';simp only [WE,simprocAttr,CVS,Int.reduceBEq,w3];(repeat (constructor;focus (clear hK';intros;simp_all;done)));(try (apply hK';clear hK' K')))|((with_reducible apply zz3);rfl;all_goals (intro h;try exact absurd h (by decide))))
 refine stop_cS rfl (by simp only [UA,WE,simprocAttr]) (h2) ?_
 simp only [WE,simprocAttr,UM,CVS,hwc]
 (try (apply hK';clear hK' K'))
 repeat' (first|(with_reducible first|apply zw0|apply zw1|apply zw2|apply zw3|apply zw4|apply zw5|apply zw6|apply zw7|apply zw8|apply zw9|apply zw10|apply zw11|apply zw13|apply zw14)|((with_reducible refine zw12 ?_ ?_);rfl)|((with_reducible refine swp_regionX ?_ ?_ (fun K' hK' hP'=>?_));rfl;rfl;simp only [WE,simprocAttr,CVS,Int.reduceBEq,w3,hwc,g1,g2,g3,hsb];(repeat (constructor;focus (clear hK' hP';intros;simp_all;done)));(try (apply hK';clear hK' hP';clear K')))|((with_reducible refine zw15 ?_ ?_);rfl;refine ⟨_,rfl,fun h=>?_,fun h=>?_⟩ <;> try exact absurd h (by decide)))
 refine stop_mki un103 rfl rfl (by simp only [ok1,val,lk,nbeq,zn0,cond_true,cond_false,Option.getD_some]) rfl rfl ?_
 simp only [WE,simprocAttr,hsb]
 refine stop_panic rfl rfl ?_
 refine hP' _ _ _ ?_
 repeat (first | refine kseq_p ?_ | refine kblk_p ?_ | refine kloop_p ?_)
 simp only [KpanS,US,WE,simprocAttr,h0]
 rfl
set_option maxHeartbeats 8000000 in
set_option maxRecDepth 100000 in
theorem ev_num3_no (Γ : Gl) (s : ByteArray) (hs : s.size ≤ 140737488355328) (a : Nat) (ha : a < s.size) (hk : atS s a = 3) (hb : a + 1 < s.size) (hv : atS s (a + 1) = 1) (p b : Nat) (hR : numO s (a + 2) 10 0 0 (a + 2) = .no p b) : RdE Γ s a (.no p b):=by
 have h1:=rone_at Γ s hs a ha 3 (by rw [hk];rfl)
 have h2:=rone_at Γ s hs (a + 1) hb 1 (by rw [hv];rfl)
 have h3:=rnum_no Γ s hs (a + 2) (by omega) p b hR
 unfold rBox at h3
 unfold RdE rBox
 refine xfn_of_swp (N:=117) Tryd.func49 rfl (by decide) rfl (by simp) (fun C h0=>?_)
 simp only [argS]
 repeat' (first|(with_reducible apply zz1)|((with_reducible apply zz2);rfl;intro K' hK';simp only [WE,simprocAttr];(repeat (constructor;focus (clear hK';intros;simp_all;done)));(try (apply hK';clear hK' K')))|((with_reducible apply zz3);rfl;all_goals (intro h;try exact absurd h (by decide))))
 refine stop_cS rfl (by simp only [UA,WE,simprocAttr]) (h1) ?_
 simp only [WE,simprocAttr,UM,CVS,w3]
 (try (apply hK';clear hK' K'))
 repeat' (first|(with_reducible apply zz1)|((with_reducible apply zz2);rfl;intro K' hK';simp only [WE,simprocAttr,CVS,Int.reduceBEq,w3];(repeat (constructor;focus (clear hK';intros;simp_all;done)));(try (apply hK';clear hK' K')))|((with_reducible apply zz3);rfl;all_goals (intro h;try exact absurd h (by decide))))
 refine stop_cS rfl (by simp only [UA,WE,simprocAttr]) (h2) ?_
 simp only [WE,simprocAttr,UM,CVS,w1]
 (try (apply hK';clear hK' K'))
 repeat' (first|(with_reducible first|apply zw0|apply zw1|apply zw2|apply zw3|apply zw4|apply zw5|apply zw6|apply zw7|apply zw8|apply zw9|apply zw10|apply zw11|apply zw13|apply zw14)|((with_reducible refine zw12 ?_ ?_);rfl)|((with_reducible refine swp_regionX ?_ ?_ (fun K' hK' hP'=>?_));rfl;rfl;simp only [WE,simprocAttr,CVS,Int.reduceBEq,w3,w1];(repeat (constructor;focus (clear hK' hP';intros;simp_all;done)));(try (apply hK';clear hK' hP';clear K')))|((with_reducible refine zw15 ?_ ?_);rfl;refine ⟨_,rfl,fun h=>?_,fun h=>?_⟩ <;> try exact absurd h (by decide)))
 refine stop_cX rfl (by simp only [UA,WE,simprocAttr]) (h3) ?_
 simp only [UM,WE,simprocAttr]
 refine hP' _ _ _ ?_
 repeat (first | refine kseq_p ?_ | refine kblk_p ?_ | refine kloop_p ?_)
 simp only [KpanS,US,WE,simprocAttr,h0]
set_option maxHeartbeats 8000000 in
set_option maxRecDepth 100000 in
theorem ev_num3 (Γ : Gl) (s : ByteArray) (hs : s.size ≤ 140737488355328) (a : Nat) {f : ByteArray → Bool} (hf : VSok Γ f) (ha : a < s.size) (hk : atS s a = 3) (hb : a + 1 < s.size) (hv : atS s (a + 1) = 1) (n b : Nat) (hR : numO s (a + 2) 10 0 0 (a + 2) = .ok n b) : RdE Γ s a (.ok ⟨3,1,unzz n,noB,tp0,noB⟩ b):=by
 have h1:=rone_at Γ s hs a ha 3 (by rw [hk];rfl)
 have h2:=rone_at Γ s hs (a + 1) hb 1 (by rw [hv];rfl)
 have h3:=rnum_ok Γ s hs (a + 2) (by omega) n b hR
 have hn : n < 18446744073709551616:=(numO_ok 10 0 0 (a + 2) n b rfl (by decide) hR).2.2.1
 unfold rBox at h3
 clear hR
 have hsr:=shr1 n
 have han:=and1_u64 n hn
 have hzz:=zz_read hn
 obtain ⟨hf2,hh⟩ : ∃ hf2,hf2 = n / 2:=⟨_,rfl⟩
 obtain ⟨d,hd⟩ : ∃ d,d = Nat.mod n 2:=⟨_,rfl⟩
 rw [← hh] at hsr hzz
 change _ = ((Nat.mod n 2 : Nat) : Int) at han
 rw [← hd] at han
 rw [show HMod.hMod n 2 = d from hd.symm] at hzz
 clear hh hd
 generalize unzz n = N at *
 have hck:=wcheck_fn Γ hf 3 1 N noB tp0 noB
 rw [show wchk f 3 1 N noB tp0 noB = 0 by unfold wchk;rw [if_pos (by decide)];unfold vchk;rw [if_pos rfl,if_pos (by decide +kernel)]] at hck
 simp only [evD,tp0,Tp.ds,List.map_nil] at hck
 unfold RdE rBox
 refine sfn_of_swp (N:=117) Tryd.func49 rfl (by decide) rfl rfl (by simp) (fun C h0=>?_)
 simp only [argS]
 repeat' (first|(with_reducible apply zz1)|((with_reducible apply zz2);rfl;intro K' hK';simp only [WE,simprocAttr];(repeat (constructor;focus (clear hK';intros;simp_all;done)));(try (apply hK';clear hK' K')))|((with_reducible apply zz3);rfl;all_goals (intro h;try exact absurd h (by decide))))
 refine stop_cS rfl (by simp only [UA,WE,simprocAttr]) (h1) ?_
 simp only [WE,simprocAttr,UM,CVS,w3]
 (try (apply hK';clear hK' K'))
 repeat' (first|(with_reducible apply zz1)|((with_reducible apply zz2);rfl;intro K' hK';simp only [WE,simprocAttr,CVS,Int.reduceBEq,w3];(repeat (constructor;focus (clear hK';intros;simp_all;done)));(try (apply hK';clear hK' K')))|((with_reducible apply zz3);rfl;all_goals (intro h;try exact absurd h (by decide))))
 refine stop_cS rfl (by simp only [UA,WE,simprocAttr]) (h2) ?_
 simp only [WE,simprocAttr,UM,CVS,w1]
 (try (apply hK';clear hK' K'))
 repeat' (first|(with_reducible apply zz1)|((with_reducible apply zz2);rfl;intro K' hK';simp only [WE,simprocAttr,CVS,Int.reduceBEq,w3,w1];(repeat (constructor;focus (clear hK';intros;simp_all;done)));(try (apply hK';clear hK' K')))|((with_reducible apply zz3);rfl;all_goals (intro h;try exact absurd h (by decide))))
 refine stop_cS rfl (by simp only [UA,WE,simprocAttr]) (h3) ?_
 simp only [WE,simprocAttr,UM, ]
 (try (apply hK';clear hK' K'))
 repeat' (first|(with_reducible apply zz1)|((with_reducible apply zz2);rfl;intro K' hK';simp only [WE,simprocAttr,CVS,Int.reduceBEq,w3];(repeat (constructor;focus (clear hK';intros;simp_all;done)));(try (apply hK';clear hK' K')))|((with_reducible apply zz3);rfl;all_goals (intro h;try exact absurd h (by decide))))
 refine stop_val (.v (.int .u64 ((hf2 : Nat) : Int))) rfl rfl (fun a w hv=>run_shrK (m:=1) (hv (.tmp 50) (.v (.int .u64 (n : Nat))) rfl rfl rfl) rfl hsr) ?_
 simp only [WE,simprocAttr,  CVS]
 (repeat (constructor;focus (clear hK';intros;simp_all;done)))
 (try (apply hK';clear hK' K'))
 (try simp only [WE,simprocAttr,CVS])
 (repeat (constructor;focus (clear hK';intros;simp_all;done)))
 (try (apply hK';clear hK' K'))
 refine stop_val (.v (.int .u64 ((d : Nat) : Int))) rfl rfl (fun a w hv=>run_andK (hv (.tmp 53) (.v (.int .u64 (n : Nat))) rfl rfl rfl) rfl han) ?_
 simp only [WE,simprocAttr,  CVS]
 (repeat (constructor;focus (clear hK';intros;simp_all;done)))
 (try (apply hK';clear hK' K'))
 (try simp only [WE,simprocAttr,CVS])
 (repeat (constructor;focus (clear hK';intros;simp_all;done)))
 (try (apply hK';clear hK' K'))
 refine stop_val (.v (.int .i64 N)) rfl rfl (fun a w hv=>run_xorK (hv (.tmp 52) (.v (.int .i64 (IntKind.i64.wrap (hf2 : Int)))) rfl rfl rfl) (hv (.tmp 56) (.v (.int .i64 (IntKind.i64.wrap (0 - IntKind.i64.wrap (d : Int))))) rfl rfl rfl) hzz) ?_
 simp only [WE,simprocAttr]
 (repeat (constructor;focus (clear hK';intros;simp_all;done)))
 (try (apply hK';clear hK' K'))
 repeat' (first|(with_reducible apply zz1)|((with_reducible apply zz2);rfl;intro K' hK';simp only [WE,simprocAttr,CVS,Int.reduceBEq,w3];(repeat (constructor;focus (clear hK';intros;simp_all;done)));(try (apply hK';clear hK' K')))|((with_reducible apply zz3);rfl;all_goals (intro h;try exact absurd h (by decide))))
 refine stop_callF rfl (by simp only [WE,simprocAttr]) rfl rfl (hck) ?_
 simp only [WE,simprocAttr,inX,dropS,bne_self_eq_false]
 (repeat (constructor;focus (clear hK';intros;simp_all;done)))
 (try (apply hK';clear hK' K'))
 repeat' (first|(with_reducible apply zz1)|((with_reducible apply zz2);rfl;intro K' hK';simp only [WE,simprocAttr,bne_self_eq_false];(repeat (constructor;focus (clear hK';intros;simp_all;done)));(try (apply hK';clear hK' K')))|((with_reducible apply zz3);rfl;all_goals (intro h;try exact absurd h (by decide))))
 simp only [KretS,retL,retOne,oneV,US,WE,simprocAttr,h0,Ev.d,evD,tp0,Tp.ds,List.map_nil]
set_option maxHeartbeats 8000000 in
set_option maxRecDepth 100000 in
theorem ev_tru3_end (Γ : Gl) (s : ByteArray) (hs : s.size ≤ 140737488355328) (a : Nat) (ha : a < s.size) (hk : atS s a = 3) (hb : a + 1 < s.size) (hv : atS s (a + 1) = 2) (he : a + 2 = s.size) : RdE Γ s a (.no (a + 2) (a + 2)):=by
 have h1:=rone_at Γ s hs a ha 3 (by rw [hk];rfl)
 have h2:=rone_at Γ s hs (a + 1) hb 2 (by rw [hv];rfl)
 have h3:=rone_end Γ s (a + 2) he
 unfold RdE rBox
 refine xfn_of_swp (N:=117) Tryd.func49 rfl (by decide) rfl (by simp) (fun C h0=>?_)
 simp only [argS]
 repeat' (first|(with_reducible apply zz1)|((with_reducible apply zz2);rfl;intro K' hK';simp only [WE,simprocAttr];(repeat (constructor;focus (clear hK';intros;simp_all;done)));(try (apply hK';clear hK' K')))|((with_reducible apply zz3);rfl;all_goals (intro h;try exact absurd h (by decide))))
 refine stop_cS rfl (by simp only [UA,WE,simprocAttr]) (h1) ?_
 simp only [WE,simprocAttr,UM,CVS,w3]
 (try (apply hK';clear hK' K'))
 repeat' (first|(with_reducible apply zz1)|((with_reducible apply zz2);rfl;intro K' hK';simp only [WE,simprocAttr,CVS,Int.reduceBEq,w3];(repeat (constructor;focus (clear hK';intros;simp_all;done)));(try (apply hK';clear hK' K')))|((with_reducible apply zz3);rfl;all_goals (intro h;try exact absurd h (by decide))))
 refine stop_cS rfl (by simp only [UA,WE,simprocAttr]) (h2) ?_
 simp only [WE,simprocAttr,UM,CVS,w2]
 (try (apply hK';clear hK' K'))
 repeat' (first|(with_reducible first|apply zw0|apply zw1|apply zw2|apply zw3|apply zw4|apply zw5|apply zw6|apply zw7|apply zw8|apply zw9|apply zw10|apply zw11|apply zw13|apply zw14)|((with_reducible refine zw12 ?_ ?_);rfl)|((with_reducible refine swp_regionX ?_ ?_ (fun K' hK' hP'=>?_));rfl;rfl;simp only [WE,simprocAttr,CVS,Int.reduceBEq,w3,w2];(repeat (constructor;focus (clear hK' hP';intros;simp_all;done)));(try (apply hK';clear hK' hP';clear K')))|((with_reducible refine zw15 ?_ ?_);rfl;refine ⟨_,rfl,fun h=>?_,fun h=>?_⟩ <;> try exact absurd h (by decide)))
 refine stop_cX rfl (by simp only [UA,WE,simprocAttr]) (h3) ?_
 simp only [UM,WE,simprocAttr]
 refine hP' _ _ _ ?_
 repeat (first | refine kseq_p ?_ | refine kblk_p ?_ | refine kloop_p ?_)
 simp only [KpanS,US,WE,simprocAttr,h0]
set_option maxHeartbeats 8000000 in
set_option maxRecDepth 100000 in
theorem ev_tru3 (Γ : Gl) (s : ByteArray) (hs : s.size ≤ 140737488355328) (a : Nat) {f : ByteArray → Bool} (hf : VSok Γ f) (ha : a < s.size) (hk : atS s a = 3) (hb : a + 1 < s.size) (hv : atS s (a + 1) = 2) (hd : a + 2 < s.size) (hz : wchk f 3 2 ((atS s (a + 2) : Nat) : Int) noB tp0 noB = 0) : RdE Γ s a (.ok ⟨3,2,((atS s (a + 2) : Nat) : Int),noB,tp0,noB⟩ (a + 3)):=by
 have h1:=rone_at Γ s hs a ha 3 (by rw [hk];rfl)
 have h2:=rone_at Γ s hs (a + 1) hb 2 (by rw [hv];rfl)
 have hc:=atS_lt s (a + 2)
 have h3:=rone_at Γ s hs (a + 2) hd _ rfl
 have hwc:=wc _ hc
 generalize atS s (a + 2) = c at *
 have hck:=wcheck_fn Γ hf 3 2 (c : Int) noB tp0 noB
 simp only [evD,tp0,Tp.ds,List.map_nil] at hck
 rw [show wchk f 3 2 (c : Int) noB (.mk 0 0 noB [] []) noB = 0 from hz] at hck
 unfold RdE rBox
 refine sfn_of_swp (N:=117) Tryd.func49 rfl (by decide) rfl rfl (by simp) (fun C h0=>?_)
 simp only [argS]
 repeat' (first|(with_reducible apply zz1)|((with_reducible apply zz2);rfl;intro K' hK';simp only [WE,simprocAttr];(repeat (constructor;focus (clear hK';intros;simp_all;done)));(try (apply hK';clear hK' K')))|((with_reducible apply zz3);rfl;all_goals (intro h;try exact absurd h (by decide))))
 refine stop_cS rfl (by simp only [UA,WE,simprocAttr]) (h1) ?_
 simp only [WE,simprocAttr,UM,CVS,w3]
 (try (apply hK';clear hK' K'))
 repeat' (first|(with_reducible apply zz1)|((with_reducible apply zz2);rfl;intro K' hK';simp only [WE,simprocAttr,CVS,Int.reduceBEq,w3];(repeat (constructor;focus (clear hK';intros;simp_all;done)));(try (apply hK';clear hK' K')))|((with_reducible apply zz3);rfl;all_goals (intro h;try exact absurd h (by decide))))
 refine stop_cS rfl (by simp only [UA,WE,simprocAttr]) (h2) ?_
 simp only [WE,simprocAttr,UM,CVS,w2]
 (try (apply hK';clear hK' K'))
 repeat' (first|(with_reducible apply zz1)|((with_reducible apply zz2);rfl;intro K' hK';simp only [WE,simprocAttr,CVS,Int.reduceBEq,w3,w2];(repeat (constructor;focus (clear hK';intros;simp_all;done)));(try (apply hK';clear hK' K')))|((with_reducible apply zz3);rfl;all_goals (intro h;try exact absurd h (by decide))))
 refine stop_cS rfl (by simp only [UA,WE,simprocAttr]) (h3) ?_
 simp only [WE,simprocAttr,UM,CVS,hwc]
 (try (apply hK';clear hK' K'))
 repeat' (first|(with_reducible apply zz1)|((with_reducible apply zz2);rfl;intro K' hK';simp only [WE,simprocAttr,CVS,Int.reduceBEq,w3];(repeat (constructor;focus (clear hK';intros;simp_all;done)));(try (apply hK';clear hK' K')))|((with_reducible apply zz3);rfl;all_goals (intro h;try exact absurd h (by decide))))
 refine stop_callF rfl (by simp only [WE,simprocAttr]) rfl rfl (hck) ?_
 simp only [WE,simprocAttr,inX,dropS,bne_self_eq_false]
 (repeat (constructor;focus (clear hK';intros;simp_all;done)))
 (try (apply hK';clear hK' K'))
 repeat' (first|(with_reducible apply zz1)|((with_reducible apply zz2);rfl;intro K' hK';simp only [WE,simprocAttr,bne_self_eq_false];(repeat (constructor;focus (clear hK';intros;simp_all;done)));(try (apply hK';clear hK' K')))|((with_reducible apply zz3);rfl;all_goals (intro h;try exact absurd h (by decide))))
 simp only [KretS,retL,retOne,oneV,US,WE,simprocAttr,h0,Ev.d,evD,tp0,Tp.ds,List.map_nil]
set_option maxHeartbeats 8000000 in
set_option maxRecDepth 100000 in
theorem ev_tru3_no (Γ : Gl) (s : ByteArray) (hs : s.size ≤ 140737488355328) (a : Nat) {f : ByteArray → Bool} (hf : VSok Γ f) (ha : a < s.size) (hk : atS s a = 3) (hb : a + 1 < s.size) (hv : atS s (a + 1) = 2) (hd : a + 2 < s.size) (hz : wchk f 3 2 ((atS s (a + 2) : Nat) : Int) noB tp0 noB ≠ 0) : RdE Γ s a (.no (a + 2) (a + 3)):=by
 have h1:=rone_at Γ s hs a ha 3 (by rw [hk];rfl)
 have h2:=rone_at Γ s hs (a + 1) hb 2 (by rw [hv];rfl)
 have hc:=atS_lt s (a + 2)
 have h3:=rone_at Γ s hs (a + 2) hd _ rfl
 have hwc:=wc _ hc
 generalize atS s (a + 2) = c at *
 have hck:=wcheck_fn Γ hf 3 2 (c : Int) noB tp0 noB
 simp only [evD,tp0,Tp.ds,List.map_nil] at hck
 have hne : (wchk f 3 2 (c : Int) noB (.mk 0 0 noB [] []) noB != 0) = true:=bne_iff_ne.2 hz
 generalize wchk f 3 2 (c : Int) noB (.mk 0 0 noB [] []) noB = e at *
 unfold RdE rBox
 refine xfn_of_swp (N:=117) Tryd.func49 rfl (by decide) rfl (by simp) (fun C h0=>?_)
 simp only [argS]
 repeat' (first|(with_reducible apply zz1)|((with_reducible apply zz2);rfl;intro K' hK';simp only [WE,simprocAttr];(repeat (constructor;focus (clear hK';intros;simp_all;done)));(try (apply hK';clear hK' K')))|((with_reducible apply zz3);rfl;all_goals (intro h;try exact absurd h (by decide))))
 refine stop_cS rfl (by simp only [UA,WE,simprocAttr]) (h1) ?_
 simp only [WE,simprocAttr,UM,CVS,w3]
 (try (apply hK';clear hK' K'))
 repeat' (first|(with_reducible apply zz1)|((with_reducible apply zz2);rfl;intro K' hK';simp only [WE,simprocAttr,CVS,Int.reduceBEq,w3];(repeat (constructor;focus (clear hK';intros;simp_all;done)));(try (apply hK';clear hK' K')))|((with_reducible apply zz3);rfl;all_goals (intro h;try exact absurd h (by decide))))
 refine stop_cS rfl (by simp only [UA,WE,simprocAttr]) (h2) ?_
 simp only [WE,simprocAttr,UM,CVS,w2]
 (try (apply hK';clear hK' K'))
 repeat' (first|(with_reducible apply zz1)|((with_reducible apply zz2);rfl;intro K' hK';simp only [WE,simprocAttr,CVS,Int.reduceBEq,w3,w2];(repeat (constructor;focus (clear hK';intros;simp_all;done)));(try (apply hK';clear hK' K')))|((with_reducible apply zz3);rfl;all_goals (intro h;try exact absurd h (by decide))))
 refine stop_cS rfl (by simp only [UA,WE,simprocAttr]) (h3) ?_
 simp only [WE,simprocAttr,UM,CVS,hwc]
 (try (apply hK';clear hK' K'))
 repeat' (first|(with_reducible apply zz1)|((with_reducible apply zz2);rfl;intro K' hK';simp only [WE,simprocAttr,CVS,Int.reduceBEq,w3];(repeat (constructor;focus (clear hK';intros;simp_all;done)));(try (apply hK';clear hK' K')))|((with_reducible apply zz3);rfl;all_goals (intro h;try exact absurd h (by decide))))
 refine stop_callF rfl (by simp only [WE,simprocAttr]) rfl rfl (hck) ?_
 simp only [WE,simprocAttr,inX,dropS,hne]
 (repeat (constructor;focus (clear hK';intros;simp_all;done)))
 (try (apply hK';clear hK' K'))
 repeat' (first|(with_reducible first|apply zw0|apply zw1|apply zw2|apply zw3|apply zw4|apply zw5|apply zw6|apply zw7|apply zw8|apply zw9|apply zw10|apply zw11|apply zw13|apply zw14)|((with_reducible refine zw12 ?_ ?_);rfl)|((with_reducible refine swp_regionX ?_ ?_ (fun K' hK' hP'=>?_));rfl;rfl;simp only [WE,simprocAttr,hne];(repeat (constructor;focus (clear hK' hP';intros;simp_all;done)));(try (apply hK';clear hK' hP';clear K')))|((with_reducible refine zw15 ?_ ?_);rfl;refine ⟨_,rfl,fun h=>?_,fun h=>?_⟩ <;> try exact absurd h (by decide)))
 refine stop_mki un103 rfl rfl (by simp only [ok1,val,lk,nbeq,zn0,cond_true,cond_false,Option.getD_some]) rfl rfl ?_
 simp only [WE,simprocAttr]
 refine stop_panic rfl rfl ?_
 refine hP' _ _ _ ?_
 repeat (first | refine kseq_p ?_ | refine kblk_p ?_ | refine kloop_p ?_)
 simp only [KpanS,US,WE,simprocAttr,h0]
 rfl
set_option maxHeartbeats 8000000 in
set_option maxRecDepth 100000 in
theorem ev_txt3_no (Γ : Gl) (s : ByteArray) (hs : s.size ≤ 140737488355328) (a : Nat) (ha : a < s.size) (hk : atS s a = 3) (hb : a + 1 < s.size) (hv : atS s (a + 1) = 3) (p b : Nat) (hR : txtO s (a + 2) = .no p b) : RdE Γ s a (.no p b):=by
 have h1:=rone_at Γ s hs a ha 3 (by rw [hk];rfl)
 have h2:=rone_at Γ s hs (a + 1) hb 3 (by rw [hv];rfl)
 have h3:=rtext_no Γ s hs (a + 2) (by omega) p b hR
 unfold rBox at h3
 unfold RdE rBox
 refine xfn_of_swp (N:=117) Tryd.func49 rfl (by decide) rfl (by simp) (fun C h0=>?_)
 simp only [argS]
 repeat' (first|(with_reducible apply zz1)|((with_reducible apply zz2);rfl;intro K' hK';simp only [WE,simprocAttr];(repeat (constructor;focus (clear hK';intros;simp_all;done)));(try (apply hK';clear hK' K')))|((with_reducible apply zz3);rfl;all_goals (intro h;try exact absurd h (by decide))))
 refine stop_cS rfl (by simp only [UA,WE,simprocAttr]) (h1) ?_
 simp only [WE,simprocAttr,UM,CVS,w3]
 (try (apply hK';clear hK' K'))
 repeat' (first|(with_reducible apply zz1)|((with_reducible apply zz2);rfl;intro K' hK';simp only [WE,simprocAttr,CVS,Int.reduceBEq,w3];(repeat (constructor;focus (clear hK';intros;simp_all;done)));(try (apply hK';clear hK' K')))|((with_reducible apply zz3);rfl;all_goals (intro h;try exact absurd h (by decide))))
 refine stop_cS rfl (by simp only [UA,WE,simprocAttr]) (h2) ?_
 simp only [WE,simprocAttr,UM,CVS,w3]
 (try (apply hK';clear hK' K'))
 repeat' (first|(with_reducible first|apply zw0|apply zw1|apply zw2|apply zw3|apply zw4|apply zw5|apply zw6|apply zw7|apply zw8|apply zw9|apply zw10|apply zw11|apply zw13|apply zw14)|((with_reducible refine zw12 ?_ ?_);rfl)|((with_reducible refine swp_regionX ?_ ?_ (fun K' hK' hP'=>?_));rfl;rfl;simp only [WE,simprocAttr,CVS,Int.reduceBEq,w3,w3];(repeat (constructor;focus (clear hK' hP';intros;simp_all;done)));(try (apply hK';clear hK' hP';clear K')))|((with_reducible refine zw15 ?_ ?_);rfl;refine ⟨_,rfl,fun h=>?_,fun h=>?_⟩ <;> try exact absurd h (by decide)))
 refine stop_cX rfl (by simp only [UA,WE,simprocAttr]) (h3) ?_
 simp only [UM,WE,simprocAttr]
 refine hP' _ _ _ ?_
 repeat (first | refine kseq_p ?_ | refine kblk_p ?_ | refine kloop_p ?_)
 simp only [KpanS,US,WE,simprocAttr,h0]
set_option maxHeartbeats 8000000 in
set_option maxRecDepth 100000 in
theorem ev_txt3 (Γ : Gl) (s : ByteArray) (hs : s.size ≤ 140737488355328) (a : Nat) {f : ByteArray → Bool} (hf : VSok Γ f) (ha : a < s.size) (hk : atS s a = 3) (hb : a + 1 < s.size) (hv : atS s (a + 1) = 3) (w : ByteArray) (b : Nat) (hR : txtO s (a + 2) = .ok w b) (hz : wchk f 3 3 0 w tp0 noB = 0) : RdE Γ s a (.ok ⟨3,3,0,w,tp0,noB⟩ b):=by
 have h1:=rone_at Γ s hs a ha 3 (by rw [hk];rfl)
 have h2:=rone_at Γ s hs (a + 1) hb 3 (by rw [hv];rfl)
 have h3:=rtext_ok Γ s hs (a + 2) (by omega) w b hR
 unfold rBox at h3
 have hck:=wcheck_fn Γ hf 3 3 0 w tp0 noB
 simp only [evD,tp0,Tp.ds,List.map_nil] at hck
 rw [show wchk f 3 3 0 w (.mk 0 0 noB [] []) noB = 0 from hz] at hck
 unfold RdE rBox
 refine sfn_of_swp (N:=117) Tryd.func49 rfl (by decide) rfl rfl (by simp) (fun C h0=>?_)
 simp only [argS]
 repeat' (first|(with_reducible apply zz1)|((with_reducible apply zz2);rfl;intro K' hK';simp only [WE,simprocAttr];(repeat (constructor;focus (clear hK';intros;simp_all;done)));(try (apply hK';clear hK' K')))|((with_reducible apply zz3);rfl;all_goals (intro h;try exact absurd h (by decide))))
 refine stop_cS rfl (by simp only [UA,WE,simprocAttr]) (h1) ?_
 simp only [WE,simprocAttr,UM,CVS,w3]
 (try (apply hK';clear hK' K'))
 repeat' (first|(with_reducible apply zz1)|((with_reducible apply zz2);rfl;intro K' hK';simp only [WE,simprocAttr,CVS,Int.reduceBEq,w3];(repeat (constructor;focus (clear hK';intros;simp_all;done)));(try (apply hK';clear hK' K')))|((with_reducible apply zz3);rfl;all_goals (intro h;try exact absurd h (by decide))))
 refine stop_cS rfl (by simp only [UA,WE,simprocAttr]) (h2) ?_
 simp only [WE,simprocAttr,UM,CVS,w3]
 (try (apply hK';clear hK' K'))
 repeat' (first|(with_reducible apply zz1)|((with_reducible apply zz2);rfl;intro K' hK';simp only [WE,simprocAttr,CVS,Int.reduceBEq,w3,w3];(repeat (constructor;focus (clear hK';intros;simp_all;done)));(try (apply hK';clear hK' K')))|((with_reducible apply zz3);rfl;all_goals (intro h;try exact absurd h (by decide))))
 refine stop_cS rfl (by simp only [UA,WE,simprocAttr]) (h3) ?_
 simp only [WE,simprocAttr,UM, ]
 (try (apply hK';clear hK' K'))
 repeat' (first|(with_reducible apply zz1)|((with_reducible apply zz2);rfl;intro K' hK';simp only [WE,simprocAttr,CVS,Int.reduceBEq,w3];(repeat (constructor;focus (clear hK';intros;simp_all;done)));(try (apply hK';clear hK' K')))|((with_reducible apply zz3);rfl;all_goals (intro h;try exact absurd h (by decide))))
 refine stop_callF rfl (by simp only [WE,simprocAttr]) rfl rfl (hck) ?_
 simp only [WE,simprocAttr,inX,dropS,bne_self_eq_false]
 (repeat (constructor;focus (clear hK';intros;simp_all;done)))
 (try (apply hK';clear hK' K'))
 repeat' (first|(with_reducible apply zz1)|((with_reducible apply zz2);rfl;intro K' hK';simp only [WE,simprocAttr,bne_self_eq_false];(repeat (constructor;focus (clear hK';intros;simp_all;done)));(try (apply hK';clear hK' K')))|((with_reducible apply zz3);rfl;all_goals (intro h;try exact absurd h (by decide))))
 simp only [KretS,retL,retOne,oneV,US,WE,simprocAttr,h0,Ev.d,evD,tp0,Tp.ds,List.map_nil]
set_option maxHeartbeats 8000000 in
set_option maxRecDepth 100000 in
theorem ev_txt3_bad (Γ : Gl) (s : ByteArray) (hs : s.size ≤ 140737488355328) (a : Nat) {f : ByteArray → Bool} (hf : VSok Γ f) (ha : a < s.size) (hk : atS s a = 3) (hb : a + 1 < s.size) (hv : atS s (a + 1) = 3) (w : ByteArray) (b : Nat) (hR : txtO s (a + 2) = .ok w b) (hz : wchk f 3 3 0 w tp0 noB ≠ 0) : RdE Γ s a (.no (a + 2) b):=by
 have h1:=rone_at Γ s hs a ha 3 (by rw [hk];rfl)
 have h2:=rone_at Γ s hs (a + 1) hb 3 (by rw [hv];rfl)
 have h3:=rtext_ok Γ s hs (a + 2) (by omega) w b hR
 unfold rBox at h3
 have hck:=wcheck_fn Γ hf 3 3 0 w tp0 noB
 simp only [evD,tp0,Tp.ds,List.map_nil] at hck
 have hne : (wchk f 3 3 0 w (.mk 0 0 noB [] []) noB != 0) = true:=bne_iff_ne.2 hz
 generalize wchk f 3 3 0 w (.mk 0 0 noB [] []) noB = e at *
 unfold RdE rBox
 refine xfn_of_swp (N:=117) Tryd.func49 rfl (by decide) rfl (by simp) (fun C h0=>?_)
 simp only [argS]
 repeat' (first|(with_reducible apply zz1)|((with_reducible apply zz2);rfl;intro K' hK';simp only [WE,simprocAttr];(repeat (constructor;focus (clear hK';intros;simp_all;done)));(try (apply hK';clear hK' K')))|((with_reducible apply zz3);rfl;all_goals (intro h;try exact absurd h (by decide))))
 refine stop_cS rfl (by simp only [UA,WE,simprocAttr]) (h1) ?_
 simp only [WE,simprocAttr,UM,CVS,w3]
 (try (apply hK';clear hK' K'))
 repeat' (first|(with_reducible apply zz1)|((with_reducible apply zz2);rfl;intro K' hK';simp only [WE,simprocAttr,CVS,Int.reduceBEq,w3];(repeat (constructor;focus (clear hK';intros;simp_all;done)));(try (apply hK';clear hK' K')))|((with_reducible apply zz3);rfl;all_goals (intro h;try exact absurd h (by decide))))
 refine stop_cS rfl (by simp only [UA,WE,simprocAttr]) (h2) ?_
 simp only [WE,simprocAttr,UM,CVS,w3]
 (try (apply hK';clear hK' K'))
 repeat' (first|(with_reducible apply zz1)|((with_reducible apply zz2);rfl;intro K' hK';simp only [WE,simprocAttr,CVS,Int.reduceBEq,w3,w3];(repeat (constructor;focus (clear hK';intros;simp_all;done)));(try (apply hK';clear hK' K')))|((with_reducible apply zz3);rfl;all_goals (intro h;try exact absurd h (by decide))))
 refine stop_cS rfl (by simp only [UA,WE,simprocAttr]) (h3) ?_
 simp only [WE,simprocAttr,UM, ]
 (try (apply hK';clear hK' K'))
 repeat' (first|(with_reducible apply zz1)|((with_reducible apply zz2);rfl;intro K' hK';simp only [WE,simprocAttr,CVS,Int.reduceBEq,w3];(repeat (constructor;focus (clear hK';intros;simp_all;done)));(try (apply hK';clear hK' K')))|((with_reducible apply zz3);rfl;all_goals (intro h;try exact absurd h (by decide))))
 refine stop_callF rfl (by simp only [WE,simprocAttr]) rfl rfl (hck) ?_
 simp only [WE,simprocAttr,inX,dropS,hne]
 (repeat (constructor;focus (clear hK';intros;simp_all;done)))
 (try (apply hK';clear hK' K'))
 repeat' (first|(with_reducible first|apply zw0|apply zw1|apply zw2|apply zw3|apply zw4|apply zw5|apply zw6|apply zw7|apply zw8|apply zw9|apply zw10|apply zw11|apply zw13|apply zw14)|((with_reducible refine zw12 ?_ ?_);rfl)|((with_reducible refine swp_regionX ?_ ?_ (fun K' hK' hP'=>?_));rfl;rfl;simp only [WE,simprocAttr,hne];(repeat (constructor;focus (clear hK' hP';intros;simp_all;done)));(try (apply hK';clear hK' hP';clear K')))|((with_reducible refine zw15 ?_ ?_);rfl;refine ⟨_,rfl,fun h=>?_,fun h=>?_⟩ <;> try exact absurd h (by decide)))
 refine stop_mki un103 rfl rfl (by simp only [ok1,val,lk,nbeq,zn0,cond_true,cond_false,Option.getD_some]) rfl rfl ?_
 simp only [WE,simprocAttr]
 refine stop_panic rfl rfl ?_
 refine hP' _ _ _ ?_
 repeat (first | refine kseq_p ?_ | refine kblk_p ?_ | refine kloop_p ?_)
 simp only [KpanS,US,WE,simprocAttr,h0]
 rfl
end Go.Proofs.YtdcplkefmpjppaaDoor.GG
