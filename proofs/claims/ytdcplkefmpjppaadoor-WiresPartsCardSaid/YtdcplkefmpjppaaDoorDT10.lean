/- types' reader: one type; a symbolic walk. -/
-- TYPESA
import Derived.Test.YtdcplkefmpjppaaDoorDT8
set_option linter.unusedVariables false
set_option linter.unusedSimpArgs false
namespace Go.Proofs.YtdcplkefmpjppaaDoor.GG
open Go.RowKit Go.Sw
open Go.Sw renaming swp_seq → zw0, swp_block → zw1, swp_skip → zw2, swp_ret → zw3, swp_exit → zw4, swp_label → zw5, kseq_n → zw6, kseq_x → zw7, kseq_r → zw8, kblk_n → zw9, kblk_r → zw10, kblk_xs → zw11, kblk_xn → zw12, kloop_x → zw13, kloop_r → zw14, swp_cond → zw15, swp_region → zw17

theorem one_at (Γ : Gl) (s : ByteArray) (hs : s.size ≤ 2000) (a : Nat) (ha : a ≤ s.size) (c : Nat) (i : Int) (hi : (c : Int) = i) : SFn Tryd.prog Γ 136 [.ref 0 0,.d (.v (.int .u8 i))] (rBox s (wAt s a)) (.d (.v (.bool (isB s a c)))) (rBox s (wAt s a)):=by
 have:=is_l Γ s hs (wAt s a) (wAt_in s a ha).2 c i hi
 rw [isB_at,wAt_again] at this
 exact this
set_option maxHeartbeats 8000000 in
set_option maxRecDepth 100000 in
theorem one_end (Γ : Gl) (s : ByteArray) (hs : s.size ≤ 2000) (a : Nat) (ha : a ≤ s.size) (n1 : ((wOf s a).toList == ByteArray.toList ⟨#[101,110,100]⟩) = true) : RdT Γ s 122 [] a (.ok (.mk 1 0 noB [] []) (wAt s a + 3)):=by
 have hwd:=word_fn Γ s hs a ha
 obtain ⟨hk1,hk2⟩:=wAt_in s a ha
 have hwz:=wOf_in s a ha
 have hw3 : IntKind.i64.wrap ((wAt s a : Int) + 3) = ((wAt s a + 3 : Nat) : Int):=by rw [wrap_in (by omega) (by omega)];omega
 have hwr : IntKind.i64.wrap ((wAt s a : Int) + ((wOf s a).size : Int)) = ((wAt s a + (wOf s a).size : Nat) : Int):=by rw [wrap_in (by omega) (by omega)];omega
 unfold RdT
 generalize wAt s a = k at *
 generalize wOf s a = w at *
 unfold rBox at hwd ⊢
 refine sfn_of_swp (N:=104) Tryd.func122 rfl (by decide) rfl rfl (by simp) (fun C h0=>?_)
 simp only [argS]
 repeat' (first|(with_reducible apply zz1)|((with_reducible apply zz2);rfl;intro K' hK';simp only [WA,simprocAttr];(repeat (constructor;focus (clear hK';intros;simp_all;done)));(try (apply hK';clear hK' K')))|((with_reducible apply zz3);rfl;all_goals (intro h;try exact absurd h (by decide))))
 refine stop_cS rfl (by simp only [UA,WA,simprocAttr]) (hwd) ?_
 simp only [WA,simprocAttr,UM, ]
 (try (apply hK';clear hK' K'))
 repeat' (first|(with_reducible apply zz1)|((with_reducible apply zz2);rfl;intro K' hK';simp only [WA,simprocAttr,n1,hw3];(repeat (constructor;focus (clear hK';intros;simp_all;done)));(try (apply hK';clear hK' K')))|((with_reducible apply zz3);rfl;all_goals (intro h;try exact absurd h (by decide))))
 simp only [KretS,retL,retOne,oneV,US,WA,simprocAttr,h0,Tp.d,Tp.ds,List.map_nil]
set_option maxHeartbeats 8000000 in
set_option maxRecDepth 100000 in
theorem one_badname (Γ : Gl) (s : ByteArray) (hs : s.size ≤ 2000) (a : Nat) (ha : a ≤ s.size) (n1 : ((wOf s a).toList == ByteArray.toList ⟨#[101,110,100]⟩) = false) (n2 : ((wOf s a).toList == ByteArray.toList ⟨#[114,101,99]⟩) = true) (h3 : wAt s a + 3 ≤ s.size) (n3 : isVarB (wOf s (wAt s a + 3)) = false) : RdT Γ s 122 [] a (.no (wAt s (wAt s a + 3))):=by
 have hwd:=word_fn Γ s hs a ha
 obtain ⟨hk1,hk2⟩:=wAt_in s a ha
 have hwz:=wOf_in s a ha
 have hw3 : IntKind.i64.wrap ((wAt s a : Int) + 3) = ((wAt s a + 3 : Nat) : Int):=by rw [wrap_in (by omega) (by omega)];omega
 have hwr : IntKind.i64.wrap ((wAt s a : Int) + ((wOf s a).size : Int)) = ((wAt s a + (wOf s a).size : Nat) : Int):=by rw [wrap_in (by omega) (by omega)];omega
 have hwd2:=word_fn Γ s hs (wAt s a + 3) h3
 obtain ⟨hj1,hj2⟩:=wAt_in s (wAt s a + 3) h3
 have hwz2:=wOf_in s (wAt s a + 3) h3
 have hv:=isVar_fn Γ (wOf s (wAt s a + 3))
 rw [n3] at hv
 have hwr2 : IntKind.i64.wrap ((wAt s (wAt s a + 3) : Int) + ((wOf s (wAt s a + 3)).size : Int)) = ((wAt s (wAt s a + 3) + (wOf s (wAt s a + 3)).size : Nat) : Int):=by rw [wrap_in (by omega) (by omega)];omega
 have hf:=fail_fn Γ s (wAt s (wAt s a + 3) : Nat)
 unfold RdT
 generalize wAt s (wAt s a + 3) = j at *
 generalize wOf s (wAt s a + 3) = u at *
 generalize wAt s a = k at *
 generalize wOf s a = w at *
 unfold rBox at hwd hwd2 ⊢
 refine xfn_of_swp (N:=104) Tryd.func122 rfl (by decide) rfl (by simp) (fun C h0=>?_)
 simp only [argS]
 repeat' (first|(with_reducible apply zz1)|((with_reducible apply zz2);rfl;intro K' hK';simp only [WA,simprocAttr];(repeat (constructor;focus (clear hK';intros;simp_all;done)));(try (apply hK';clear hK' K')))|((with_reducible apply zz3);rfl;all_goals (intro h;try exact absurd h (by decide))))
 refine stop_cS rfl (by simp only [UA,WA,simprocAttr]) (hwd) ?_
 simp only [WA,simprocAttr,UM, ]
 (try (apply hK';clear hK' K'))
 repeat' (first|(with_reducible apply zz1)|((with_reducible apply zz2);rfl;intro K' hK';simp only [WA,simprocAttr,n1,n2,hw3];(repeat (constructor;focus (clear hK';intros;simp_all;done)));(try (apply hK';clear hK' K')))|((with_reducible apply zz3);rfl;all_goals (intro h;try exact absurd h (by decide))))
 refine stop_cS rfl (by simp only [UA,WA,simprocAttr]) (hwd2) ?_
 simp only [WA,simprocAttr,UM, ]
 (try (apply hK';clear hK' K'))
 repeat' (first|(with_reducible apply zz1)|((with_reducible apply zz2);rfl;intro K' hK';simp only [WA,simprocAttr];(repeat (constructor;focus (clear hK';intros;simp_all;done)));(try (apply hK';clear hK' K')))|((with_reducible apply zz3);rfl;all_goals (intro h;try exact absurd h (by decide))))
 refine stop_callF rfl (by simp only [WA,simprocAttr]) rfl rfl (hv) ?_
 simp only [WA,simprocAttr,inX,dropS,false_implies,Bool.false_eq_true,implies_true,Bool.not_true,Bool.not_false,Bool.true_and,Bool.and_true,Bool.false_and,Bool.and_false,cond_true,cond_false]
 (repeat (constructor;focus (clear hK';intros;simp_all;done)))
 (try (apply hK';clear hK' K'))
 repeat' (first|(with_reducible first|apply zw0|apply zw1|apply zw2|apply zw3|apply zw4|apply zw5|apply zw6|apply zw7|apply zw8|apply zw9|apply zw10|apply zw11|apply zw13|apply zw14)|((with_reducible refine zw12 ?_ ?_);rfl)|((with_reducible refine swp_regionX ?_ ?_ (fun K' hK' hP'=>?_));rfl;rfl;simp only [WA,simprocAttr];(repeat (constructor;focus (clear hK' hP';intros;simp_all;done)));(try (apply hK';clear hK' hP';clear K')))|((with_reducible refine zw15 ?_ ?_);rfl;refine ⟨_,rfl,fun h=>?_,fun h=>?_⟩ <;> try exact absurd h (by decide)))
 refine stop_cX rfl (by simp only [UA,WA,simprocAttr]) (hf) ?_
 simp only [UM,WA,simprocAttr]
 refine hP' _ _ _ ?_
 repeat (first | refine kseq_p ?_ | refine kblk_p ?_ | refine kloop_p ?_)
 simp only [KpanS,US,WA,simprocAttr,h0]
set_option maxHeartbeats 8000000 in
set_option maxRecDepth 100000 in
theorem one_nodot (Γ : Gl) (s : ByteArray) (hs : s.size ≤ 2000) (a : Nat) (ha : a ≤ s.size) (n1 : ((wOf s a).toList == ByteArray.toList ⟨#[101,110,100]⟩) = false) (n2 : ((wOf s a).toList == ByteArray.toList ⟨#[114,101,99]⟩) = true) (h3 : wAt s a + 3 ≤ s.size) (n3 : isVarB (wOf s (wAt s a + 3)) = true) (n4 : isB s (wAt s (wAt s a + 3) + (wOf s (wAt s a + 3)).size) 46 = false) : RdT Γ s 122 [] a (.no (wAt s (wAt s (wAt s a + 3) + (wOf s (wAt s a + 3)).size))):=by
 have hwd:=word_fn Γ s hs a ha
 obtain ⟨hk1,hk2⟩:=wAt_in s a ha
 have hwz:=wOf_in s a ha
 have hw3 : IntKind.i64.wrap ((wAt s a : Int) + 3) = ((wAt s a + 3 : Nat) : Int):=by rw [wrap_in (by omega) (by omega)];omega
 have hwr : IntKind.i64.wrap ((wAt s a : Int) + ((wOf s a).size : Int)) = ((wAt s a + (wOf s a).size : Nat) : Int):=by rw [wrap_in (by omega) (by omega)];omega
 have hwd2:=word_fn Γ s hs (wAt s a + 3) h3
 obtain ⟨hj1,hj2⟩:=wAt_in s (wAt s a + 3) h3
 have hwz2:=wOf_in s (wAt s a + 3) h3
 have hv:=isVar_fn Γ (wOf s (wAt s a + 3))
 rw [n3] at hv
 have hwr2 : IntKind.i64.wrap ((wAt s (wAt s a + 3) : Int) + ((wOf s (wAt s a + 3)).size : Int)) = ((wAt s (wAt s a + 3) + (wOf s (wAt s a + 3)).size : Nat) : Int):=by rw [wrap_in (by omega) (by omega)];omega
 have hsd:=sign_x Γ s hs (wAt s (wAt s a + 3) + (wOf s (wAt s a + 3)).size) hwz2 46 46 rfl n4
 unfold RdT
 generalize wAt s (wAt s (wAt s a + 3) + (wOf s (wAt s a + 3)).size) = d at *
 generalize wAt s (wAt s a + 3) = j at *
 generalize wOf s (wAt s a + 3) = u at *
 generalize wAt s a = k at *
 generalize wOf s a = w at *
 unfold rBox at hwd hwd2 hsd ⊢
 refine xfn_of_swp (N:=104) Tryd.func122 rfl (by decide) rfl (by simp) (fun C h0=>?_)
 simp only [argS]
 repeat' (first|(with_reducible apply zz1)|((with_reducible apply zz2);rfl;intro K' hK';simp only [WA,simprocAttr];(repeat (constructor;focus (clear hK';intros;simp_all;done)));(try (apply hK';clear hK' K')))|((with_reducible apply zz3);rfl;all_goals (intro h;try exact absurd h (by decide))))
 refine stop_cS rfl (by simp only [UA,WA,simprocAttr]) (hwd) ?_
 simp only [WA,simprocAttr,UM, ]
 (try (apply hK';clear hK' K'))
 repeat' (first|(with_reducible apply zz1)|((with_reducible apply zz2);rfl;intro K' hK';simp only [WA,simprocAttr,n1,n2,hw3];(repeat (constructor;focus (clear hK';intros;simp_all;done)));(try (apply hK';clear hK' K')))|((with_reducible apply zz3);rfl;all_goals (intro h;try exact absurd h (by decide))))
 refine stop_cS rfl (by simp only [UA,WA,simprocAttr]) (hwd2) ?_
 simp only [WA,simprocAttr,UM, ]
 (try (apply hK';clear hK' K'))
 repeat' (first|(with_reducible apply zz1)|((with_reducible apply zz2);rfl;intro K' hK';simp only [WA,simprocAttr];(repeat (constructor;focus (clear hK';intros;simp_all;done)));(try (apply hK';clear hK' K')))|((with_reducible apply zz3);rfl;all_goals (intro h;try exact absurd h (by decide))))
 refine stop_callF rfl (by simp only [WA,simprocAttr]) rfl rfl (hv) ?_
 simp only [WA,simprocAttr,inX,dropS,false_implies,Bool.false_eq_true,implies_true,Bool.not_true,Bool.not_false,Bool.true_and,Bool.and_true,Bool.false_and,Bool.and_false,cond_true,cond_false]
 (repeat (constructor;focus (clear hK';intros;simp_all;done)))
 (try (apply hK';clear hK' K'))
 repeat' (first|(with_reducible first|apply zw0|apply zw1|apply zw2|apply zw3|apply zw4|apply zw5|apply zw6|apply zw7|apply zw8|apply zw9|apply zw10|apply zw11|apply zw13|apply zw14)|((with_reducible refine zw12 ?_ ?_);rfl)|((with_reducible refine swp_regionX ?_ ?_ (fun K' hK' hP'=>?_));rfl;rfl;simp only [WA,simprocAttr,hwr2];(repeat (constructor;focus (clear hK' hP';intros;simp_all;done)));(try (apply hK';clear hK' hP';clear K')))|((with_reducible refine zw15 ?_ ?_);rfl;refine ⟨_,rfl,fun h=>?_,fun h=>?_⟩ <;> try exact absurd h (by decide)))
 refine stop_cX rfl (by simp only [UA,WA,simprocAttr]) (hsd) ?_
 simp only [UM,WA,simprocAttr]
 refine hP' _ _ _ ?_
 repeat (first | refine kseq_p ?_ | refine kblk_p ?_ | refine kloop_p ?_)
 simp only [KpanS,US,WA,simprocAttr,h0]
set_option maxHeartbeats 8000000 in
set_option maxRecDepth 100000 in
theorem one_rec_no (Γ : Gl) (s : ByteArray) (hs : s.size ≤ 2000) (a : Nat) (ha : a ≤ s.size) (n1 : ((wOf s a).toList == ByteArray.toList ⟨#[101,110,100]⟩) = false) (n2 : ((wOf s a).toList == ByteArray.toList ⟨#[114,101,99]⟩) = true) (h3 : wAt s a + 3 ≤ s.size) (n3 : isVarB (wOf s (wAt s a + 3)) = true) (n4 : isB s (wAt s (wAt s a + 3) + (wOf s (wAt s a + 3)).size) 46 = true) (b : Nat) (hr : RdT Γ s 122 [] (wAt s (wAt s (wAt s a + 3) + (wOf s (wAt s a + 3)).size) + 1) (.no b)) : RdT Γ s 122 [] a (.no b):=by
 have hwd:=word_fn Γ s hs a ha
 obtain ⟨hk1,hk2⟩:=wAt_in s a ha
 have hwz:=wOf_in s a ha
 have hw3 : IntKind.i64.wrap ((wAt s a : Int) + 3) = ((wAt s a + 3 : Nat) : Int):=by rw [wrap_in (by omega) (by omega)];omega
 have hwr : IntKind.i64.wrap ((wAt s a : Int) + ((wOf s a).size : Int)) = ((wAt s a + (wOf s a).size : Nat) : Int):=by rw [wrap_in (by omega) (by omega)];omega
 have hwd2:=word_fn Γ s hs (wAt s a + 3) h3
 obtain ⟨hj1,hj2⟩:=wAt_in s (wAt s a + 3) h3
 have hwz2:=wOf_in s (wAt s a + 3) h3
 have hv:=isVar_fn Γ (wOf s (wAt s a + 3))
 rw [n3] at hv
 have hwr2 : IntKind.i64.wrap ((wAt s (wAt s a + 3) : Int) + ((wOf s (wAt s a + 3)).size : Int)) = ((wAt s (wAt s a + 3) + (wOf s (wAt s a + 3)).size : Nat) : Int):=by rw [wrap_in (by omega) (by omega)];omega
 have hsd:=sign_l Γ s hs (wAt s (wAt s a + 3) + (wOf s (wAt s a + 3)).size) hwz2 46 46 rfl n4
 unfold RdT at hr ⊢
 generalize wAt s (wAt s (wAt s a + 3) + (wOf s (wAt s a + 3)).size) = d at *
 generalize wAt s (wAt s a + 3) = j at *
 generalize wOf s (wAt s a + 3) = u at *
 generalize wAt s a = k at *
 generalize wOf s a = w at *
 unfold rBox at hwd hwd2 hsd hr ⊢
 refine xfn_of_swp (N:=104) Tryd.func122 rfl (by decide) rfl (by simp) (fun C h0=>?_)
 simp only [argS]
 repeat' (first|(with_reducible apply zz1)|((with_reducible apply zz2);rfl;intro K' hK';simp only [WA,simprocAttr];(repeat (constructor;focus (clear hK';intros;simp_all;done)));(try (apply hK';clear hK' K')))|((with_reducible apply zz3);rfl;all_goals (intro h;try exact absurd h (by decide))))
 refine stop_cS rfl (by simp only [UA,WA,simprocAttr]) (hwd) ?_
 simp only [WA,simprocAttr,UM, ]
 (try (apply hK';clear hK' K'))
 repeat' (first|(with_reducible apply zz1)|((with_reducible apply zz2);rfl;intro K' hK';simp only [WA,simprocAttr,n1,n2,hw3];(repeat (constructor;focus (clear hK';intros;simp_all;done)));(try (apply hK';clear hK' K')))|((with_reducible apply zz3);rfl;all_goals (intro h;try exact absurd h (by decide))))
 refine stop_cS rfl (by simp only [UA,WA,simprocAttr]) (hwd2) ?_
 simp only [WA,simprocAttr,UM, ]
 (try (apply hK';clear hK' K'))
 repeat' (first|(with_reducible apply zz1)|((with_reducible apply zz2);rfl;intro K' hK';simp only [WA,simprocAttr];(repeat (constructor;focus (clear hK';intros;simp_all;done)));(try (apply hK';clear hK' K')))|((with_reducible apply zz3);rfl;all_goals (intro h;try exact absurd h (by decide))))
 refine stop_callF rfl (by simp only [WA,simprocAttr]) rfl rfl (hv) ?_
 simp only [WA,simprocAttr,inX,dropS,false_implies,Bool.false_eq_true,implies_true,Bool.not_true,Bool.not_false,Bool.true_and,Bool.and_true,Bool.false_and,Bool.and_false,cond_true,cond_false]
 (repeat (constructor;focus (clear hK';intros;simp_all;done)))
 (try (apply hK';clear hK' K'))
 repeat' (first|(with_reducible apply zz1)|((with_reducible apply zz2);rfl;intro K' hK';simp only [WA,simprocAttr,hwr2];(repeat (constructor;focus (clear hK';intros;simp_all;done)));(try (apply hK';clear hK' K')))|((with_reducible apply zz3);rfl;all_goals (intro h;try exact absurd h (by decide))))
 refine stop_cS rfl (by simp only [UA,WA,simprocAttr]) (hsd) ?_
 simp only [WA,simprocAttr,UM, ]
 (try (apply hK';clear hK' K'))
 repeat' (first|(with_reducible first|apply zw0|apply zw1|apply zw2|apply zw3|apply zw4|apply zw5|apply zw6|apply zw7|apply zw8|apply zw9|apply zw10|apply zw11|apply zw13|apply zw14)|((with_reducible refine zw12 ?_ ?_);rfl)|((with_reducible refine swp_regionX ?_ ?_ (fun K' hK' hP'=>?_));rfl;rfl;simp only [WA,simprocAttr];(repeat (constructor;focus (clear hK' hP';intros;simp_all;done)));(try (apply hK';clear hK' hP';clear K')))|((with_reducible refine zw15 ?_ ?_);rfl;refine ⟨_,rfl,fun h=>?_,fun h=>?_⟩ <;> try exact absurd h (by decide)))
 refine stop_cX rfl (by simp only [UA,WA,simprocAttr]) (hr) ?_
 simp only [UM,WA,simprocAttr]
 refine hP' _ _ _ ?_
 repeat (first | refine kseq_p ?_ | refine kblk_p ?_ | refine kloop_p ?_)
 simp only [KpanS,US,WA,simprocAttr,h0]
set_option maxHeartbeats 8000000 in
set_option maxRecDepth 100000 in
theorem one_rec_ok (Γ : Gl) (s : ByteArray) (hs : s.size ≤ 2000) (a : Nat) (ha : a ≤ s.size) (n1 : ((wOf s a).toList == ByteArray.toList ⟨#[101,110,100]⟩) = false) (n2 : ((wOf s a).toList == ByteArray.toList ⟨#[114,101,99]⟩) = true) (h3 : wAt s a + 3 ≤ s.size) (n3 : isVarB (wOf s (wAt s a + 3)) = true) (n4 : isB s (wAt s (wAt s a + 3) + (wOf s (wAt s a + 3)).size) 46 = true) (x : Tp) (b : Nat) (hr : RdT Γ s 122 [] (wAt s (wAt s (wAt s a + 3) + (wOf s (wAt s a + 3)).size) + 1) (.ok x b)) : RdT Γ s 122 [] a (.ok (.mk 8 0 (wOf s (wAt s a + 3)) [] [x]) b):=by
 have hwd:=word_fn Γ s hs a ha
 obtain ⟨hk1,hk2⟩:=wAt_in s a ha
 have hwz:=wOf_in s a ha
 have hw3 : IntKind.i64.wrap ((wAt s a : Int) + 3) = ((wAt s a + 3 : Nat) : Int):=by rw [wrap_in (by omega) (by omega)];omega
 have hwr : IntKind.i64.wrap ((wAt s a : Int) + ((wOf s a).size : Int)) = ((wAt s a + (wOf s a).size : Nat) : Int):=by rw [wrap_in (by omega) (by omega)];omega
 have hwd2:=word_fn Γ s hs (wAt s a + 3) h3
 obtain ⟨hj1,hj2⟩:=wAt_in s (wAt s a + 3) h3
 have hwz2:=wOf_in s (wAt s a + 3) h3
 have hv:=isVar_fn Γ (wOf s (wAt s a + 3))
 rw [n3] at hv
 have hwr2 : IntKind.i64.wrap ((wAt s (wAt s a + 3) : Int) + ((wOf s (wAt s a + 3)).size : Int)) = ((wAt s (wAt s a + 3) + (wOf s (wAt s a + 3)).size : Nat) : Int):=by rw [wrap_in (by omega) (by omega)];omega
 have hsd:=sign_l Γ s hs (wAt s (wAt s a + 3) + (wOf s (wAt s a + 3)).size) hwz2 46 46 rfl n4
 unfold RdT at hr ⊢
 generalize wAt s (wAt s (wAt s a + 3) + (wOf s (wAt s a + 3)).size) = d at *
 generalize wAt s (wAt s a + 3) = j at *
 generalize wOf s (wAt s a + 3) = u at *
 generalize wAt s a = k at *
 generalize wOf s a = w at *
 obtain ⟨xk,xso,xnm,xls,xl⟩:=x
 simp only [Tp.d,Tp.ds,List.map_nil] at hr ⊢
 unfold rBox at hwd hwd2 hsd hr ⊢
 refine sfn_of_swp (N:=104) Tryd.func122 rfl (by decide) rfl rfl (by simp) (fun C h0=>?_)
 simp only [argS]
 repeat' (first|(with_reducible apply zz1)|((with_reducible apply zz2);rfl;intro K' hK';simp only [WA,simprocAttr];(repeat (constructor;focus (clear hK';intros;simp_all;done)));(try (apply hK';clear hK' K')))|((with_reducible apply zz3);rfl;all_goals (intro h;try exact absurd h (by decide))))
 refine stop_cS rfl (by simp only [UA,WA,simprocAttr]) (hwd) ?_
 simp only [WA,simprocAttr,UM, ]
 (try (apply hK';clear hK' K'))
 repeat' (first|(with_reducible apply zz1)|((with_reducible apply zz2);rfl;intro K' hK';simp only [WA,simprocAttr,n1,n2,hw3];(repeat (constructor;focus (clear hK';intros;simp_all;done)));(try (apply hK';clear hK' K')))|((with_reducible apply zz3);rfl;all_goals (intro h;try exact absurd h (by decide))))
 refine stop_cS rfl (by simp only [UA,WA,simprocAttr]) (hwd2) ?_
 simp only [WA,simprocAttr,UM, ]
 (try (apply hK';clear hK' K'))
 repeat' (first|(with_reducible apply zz1)|((with_reducible apply zz2);rfl;intro K' hK';simp only [WA,simprocAttr];(repeat (constructor;focus (clear hK';intros;simp_all;done)));(try (apply hK';clear hK' K')))|((with_reducible apply zz3);rfl;all_goals (intro h;try exact absurd h (by decide))))
 refine stop_callF rfl (by simp only [WA,simprocAttr]) rfl rfl (hv) ?_
 simp only [WA,simprocAttr,inX,dropS,false_implies,Bool.false_eq_true,implies_true,Bool.not_true,Bool.not_false,Bool.true_and,Bool.and_true,Bool.false_and,Bool.and_false,cond_true,cond_false]
 (repeat (constructor;focus (clear hK';intros;simp_all;done)))
 (try (apply hK';clear hK' K'))
 repeat' (first|(with_reducible apply zz1)|((with_reducible apply zz2);rfl;intro K' hK';simp only [WA,simprocAttr,hwr2];(repeat (constructor;focus (clear hK';intros;simp_all;done)));(try (apply hK';clear hK' K')))|((with_reducible apply zz3);rfl;all_goals (intro h;try exact absurd h (by decide))))
 refine stop_cS rfl (by simp only [UA,WA,simprocAttr]) (hsd) ?_
 simp only [WA,simprocAttr,UM, ]
 (try (apply hK';clear hK' K'))
 repeat' (first|(with_reducible apply zz1)|((with_reducible apply zz2);rfl;intro K' hK';simp only [WA,simprocAttr];(repeat (constructor;focus (clear hK';intros;simp_all;done)));(try (apply hK';clear hK' K')))|((with_reducible apply zz3);rfl;all_goals (intro h;try exact absurd h (by decide))))
 refine stop_cS rfl (by simp only [UA,WA,simprocAttr]) (hr) ?_
 simp only [WA,simprocAttr,UM, ]
 (try (apply hK';clear hK' K'))
 repeat' (first|(with_reducible apply zz1)|((with_reducible apply zz2);rfl;intro K' hK';simp only [WA,simprocAttr];(repeat (constructor;focus (clear hK';intros;simp_all;done)));(try (apply hK';clear hK' K')))|((with_reducible apply zz3);rfl;all_goals (intro h;try exact absurd h (by decide))))
 simp only [KretS,retL,retOne,oneV,US,WA,simprocAttr,h0]
set_option maxHeartbeats 8000000 in
set_option maxRecDepth 100000 in
theorem one_var (Γ : Gl) (s : ByteArray) (hs : s.size ≤ 2000) (a : Nat) (ha : a ≤ s.size) (n1 : ((wOf s a).toList == ByteArray.toList ⟨#[101,110,100]⟩) = false) (n2 : ((wOf s a).toList == ByteArray.toList ⟨#[114,101,99]⟩) = false) (n3 : isVarB (wOf s a) = true) : RdT Γ s 122 [] a (.ok (.mk 9 0 (wOf s a) [] []) (wAt s a + (wOf s a).size)):=by
 have hwd:=word_fn Γ s hs a ha
 obtain ⟨hk1,hk2⟩:=wAt_in s a ha
 have hwz:=wOf_in s a ha
 have hw3 : IntKind.i64.wrap ((wAt s a : Int) + 3) = ((wAt s a + 3 : Nat) : Int):=by rw [wrap_in (by omega) (by omega)];omega
 have hwr : IntKind.i64.wrap ((wAt s a : Int) + ((wOf s a).size : Int)) = ((wAt s a + (wOf s a).size : Nat) : Int):=by rw [wrap_in (by omega) (by omega)];omega
 have hv:=isVar_fn Γ (wOf s a)
 rw [n3] at hv
 unfold RdT
 generalize wAt s a = k at *
 generalize wOf s a = w at *
 unfold rBox at hwd ⊢
 refine sfn_of_swp (N:=104) Tryd.func122 rfl (by decide) rfl rfl (by simp) (fun C h0=>?_)
 simp only [argS]
 repeat' (first|(with_reducible apply zz1)|((with_reducible apply zz2);rfl;intro K' hK';simp only [WA,simprocAttr];(repeat (constructor;focus (clear hK';intros;simp_all;done)));(try (apply hK';clear hK' K')))|((with_reducible apply zz3);rfl;all_goals (intro h;try exact absurd h (by decide))))
 refine stop_cS rfl (by simp only [UA,WA,simprocAttr]) (hwd) ?_
 simp only [WA,simprocAttr,UM, ]
 (try (apply hK';clear hK' K'))
 repeat' (first|(with_reducible apply zz1)|((with_reducible apply zz2);rfl;intro K' hK';simp only [WA,simprocAttr,n1,n2];(repeat (constructor;focus (clear hK';intros;simp_all;done)));(try (apply hK';clear hK' K')))|((with_reducible apply zz3);rfl;all_goals (intro h;try exact absurd h (by decide))))
 refine stop_callF rfl (by simp only [WA,simprocAttr]) rfl rfl (hv) ?_
 simp only [WA,simprocAttr,inX,dropS, ]
 (repeat (constructor;focus (clear hK';intros;simp_all;done)))
 (try (apply hK';clear hK' K'))
 repeat' (first|(with_reducible apply zz1)|((with_reducible apply zz2);rfl;intro K' hK';simp only [WA,simprocAttr,hwr];(repeat (constructor;focus (clear hK';intros;simp_all;done)));(try (apply hK';clear hK' K')))|((with_reducible apply zz3);rfl;all_goals (intro h;try exact absurd h (by decide))))
 simp only [KretS,retL,retOne,oneV,US,WA,simprocAttr,h0,Tp.d,Tp.ds,List.map_nil]
set_option maxHeartbeats 8000000 in
set_option maxRecDepth 100000 in
theorem one_bad (Γ : Gl) (s : ByteArray) (hs : s.size ≤ 2000) (a : Nat) (ha : a ≤ s.size) (n1 : ((wOf s a).toList == ByteArray.toList ⟨#[101,110,100]⟩) = false) (n2 : ((wOf s a).toList == ByteArray.toList ⟨#[114,101,99]⟩) = false) (n3 : isVarB (wOf s a) = false) (n5 : ((wOf s a).toList == ByteArray.toList ⟨#[]⟩) = false) : RdT Γ s 122 [] a (.no (wAt s a)):=by
 have hwd:=word_fn Γ s hs a ha
 obtain ⟨hk1,hk2⟩:=wAt_in s a ha
 have hwz:=wOf_in s a ha
 have hw3 : IntKind.i64.wrap ((wAt s a : Int) + 3) = ((wAt s a + 3 : Nat) : Int):=by rw [wrap_in (by omega) (by omega)];omega
 have hwr : IntKind.i64.wrap ((wAt s a : Int) + ((wOf s a).size : Int)) = ((wAt s a + (wOf s a).size : Nat) : Int):=by rw [wrap_in (by omega) (by omega)];omega
 have hv:=isVar_fn Γ (wOf s a)
 rw [n3] at hv
 have hf:=fail_fn Γ s (wAt s a : Nat)
 unfold RdT
 generalize wAt s a = k at *
 generalize wOf s a = w at *
 unfold rBox at hwd ⊢
 refine xfn_of_swp (N:=104) Tryd.func122 rfl (by decide) rfl (by simp) (fun C h0=>?_)
 simp only [argS]
 repeat' (first|(with_reducible apply zz1)|((with_reducible apply zz2);rfl;intro K' hK';simp only [WA,simprocAttr];(repeat (constructor;focus (clear hK';intros;simp_all;done)));(try (apply hK';clear hK' K')))|((with_reducible apply zz3);rfl;all_goals (intro h;try exact absurd h (by decide))))
 refine stop_cS rfl (by simp only [UA,WA,simprocAttr]) (hwd) ?_
 simp only [WA,simprocAttr,UM, ]
 (try (apply hK';clear hK' K'))
 repeat' (first|(with_reducible apply zz1)|((with_reducible apply zz2);rfl;intro K' hK';simp only [WA,simprocAttr,n1,n2];(repeat (constructor;focus (clear hK';intros;simp_all;done)));(try (apply hK';clear hK' K')))|((with_reducible apply zz3);rfl;all_goals (intro h;try exact absurd h (by decide))))
 refine stop_callF rfl (by simp only [WA,simprocAttr]) rfl rfl (hv) ?_
 simp only [WA,simprocAttr,inX,dropS, ]
 (repeat (constructor;focus (clear hK';intros;simp_all;done)))
 (try (apply hK';clear hK' K'))
 repeat' (first|(with_reducible apply zz1)|((with_reducible apply zz2);rfl;intro K' hK';simp only [WA,simprocAttr];(repeat (constructor;focus (clear hK';intros;simp_all;done)));(try (apply hK';clear hK' K')))|((with_reducible apply zz3);rfl;all_goals (intro h;try exact absurd h (by decide))))
 (with_reducible refine zw17 ?_ (fun K' hK'=>?_)
  · rfl
  simp only [WA,simprocAttr,n5,false_implies,Bool.false_eq_true,implies_true,Bool.not_true,Bool.not_false,Bool.true_and,Bool.and_true,Bool.false_and,Bool.and_false,cond_true,cond_false]
  (repeat (constructor;focus (clear hK';intros;simp_all;done))))
 refine stop_unmetB rfl rfl ?_
 simp only [WA,simprocAttr,n5,false_implies,Bool.false_eq_true,implies_true,Bool.not_true,Bool.not_false,Bool.true_and,Bool.and_true,Bool.false_and,Bool.and_false,cond_true,cond_false]
 (try (apply hK';clear hK' K'))
 repeat' (first|(with_reducible apply zz1)|((with_reducible apply zz2);rfl;intro K' hK';simp only [WA,simprocAttr];(repeat (constructor;focus (clear hK';intros;simp_all;done)));(try (apply hK';clear hK' K')))|((with_reducible apply zz3);rfl;all_goals (intro h;try exact absurd h (by decide))))
 (with_reducible refine zw17 ?_ (fun K' hK'=>?_)
  · rfl
  simp only [WA,simprocAttr,n5,false_implies,Bool.false_eq_true,implies_true,Bool.not_true,Bool.not_false,Bool.true_and,Bool.and_true,Bool.false_and,Bool.and_false,cond_true,cond_false]
  (repeat (constructor;focus (clear hK';intros;simp_all;done))))
 refine stop_unmetB rfl rfl ?_
 simp only [WA,simprocAttr,n5,false_implies,Bool.false_eq_true,implies_true,Bool.not_true,Bool.not_false,Bool.true_and,Bool.and_true,Bool.false_and,Bool.and_false,cond_true,cond_false]
 (try (apply hK';clear hK' K'))
 repeat' (first|(with_reducible apply zz1)|((with_reducible apply zz2);rfl;intro K' hK';simp only [WA,simprocAttr];(repeat (constructor;focus (clear hK';intros;simp_all;done)));(try (apply hK';clear hK' K')))|((with_reducible apply zz3);rfl;all_goals (intro h;try exact absurd h (by decide))))
 (with_reducible refine zw17 ?_ (fun K' hK'=>?_)
  · rfl
  simp only [WA,simprocAttr,n5,false_implies,Bool.false_eq_true,implies_true,Bool.not_true,Bool.not_false,Bool.true_and,Bool.and_true,Bool.false_and,Bool.and_false,cond_true,cond_false]
  (repeat (constructor;focus (clear hK';intros;simp_all;done))))
 refine stop_unmetB rfl rfl ?_
 simp only [WA,simprocAttr,n5,false_implies,Bool.false_eq_true,implies_true,Bool.not_true,Bool.not_false,Bool.true_and,Bool.and_true,Bool.false_and,Bool.and_false,cond_true,cond_false]
 (try (apply hK';clear hK' K'))
 repeat' (first|(with_reducible apply zz1)|((with_reducible apply zz2);rfl;intro K' hK';simp only [WA,simprocAttr];(repeat (constructor;focus (clear hK';intros;simp_all;done)));(try (apply hK';clear hK' K')))|((with_reducible apply zz3);rfl;all_goals (intro h;try exact absurd h (by decide))))
 (with_reducible refine zw17 ?_ (fun K' hK'=>?_)
  · rfl
  simp only [WA,simprocAttr,n5,false_implies,Bool.false_eq_true,implies_true,Bool.not_true,Bool.not_false,Bool.true_and,Bool.and_true,Bool.false_and,Bool.and_false,cond_true,cond_false]
  (repeat (constructor;focus (clear hK';intros;simp_all;done))))
 refine stop_unmetB rfl rfl ?_
 simp only [WA,simprocAttr,n5,false_implies,Bool.false_eq_true,implies_true,Bool.not_true,Bool.not_false,Bool.true_and,Bool.and_true,Bool.false_and,Bool.and_false,cond_true,cond_false]
 (try (apply hK';clear hK' K'))
 repeat' (first|(with_reducible first|apply zw0|apply zw1|apply zw2|apply zw3|apply zw4|apply zw5|apply zw6|apply zw7|apply zw8|apply zw9|apply zw10|apply zw11|apply zw13|apply zw14)|((with_reducible refine zw12 ?_ ?_);rfl)|((with_reducible refine swp_regionX ?_ ?_ (fun K' hK' hP'=>?_));rfl;rfl;simp only [WA,simprocAttr];(repeat (constructor;focus (clear hK' hP';intros;simp_all;done)));(try (apply hK';clear hK' hP';clear K')))|((with_reducible refine zw15 ?_ ?_);rfl;refine ⟨_,rfl,fun h=>?_,fun h=>?_⟩ <;> try exact absurd h (by decide)))
 refine stop_cX rfl (by simp only [UA,WA,simprocAttr]) (hf) ?_
 simp only [UM,WA,simprocAttr]
 refine hP' _ _ _ ?_
 repeat (first | refine kseq_p ?_ | refine kblk_p ?_ | refine kloop_p ?_)
 simp only [KpanS,US,WA,simprocAttr,h0]
set_option maxHeartbeats 8000000 in
set_option maxRecDepth 100000 in
theorem one_sign33 (Γ : Gl) (s : ByteArray) (hs : s.size ≤ 2000) (a : Nat) (ha : a ≤ s.size) (n1 : ((wOf s a).toList == ByteArray.toList ⟨#[101,110,100]⟩) = false) (n2 : ((wOf s a).toList == ByteArray.toList ⟨#[114,101,99]⟩) = false) (n3 : isVarB (wOf s a) = false) (n5 : ((wOf s a).toList == ByteArray.toList ⟨#[]⟩) = true) (i33 : isB s a 33 = true) (R : Rt) (hR : RdT Γ s 137 [.d (iD 2),.d (iD 4)] (wAt s a) R) : RdT Γ s 122 [] a R:=by
 have hwd:=word_fn Γ s hs a ha
 obtain ⟨hk1,hk2⟩:=wAt_in s a ha
 have hwz:=wOf_in s a ha
 have hw3 : IntKind.i64.wrap ((wAt s a : Int) + 3) = ((wAt s a + 3 : Nat) : Int):=by rw [wrap_in (by omega) (by omega)];omega
 have hwr : IntKind.i64.wrap ((wAt s a : Int) + ((wOf s a).size : Int)) = ((wAt s a + (wOf s a).size : Nat) : Int):=by rw [wrap_in (by omega) (by omega)];omega
 have hv:=isVar_fn Γ (wOf s a)
 rw [n3] at hv
 have his33:=one_at Γ s hs a ha 33 33 rfl
 rw [i33] at his33
 cases R with
 | no b =>
  unfold RdT at hR ⊢
  generalize wAt s a = k at *
  generalize wOf s a = w at *
  unfold rBox at hwd hR his33 ⊢
  refine xfn_of_swp (N:=104) Tryd.func122 rfl (by decide) rfl (by simp) (fun C h0=>?_)
  simp only [argS]
  repeat' (first|(with_reducible apply zz1)|((with_reducible apply zz2);rfl;intro K' hK';simp only [WA,simprocAttr];(repeat (constructor;focus (clear hK';intros;simp_all;done)));(try (apply hK';clear hK' K')))|((with_reducible apply zz3);rfl;all_goals (intro h;try exact absurd h (by decide))))
  refine stop_cS rfl (by simp only [UA,WA,simprocAttr]) (hwd) ?_
  simp only [WA,simprocAttr,UM, ]
  (try (apply hK';clear hK' K'))
  repeat' (first|(with_reducible apply zz1)|((with_reducible apply zz2);rfl;intro K' hK';simp only [WA,simprocAttr,n1,n2];(repeat (constructor;focus (clear hK';intros;simp_all;done)));(try (apply hK';clear hK' K')))|((with_reducible apply zz3);rfl;all_goals (intro h;try exact absurd h (by decide))))
  refine stop_callF rfl (by simp only [WA,simprocAttr]) rfl rfl (hv) ?_
  simp only [WA,simprocAttr,inX,dropS, ]
  (repeat (constructor;focus (clear hK';intros;simp_all;done)))
  (try (apply hK';clear hK' K'))
  repeat' (first|(with_reducible apply zz1)|((with_reducible apply zz2);rfl;intro K' hK';simp only [WA,simprocAttr];(repeat (constructor;focus (clear hK';intros;simp_all;done)));(try (apply hK';clear hK' K')))|((with_reducible apply zz3);rfl;all_goals (intro h;try exact absurd h (by decide))))
  (with_reducible refine zw17 ?_ (fun K' hK'=>?_)
   · rfl
   simp only [WA,simprocAttr,n5,false_implies,Bool.false_eq_true,implies_true,Bool.not_true,Bool.not_false,Bool.true_and,Bool.and_true,Bool.false_and,Bool.and_false,cond_true,cond_false]
   (repeat (constructor;focus (clear hK';intros;simp_all;done))))
  refine stop_guard rfl ?_
  refine stop_cS rfl (by simp only [UA,WA,simprocAttr]) (his33) ?_
  simp only [WA,simprocAttr,UM,false_implies,Bool.false_eq_true,implies_true,Bool.not_true,Bool.not_false,Bool.true_and,Bool.and_true,Bool.false_and,Bool.and_false,cond_true,cond_false]
  (try (apply hK';clear hK' K'))
  repeat' (first|(with_reducible first|apply zw0|apply zw1|apply zw2|apply zw3|apply zw4|apply zw5|apply zw6|apply zw7|apply zw8|apply zw9|apply zw10|apply zw11|apply zw13|apply zw14)|((with_reducible refine zw12 ?_ ?_);rfl)|((with_reducible refine swp_regionX ?_ ?_ (fun K' hK' hP'=>?_));rfl;rfl;simp only [WA,simprocAttr];(repeat (constructor;focus (clear hK' hP';intros;simp_all;done)));(try (apply hK';clear hK' hP';clear K')))|((with_reducible refine zw15 ?_ ?_);rfl;refine ⟨_,rfl,fun h=>?_,fun h=>?_⟩ <;> try exact absurd h (by decide)))
  refine stop_cX rfl (by simp only [UA,WA,simprocAttr]) (hR) ?_
  simp only [UM,WA,simprocAttr]
  refine hP' _ _ _ ?_
  repeat (first | refine kseq_p ?_ | refine kblk_p ?_ | refine kloop_p ?_)
  simp only [KpanS,US,WA,simprocAttr,h0]
 | ok x b =>
  unfold RdT at hR ⊢
  obtain ⟨xk,xso,xnm,xls,xl⟩:=x
  simp only [Tp.d] at hR ⊢
  generalize wAt s a = k at *
  generalize wOf s a = w at *
  unfold rBox at hwd hR his33 ⊢
  refine sfn_of_swp (N:=104) Tryd.func122 rfl (by decide) rfl rfl (by simp) (fun C h0=>?_)
  simp only [argS]
  repeat' (first|(with_reducible apply zz1)|((with_reducible apply zz2);rfl;intro K' hK';simp only [WA,simprocAttr];(repeat (constructor;focus (clear hK';intros;simp_all;done)));(try (apply hK';clear hK' K')))|((with_reducible apply zz3);rfl;all_goals (intro h;try exact absurd h (by decide))))
  refine stop_cS rfl (by simp only [UA,WA,simprocAttr]) (hwd) ?_
  simp only [WA,simprocAttr,UM, ]
  (try (apply hK';clear hK' K'))
  repeat' (first|(with_reducible apply zz1)|((with_reducible apply zz2);rfl;intro K' hK';simp only [WA,simprocAttr,n1,n2];(repeat (constructor;focus (clear hK';intros;simp_all;done)));(try (apply hK';clear hK' K')))|((with_reducible apply zz3);rfl;all_goals (intro h;try exact absurd h (by decide))))
  refine stop_callF rfl (by simp only [WA,simprocAttr]) rfl rfl (hv) ?_
  simp only [WA,simprocAttr,inX,dropS, ]
  (repeat (constructor;focus (clear hK';intros;simp_all;done)))
  (try (apply hK';clear hK' K'))
  repeat' (first|(with_reducible apply zz1)|((with_reducible apply zz2);rfl;intro K' hK';simp only [WA,simprocAttr];(repeat (constructor;focus (clear hK';intros;simp_all;done)));(try (apply hK';clear hK' K')))|((with_reducible apply zz3);rfl;all_goals (intro h;try exact absurd h (by decide))))
  (with_reducible refine zw17 ?_ (fun K' hK'=>?_)
   · rfl
   simp only [WA,simprocAttr,n5,false_implies,Bool.false_eq_true,implies_true,Bool.not_true,Bool.not_false,Bool.true_and,Bool.and_true,Bool.false_and,Bool.and_false,cond_true,cond_false]
   (repeat (constructor;focus (clear hK';intros;simp_all;done))))
  refine stop_guard rfl ?_
  refine stop_cS rfl (by simp only [UA,WA,simprocAttr]) (his33) ?_
  simp only [WA,simprocAttr,UM,false_implies,Bool.false_eq_true,implies_true,Bool.not_true,Bool.not_false,Bool.true_and,Bool.and_true,Bool.false_and,Bool.and_false,cond_true,cond_false]
  (try (apply hK';clear hK' K'))
  repeat' (first|(with_reducible apply zz1)|((with_reducible apply zz2);rfl;intro K' hK';simp only [WA,simprocAttr];(repeat (constructor;focus (clear hK';intros;simp_all;done)));(try (apply hK';clear hK' K')))|((with_reducible apply zz3);rfl;all_goals (intro h;try exact absurd h (by decide))))
  refine stop_cS rfl (by simp only [UA,WA,simprocAttr]) (hR) ?_
  simp only [WA,simprocAttr,UM, ]
  (try (apply hK';clear hK' K'))
  repeat' (first|(with_reducible apply zz1)|((with_reducible apply zz2);rfl;intro K' hK';simp only [WA,simprocAttr];(repeat (constructor;focus (clear hK';intros;simp_all;done)));(try (apply hK';clear hK' K')))|((with_reducible apply zz3);rfl;all_goals (intro h;try exact absurd h (by decide))))
  simp only [KretS,retL,retOne,oneV,US,WA,simprocAttr,h0]
set_option maxHeartbeats 8000000 in
set_option maxRecDepth 100000 in
theorem one_sign63 (Γ : Gl) (s : ByteArray) (hs : s.size ≤ 2000) (a : Nat) (ha : a ≤ s.size) (n1 : ((wOf s a).toList == ByteArray.toList ⟨#[101,110,100]⟩) = false) (n2 : ((wOf s a).toList == ByteArray.toList ⟨#[114,101,99]⟩) = false) (n3 : isVarB (wOf s a) = false) (n5 : ((wOf s a).toList == ByteArray.toList ⟨#[]⟩) = true) (i33 : isB s a 33 = false) (i63 : isB s a 63 = true) (R : Rt) (hR : RdT Γ s 137 [.d (iD 3),.d (iD 5)] (wAt s a) R) : RdT Γ s 122 [] a R:=by
 have hwd:=word_fn Γ s hs a ha
 obtain ⟨hk1,hk2⟩:=wAt_in s a ha
 have hwz:=wOf_in s a ha
 have hw3 : IntKind.i64.wrap ((wAt s a : Int) + 3) = ((wAt s a + 3 : Nat) : Int):=by rw [wrap_in (by omega) (by omega)];omega
 have hwr : IntKind.i64.wrap ((wAt s a : Int) + ((wOf s a).size : Int)) = ((wAt s a + (wOf s a).size : Nat) : Int):=by rw [wrap_in (by omega) (by omega)];omega
 have hv:=isVar_fn Γ (wOf s a)
 rw [n3] at hv
 have his33:=one_at Γ s hs a ha 33 33 rfl
 rw [i33] at his33
 have his63:=one_at Γ s hs a ha 63 63 rfl
 rw [i63] at his63
 cases R with
 | no b =>
  unfold RdT at hR ⊢
  generalize wAt s a = k at *
  generalize wOf s a = w at *
  unfold rBox at hwd hR his33 his63 ⊢
  refine xfn_of_swp (N:=104) Tryd.func122 rfl (by decide) rfl (by simp) (fun C h0=>?_)
  simp only [argS]
  repeat' (first|(with_reducible apply zz1)|((with_reducible apply zz2);rfl;intro K' hK';simp only [WA,simprocAttr];(repeat (constructor;focus (clear hK';intros;simp_all;done)));(try (apply hK';clear hK' K')))|((with_reducible apply zz3);rfl;all_goals (intro h;try exact absurd h (by decide))))
  refine stop_cS rfl (by simp only [UA,WA,simprocAttr]) (hwd) ?_
  simp only [WA,simprocAttr,UM, ]
  (try (apply hK';clear hK' K'))
  repeat' (first|(with_reducible apply zz1)|((with_reducible apply zz2);rfl;intro K' hK';simp only [WA,simprocAttr,n1,n2];(repeat (constructor;focus (clear hK';intros;simp_all;done)));(try (apply hK';clear hK' K')))|((with_reducible apply zz3);rfl;all_goals (intro h;try exact absurd h (by decide))))
  refine stop_callF rfl (by simp only [WA,simprocAttr]) rfl rfl (hv) ?_
  simp only [WA,simprocAttr,inX,dropS, ]
  (repeat (constructor;focus (clear hK';intros;simp_all;done)))
  (try (apply hK';clear hK' K'))
  repeat' (first|(with_reducible apply zz1)|((with_reducible apply zz2);rfl;intro K' hK';simp only [WA,simprocAttr];(repeat (constructor;focus (clear hK';intros;simp_all;done)));(try (apply hK';clear hK' K')))|((with_reducible apply zz3);rfl;all_goals (intro h;try exact absurd h (by decide))))
  (with_reducible refine zw17 ?_ (fun K' hK'=>?_)
   · rfl
   simp only [WA,simprocAttr,n5,false_implies,Bool.false_eq_true,implies_true,Bool.not_true,Bool.not_false,Bool.true_and,Bool.and_true,Bool.false_and,Bool.and_false,cond_true,cond_false]
   (repeat (constructor;focus (clear hK';intros;simp_all;done))))
  refine stop_guard rfl ?_
  refine stop_cS rfl (by simp only [UA,WA,simprocAttr]) (his33) ?_
  simp only [WA,simprocAttr,UM,false_implies,Bool.false_eq_true,implies_true,Bool.not_true,Bool.not_false,Bool.true_and,Bool.and_true,Bool.false_and,Bool.and_false,cond_true,cond_false]
  (try (apply hK';clear hK' K'))
  repeat' (first|(with_reducible apply zz1)|((with_reducible apply zz2);rfl;intro K' hK';simp only [WA,simprocAttr];(repeat (constructor;focus (clear hK';intros;simp_all;done)));(try (apply hK';clear hK' K')))|((with_reducible apply zz3);rfl;all_goals (intro h;try exact absurd h (by decide))))
  (with_reducible refine zw17 ?_ (fun K' hK'=>?_)
   · rfl
   simp only [WA,simprocAttr,n5,false_implies,Bool.false_eq_true,implies_true,Bool.not_true,Bool.not_false,Bool.true_and,Bool.and_true,Bool.false_and,Bool.and_false,cond_true,cond_false]
   (repeat (constructor;focus (clear hK';intros;simp_all;done))))
  refine stop_guard rfl ?_
  refine stop_cS rfl (by simp only [UA,WA,simprocAttr]) (his63) ?_
  simp only [WA,simprocAttr,UM,false_implies,Bool.false_eq_true,implies_true,Bool.not_true,Bool.not_false,Bool.true_and,Bool.and_true,Bool.false_and,Bool.and_false,cond_true,cond_false]
  (try (apply hK';clear hK' K'))
  repeat' (first|(with_reducible first|apply zw0|apply zw1|apply zw2|apply zw3|apply zw4|apply zw5|apply zw6|apply zw7|apply zw8|apply zw9|apply zw10|apply zw11|apply zw13|apply zw14)|((with_reducible refine zw12 ?_ ?_);rfl)|((with_reducible refine swp_regionX ?_ ?_ (fun K' hK' hP'=>?_));rfl;rfl;simp only [WA,simprocAttr];(repeat (constructor;focus (clear hK' hP';intros;simp_all;done)));(try (apply hK';clear hK' hP';clear K')))|((with_reducible refine zw15 ?_ ?_);rfl;refine ⟨_,rfl,fun h=>?_,fun h=>?_⟩ <;> try exact absurd h (by decide)))
  refine stop_cX rfl (by simp only [UA,WA,simprocAttr]) (hR) ?_
  simp only [UM,WA,simprocAttr]
  refine hP' _ _ _ ?_
  repeat (first | refine kseq_p ?_ | refine kblk_p ?_ | refine kloop_p ?_)
  simp only [KpanS,US,WA,simprocAttr,h0]
 | ok x b =>
  unfold RdT at hR ⊢
  obtain ⟨xk,xso,xnm,xls,xl⟩:=x
  simp only [Tp.d] at hR ⊢
  generalize wAt s a = k at *
  generalize wOf s a = w at *
  unfold rBox at hwd hR his33 his63 ⊢
  refine sfn_of_swp (N:=104) Tryd.func122 rfl (by decide) rfl rfl (by simp) (fun C h0=>?_)
  simp only [argS]
  repeat' (first|(with_reducible apply zz1)|((with_reducible apply zz2);rfl;intro K' hK';simp only [WA,simprocAttr];(repeat (constructor;focus (clear hK';intros;simp_all;done)));(try (apply hK';clear hK' K')))|((with_reducible apply zz3);rfl;all_goals (intro h;try exact absurd h (by decide))))
  refine stop_cS rfl (by simp only [UA,WA,simprocAttr]) (hwd) ?_
  simp only [WA,simprocAttr,UM, ]
  (try (apply hK';clear hK' K'))
  repeat' (first|(with_reducible apply zz1)|((with_reducible apply zz2);rfl;intro K' hK';simp only [WA,simprocAttr,n1,n2];(repeat (constructor;focus (clear hK';intros;simp_all;done)));(try (apply hK';clear hK' K')))|((with_reducible apply zz3);rfl;all_goals (intro h;try exact absurd h (by decide))))
  refine stop_callF rfl (by simp only [WA,simprocAttr]) rfl rfl (hv) ?_
  simp only [WA,simprocAttr,inX,dropS, ]
  (repeat (constructor;focus (clear hK';intros;simp_all;done)))
  (try (apply hK';clear hK' K'))
  repeat' (first|(with_reducible apply zz1)|((with_reducible apply zz2);rfl;intro K' hK';simp only [WA,simprocAttr];(repeat (constructor;focus (clear hK';intros;simp_all;done)));(try (apply hK';clear hK' K')))|((with_reducible apply zz3);rfl;all_goals (intro h;try exact absurd h (by decide))))
  (with_reducible refine zw17 ?_ (fun K' hK'=>?_)
   · rfl
   simp only [WA,simprocAttr,n5,false_implies,Bool.false_eq_true,implies_true,Bool.not_true,Bool.not_false,Bool.true_and,Bool.and_true,Bool.false_and,Bool.and_false,cond_true,cond_false]
   (repeat (constructor;focus (clear hK';intros;simp_all;done))))
  refine stop_guard rfl ?_
  refine stop_cS rfl (by simp only [UA,WA,simprocAttr]) (his33) ?_
  simp only [WA,simprocAttr,UM,false_implies,Bool.false_eq_true,implies_true,Bool.not_true,Bool.not_false,Bool.true_and,Bool.and_true,Bool.false_and,Bool.and_false,cond_true,cond_false]
  (try (apply hK';clear hK' K'))
  repeat' (first|(with_reducible apply zz1)|((with_reducible apply zz2);rfl;intro K' hK';simp only [WA,simprocAttr];(repeat (constructor;focus (clear hK';intros;simp_all;done)));(try (apply hK';clear hK' K')))|((with_reducible apply zz3);rfl;all_goals (intro h;try exact absurd h (by decide))))
  (with_reducible refine zw17 ?_ (fun K' hK'=>?_)
   · rfl
   simp only [WA,simprocAttr,n5,false_implies,Bool.false_eq_true,implies_true,Bool.not_true,Bool.not_false,Bool.true_and,Bool.and_true,Bool.false_and,Bool.and_false,cond_true,cond_false]
   (repeat (constructor;focus (clear hK';intros;simp_all;done))))
  refine stop_guard rfl ?_
  refine stop_cS rfl (by simp only [UA,WA,simprocAttr]) (his63) ?_
  simp only [WA,simprocAttr,UM,false_implies,Bool.false_eq_true,implies_true,Bool.not_true,Bool.not_false,Bool.true_and,Bool.and_true,Bool.false_and,Bool.and_false,cond_true,cond_false]
  (try (apply hK';clear hK' K'))
  repeat' (first|(with_reducible apply zz1)|((with_reducible apply zz2);rfl;intro K' hK';simp only [WA,simprocAttr];(repeat (constructor;focus (clear hK';intros;simp_all;done)));(try (apply hK';clear hK' K')))|((with_reducible apply zz3);rfl;all_goals (intro h;try exact absurd h (by decide))))
  refine stop_cS rfl (by simp only [UA,WA,simprocAttr]) (hR) ?_
  simp only [WA,simprocAttr,UM, ]
  (try (apply hK';clear hK' K'))
  repeat' (first|(with_reducible apply zz1)|((with_reducible apply zz2);rfl;intro K' hK';simp only [WA,simprocAttr];(repeat (constructor;focus (clear hK';intros;simp_all;done)));(try (apply hK';clear hK' K')))|((with_reducible apply zz3);rfl;all_goals (intro h;try exact absurd h (by decide))))
  simp only [KretS,retL,retOne,oneV,US,WA,simprocAttr,h0]
set_option maxHeartbeats 8000000 in
set_option maxRecDepth 100000 in
theorem one_sign43 (Γ : Gl) (s : ByteArray) (hs : s.size ≤ 2000) (a : Nat) (ha : a ≤ s.size) (n1 : ((wOf s a).toList == ByteArray.toList ⟨#[101,110,100]⟩) = false) (n2 : ((wOf s a).toList == ByteArray.toList ⟨#[114,101,99]⟩) = false) (n3 : isVarB (wOf s a) = false) (n5 : ((wOf s a).toList == ByteArray.toList ⟨#[]⟩) = true) (i33 : isB s a 33 = false) (i63 : isB s a 63 = false) (i43 : isB s a 43 = true) (R : Rt) (hR : RdT Γ s 138 [.d (iD 6)] (wAt s a) R) : RdT Γ s 122 [] a R:=by
 have hwd:=word_fn Γ s hs a ha
 obtain ⟨hk1,hk2⟩:=wAt_in s a ha
 have hwz:=wOf_in s a ha
 have hw3 : IntKind.i64.wrap ((wAt s a : Int) + 3) = ((wAt s a + 3 : Nat) : Int):=by rw [wrap_in (by omega) (by omega)];omega
 have hwr : IntKind.i64.wrap ((wAt s a : Int) + ((wOf s a).size : Int)) = ((wAt s a + (wOf s a).size : Nat) : Int):=by rw [wrap_in (by omega) (by omega)];omega
 have hv:=isVar_fn Γ (wOf s a)
 rw [n3] at hv
 have his33:=one_at Γ s hs a ha 33 33 rfl
 rw [i33] at his33
 have his63:=one_at Γ s hs a ha 63 63 rfl
 rw [i63] at his63
 have his43:=one_at Γ s hs a ha 43 43 rfl
 rw [i43] at his43
 cases R with
 | no b =>
  unfold RdT at hR ⊢
  generalize wAt s a = k at *
  generalize wOf s a = w at *
  unfold rBox at hwd hR his33 his63 his43 ⊢
  refine xfn_of_swp (N:=104) Tryd.func122 rfl (by decide) rfl (by simp) (fun C h0=>?_)
  simp only [argS]
  repeat' (first|(with_reducible apply zz1)|((with_reducible apply zz2);rfl;intro K' hK';simp only [WA,simprocAttr];(repeat (constructor;focus (clear hK';intros;simp_all;done)));(try (apply hK';clear hK' K')))|((with_reducible apply zz3);rfl;all_goals (intro h;try exact absurd h (by decide))))
  refine stop_cS rfl (by simp only [UA,WA,simprocAttr]) (hwd) ?_
  simp only [WA,simprocAttr,UM, ]
  (try (apply hK';clear hK' K'))
  repeat' (first|(with_reducible apply zz1)|((with_reducible apply zz2);rfl;intro K' hK';simp only [WA,simprocAttr,n1,n2];(repeat (constructor;focus (clear hK';intros;simp_all;done)));(try (apply hK';clear hK' K')))|((with_reducible apply zz3);rfl;all_goals (intro h;try exact absurd h (by decide))))
  refine stop_callF rfl (by simp only [WA,simprocAttr]) rfl rfl (hv) ?_
  simp only [WA,simprocAttr,inX,dropS, ]
  (repeat (constructor;focus (clear hK';intros;simp_all;done)))
  (try (apply hK';clear hK' K'))
  repeat' (first|(with_reducible apply zz1)|((with_reducible apply zz2);rfl;intro K' hK';simp only [WA,simprocAttr];(repeat (constructor;focus (clear hK';intros;simp_all;done)));(try (apply hK';clear hK' K')))|((with_reducible apply zz3);rfl;all_goals (intro h;try exact absurd h (by decide))))
  (with_reducible refine zw17 ?_ (fun K' hK'=>?_)
   · rfl
   simp only [WA,simprocAttr,n5,false_implies,Bool.false_eq_true,implies_true,Bool.not_true,Bool.not_false,Bool.true_and,Bool.and_true,Bool.false_and,Bool.and_false,cond_true,cond_false]
   (repeat (constructor;focus (clear hK';intros;simp_all;done))))
  refine stop_guard rfl ?_
  refine stop_cS rfl (by simp only [UA,WA,simprocAttr]) (his33) ?_
  simp only [WA,simprocAttr,UM,false_implies,Bool.false_eq_true,implies_true,Bool.not_true,Bool.not_false,Bool.true_and,Bool.and_true,Bool.false_and,Bool.and_false,cond_true,cond_false]
  (try (apply hK';clear hK' K'))
  repeat' (first|(with_reducible apply zz1)|((with_reducible apply zz2);rfl;intro K' hK';simp only [WA,simprocAttr];(repeat (constructor;focus (clear hK';intros;simp_all;done)));(try (apply hK';clear hK' K')))|((with_reducible apply zz3);rfl;all_goals (intro h;try exact absurd h (by decide))))
  (with_reducible refine zw17 ?_ (fun K' hK'=>?_)
   · rfl
   simp only [WA,simprocAttr,n5,false_implies,Bool.false_eq_true,implies_true,Bool.not_true,Bool.not_false,Bool.true_and,Bool.and_true,Bool.false_and,Bool.and_false,cond_true,cond_false]
   (repeat (constructor;focus (clear hK';intros;simp_all;done))))
  refine stop_guard rfl ?_
  refine stop_cS rfl (by simp only [UA,WA,simprocAttr]) (his63) ?_
  simp only [WA,simprocAttr,UM,false_implies,Bool.false_eq_true,implies_true,Bool.not_true,Bool.not_false,Bool.true_and,Bool.and_true,Bool.false_and,Bool.and_false,cond_true,cond_false]
  (try (apply hK';clear hK' K'))
  repeat' (first|(with_reducible apply zz1)|((with_reducible apply zz2);rfl;intro K' hK';simp only [WA,simprocAttr];(repeat (constructor;focus (clear hK';intros;simp_all;done)));(try (apply hK';clear hK' K')))|((with_reducible apply zz3);rfl;all_goals (intro h;try exact absurd h (by decide))))
  (with_reducible refine zw17 ?_ (fun K' hK'=>?_)
   · rfl
   simp only [WA,simprocAttr,n5,false_implies,Bool.false_eq_true,implies_true,Bool.not_true,Bool.not_false,Bool.true_and,Bool.and_true,Bool.false_and,Bool.and_false,cond_true,cond_false]
   (repeat (constructor;focus (clear hK';intros;simp_all;done))))
  refine stop_guard rfl ?_
  refine stop_cS rfl (by simp only [UA,WA,simprocAttr]) (his43) ?_
  simp only [WA,simprocAttr,UM,false_implies,Bool.false_eq_true,implies_true,Bool.not_true,Bool.not_false,Bool.true_and,Bool.and_true,Bool.false_and,Bool.and_false,cond_true,cond_false]
  (try (apply hK';clear hK' K'))
  repeat' (first|(with_reducible first|apply zw0|apply zw1|apply zw2|apply zw3|apply zw4|apply zw5|apply zw6|apply zw7|apply zw8|apply zw9|apply zw10|apply zw11|apply zw13|apply zw14)|((with_reducible refine zw12 ?_ ?_);rfl)|((with_reducible refine swp_regionX ?_ ?_ (fun K' hK' hP'=>?_));rfl;rfl;simp only [WA,simprocAttr];(repeat (constructor;focus (clear hK' hP';intros;simp_all;done)));(try (apply hK';clear hK' hP';clear K')))|((with_reducible refine zw15 ?_ ?_);rfl;refine ⟨_,rfl,fun h=>?_,fun h=>?_⟩ <;> try exact absurd h (by decide)))
  refine stop_cX rfl (by simp only [UA,WA,simprocAttr]) (hR) ?_
  simp only [UM,WA,simprocAttr]
  refine hP' _ _ _ ?_
  repeat (first | refine kseq_p ?_ | refine kblk_p ?_ | refine kloop_p ?_)
  simp only [KpanS,US,WA,simprocAttr,h0]
 | ok x b =>
  unfold RdT at hR ⊢
  obtain ⟨xk,xso,xnm,xls,xl⟩:=x
  simp only [Tp.d] at hR ⊢
  generalize wAt s a = k at *
  generalize wOf s a = w at *
  unfold rBox at hwd hR his33 his63 his43 ⊢
  refine sfn_of_swp (N:=104) Tryd.func122 rfl (by decide) rfl rfl (by simp) (fun C h0=>?_)
  simp only [argS]
  repeat' (first|(with_reducible apply zz1)|((with_reducible apply zz2);rfl;intro K' hK';simp only [WA,simprocAttr];(repeat (constructor;focus (clear hK';intros;simp_all;done)));(try (apply hK';clear hK' K')))|((with_reducible apply zz3);rfl;all_goals (intro h;try exact absurd h (by decide))))
  refine stop_cS rfl (by simp only [UA,WA,simprocAttr]) (hwd) ?_
  simp only [WA,simprocAttr,UM, ]
  (try (apply hK';clear hK' K'))
  repeat' (first|(with_reducible apply zz1)|((with_reducible apply zz2);rfl;intro K' hK';simp only [WA,simprocAttr,n1,n2];(repeat (constructor;focus (clear hK';intros;simp_all;done)));(try (apply hK';clear hK' K')))|((with_reducible apply zz3);rfl;all_goals (intro h;try exact absurd h (by decide))))
  refine stop_callF rfl (by simp only [WA,simprocAttr]) rfl rfl (hv) ?_
  simp only [WA,simprocAttr,inX,dropS, ]
  (repeat (constructor;focus (clear hK';intros;simp_all;done)))
  (try (apply hK';clear hK' K'))
  repeat' (first|(with_reducible apply zz1)|((with_reducible apply zz2);rfl;intro K' hK';simp only [WA,simprocAttr];(repeat (constructor;focus (clear hK';intros;simp_all;done)));(try (apply hK';clear hK' K')))|((with_reducible apply zz3);rfl;all_goals (intro h;try exact absurd h (by decide))))
  (with_reducible refine zw17 ?_ (fun K' hK'=>?_)
   · rfl
   simp only [WA,simprocAttr,n5,false_implies,Bool.false_eq_true,implies_true,Bool.not_true,Bool.not_false,Bool.true_and,Bool.and_true,Bool.false_and,Bool.and_false,cond_true,cond_false]
   (repeat (constructor;focus (clear hK';intros;simp_all;done))))
  refine stop_guard rfl ?_
  refine stop_cS rfl (by simp only [UA,WA,simprocAttr]) (his33) ?_
  simp only [WA,simprocAttr,UM,false_implies,Bool.false_eq_true,implies_true,Bool.not_true,Bool.not_false,Bool.true_and,Bool.and_true,Bool.false_and,Bool.and_false,cond_true,cond_false]
  (try (apply hK';clear hK' K'))
  repeat' (first|(with_reducible apply zz1)|((with_reducible apply zz2);rfl;intro K' hK';simp only [WA,simprocAttr];(repeat (constructor;focus (clear hK';intros;simp_all;done)));(try (apply hK';clear hK' K')))|((with_reducible apply zz3);rfl;all_goals (intro h;try exact absurd h (by decide))))
  (with_reducible refine zw17 ?_ (fun K' hK'=>?_)
   · rfl
   simp only [WA,simprocAttr,n5,false_implies,Bool.false_eq_true,implies_true,Bool.not_true,Bool.not_false,Bool.true_and,Bool.and_true,Bool.false_and,Bool.and_false,cond_true,cond_false]
   (repeat (constructor;focus (clear hK';intros;simp_all;done))))
  refine stop_guard rfl ?_
  refine stop_cS rfl (by simp only [UA,WA,simprocAttr]) (his63) ?_
  simp only [WA,simprocAttr,UM,false_implies,Bool.false_eq_true,implies_true,Bool.not_true,Bool.not_false,Bool.true_and,Bool.and_true,Bool.false_and,Bool.and_false,cond_true,cond_false]
  (try (apply hK';clear hK' K'))
  repeat' (first|(with_reducible apply zz1)|((with_reducible apply zz2);rfl;intro K' hK';simp only [WA,simprocAttr];(repeat (constructor;focus (clear hK';intros;simp_all;done)));(try (apply hK';clear hK' K')))|((with_reducible apply zz3);rfl;all_goals (intro h;try exact absurd h (by decide))))
  (with_reducible refine zw17 ?_ (fun K' hK'=>?_)
   · rfl
   simp only [WA,simprocAttr,n5,false_implies,Bool.false_eq_true,implies_true,Bool.not_true,Bool.not_false,Bool.true_and,Bool.and_true,Bool.false_and,Bool.and_false,cond_true,cond_false]
   (repeat (constructor;focus (clear hK';intros;simp_all;done))))
  refine stop_guard rfl ?_
  refine stop_cS rfl (by simp only [UA,WA,simprocAttr]) (his43) ?_
  simp only [WA,simprocAttr,UM,false_implies,Bool.false_eq_true,implies_true,Bool.not_true,Bool.not_false,Bool.true_and,Bool.and_true,Bool.false_and,Bool.and_false,cond_true,cond_false]
  (try (apply hK';clear hK' K'))
  repeat' (first|(with_reducible apply zz1)|((with_reducible apply zz2);rfl;intro K' hK';simp only [WA,simprocAttr];(repeat (constructor;focus (clear hK';intros;simp_all;done)));(try (apply hK';clear hK' K')))|((with_reducible apply zz3);rfl;all_goals (intro h;try exact absurd h (by decide))))
  refine stop_cS rfl (by simp only [UA,WA,simprocAttr]) (hR) ?_
  simp only [WA,simprocAttr,UM, ]
  (try (apply hK';clear hK' K'))
  repeat' (first|(with_reducible apply zz1)|((with_reducible apply zz2);rfl;intro K' hK';simp only [WA,simprocAttr];(repeat (constructor;focus (clear hK';intros;simp_all;done)));(try (apply hK';clear hK' K')))|((with_reducible apply zz3);rfl;all_goals (intro h;try exact absurd h (by decide))))
  simp only [KretS,retL,retOne,oneV,US,WA,simprocAttr,h0]
set_option maxHeartbeats 8000000 in
set_option maxRecDepth 100000 in
theorem one_sign38 (Γ : Gl) (s : ByteArray) (hs : s.size ≤ 2000) (a : Nat) (ha : a ≤ s.size) (n1 : ((wOf s a).toList == ByteArray.toList ⟨#[101,110,100]⟩) = false) (n2 : ((wOf s a).toList == ByteArray.toList ⟨#[114,101,99]⟩) = false) (n3 : isVarB (wOf s a) = false) (n5 : ((wOf s a).toList == ByteArray.toList ⟨#[]⟩) = true) (i33 : isB s a 33 = false) (i63 : isB s a 63 = false) (i43 : isB s a 43 = false) (i38 : isB s a 38 = true) (R : Rt) (hR : RdT Γ s 138 [.d (iD 7)] (wAt s a) R) : RdT Γ s 122 [] a R:=by
 have hwd:=word_fn Γ s hs a ha
 obtain ⟨hk1,hk2⟩:=wAt_in s a ha
 have hwz:=wOf_in s a ha
 have hw3 : IntKind.i64.wrap ((wAt s a : Int) + 3) = ((wAt s a + 3 : Nat) : Int):=by rw [wrap_in (by omega) (by omega)];omega
 have hwr : IntKind.i64.wrap ((wAt s a : Int) + ((wOf s a).size : Int)) = ((wAt s a + (wOf s a).size : Nat) : Int):=by rw [wrap_in (by omega) (by omega)];omega
 have hv:=isVar_fn Γ (wOf s a)
 rw [n3] at hv
 have his33:=one_at Γ s hs a ha 33 33 rfl
 rw [i33] at his33
 have his63:=one_at Γ s hs a ha 63 63 rfl
 rw [i63] at his63
 have his43:=one_at Γ s hs a ha 43 43 rfl
 rw [i43] at his43
 have his38:=one_at Γ s hs a ha 38 38 rfl
 rw [i38] at his38
 cases R with
 | no b =>
  unfold RdT at hR ⊢
  generalize wAt s a = k at *
  generalize wOf s a = w at *
  unfold rBox at hwd hR his33 his63 his43 his38 ⊢
  refine xfn_of_swp (N:=104) Tryd.func122 rfl (by decide) rfl (by simp) (fun C h0=>?_)
  simp only [argS]
  repeat' (first|(with_reducible apply zz1)|((with_reducible apply zz2);rfl;intro K' hK';simp only [WA,simprocAttr];(repeat (constructor;focus (clear hK';intros;simp_all;done)));(try (apply hK';clear hK' K')))|((with_reducible apply zz3);rfl;all_goals (intro h;try exact absurd h (by decide))))
  refine stop_cS rfl (by simp only [UA,WA,simprocAttr]) (hwd) ?_
  simp only [WA,simprocAttr,UM, ]
  (try (apply hK';clear hK' K'))
  repeat' (first|(with_reducible apply zz1)|((with_reducible apply zz2);rfl;intro K' hK';simp only [WA,simprocAttr,n1,n2];(repeat (constructor;focus (clear hK';intros;simp_all;done)));(try (apply hK';clear hK' K')))|((with_reducible apply zz3);rfl;all_goals (intro h;try exact absurd h (by decide))))
  refine stop_callF rfl (by simp only [WA,simprocAttr]) rfl rfl (hv) ?_
  simp only [WA,simprocAttr,inX,dropS, ]
  (repeat (constructor;focus (clear hK';intros;simp_all;done)))
  (try (apply hK';clear hK' K'))
  repeat' (first|(with_reducible apply zz1)|((with_reducible apply zz2);rfl;intro K' hK';simp only [WA,simprocAttr];(repeat (constructor;focus (clear hK';intros;simp_all;done)));(try (apply hK';clear hK' K')))|((with_reducible apply zz3);rfl;all_goals (intro h;try exact absurd h (by decide))))
  (with_reducible refine zw17 ?_ (fun K' hK'=>?_)
   · rfl
   simp only [WA,simprocAttr,n5,false_implies,Bool.false_eq_true,implies_true,Bool.not_true,Bool.not_false,Bool.true_and,Bool.and_true,Bool.false_and,Bool.and_false,cond_true,cond_false]
   (repeat (constructor;focus (clear hK';intros;simp_all;done))))
  refine stop_guard rfl ?_
  refine stop_cS rfl (by simp only [UA,WA,simprocAttr]) (his33) ?_
  simp only [WA,simprocAttr,UM,false_implies,Bool.false_eq_true,implies_true,Bool.not_true,Bool.not_false,Bool.true_and,Bool.and_true,Bool.false_and,Bool.and_false,cond_true,cond_false]
  (try (apply hK';clear hK' K'))
  repeat' (first|(with_reducible apply zz1)|((with_reducible apply zz2);rfl;intro K' hK';simp only [WA,simprocAttr];(repeat (constructor;focus (clear hK';intros;simp_all;done)));(try (apply hK';clear hK' K')))|((with_reducible apply zz3);rfl;all_goals (intro h;try exact absurd h (by decide))))
  (with_reducible refine zw17 ?_ (fun K' hK'=>?_)
   · rfl
   simp only [WA,simprocAttr,n5,false_implies,Bool.false_eq_true,implies_true,Bool.not_true,Bool.not_false,Bool.true_and,Bool.and_true,Bool.false_and,Bool.and_false,cond_true,cond_false]
   (repeat (constructor;focus (clear hK';intros;simp_all;done))))
  refine stop_guard rfl ?_
  refine stop_cS rfl (by simp only [UA,WA,simprocAttr]) (his63) ?_
  simp only [WA,simprocAttr,UM,false_implies,Bool.false_eq_true,implies_true,Bool.not_true,Bool.not_false,Bool.true_and,Bool.and_true,Bool.false_and,Bool.and_false,cond_true,cond_false]
  (try (apply hK';clear hK' K'))
  repeat' (first|(with_reducible apply zz1)|((with_reducible apply zz2);rfl;intro K' hK';simp only [WA,simprocAttr];(repeat (constructor;focus (clear hK';intros;simp_all;done)));(try (apply hK';clear hK' K')))|((with_reducible apply zz3);rfl;all_goals (intro h;try exact absurd h (by decide))))
  (with_reducible refine zw17 ?_ (fun K' hK'=>?_)
   · rfl
   simp only [WA,simprocAttr,n5,false_implies,Bool.false_eq_true,implies_true,Bool.not_true,Bool.not_false,Bool.true_and,Bool.and_true,Bool.false_and,Bool.and_false,cond_true,cond_false]
   (repeat (constructor;focus (clear hK';intros;simp_all;done))))
  refine stop_guard rfl ?_
  refine stop_cS rfl (by simp only [UA,WA,simprocAttr]) (his43) ?_
  simp only [WA,simprocAttr,UM,false_implies,Bool.false_eq_true,implies_true,Bool.not_true,Bool.not_false,Bool.true_and,Bool.and_true,Bool.false_and,Bool.and_false,cond_true,cond_false]
  (try (apply hK';clear hK' K'))
  repeat' (first|(with_reducible apply zz1)|((with_reducible apply zz2);rfl;intro K' hK';simp only [WA,simprocAttr];(repeat (constructor;focus (clear hK';intros;simp_all;done)));(try (apply hK';clear hK' K')))|((with_reducible apply zz3);rfl;all_goals (intro h;try exact absurd h (by decide))))
  (with_reducible refine zw17 ?_ (fun K' hK'=>?_)
   · rfl
   simp only [WA,simprocAttr,n5,false_implies,Bool.false_eq_true,implies_true,Bool.not_true,Bool.not_false,Bool.true_and,Bool.and_true,Bool.false_and,Bool.and_false,cond_true,cond_false]
   (repeat (constructor;focus (clear hK';intros;simp_all;done))))
  refine stop_guard rfl ?_
  refine stop_cS rfl (by simp only [UA,WA,simprocAttr]) (his38) ?_
  simp only [WA,simprocAttr,UM,false_implies,Bool.false_eq_true,implies_true,Bool.not_true,Bool.not_false,Bool.true_and,Bool.and_true,Bool.false_and,Bool.and_false,cond_true,cond_false]
  (try (apply hK';clear hK' K'))
  repeat' (first|(with_reducible first|apply zw0|apply zw1|apply zw2|apply zw3|apply zw4|apply zw5|apply zw6|apply zw7|apply zw8|apply zw9|apply zw10|apply zw11|apply zw13|apply zw14)|((with_reducible refine zw12 ?_ ?_);rfl)|((with_reducible refine swp_regionX ?_ ?_ (fun K' hK' hP'=>?_));rfl;rfl;simp only [WA,simprocAttr];(repeat (constructor;focus (clear hK' hP';intros;simp_all;done)));(try (apply hK';clear hK' hP';clear K')))|((with_reducible refine zw15 ?_ ?_);rfl;refine ⟨_,rfl,fun h=>?_,fun h=>?_⟩ <;> try exact absurd h (by decide)))
  refine stop_cX rfl (by simp only [UA,WA,simprocAttr]) (hR) ?_
  simp only [UM,WA,simprocAttr]
  refine hP' _ _ _ ?_
  repeat (first | refine kseq_p ?_ | refine kblk_p ?_ | refine kloop_p ?_)
  simp only [KpanS,US,WA,simprocAttr,h0]
 | ok x b =>
  unfold RdT at hR ⊢
  obtain ⟨xk,xso,xnm,xls,xl⟩:=x
  simp only [Tp.d] at hR ⊢
  generalize wAt s a = k at *
  generalize wOf s a = w at *
  unfold rBox at hwd hR his33 his63 his43 his38 ⊢
  refine sfn_of_swp (N:=104) Tryd.func122 rfl (by decide) rfl rfl (by simp) (fun C h0=>?_)
  simp only [argS]
  repeat' (first|(with_reducible apply zz1)|((with_reducible apply zz2);rfl;intro K' hK';simp only [WA,simprocAttr];(repeat (constructor;focus (clear hK';intros;simp_all;done)));(try (apply hK';clear hK' K')))|((with_reducible apply zz3);rfl;all_goals (intro h;try exact absurd h (by decide))))
  refine stop_cS rfl (by simp only [UA,WA,simprocAttr]) (hwd) ?_
  simp only [WA,simprocAttr,UM, ]
  (try (apply hK';clear hK' K'))
  repeat' (first|(with_reducible apply zz1)|((with_reducible apply zz2);rfl;intro K' hK';simp only [WA,simprocAttr,n1,n2];(repeat (constructor;focus (clear hK';intros;simp_all;done)));(try (apply hK';clear hK' K')))|((with_reducible apply zz3);rfl;all_goals (intro h;try exact absurd h (by decide))))
  refine stop_callF rfl (by simp only [WA,simprocAttr]) rfl rfl (hv) ?_
  simp only [WA,simprocAttr,inX,dropS, ]
  (repeat (constructor;focus (clear hK';intros;simp_all;done)))
  (try (apply hK';clear hK' K'))
  repeat' (first|(with_reducible apply zz1)|((with_reducible apply zz2);rfl;intro K' hK';simp only [WA,simprocAttr];(repeat (constructor;focus (clear hK';intros;simp_all;done)));(try (apply hK';clear hK' K')))|((with_reducible apply zz3);rfl;all_goals (intro h;try exact absurd h (by decide))))
  (with_reducible refine zw17 ?_ (fun K' hK'=>?_)
   · rfl
   simp only [WA,simprocAttr,n5,false_implies,Bool.false_eq_true,implies_true,Bool.not_true,Bool.not_false,Bool.true_and,Bool.and_true,Bool.false_and,Bool.and_false,cond_true,cond_false]
   (repeat (constructor;focus (clear hK';intros;simp_all;done))))
  refine stop_guard rfl ?_
  refine stop_cS rfl (by simp only [UA,WA,simprocAttr]) (his33) ?_
  simp only [WA,simprocAttr,UM,false_implies,Bool.false_eq_true,implies_true,Bool.not_true,Bool.not_false,Bool.true_and,Bool.and_true,Bool.false_and,Bool.and_false,cond_true,cond_false]
  (try (apply hK';clear hK' K'))
  repeat' (first|(with_reducible apply zz1)|((with_reducible apply zz2);rfl;intro K' hK';simp only [WA,simprocAttr];(repeat (constructor;focus (clear hK';intros;simp_all;done)));(try (apply hK';clear hK' K')))|((with_reducible apply zz3);rfl;all_goals (intro h;try exact absurd h (by decide))))
  (with_reducible refine zw17 ?_ (fun K' hK'=>?_)
   · rfl
   simp only [WA,simprocAttr,n5,false_implies,Bool.false_eq_true,implies_true,Bool.not_true,Bool.not_false,Bool.true_and,Bool.and_true,Bool.false_and,Bool.and_false,cond_true,cond_false]
   (repeat (constructor;focus (clear hK';intros;simp_all;done))))
  refine stop_guard rfl ?_
  refine stop_cS rfl (by simp only [UA,WA,simprocAttr]) (his63) ?_
  simp only [WA,simprocAttr,UM,false_implies,Bool.false_eq_true,implies_true,Bool.not_true,Bool.not_false,Bool.true_and,Bool.and_true,Bool.false_and,Bool.and_false,cond_true,cond_false]
  (try (apply hK';clear hK' K'))
  repeat' (first|(with_reducible apply zz1)|((with_reducible apply zz2);rfl;intro K' hK';simp only [WA,simprocAttr];(repeat (constructor;focus (clear hK';intros;simp_all;done)));(try (apply hK';clear hK' K')))|((with_reducible apply zz3);rfl;all_goals (intro h;try exact absurd h (by decide))))
  (with_reducible refine zw17 ?_ (fun K' hK'=>?_)
   · rfl
   simp only [WA,simprocAttr,n5,false_implies,Bool.false_eq_true,implies_true,Bool.not_true,Bool.not_false,Bool.true_and,Bool.and_true,Bool.false_and,Bool.and_false,cond_true,cond_false]
   (repeat (constructor;focus (clear hK';intros;simp_all;done))))
  refine stop_guard rfl ?_
  refine stop_cS rfl (by simp only [UA,WA,simprocAttr]) (his43) ?_
  simp only [WA,simprocAttr,UM,false_implies,Bool.false_eq_true,implies_true,Bool.not_true,Bool.not_false,Bool.true_and,Bool.and_true,Bool.false_and,Bool.and_false,cond_true,cond_false]
  (try (apply hK';clear hK' K'))
  repeat' (first|(with_reducible apply zz1)|((with_reducible apply zz2);rfl;intro K' hK';simp only [WA,simprocAttr];(repeat (constructor;focus (clear hK';intros;simp_all;done)));(try (apply hK';clear hK' K')))|((with_reducible apply zz3);rfl;all_goals (intro h;try exact absurd h (by decide))))
  (with_reducible refine zw17 ?_ (fun K' hK'=>?_)
   · rfl
   simp only [WA,simprocAttr,n5,false_implies,Bool.false_eq_true,implies_true,Bool.not_true,Bool.not_false,Bool.true_and,Bool.and_true,Bool.false_and,Bool.and_false,cond_true,cond_false]
   (repeat (constructor;focus (clear hK';intros;simp_all;done))))
  refine stop_guard rfl ?_
  refine stop_cS rfl (by simp only [UA,WA,simprocAttr]) (his38) ?_
  simp only [WA,simprocAttr,UM,false_implies,Bool.false_eq_true,implies_true,Bool.not_true,Bool.not_false,Bool.true_and,Bool.and_true,Bool.false_and,Bool.and_false,cond_true,cond_false]
  (try (apply hK';clear hK' K'))
  repeat' (first|(with_reducible apply zz1)|((with_reducible apply zz2);rfl;intro K' hK';simp only [WA,simprocAttr];(repeat (constructor;focus (clear hK';intros;simp_all;done)));(try (apply hK';clear hK' K')))|((with_reducible apply zz3);rfl;all_goals (intro h;try exact absurd h (by decide))))
  refine stop_cS rfl (by simp only [UA,WA,simprocAttr]) (hR) ?_
  simp only [WA,simprocAttr,UM, ]
  (try (apply hK';clear hK' K'))
  repeat' (first|(with_reducible apply zz1)|((with_reducible apply zz2);rfl;intro K' hK';simp only [WA,simprocAttr];(repeat (constructor;focus (clear hK';intros;simp_all;done)));(try (apply hK';clear hK' K')))|((with_reducible apply zz3);rfl;all_goals (intro h;try exact absurd h (by decide))))
  simp only [KretS,retL,retOne,oneV,US,WA,simprocAttr,h0]
set_option maxHeartbeats 8000000 in
set_option maxRecDepth 100000 in
theorem one_none (Γ : Gl) (s : ByteArray) (hs : s.size ≤ 2000) (a : Nat) (ha : a ≤ s.size) (n1 : ((wOf s a).toList == ByteArray.toList ⟨#[101,110,100]⟩) = false) (n2 : ((wOf s a).toList == ByteArray.toList ⟨#[114,101,99]⟩) = false) (n3 : isVarB (wOf s a) = false) (n5 : ((wOf s a).toList == ByteArray.toList ⟨#[]⟩) = true) (i33 : isB s a 33 = false) (i63 : isB s a 63 = false) (i43 : isB s a 43 = false) (i38 : isB s a 38 = false) : RdT Γ s 122 [] a (.no (wAt s a)):=by
 have hwd:=word_fn Γ s hs a ha
 obtain ⟨hk1,hk2⟩:=wAt_in s a ha
 have hwz:=wOf_in s a ha
 have hw3 : IntKind.i64.wrap ((wAt s a : Int) + 3) = ((wAt s a + 3 : Nat) : Int):=by rw [wrap_in (by omega) (by omega)];omega
 have hwr : IntKind.i64.wrap ((wAt s a : Int) + ((wOf s a).size : Int)) = ((wAt s a + (wOf s a).size : Nat) : Int):=by rw [wrap_in (by omega) (by omega)];omega
 have hv:=isVar_fn Γ (wOf s a)
 rw [n3] at hv
 have his33:=one_at Γ s hs a ha 33 33 rfl
 rw [i33] at his33
 have his63:=one_at Γ s hs a ha 63 63 rfl
 rw [i63] at his63
 have his43:=one_at Γ s hs a ha 43 43 rfl
 rw [i43] at his43
 have his38:=one_at Γ s hs a ha 38 38 rfl
 rw [i38] at his38
 have hf:=fail_fn Γ s (wAt s a : Nat)
 unfold RdT
 generalize wAt s a = k at *
 generalize wOf s a = w at *
 unfold rBox at hwd his33 his63 his43 his38 ⊢
 refine xfn_of_swp (N:=104) Tryd.func122 rfl (by decide) rfl (by simp) (fun C h0=>?_)
 simp only [argS]
 repeat' (first|(with_reducible apply zz1)|((with_reducible apply zz2);rfl;intro K' hK';simp only [WA,simprocAttr];(repeat (constructor;focus (clear hK';intros;simp_all;done)));(try (apply hK';clear hK' K')))|((with_reducible apply zz3);rfl;all_goals (intro h;try exact absurd h (by decide))))
 refine stop_cS rfl (by simp only [UA,WA,simprocAttr]) (hwd) ?_
 simp only [WA,simprocAttr,UM, ]
 (try (apply hK';clear hK' K'))
 repeat' (first|(with_reducible apply zz1)|((with_reducible apply zz2);rfl;intro K' hK';simp only [WA,simprocAttr,n1,n2];(repeat (constructor;focus (clear hK';intros;simp_all;done)));(try (apply hK';clear hK' K')))|((with_reducible apply zz3);rfl;all_goals (intro h;try exact absurd h (by decide))))
 refine stop_callF rfl (by simp only [WA,simprocAttr]) rfl rfl (hv) ?_
 simp only [WA,simprocAttr,inX,dropS, ]
 (repeat (constructor;focus (clear hK';intros;simp_all;done)))
 (try (apply hK';clear hK' K'))
 repeat' (first|(with_reducible apply zz1)|((with_reducible apply zz2);rfl;intro K' hK';simp only [WA,simprocAttr];(repeat (constructor;focus (clear hK';intros;simp_all;done)));(try (apply hK';clear hK' K')))|((with_reducible apply zz3);rfl;all_goals (intro h;try exact absurd h (by decide))))
 (with_reducible refine zw17 ?_ (fun K' hK'=>?_)
  · rfl
  simp only [WA,simprocAttr,n5,false_implies,Bool.false_eq_true,implies_true,Bool.not_true,Bool.not_false,Bool.true_and,Bool.and_true,Bool.false_and,Bool.and_false,cond_true,cond_false]
  (repeat (constructor;focus (clear hK';intros;simp_all;done))))
 refine stop_guard rfl ?_
 refine stop_cS rfl (by simp only [UA,WA,simprocAttr]) (his33) ?_
 simp only [WA,simprocAttr,UM,false_implies,Bool.false_eq_true,implies_true,Bool.not_true,Bool.not_false,Bool.true_and,Bool.and_true,Bool.false_and,Bool.and_false,cond_true,cond_false]
 (try (apply hK';clear hK' K'))
 repeat' (first|(with_reducible apply zz1)|((with_reducible apply zz2);rfl;intro K' hK';simp only [WA,simprocAttr];(repeat (constructor;focus (clear hK';intros;simp_all;done)));(try (apply hK';clear hK' K')))|((with_reducible apply zz3);rfl;all_goals (intro h;try exact absurd h (by decide))))
 (with_reducible refine zw17 ?_ (fun K' hK'=>?_)
  · rfl
  simp only [WA,simprocAttr,n5,false_implies,Bool.false_eq_true,implies_true,Bool.not_true,Bool.not_false,Bool.true_and,Bool.and_true,Bool.false_and,Bool.and_false,cond_true,cond_false]
  (repeat (constructor;focus (clear hK';intros;simp_all;done))))
 refine stop_guard rfl ?_
 refine stop_cS rfl (by simp only [UA,WA,simprocAttr]) (his63) ?_
 simp only [WA,simprocAttr,UM,false_implies,Bool.false_eq_true,implies_true,Bool.not_true,Bool.not_false,Bool.true_and,Bool.and_true,Bool.false_and,Bool.and_false,cond_true,cond_false]
 (try (apply hK';clear hK' K'))
 repeat' (first|(with_reducible apply zz1)|((with_reducible apply zz2);rfl;intro K' hK';simp only [WA,simprocAttr];(repeat (constructor;focus (clear hK';intros;simp_all;done)));(try (apply hK';clear hK' K')))|((with_reducible apply zz3);rfl;all_goals (intro h;try exact absurd h (by decide))))
 (with_reducible refine zw17 ?_ (fun K' hK'=>?_)
  · rfl
  simp only [WA,simprocAttr,n5,false_implies,Bool.false_eq_true,implies_true,Bool.not_true,Bool.not_false,Bool.true_and,Bool.and_true,Bool.false_and,Bool.and_false,cond_true,cond_false]
  (repeat (constructor;focus (clear hK';intros;simp_all;done))))
 refine stop_guard rfl ?_
 refine stop_cS rfl (by simp only [UA,WA,simprocAttr]) (his43) ?_
 simp only [WA,simprocAttr,UM,false_implies,Bool.false_eq_true,implies_true,Bool.not_true,Bool.not_false,Bool.true_and,Bool.and_true,Bool.false_and,Bool.and_false,cond_true,cond_false]
 (try (apply hK';clear hK' K'))
 repeat' (first|(with_reducible apply zz1)|((with_reducible apply zz2);rfl;intro K' hK';simp only [WA,simprocAttr];(repeat (constructor;focus (clear hK';intros;simp_all;done)));(try (apply hK';clear hK' K')))|((with_reducible apply zz3);rfl;all_goals (intro h;try exact absurd h (by decide))))
 (with_reducible refine zw17 ?_ (fun K' hK'=>?_)
  · rfl
  simp only [WA,simprocAttr,n5,false_implies,Bool.false_eq_true,implies_true,Bool.not_true,Bool.not_false,Bool.true_and,Bool.and_true,Bool.false_and,Bool.and_false,cond_true,cond_false]
  (repeat (constructor;focus (clear hK';intros;simp_all;done))))
 refine stop_guard rfl ?_
 refine stop_cS rfl (by simp only [UA,WA,simprocAttr]) (his38) ?_
 simp only [WA,simprocAttr,UM,false_implies,Bool.false_eq_true,implies_true,Bool.not_true,Bool.not_false,Bool.true_and,Bool.and_true,Bool.false_and,Bool.and_false,cond_true,cond_false]
 (try (apply hK';clear hK' K'))
 repeat' (first|(with_reducible first|apply zw0|apply zw1|apply zw2|apply zw3|apply zw4|apply zw5|apply zw6|apply zw7|apply zw8|apply zw9|apply zw10|apply zw11|apply zw13|apply zw14)|((with_reducible refine zw12 ?_ ?_);rfl)|((with_reducible refine swp_regionX ?_ ?_ (fun K' hK' hP'=>?_));rfl;rfl;simp only [WA,simprocAttr];(repeat (constructor;focus (clear hK' hP';intros;simp_all;done)));(try (apply hK';clear hK' hP';clear K')))|((with_reducible refine zw15 ?_ ?_);rfl;refine ⟨_,rfl,fun h=>?_,fun h=>?_⟩ <;> try exact absurd h (by decide)))
 refine stop_cX rfl (by simp only [UA,WA,simprocAttr]) (hf) ?_
 simp only [UM,WA,simprocAttr]
 refine hP' _ _ _ ?_
 repeat (first | refine kseq_p ?_ | refine kblk_p ?_ | refine kloop_p ?_)
 simp only [KpanS,US,WA,simprocAttr,h0]
end Go.Proofs.YtdcplkefmpjppaaDoor.GG
