/- global's reader: one conversation; a symbolic walk (printed by mkr6.py). -/
-- TYPESA
import Derived.Test.YtlnmkdbcdcknjaaDoorR5
set_option linter.unusedVariables false
set_option linter.unusedSimpArgs false
namespace Go.Proofs.YtlnmkdbcdcknjaaDoor.GG
open Go.RowKit Go.Sw
open Nat renaming reduceAdd → zn2
open Go.Sw renaming swp_seq → zw0, swp_block → zw1, swp_skip → zw2, swp_ret → zw3, swp_exit → zw4, swp_label → zw5, kseq_n → zw6, kseq_x → zw7, kseq_r → zw8, kblk_n → zw9, kblk_r → zw10, kblk_xs → zw11, kblk_xn → zw12, kloop_x → zw13, kloop_r → zw14, swp_cond → zw15

def pB (s : ByteArray) (a : Nat) : Nat:=wAt s a + (wOf s a).size
theorem pB_in (s : ByteArray) (a : Nat) (ha : a ≤ s.size) : a ≤ pB s a ∧ pB s a ≤ s.size:=by
 have h1:=wAt_in s a ha
 have h2:=wOf_inG s a ha
 unfold pB
 omega
theorem gw_ok (Γ : Gl) (s : ByteArray) (hs : s.size ≤ 2000) (a : Nat) (ha : a ≤ s.size) (f : FuncId) (caps : List SV) (h : RightF Γ f caps (wOf s a) true) : SFn Tryd.prog Γ 38 [.ref 0 0,.clo f caps] (rBox s a) (.d (sD (wOf s a))) (rBox s (pB s a)):=gword_ok Γ s hs a ha f caps h
theorem gsign_at (Γ : Gl) (s : ByteArray) (hs : s.size ≤ 2000) (b : Nat) (hb : b ≤ s.size) (c : Nat) (i : Int) (hi : (c : Int) = i) (h : isB s b c = true) : SFn Tryd.prog Γ 41 [.ref 0 0,.d (.v (.int .u8 i))] (rBox s (wAt s b)) (.tup []) (rBox s (wAt s b + 1)):=by
 have:=gsign_l Γ s hs (wAt s b) (wAt_in s b hb).2 c i hi (by rw [isB_atG];exact h)
 rw [wAt_againG] at this
 exact this
theorem gsign_xat (Γ : Gl) (s : ByteArray) (hs : s.size ≤ 2000) (b : Nat) (hb : b ≤ s.size) (c : Nat) (i : Int) (hi : (c : Int) = i) (h : isB s b c = false) : XFn Tryd.prog Γ 41 [.ref 0 0,.d (.v (.int .u8 i))] (rBox s (wAt s b)) (failG 3 (wAt s b : Nat)) (rBox s (wAt s b)):=by
 have:=gsign_x Γ s hs (wAt s b) (wAt_in s b hb).2 c i hi (by rw [isB_atG];exact h)
 rw [wAt_againG] at this
 exact this
def sw18 (i : Nat) : Nat:=if i = 1 then 8 else if i = 8 then 1 else i
theorem sw18_inj (i j : Nat) (h : sw18 i = sw18 j) : i = j:=by
 unfold sw18 at h
 (repeat' split at h) <;> omega
set_option maxHeartbeats 8000000 in
set_option maxRecDepth 100000 in
theorem one_bad0 (Γ : Gl) (s : ByteArray) (hs : s.size ≤ 2000) (a : Nat) (ha : a ≤ s.size) (hn : isNameB (wOf s a) = false) : RdG Γ s 22 [] a (.no (wAt s a)):=by
 have hwd:=gword_no Γ s hs a ha _ _ (hn ▸ right_name Γ (wOf s a))
 unfold RdG
 generalize wAt s a = c at *
 unfold rBox at hwd ⊢
 refine xfn_of_swp (N:=85) Tryd.func22 rfl (by decide) rfl (by simp) (fun C h0=>?_)
 simp only [argS]
 repeat' (first|(with_reducible first|apply zw0|apply zw1|apply zw2|apply zw3|apply zw4|apply zw5|apply zw6|apply zw7|apply zw8|apply zw9|apply zw10|apply zw11|apply zw13|apply zw14)|((with_reducible refine zw12 ?_ ?_);rfl)|((with_reducible refine swp_regionX ?_ ?_ (fun K' hK' hP'=>?_));rfl;rfl;simp only [WA,simprocAttr];(repeat (constructor;focus (clear hK' hP';intros;simp_all;done)));(try (apply hK';clear hK' hP';clear K')))|((with_reducible refine zw15 ?_ ?_);rfl;refine ⟨_,rfl,fun h=>?_,fun h=>?_⟩ <;> try exact absurd h (by decide)))
 refine stop_cX rfl (by simp only [UA,WA,simprocAttr]) (hwd) ?_
 simp only [UM,WA,simprocAttr]
 refine hP' _ _ _ ?_
 repeat (first | refine kseq_p ?_ | refine kblk_p ?_ | refine kloop_p ?_)
 simp only [KpanS,US,WA,simprocAttr,h0]
set_option maxHeartbeats 8000000 in
set_option maxRecDepth 100000 in
theorem one_end (Γ : Gl) (s : ByteArray) (hs : s.size ≤ 2000) (a : Nat) (ha : a ≤ s.size) (hn : isNameB (wOf s a) = true) (n1 : ((wOf s a).toList == ByteArray.toList ⟨#[101,110,100]⟩) = true) : RdG Γ s 22 [] a (.ok (.mk 1 noB noB 0 noB [] []) (pB s a)):=by
 have hwd:=gw_ok Γ s hs a ha _ _ (hn ▸ right_name Γ (wOf s a))
 obtain ⟨p0,p1⟩:=pB_in s a ha
 simp only [RdG,Gt.d,Gt.ds,List.map_nil]
 generalize pB s a = c1 at *
 generalize wOf s a = w at *
 unfold rBox at hwd ⊢
 refine sfn_of_swp (N:=85) Tryd.func22 rfl (by decide) rfl rfl (by simp) (fun C h0=>?_)
 simp only [argS]
 repeat' (first|(with_reducible apply zz1)|((with_reducible apply zz2);rfl;intro K' hK';simp only [WA,simprocAttr];(repeat (constructor;focus (clear hK';intros;simp_all;done)));(try (apply hK';clear hK' K')))|((with_reducible apply zz3);rfl;all_goals (intro h;try exact absurd h (by decide))))
 refine stop_cS rfl (by simp only [UA,WA,simprocAttr]) (hwd) ?_
 simp only [WA,simprocAttr,UM, ]
 (try (apply hK';clear hK' K'))
 repeat' (first|(with_reducible apply zz1)|((with_reducible apply zz2);rfl;intro K' hK';simp only [WA,simprocAttr,n1];(repeat (constructor;focus (clear hK';intros;simp_all;done)));(try (apply hK';clear hK' K')))|((with_reducible apply zz3);rfl;all_goals (intro h;try exact absurd h (by decide))))
 simp only [KretS,retL,retOne,oneV,US,WA,simprocAttr,h0]
set_option maxHeartbeats 8000000 in
set_option maxRecDepth 100000 in
theorem one_recbad (Γ : Gl) (s : ByteArray) (hs : s.size ≤ 2000) (a : Nat) (ha : a ≤ s.size) (hn : isNameB (wOf s a) = true) (n1 : ((wOf s a).toList == ByteArray.toList ⟨#[101,110,100]⟩) = false) (n2 : ((wOf s a).toList == ByteArray.toList ⟨#[114,101,99]⟩) = true) (hv0 : isVarB (wOf s (pB s a)) = false) : RdG Γ s 22 [] a (.no (wAt s (pB s a))):=by
 have hwd:=gw_ok Γ s hs a ha _ _ (hn ▸ right_name Γ (wOf s a))
 obtain ⟨p0,p1⟩:=pB_in s a ha
 have hwx:=gword_no Γ s hs (pB s a) p1 _ _ (hv0 ▸ right_var Γ (wOf s (pB s a)))
 unfold RdG
 generalize wAt s (pB s a) = d at *
 generalize pB s a = c1 at *
 generalize wOf s a = w at *
 unfold rBox at hwd hwx ⊢
 refine xfn_of_swp (N:=85) Tryd.func22 rfl (by decide) rfl (by simp) (fun C h0=>?_)
 simp only [argS]
 repeat' (first|(with_reducible apply zz1)|((with_reducible apply zz2);rfl;intro K' hK';simp only [WA,simprocAttr];(repeat (constructor;focus (clear hK';intros;simp_all;done)));(try (apply hK';clear hK' K')))|((with_reducible apply zz3);rfl;all_goals (intro h;try exact absurd h (by decide))))
 refine stop_cS rfl (by simp only [UA,WA,simprocAttr]) (hwd) ?_
 simp only [WA,simprocAttr,UM, ]
 (try (apply hK';clear hK' K'))
 repeat' (first|(with_reducible first|apply zw0|apply zw1|apply zw2|apply zw3|apply zw4|apply zw5|apply zw6|apply zw7|apply zw8|apply zw9|apply zw10|apply zw11|apply zw13|apply zw14)|((with_reducible refine zw12 ?_ ?_);rfl)|((with_reducible refine swp_regionX ?_ ?_ (fun K' hK' hP'=>?_));rfl;rfl;simp only [WA,simprocAttr,n1,n2];(repeat (constructor;focus (clear hK' hP';intros;simp_all;done)));(try (apply hK';clear hK' hP';clear K')))|((with_reducible refine zw15 ?_ ?_);rfl;refine ⟨_,rfl,fun h=>?_,fun h=>?_⟩ <;> try exact absurd h (by decide)))
 refine stop_cX rfl (by simp only [UA,WA,simprocAttr]) (hwx) ?_
 simp only [UM,WA,simprocAttr]
 refine hP' _ _ _ ?_
 repeat (first | refine kseq_p ?_ | refine kblk_p ?_ | refine kloop_p ?_)
 simp only [KpanS,US,WA,simprocAttr,h0]
set_option maxHeartbeats 8000000 in
set_option maxRecDepth 100000 in
theorem one_recdot (Γ : Gl) (s : ByteArray) (hs : s.size ≤ 2000) (a : Nat) (ha : a ≤ s.size) (hn : isNameB (wOf s a) = true) (n1 : ((wOf s a).toList == ByteArray.toList ⟨#[101,110,100]⟩) = false) (n2 : ((wOf s a).toList == ByteArray.toList ⟨#[114,101,99]⟩) = true) (hv0 : isVarB (wOf s (pB s a)) = true) (hd : isB s (pB s (pB s a)) 46 = false) : RdG Γ s 22 [] a (.no (wAt s (pB s (pB s a)))):=by
 have hwd:=gw_ok Γ s hs a ha _ _ (hn ▸ right_name Γ (wOf s a))
 obtain ⟨p0,p1⟩:=pB_in s a ha
 have hwe:=gw_ok Γ s hs (pB s a) p1 _ _ (hv0 ▸ right_var Γ (wOf s (pB s a)))
 obtain ⟨p2,p3⟩:=pB_in s (pB s a) p1
 have hsx:=gsign_x Γ s hs (pB s (pB s a)) p3 46 46 rfl hd
 unfold RdG
 generalize wAt s (pB s (pB s a)) = d at *
 generalize pB s (pB s a) = c2 at *
 generalize wOf s (pB s a) = v at *
 generalize pB s a = c1 at *
 generalize wOf s a = w at *
 unfold rBox at hwd hwe hsx ⊢
 refine xfn_of_swp (N:=85) Tryd.func22 rfl (by decide) rfl (by simp) (fun C h0=>?_)
 simp only [argS]
 repeat' (first|(with_reducible apply zz1)|((with_reducible apply zz2);rfl;intro K' hK';simp only [WA,simprocAttr];(repeat (constructor;focus (clear hK';intros;simp_all;done)));(try (apply hK';clear hK' K')))|((with_reducible apply zz3);rfl;all_goals (intro h;try exact absurd h (by decide))))
 refine stop_cS rfl (by simp only [UA,WA,simprocAttr]) (hwd) ?_
 simp only [WA,simprocAttr,UM, ]
 (try (apply hK';clear hK' K'))
 repeat' (first|(with_reducible apply zz1)|((with_reducible apply zz2);rfl;intro K' hK';simp only [WA,simprocAttr,n1,n2];(repeat (constructor;focus (clear hK';intros;simp_all;done)));(try (apply hK';clear hK' K')))|((with_reducible apply zz3);rfl;all_goals (intro h;try exact absurd h (by decide))))
 refine stop_cS rfl (by simp only [UA,WA,simprocAttr]) (hwe) ?_
 simp only [WA,simprocAttr,UM, ]
 (try (apply hK';clear hK' K'))
 repeat' (first|(with_reducible first|apply zw0|apply zw1|apply zw2|apply zw3|apply zw4|apply zw5|apply zw6|apply zw7|apply zw8|apply zw9|apply zw10|apply zw11|apply zw13|apply zw14)|((with_reducible refine zw12 ?_ ?_);rfl)|((with_reducible refine swp_regionX ?_ ?_ (fun K' hK' hP'=>?_));rfl;rfl;simp only [WA,simprocAttr];(repeat (constructor;focus (clear hK' hP';intros;simp_all;done)));(try (apply hK';clear hK' hP';clear K')))|((with_reducible refine zw15 ?_ ?_);rfl;refine ⟨_,rfl,fun h=>?_,fun h=>?_⟩ <;> try exact absurd h (by decide)))
 refine stop_cX rfl (by simp only [UA,WA,simprocAttr]) (hsx) ?_
 simp only [UM,WA,simprocAttr]
 refine hP' _ _ _ ?_
 repeat (first | refine kseq_p ?_ | refine kblk_p ?_ | refine kloop_p ?_)
 simp only [KpanS,US,WA,simprocAttr,h0]
set_option maxHeartbeats 8000000 in
set_option maxRecDepth 100000 in
theorem one_recno (Γ : Gl) (s : ByteArray) (hs : s.size ≤ 2000) (a : Nat) (ha : a ≤ s.size) (hn : isNameB (wOf s a) = true) (n1 : ((wOf s a).toList == ByteArray.toList ⟨#[101,110,100]⟩) = false) (n2 : ((wOf s a).toList == ByteArray.toList ⟨#[114,101,99]⟩) = true) (hv0 : isVarB (wOf s (pB s a)) = true) (hd : isB s (pB s (pB s a)) 46 = true) (b : Nat) (hr : RdG Γ s 22 [] (wAt s (pB s (pB s a)) + 1) (.no b)) : RdG Γ s 22 [] a (.no b):=by
 have hwd:=gw_ok Γ s hs a ha _ _ (hn ▸ right_name Γ (wOf s a))
 obtain ⟨p0,p1⟩:=pB_in s a ha
 have hwe:=gw_ok Γ s hs (pB s a) p1 _ _ (hv0 ▸ right_var Γ (wOf s (pB s a)))
 obtain ⟨p2,p3⟩:=pB_in s (pB s a) p1
 have hso:=gsign_l Γ s hs (pB s (pB s a)) p3 46 46 rfl hd
 unfold RdG at hr ⊢
 generalize wAt s (pB s (pB s a)) = d at *
 generalize pB s (pB s a) = c2 at *
 generalize wOf s (pB s a) = v at *
 generalize pB s a = c1 at *
 generalize wOf s a = w at *
 unfold rBox at hwd hwe hso hr ⊢
 refine xfn_of_swp (N:=85) Tryd.func22 rfl (by decide) rfl (by simp) (fun C h0=>?_)
 simp only [argS]
 repeat' (first|(with_reducible apply zz1)|((with_reducible apply zz2);rfl;intro K' hK';simp only [WA,simprocAttr];(repeat (constructor;focus (clear hK';intros;simp_all;done)));(try (apply hK';clear hK' K')))|((with_reducible apply zz3);rfl;all_goals (intro h;try exact absurd h (by decide))))
 refine stop_cS rfl (by simp only [UA,WA,simprocAttr]) (hwd) ?_
 simp only [WA,simprocAttr,UM, ]
 (try (apply hK';clear hK' K'))
 repeat' (first|(with_reducible apply zz1)|((with_reducible apply zz2);rfl;intro K' hK';simp only [WA,simprocAttr,n1,n2];(repeat (constructor;focus (clear hK';intros;simp_all;done)));(try (apply hK';clear hK' K')))|((with_reducible apply zz3);rfl;all_goals (intro h;try exact absurd h (by decide))))
 refine stop_cS rfl (by simp only [UA,WA,simprocAttr]) (hwe) ?_
 simp only [WA,simprocAttr,UM, ]
 (try (apply hK';clear hK' K'))
 repeat' (first|(with_reducible apply zz1)|((with_reducible apply zz2);rfl;intro K' hK';simp only [WA,simprocAttr];(repeat (constructor;focus (clear hK';intros;simp_all;done)));(try (apply hK';clear hK' K')))|((with_reducible apply zz3);rfl;all_goals (intro h;try exact absurd h (by decide))))
 refine stop_cS rfl (by simp only [UA,WA,simprocAttr]) (hso) ?_
 simp only [WA,simprocAttr,UM, ]
 (try (apply hK';clear hK' K'))
 repeat' (first|(with_reducible apply zz1)|((with_reducible apply zz2);rfl;intro K' hK';simp only [WA,simprocAttr];(repeat (constructor;focus (clear hK';intros;simp_all;done)));(try (apply hK';clear hK' K')))|((with_reducible apply zz3);rfl;all_goals (intro h;try exact absurd h (by decide))))
 (with_reducible refine swp_drawP ?_ ?_ ?_ (⟨⟨[],[]⟩,[],[],[],[],[]⟩) _ rfl [] 3 0 ([.d (sD s),.d (iD (b : Nat))]) (failG 3 (b : Nat)) [3,4,5,6,7] rfl rfl ?_ (fun K' hK' gops fin hgops hfin=>?_)
  · kernel_rfl
  · rfl
  · rfl
  · kernel_rfl
  repeat' first
   | (refine vcX_dead rfl trivial (by simp only [WA,simprocAttr,UX,UA];rfl) (by simp only [List.nil_append,List.cons_append];rfl) (by simp only [zn2];rfl) ?_)
   | (refine vcX_step rfl rfl trivial (by simp only [WA,simprocAttr,UX,UA,hr];rfl) ?_ (by simp only [WA,simprocAttr,UX,UA];rfl) (by simp only [WA,simprocAttr,UX,UA];rfl) (by simp only [List.nil_append,List.cons_append];rfl) (by simp only [zn2];rfl) ?_;focus (first | trivial | ((repeat' apply And.intro) <;> first | trivial | assumption | (clear hK' hfin hgops;intros;simp_all;done))))
   | (refine vcX_dead rfl (by (simp only [WA,simprocAttr,UX,UA,hr]) <;> (first | trivial | ((repeat' apply And.intro) <;> first | trivial | assumption | (clear hK' hfin hgops;intros;simp_all;done)))) (by simp only [WA,simprocAttr,UX,UA];rfl) (by simp only [List.nil_append,List.cons_append];rfl) (by simp only [zn2];rfl) ?_)
  (refine vcX_nil (by subst hfin;kernel_rfl) (fun e' s' hbs=>?_))
  clear hfin hgops fin gops
  clear hK' K')
 repeat (first | refine kseq_p ?_ | refine kblk_p ?_ | refine kloop_p ?_)
 simp only [KpanS,US,WA,simprocAttr,h0,lk_put_same]
set_option maxHeartbeats 8000000 in
set_option maxRecDepth 100000 in
theorem one_recok (Γ : Gl) (s : ByteArray) (hs : s.size ≤ 2000) (a : Nat) (ha : a ≤ s.size) (hn : isNameB (wOf s a) = true) (n1 : ((wOf s a).toList == ByteArray.toList ⟨#[101,110,100]⟩) = false) (n2 : ((wOf s a).toList == ByteArray.toList ⟨#[114,101,99]⟩) = true) (hv0 : isVarB (wOf s (pB s a)) = true) (hd : isB s (pB s (pB s a)) 46 = true) (x : Gt) (b : Nat) (hr : RdG Γ s 22 [] (wAt s (pB s (pB s a)) + 1) (.ok x b)) : RdG Γ s 22 [] a (.ok (.mk 8 noB noB 0 (wOf s (pB s a)) [] [x]) b):=by
 have hwd:=gw_ok Γ s hs a ha _ _ (hn ▸ right_name Γ (wOf s a))
 obtain ⟨p0,p1⟩:=pB_in s a ha
 have hwe:=gw_ok Γ s hs (pB s a) p1 _ _ (hv0 ▸ right_var Γ (wOf s (pB s a)))
 obtain ⟨p2,p3⟩:=pB_in s (pB s a) p1
 have hso:=gsign_l Γ s hs (pB s (pB s a)) p3 46 46 rfl hd
 obtain ⟨xk,xfr,xto,xso,xnm,xls,xl⟩:=x
 simp only [RdG,Gt.d,Gt.ds,List.map_nil] at hr ⊢
 generalize wAt s (pB s (pB s a)) = d at *
 generalize pB s (pB s a) = c2 at *
 generalize wOf s (pB s a) = v at *
 generalize pB s a = c1 at *
 generalize wOf s a = w at *
 unfold rBox at hwd hwe hso hr ⊢
 refine sfn_of_swp (N:=85) Tryd.func22 rfl (by decide) rfl rfl (by simp) (fun C h0=>?_)
 simp only [argS]
 repeat' (first|(with_reducible apply zz1)|((with_reducible apply zz2);rfl;intro K' hK';simp only [WA,simprocAttr];(repeat (constructor;focus (clear hK';intros;simp_all;done)));(try (apply hK';clear hK' K')))|((with_reducible apply zz3);rfl;all_goals (intro h;try exact absurd h (by decide))))
 refine stop_cS rfl (by simp only [UA,WA,simprocAttr]) (hwd) ?_
 simp only [WA,simprocAttr,UM, ]
 (try (apply hK';clear hK' K'))
 repeat' (first|(with_reducible apply zz1)|((with_reducible apply zz2);rfl;intro K' hK';simp only [WA,simprocAttr,n1,n2];(repeat (constructor;focus (clear hK';intros;simp_all;done)));(try (apply hK';clear hK' K')))|((with_reducible apply zz3);rfl;all_goals (intro h;try exact absurd h (by decide))))
 refine stop_cS rfl (by simp only [UA,WA,simprocAttr]) (hwe) ?_
 simp only [WA,simprocAttr,UM, ]
 (try (apply hK';clear hK' K'))
 repeat' (first|(with_reducible apply zz1)|((with_reducible apply zz2);rfl;intro K' hK';simp only [WA,simprocAttr];(repeat (constructor;focus (clear hK';intros;simp_all;done)));(try (apply hK';clear hK' K')))|((with_reducible apply zz3);rfl;all_goals (intro h;try exact absurd h (by decide))))
 refine stop_cS rfl (by simp only [UA,WA,simprocAttr]) (hso) ?_
 simp only [WA,simprocAttr,UM, ]
 (try (apply hK';clear hK' K'))
 repeat' (first|(with_reducible apply zz1)|((with_reducible apply zz2);rfl;intro K' hK';simp only [WA,simprocAttr];(repeat (constructor;focus (clear hK';intros;simp_all;done)));(try (apply hK';clear hK' K')))|((with_reducible apply zz3);rfl;all_goals (intro h;try exact absurd h (by decide))))
 (with_reducible refine swp_drawX ?_ ?_ ?_ (⟨⟨[],[]⟩,[(3,(0,([.d (sD s),.d (iD (b : Nat))],.agg [iD xk,sD xfr,sD xto,iD xso,sD xnm,.slc (xls.map sD),.slc (Gt.ds xl)])))],[],[],[],[]⟩) _ rfl (fun K' hK' gops fin hgops hfin=>?_)
  · kernel_rfl
  · rfl
  · rfl
  repeat' first
   | (refine vcX_dead rfl trivial (by simp only [WA,simprocAttr,UX,UA];rfl) (by simp only [List.nil_append,List.cons_append];rfl) (by simp only [zn2];rfl) ?_)
   | (refine vcX_step rfl rfl trivial (by simp only [WA,simprocAttr,UX,UA,hr,one_max ];rfl) ?_ (by simp only [WA,simprocAttr,UX,UA];rfl) (by simp only [WA,simprocAttr,UX,UA];rfl) (by simp only [List.nil_append,List.cons_append];rfl) (by simp only [zn2];rfl) ?_;focus (first | trivial | ((repeat' apply And.intro) <;> first | trivial | assumption | (clear hK' hfin hgops;intros;simp_all;done))))
  (refine vcX_nil (by subst hfin;kernel_rfl) ?_)
  clear hfin hgops fin gops
  (try (apply hK';clear hK' K')))
 repeat' (first|(with_reducible apply zz1)|((with_reducible apply zz2);rfl;intro K' hK';simp only [WA,simprocAttr];(repeat (constructor;focus (clear hK';intros;simp_all;done)));(try (apply hK';clear hK' K')))|((with_reducible apply zz3);rfl;all_goals (intro h;try exact absurd h (by decide))))
 simp only [KretS,retL,retOne,oneV,US,WA,simprocAttr,h0]
set_option maxHeartbeats 8000000 in
set_option maxRecDepth 100000 in
theorem one_var (Γ : Gl) (s : ByteArray) (hs : s.size ≤ 2000) (a : Nat) (ha : a ≤ s.size) (hn : isNameB (wOf s a) = true) (n1 : ((wOf s a).toList == ByteArray.toList ⟨#[101,110,100]⟩) = false) (n2 : ((wOf s a).toList == ByteArray.toList ⟨#[114,101,99]⟩) = false) (i62 : isB s (pB s a) 62 = false) : RdG Γ s 22 [] a (.ok (.mk 9 noB noB 0 (wOf s a) [] []) (wAt s (pB s a))):=by
 have hwd:=gw_ok Γ s hs a ha _ _ (hn ▸ right_name Γ (wOf s a))
 obtain ⟨p0,p1⟩:=pB_in s a ha
 have his:=gis_l Γ s hs (pB s a) p1 62 62 rfl
 rw [i62] at his
 simp only [RdG,Gt.d,Gt.ds,List.map_nil]
 generalize wAt s (pB s a) = d at *
 generalize pB s a = c1 at *
 generalize wOf s a = w at *
 unfold rBox at hwd his ⊢
 refine sfn_of_swp (N:=85) Tryd.func22 rfl (by decide) rfl rfl (by simp) (fun C h0=>?_)
 simp only [argS]
 repeat' (first|(with_reducible apply zz1)|((with_reducible apply zz2);rfl;intro K' hK';simp only [WA,simprocAttr];(repeat (constructor;focus (clear hK';intros;simp_all;done)));(try (apply hK';clear hK' K')))|((with_reducible apply zz3);rfl;all_goals (intro h;try exact absurd h (by decide))))
 refine stop_cS rfl (by simp only [UA,WA,simprocAttr]) (hwd) ?_
 simp only [WA,simprocAttr,UM, ]
 (try (apply hK';clear hK' K'))
 repeat' (first|(with_reducible apply zz1)|((with_reducible apply zz2);rfl;intro K' hK';simp only [WA,simprocAttr,n1,n2];(repeat (constructor;focus (clear hK';intros;simp_all;done)));(try (apply hK';clear hK' K')))|((with_reducible apply zz3);rfl;all_goals (intro h;try exact absurd h (by decide))))
 refine stop_cS rfl (by simp only [UA,WA,simprocAttr]) (his) ?_
 simp only [WA,simprocAttr,UM,Bool.not_true,Bool.not_false,cond_true,cond_false]
 (try (apply hK';clear hK' K'))
 repeat' (first|(with_reducible apply zz1)|((with_reducible apply zz2);rfl;intro K' hK';simp only [WA,simprocAttr];(repeat (constructor;focus (clear hK';intros;simp_all;done)));(try (apply hK';clear hK' K')))|((with_reducible apply zz3);rfl;all_goals (intro h;try exact absurd h (by decide))))
 simp only [KretS,retL,retOne,oneV,US,WA,simprocAttr,h0]
set_option maxHeartbeats 8000000 in
set_option maxRecDepth 100000 in
theorem one_norole (Γ : Gl) (s : ByteArray) (hs : s.size ≤ 2000) (a : Nat) (ha : a ≤ s.size) (hn : isNameB (wOf s a) = true) (n1 : ((wOf s a).toList == ByteArray.toList ⟨#[101,110,100]⟩) = false) (n2 : ((wOf s a).toList == ByteArray.toList ⟨#[114,101,99]⟩) = false) (i62 : isB s (pB s a) 62 = true) (hr0 : isRoleB (wOf s a) = false) : RdG Γ s 22 [] a (.no (wAt s (pB s a))):=by
 have hwd:=gw_ok Γ s hs a ha _ _ (hn ▸ right_name Γ (wOf s a))
 obtain ⟨p0,p1⟩:=pB_in s a ha
 have his:=gis_l Γ s hs (pB s a) p1 62 62 rfl
 rw [i62] at his
 have hro:=isRole_fn Γ (wOf s a)
 rw [hr0] at hro
 have hf:=gfail_fn Γ s (wAt s (pB s a) : Nat)
 unfold RdG
 generalize wAt s (pB s a) = d at *
 generalize pB s a = c1 at *
 generalize wOf s a = w at *
 unfold rBox at hwd his ⊢
 refine xfn_of_swp (N:=85) Tryd.func22 rfl (by decide) rfl (by simp) (fun C h0=>?_)
 simp only [argS]
 repeat' (first|(with_reducible apply zz1)|((with_reducible apply zz2);rfl;intro K' hK';simp only [WA,simprocAttr];(repeat (constructor;focus (clear hK';intros;simp_all;done)));(try (apply hK';clear hK' K')))|((with_reducible apply zz3);rfl;all_goals (intro h;try exact absurd h (by decide))))
 refine stop_cS rfl (by simp only [UA,WA,simprocAttr]) (hwd) ?_
 simp only [WA,simprocAttr,UM, ]
 (try (apply hK';clear hK' K'))
 repeat' (first|(with_reducible apply zz1)|((with_reducible apply zz2);rfl;intro K' hK';simp only [WA,simprocAttr,n1,n2];(repeat (constructor;focus (clear hK';intros;simp_all;done)));(try (apply hK';clear hK' K')))|((with_reducible apply zz3);rfl;all_goals (intro h;try exact absurd h (by decide))))
 refine stop_cS rfl (by simp only [UA,WA,simprocAttr]) (his) ?_
 simp only [WA,simprocAttr,UM,Bool.not_true,Bool.not_false,cond_true,cond_false]
 (try (apply hK';clear hK' K'))
 repeat' (first|(with_reducible apply zz1)|((with_reducible apply zz2);rfl;intro K' hK';simp only [WA,simprocAttr];(repeat (constructor;focus (clear hK';intros;simp_all;done)));(try (apply hK';clear hK' K')))|((with_reducible apply zz3);rfl;all_goals (intro h;try exact absurd h (by decide))))
 refine stop_callF rfl (by simp only [WA,simprocAttr]) rfl rfl (hro) ?_
 simp only [WA,simprocAttr,inX,dropS,Bool.not_true,Bool.not_false,cond_true,cond_false]
 (repeat (constructor;focus (clear hK';intros;simp_all;done)))
 (try (apply hK';clear hK' K'))
 repeat' (first|(with_reducible first|apply zw0|apply zw1|apply zw2|apply zw3|apply zw4|apply zw5|apply zw6|apply zw7|apply zw8|apply zw9|apply zw10|apply zw11|apply zw13|apply zw14)|((with_reducible refine zw12 ?_ ?_);rfl)|((with_reducible refine swp_regionX ?_ ?_ (fun K' hK' hP'=>?_));rfl;rfl;simp only [WA,simprocAttr];(repeat (constructor;focus (clear hK' hP';intros;simp_all;done)));(try (apply hK';clear hK' hP';clear K')))|((with_reducible refine zw15 ?_ ?_);rfl;refine ⟨_,rfl,fun h=>?_,fun h=>?_⟩ <;> try exact absurd h (by decide)))
 refine stop_cX rfl (by simp only [UA,WA,simprocAttr]) (hf) ?_
 simp only [UM,WA,simprocAttr]
 refine hP' _ _ _ ?_
 repeat (first | refine kseq_p ?_ | refine kblk_p ?_ | refine kloop_p ?_)
 simp only [KpanS,US,WA,simprocAttr,h0]
set_option maxHeartbeats 8000000 in
set_option maxRecDepth 100000 in
theorem one_other (Γ : Gl) (s : ByteArray) (hs : s.size ≤ 2000) (a : Nat) (ha : a ≤ s.size) (hn : isNameB (wOf s a) = true) (n1 : ((wOf s a).toList == ByteArray.toList ⟨#[101,110,100]⟩) = false) (n2 : ((wOf s a).toList == ByteArray.toList ⟨#[114,101,99]⟩) = false) (i62 : isB s (pB s a) 62 = true) (hr0 : isRoleB (wOf s a) = true) (ho : otherB (wOf s a) (wOf s (wAt s (pB s a) + 1)) = false) : RdG Γ s 22 [] a (.no (wAt s (wAt s (pB s a) + 1))):=by
 have hwd:=gw_ok Γ s hs a ha _ _ (hn ▸ right_name Γ (wOf s a))
 obtain ⟨p0,p1⟩:=pB_in s a ha
 have his:=gis_l Γ s hs (pB s a) p1 62 62 rfl
 rw [i62] at his
 have hro:=isRole_fn Γ (wOf s a)
 rw [hr0] at hro
 have hlt:=isB_ltG i62
 have hwq : IntKind.i64.wrap ((wAt s (pB s a) : Int) + 1) = ((wAt s (pB s a) + 1 : Nat) : Int):=by rw [wrap_in (by omega) (by omega)];omega
 have q0 : wAt s (pB s a) + 1 ≤ s.size:=by omega
 obtain ⟨A3,hA3⟩ : ∃ A3,wAt s (pB s a) + 1 = A3:=⟨_,rfl⟩
 simp only [hA3] at hwq q0 ho ⊢
 have hwx:=gword_no Γ s hs A3 q0 _ _ (ho ▸ right_other Γ (wOf s a) (wOf s A3))
 unfold RdG
 generalize wAt s A3 = e3 at *
 generalize wAt s (pB s a) = d at *
 generalize pB s a = c1 at *
 generalize wOf s a = w at *
 unfold rBox at hwd his hwx ⊢
 refine xfn_of_swp (N:=85) Tryd.func22 rfl (by decide) rfl (by simp) (fun C h0=>?_)
 simp only [argS]
 repeat' (first|(with_reducible apply zz1)|((with_reducible apply zz2);rfl;intro K' hK';simp only [WA,simprocAttr];(repeat (constructor;focus (clear hK';intros;simp_all;done)));(try (apply hK';clear hK' K')))|((with_reducible apply zz3);rfl;all_goals (intro h;try exact absurd h (by decide))))
 refine stop_cS rfl (by simp only [UA,WA,simprocAttr]) (hwd) ?_
 simp only [WA,simprocAttr,UM, ]
 (try (apply hK';clear hK' K'))
 repeat' (first|(with_reducible apply zz1)|((with_reducible apply zz2);rfl;intro K' hK';simp only [WA,simprocAttr,n1,n2];(repeat (constructor;focus (clear hK';intros;simp_all;done)));(try (apply hK';clear hK' K')))|((with_reducible apply zz3);rfl;all_goals (intro h;try exact absurd h (by decide))))
 refine stop_cS rfl (by simp only [UA,WA,simprocAttr]) (his) ?_
 simp only [WA,simprocAttr,UM,Bool.not_true,Bool.not_false,cond_true,cond_false]
 (try (apply hK';clear hK' K'))
 repeat' (first|(with_reducible apply zz1)|((with_reducible apply zz2);rfl;intro K' hK';simp only [WA,simprocAttr];(repeat (constructor;focus (clear hK';intros;simp_all;done)));(try (apply hK';clear hK' K')))|((with_reducible apply zz3);rfl;all_goals (intro h;try exact absurd h (by decide))))
 refine stop_callF rfl (by simp only [WA,simprocAttr]) rfl rfl (hro) ?_
 simp only [WA,simprocAttr,inX,dropS,Bool.not_true,Bool.not_false,cond_true,cond_false]
 (repeat (constructor;focus (clear hK';intros;simp_all;done)))
 (try (apply hK';clear hK' K'))
 repeat' (first|(with_reducible apply zz1)|((with_reducible apply zz2);rfl;intro K' hK';simp only [WA,simprocAttr,hwq];(repeat (constructor;focus (clear hK';intros;simp_all;done)));(try (apply hK';clear hK' K')))|((with_reducible apply zz3);rfl;all_goals (intro h;try exact absurd h (by decide))))
 (with_reducible refine swp_drawP ?_ ?_ ?_ (⟨⟨[],[]⟩,[],[],[],[],[(3,(0,([.d (sD s),.d (iD (e3 : Nat))],iD 0,[2])))]⟩) _ rfl [] 3 0 ([.d (sD s),.d (iD (e3 : Nat))]) (failG 3 (e3 : Nat)) [3,4,6] rfl rfl ?_ (fun K' hK' gops fin hgops hfin=>?_)
  · kernel_rfl
  · rfl
  · rfl
  · kernel_rfl
  repeat' first
   | (refine vcX_dead rfl trivial (by simp only [WA,simprocAttr,UX,UA];rfl) (by simp only [List.nil_append,List.cons_append];rfl) (by simp only [zn2];rfl) ?_)
   | (refine vcX_step rfl rfl trivial (by simp only [WA,simprocAttr,UX,UA,hwx];rfl) ?_ (by simp only [WA,simprocAttr,UX,UA];rfl) (by simp only [WA,simprocAttr,UX,UA];rfl) (by simp only [List.nil_append,List.cons_append];rfl) (by simp only [zn2];rfl) ?_;focus (first | trivial | ((repeat' apply And.intro) <;> first | trivial | assumption | (clear hK' hfin hgops;intros;simp_all;done))))
   | (refine vcX_dead rfl (by (simp only [WA,simprocAttr,UX,UA,hwx]) <;> (first | trivial | ((repeat' apply And.intro) <;> first | trivial | assumption | (clear hK' hfin hgops;intros;simp_all;done)))) (by simp only [WA,simprocAttr,UX,UA];rfl) (by simp only [List.nil_append,List.cons_append];rfl) (by simp only [zn2];rfl) ?_)
  (refine vcX_nil (by subst hfin;kernel_rfl) (fun e' s' hbs=>?_))
  clear hfin hgops fin gops
  clear hK' K')
 repeat (first | refine kseq_p ?_ | refine kblk_p ?_ | refine kloop_p ?_)
 simp only [KpanS,US,WA,simprocAttr,h0,lk_put_same]
set_option maxHeartbeats 8000000 in
set_option maxRecDepth 100000 in
theorem one_pickno (Γ : Gl) (s : ByteArray) (hs : s.size ≤ 2000) (a : Nat) (ha : a ≤ s.size) (hn : isNameB (wOf s a) = true) (n1 : ((wOf s a).toList == ByteArray.toList ⟨#[101,110,100]⟩) = false) (n2 : ((wOf s a).toList == ByteArray.toList ⟨#[114,101,99]⟩) = false) (i62 : isB s (pB s a) 62 = true) (hr0 : isRoleB (wOf s a) = true) (ho : otherB (wOf s a) (wOf s (wAt s (pB s a) + 1)) = true) (i123 : isB s (pB s (wAt s (pB s a) + 1)) 123 = true) (e : Nat) (hp : CLp Γ s [] [] (wAt s (pB s (wAt s (pB s a) + 1)) + 1) none e) : RdG Γ s 22 [] a (.no e):=by
 have hwd:=gw_ok Γ s hs a ha _ _ (hn ▸ right_name Γ (wOf s a))
 obtain ⟨p0,p1⟩:=pB_in s a ha
 have his:=gis_l Γ s hs (pB s a) p1 62 62 rfl
 rw [i62] at his
 have hro:=isRole_fn Γ (wOf s a)
 rw [hr0] at hro
 have hlt:=isB_ltG i62
 have hwq : IntKind.i64.wrap ((wAt s (pB s a) : Int) + 1) = ((wAt s (pB s a) + 1 : Nat) : Int):=by rw [wrap_in (by omega) (by omega)];omega
 have q0 : wAt s (pB s a) + 1 ≤ s.size:=by omega
 obtain ⟨A3,hA3⟩ : ∃ A3,wAt s (pB s a) + 1 = A3:=⟨_,rfl⟩
 simp only [hA3] at hwq q0 ho i123 hp ⊢
 have hwy:=gw_ok Γ s hs A3 q0 _ _ (ho ▸ right_other Γ (wOf s a) (wOf s A3))
 obtain ⟨q1,q2⟩:=pB_in s A3 q0
 have hi3:=gis_l Γ s hs (pB s A3) q2 123 123 rfl
 rw [i123] at hi3
 have hlt4:=isB_ltG i123
 have q3 : wAt s (pB s A3) + 1 ≤ s.size:=by omega
 have hwq4 : IntKind.i64.wrap ((wAt s (pB s A3) : Int) + 1) = ((wAt s (pB s A3) + 1 : Nat) : Int):=by rw [wrap_in (by omega) (by omega)];omega
 have hch : XFn Tryd.prog Γ 44 [.ref 0 0,.ref 8 0] [(0,.cells [.d (sD s),.d (iD ((wAt s (pB s A3) + 1 : Nat) : Int))]),(8,.cells (gCs (wOf s a) (wOf s A3) .nil .nil))] (failG 3 (e : Nat)) [(0,.cells [.d (sD s),.d (iD (e : Nat))]),(8,.cells [.junk,.junk,.junk,.junk,.junk,.junk,.junk])]:=GFn.ren sw18_inj (gchoice_no Γ s hs (wOf s a) (wOf s A3) (wAt s (pB s A3) + 1) q3 e hp)
 clear hp
 unfold RdG
 generalize wAt s (pB s A3) = d4 at *
 generalize pB s A3 = c4 at *
 generalize wOf s A3 = w2 at *
 generalize wAt s (pB s a) = d at *
 generalize pB s a = c1 at *
 generalize wOf s a = w at *
 unfold rBox at hwd his hwy hi3 ⊢
 refine xfn_of_swp (N:=85) Tryd.func22 rfl (by decide) rfl (by simp) (fun C h0=>?_)
 simp only [argS]
 repeat' (first|(with_reducible apply zz1)|((with_reducible apply zz2);rfl;intro K' hK';simp only [WA,simprocAttr];(repeat (constructor;focus (clear hK';intros;simp_all;done)));(try (apply hK';clear hK' K')))|((with_reducible apply zz3);rfl;all_goals (intro h;try exact absurd h (by decide))))
 refine stop_cS rfl (by simp only [UA,WA,simprocAttr]) (hwd) ?_
 simp only [WA,simprocAttr,UM, ]
 (try (apply hK';clear hK' K'))
 repeat' (first|(with_reducible apply zz1)|((with_reducible apply zz2);rfl;intro K' hK';simp only [WA,simprocAttr,n1,n2];(repeat (constructor;focus (clear hK';intros;simp_all;done)));(try (apply hK';clear hK' K')))|((with_reducible apply zz3);rfl;all_goals (intro h;try exact absurd h (by decide))))
 refine stop_cS rfl (by simp only [UA,WA,simprocAttr]) (his) ?_
 simp only [WA,simprocAttr,UM,Bool.not_true,Bool.not_false,cond_true,cond_false]
 (try (apply hK';clear hK' K'))
 repeat' (first|(with_reducible apply zz1)|((with_reducible apply zz2);rfl;intro K' hK';simp only [WA,simprocAttr];(repeat (constructor;focus (clear hK';intros;simp_all;done)));(try (apply hK';clear hK' K')))|((with_reducible apply zz3);rfl;all_goals (intro h;try exact absurd h (by decide))))
 refine stop_callF rfl (by simp only [WA,simprocAttr]) rfl rfl (hro) ?_
 simp only [WA,simprocAttr,inX,dropS,Bool.not_true,Bool.not_false,cond_true,cond_false]
 (repeat (constructor;focus (clear hK';intros;simp_all;done)))
 (try (apply hK';clear hK' K'))
 repeat' (first|(with_reducible apply zz1)|((with_reducible apply zz2);rfl;intro K' hK';simp only [WA,simprocAttr,hwq];(repeat (constructor;focus (clear hK';intros;simp_all;done)));(try (apply hK';clear hK' K')))|((with_reducible apply zz3);rfl;all_goals (intro h;try exact absurd h (by decide))))
 (with_reducible refine swp_drawX ?_ ?_ ?_ (⟨⟨[],[]⟩,[],[],[],[],[(3,(0,([.d (sD s),.d (iD (c4 : Nat))],sD w2,[2])))]⟩) _ rfl (fun K' hK' gops fin hgops hfin=>?_)
  · kernel_rfl
  · rfl
  · rfl
  repeat' first
   | (refine vcX_dead rfl trivial (by simp only [WA,simprocAttr,UX,UA];rfl) (by simp only [List.nil_append,List.cons_append];rfl) (by simp only [zn2];rfl) ?_)
   | (refine vcX_step rfl rfl trivial (by simp only [WA,simprocAttr,UX,UA,hwy ];rfl) ?_ (by simp only [WA,simprocAttr,UX,UA];rfl) (by simp only [WA,simprocAttr,UX,UA];rfl) (by simp only [List.nil_append,List.cons_append];rfl) (by simp only [zn2];rfl) ?_;focus (first | trivial | ((repeat' apply And.intro) <;> first | trivial | assumption | (clear hK' hfin hgops;intros;simp_all;done))))
  (refine vcX_nil (by subst hfin;kernel_rfl) ?_)
  clear hfin hgops fin gops
  (try (apply hK';clear hK' K')))
 repeat' (first|(with_reducible apply zz1)|((with_reducible apply zz2);rfl;intro K' hK';simp only [WA,simprocAttr];(repeat (constructor;focus (clear hK';intros;simp_all;done)));(try (apply hK';clear hK' K')))|((with_reducible apply zz3);rfl;all_goals (intro h;try exact absurd h (by decide))))
 refine stop_cS rfl (by simp only [UA,WA,simprocAttr]) (hi3) ?_
 simp only [WA,simprocAttr,UM, ]
 (try (apply hK';clear hK' K'))
 -- TRACE
 repeat' (first|(with_reducible first|apply zw0|apply zw1|apply zw2|apply zw3|apply zw4|apply zw5|apply zw6|apply zw7|apply zw8|apply zw9|apply zw10|apply zw11|apply zw13|apply zw14)|((with_reducible refine zw12 ?_ ?_);rfl)|((with_reducible refine swp_regionX ?_ ?_ (fun K' hK' hP'=>?_));rfl;rfl;simp only [WA,simprocAttr,hwq4];(repeat (constructor;focus (clear hK' hP';intros;simp_all;done)));(try (apply hK';clear hK' hP';clear K')))|((with_reducible refine zw15 ?_ ?_);rfl;refine ⟨_,rfl,fun h=>?_,fun h=>?_⟩ <;> try exact absurd h (by decide)))
 refine stop_cX rfl (by simp only [UA,WA,simprocAttr]) (hch) ?_
 simp only [UM,WA,simprocAttr]
 refine hP' _ _ _ ?_
 repeat (first | refine kseq_p ?_ | refine kblk_p ?_ | refine kloop_p ?_)
 simp only [KpanS,US,WA,simprocAttr,h0]
set_option maxHeartbeats 8000000 in
set_option maxRecDepth 100000 in
theorem one_pickok (Γ : Gl) (s : ByteArray) (hs : s.size ≤ 2000) (a : Nat) (ha : a ≤ s.size) (hn : isNameB (wOf s a) = true) (n1 : ((wOf s a).toList == ByteArray.toList ⟨#[101,110,100]⟩) = false) (n2 : ((wOf s a).toList == ByteArray.toList ⟨#[114,101,99]⟩) = false) (i62 : isB s (pB s a) 62 = true) (hr0 : isRoleB (wOf s a) = true) (ho : otherB (wOf s a) (wOf s (wAt s (pB s a) + 1)) = true) (i123 : isB s (pB s (wAt s (pB s a) + 1)) 123 = true) (e : Nat) (L : List ByteArray) (K : List Gt) (hp : CLp Γ s [] [] (wAt s (pB s (wAt s (pB s a) + 1)) + 1) (some (L,K)) e) : RdG Γ s 22 [] a (.ok (.mk 6 (wOf s a) (wOf s (wAt s (pB s a) + 1)) 0 noB L K) e):=by
 have hwd:=gw_ok Γ s hs a ha _ _ (hn ▸ right_name Γ (wOf s a))
 obtain ⟨p0,p1⟩:=pB_in s a ha
 have his:=gis_l Γ s hs (pB s a) p1 62 62 rfl
 rw [i62] at his
 have hro:=isRole_fn Γ (wOf s a)
 rw [hr0] at hro
 have hlt:=isB_ltG i62
 have hwq : IntKind.i64.wrap ((wAt s (pB s a) : Int) + 1) = ((wAt s (pB s a) + 1 : Nat) : Int):=by rw [wrap_in (by omega) (by omega)];omega
 have q0 : wAt s (pB s a) + 1 ≤ s.size:=by omega
 obtain ⟨A3,hA3⟩ : ∃ A3,wAt s (pB s a) + 1 = A3:=⟨_,rfl⟩
 simp only [hA3] at hwq q0 ho i123 hp ⊢
 have hwy:=gw_ok Γ s hs A3 q0 _ _ (ho ▸ right_other Γ (wOf s a) (wOf s A3))
 obtain ⟨q1,q2⟩:=pB_in s A3 q0
 have hi3:=gis_l Γ s hs (pB s A3) q2 123 123 rfl
 rw [i123] at hi3
 have hlt4:=isB_ltG i123
 have q3 : wAt s (pB s A3) + 1 ≤ s.size:=by omega
 have hwq4 : IntKind.i64.wrap ((wAt s (pB s A3) : Int) + 1) = ((wAt s (pB s A3) + 1 : Nat) : Int):=by rw [wrap_in (by omega) (by omega)];omega
 have hch : SFn Tryd.prog Γ 44 [.ref 0 0,.ref 8 0] [(0,.cells [.d (sD s),.d (iD ((wAt s (pB s A3) + 1 : Nat) : Int))]),(8,.cells (gCs (wOf s a) (wOf s A3) .nil .nil))] (.tup []) [(0,.cells [.d (sD s),.d (iD (e : Nat))]),(8,.cells (gCs (wOf s a) (wOf s A3) (.d (.slc (L.map sD))) (.d (.slc (Gt.ds K)))))]:=SFn.ren sw18_inj (gchoice_ok Γ s hs (wOf s a) (wOf s A3) (wAt s (pB s A3) + 1) q3 L K e hp)
 clear hp
 simp only [RdG,Gt.d,Gt.ds,List.map_nil]
 generalize wAt s (pB s A3) = d4 at *
 generalize pB s A3 = c4 at *
 generalize wOf s A3 = w2 at *
 generalize wAt s (pB s a) = d at *
 generalize pB s a = c1 at *
 generalize wOf s a = w at *
 unfold rBox at hwd his hwy hi3 ⊢
 refine sfn_of_swp (N:=85) Tryd.func22 rfl (by decide) rfl rfl (by simp) (fun C h0=>?_)
 simp only [argS]
 repeat' (first|(with_reducible apply zz1)|((with_reducible apply zz2);rfl;intro K' hK';simp only [WA,simprocAttr];(repeat (constructor;focus (clear hK';intros;simp_all;done)));(try (apply hK';clear hK' K')))|((with_reducible apply zz3);rfl;all_goals (intro h;try exact absurd h (by decide))))
 refine stop_cS rfl (by simp only [UA,WA,simprocAttr]) (hwd) ?_
 simp only [WA,simprocAttr,UM, ]
 (try (apply hK';clear hK' K'))
 repeat' (first|(with_reducible apply zz1)|((with_reducible apply zz2);rfl;intro K' hK';simp only [WA,simprocAttr,n1,n2];(repeat (constructor;focus (clear hK';intros;simp_all;done)));(try (apply hK';clear hK' K')))|((with_reducible apply zz3);rfl;all_goals (intro h;try exact absurd h (by decide))))
 refine stop_cS rfl (by simp only [UA,WA,simprocAttr]) (his) ?_
 simp only [WA,simprocAttr,UM,Bool.not_true,Bool.not_false,cond_true,cond_false]
 (try (apply hK';clear hK' K'))
 repeat' (first|(with_reducible apply zz1)|((with_reducible apply zz2);rfl;intro K' hK';simp only [WA,simprocAttr];(repeat (constructor;focus (clear hK';intros;simp_all;done)));(try (apply hK';clear hK' K')))|((with_reducible apply zz3);rfl;all_goals (intro h;try exact absurd h (by decide))))
 refine stop_callF rfl (by simp only [WA,simprocAttr]) rfl rfl (hro) ?_
 simp only [WA,simprocAttr,inX,dropS,Bool.not_true,Bool.not_false,cond_true,cond_false]
 (repeat (constructor;focus (clear hK';intros;simp_all;done)))
 (try (apply hK';clear hK' K'))
 repeat' (first|(with_reducible apply zz1)|((with_reducible apply zz2);rfl;intro K' hK';simp only [WA,simprocAttr,hwq];(repeat (constructor;focus (clear hK';intros;simp_all;done)));(try (apply hK';clear hK' K')))|((with_reducible apply zz3);rfl;all_goals (intro h;try exact absurd h (by decide))))
 (with_reducible refine swp_drawX ?_ ?_ ?_ (⟨⟨[],[]⟩,[],[],[],[],[(3,(0,([.d (sD s),.d (iD (c4 : Nat))],sD w2,[2])))]⟩) _ rfl (fun K' hK' gops fin hgops hfin=>?_)
  · kernel_rfl
  · rfl
  · rfl
  repeat' first
   | (refine vcX_dead rfl trivial (by simp only [WA,simprocAttr,UX,UA];rfl) (by simp only [List.nil_append,List.cons_append];rfl) (by simp only [zn2];rfl) ?_)
   | (refine vcX_step rfl rfl trivial (by simp only [WA,simprocAttr,UX,UA,hwy ];rfl) ?_ (by simp only [WA,simprocAttr,UX,UA];rfl) (by simp only [WA,simprocAttr,UX,UA];rfl) (by simp only [List.nil_append,List.cons_append];rfl) (by simp only [zn2];rfl) ?_;focus (first | trivial | ((repeat' apply And.intro) <;> first | trivial | assumption | (clear hK' hfin hgops;intros;simp_all;done))))
  (refine vcX_nil (by subst hfin;kernel_rfl) ?_)
  clear hfin hgops fin gops
  (try (apply hK';clear hK' K')))
 repeat' (first|(with_reducible apply zz1)|((with_reducible apply zz2);rfl;intro K' hK';simp only [WA,simprocAttr];(repeat (constructor;focus (clear hK';intros;simp_all;done)));(try (apply hK';clear hK' K')))|((with_reducible apply zz3);rfl;all_goals (intro h;try exact absurd h (by decide))))
 refine stop_cS rfl (by simp only [UA,WA,simprocAttr]) (hi3) ?_
 simp only [WA,simprocAttr,UM, ]
 (try (apply hK';clear hK' K'))
 repeat' (first|(with_reducible apply zz1)|((with_reducible apply zz2);rfl;intro K' hK';simp only [WA,simprocAttr,hwq4];(repeat (constructor;focus (clear hK';intros;simp_all;done)));(try (apply hK';clear hK' K')))|((with_reducible apply zz3);rfl;all_goals (intro h;try exact absurd h (by decide))))
 refine stop_cS rfl (by simp only [UA,WA,simprocAttr]) (hch) ?_
 simp only [WA,simprocAttr,UM, ]
 (try (apply hK';clear hK' K'))
 repeat' (first|(with_reducible apply zz1)|((with_reducible apply zz2);rfl;intro K' hK';simp only [WA,simprocAttr];(repeat (constructor;focus (clear hK';intros;simp_all;done)));(try (apply hK';clear hK' K')))|((with_reducible apply zz3);rfl;all_goals (intro h;try exact absurd h (by decide))))
 simp only [KretS,retL,retOne,oneV,US,WA,simprocAttr,h0]
set_option maxHeartbeats 8000000 in
set_option maxRecDepth 100000 in
theorem one_colon (Γ : Gl) (s : ByteArray) (hs : s.size ≤ 2000) (a : Nat) (ha : a ≤ s.size) (hn : isNameB (wOf s a) = true) (n1 : ((wOf s a).toList == ByteArray.toList ⟨#[101,110,100]⟩) = false) (n2 : ((wOf s a).toList == ByteArray.toList ⟨#[114,101,99]⟩) = false) (i62 : isB s (pB s a) 62 = true) (hr0 : isRoleB (wOf s a) = true) (ho : otherB (wOf s a) (wOf s (wAt s (pB s a) + 1)) = true) (i123 : isB s (pB s (wAt s (pB s a) + 1)) 123 = false) (i58 : isB s (pB s (wAt s (pB s a) + 1)) 58 = false) : RdG Γ s 22 [] a (.no (wAt s (pB s (wAt s (pB s a) + 1)))):=by
 have hwd:=gw_ok Γ s hs a ha _ _ (hn ▸ right_name Γ (wOf s a))
 obtain ⟨p0,p1⟩:=pB_in s a ha
 have his:=gis_l Γ s hs (pB s a) p1 62 62 rfl
 rw [i62] at his
 have hro:=isRole_fn Γ (wOf s a)
 rw [hr0] at hro
 have hlt:=isB_ltG i62
 have hwq : IntKind.i64.wrap ((wAt s (pB s a) : Int) + 1) = ((wAt s (pB s a) + 1 : Nat) : Int):=by rw [wrap_in (by omega) (by omega)];omega
 have q0 : wAt s (pB s a) + 1 ≤ s.size:=by omega
 obtain ⟨A3,hA3⟩ : ∃ A3,wAt s (pB s a) + 1 = A3:=⟨_,rfl⟩
 simp only [hA3] at hwq q0 ho i123 i58 ⊢
 have hwy:=gw_ok Γ s hs A3 q0 _ _ (ho ▸ right_other Γ (wOf s a) (wOf s A3))
 obtain ⟨q1,q2⟩:=pB_in s A3 q0
 have hi3:=gis_l Γ s hs (pB s A3) q2 123 123 rfl
 rw [i123] at hi3
 have hsx:=gsign_xat Γ s hs (pB s A3) q2 58 58 rfl i58
 unfold RdG
 generalize wAt s (pB s A3) = d4 at *
 generalize pB s A3 = c4 at *
 generalize wOf s A3 = w2 at *
 generalize wAt s (pB s a) = d at *
 generalize pB s a = c1 at *
 generalize wOf s a = w at *
 unfold rBox at hwd his hwy hi3 hsx ⊢
 refine xfn_of_swp (N:=85) Tryd.func22 rfl (by decide) rfl (by simp) (fun C h0=>?_)
 simp only [argS]
 repeat' (first|(with_reducible apply zz1)|((with_reducible apply zz2);rfl;intro K' hK';simp only [WA,simprocAttr];(repeat (constructor;focus (clear hK';intros;simp_all;done)));(try (apply hK';clear hK' K')))|((with_reducible apply zz3);rfl;all_goals (intro h;try exact absurd h (by decide))))
 refine stop_cS rfl (by simp only [UA,WA,simprocAttr]) (hwd) ?_
 simp only [WA,simprocAttr,UM, ]
 (try (apply hK';clear hK' K'))
 repeat' (first|(with_reducible apply zz1)|((with_reducible apply zz2);rfl;intro K' hK';simp only [WA,simprocAttr,n1,n2];(repeat (constructor;focus (clear hK';intros;simp_all;done)));(try (apply hK';clear hK' K')))|((with_reducible apply zz3);rfl;all_goals (intro h;try exact absurd h (by decide))))
 refine stop_cS rfl (by simp only [UA,WA,simprocAttr]) (his) ?_
 simp only [WA,simprocAttr,UM,Bool.not_true,Bool.not_false,cond_true,cond_false]
 (try (apply hK';clear hK' K'))
 repeat' (first|(with_reducible apply zz1)|((with_reducible apply zz2);rfl;intro K' hK';simp only [WA,simprocAttr];(repeat (constructor;focus (clear hK';intros;simp_all;done)));(try (apply hK';clear hK' K')))|((with_reducible apply zz3);rfl;all_goals (intro h;try exact absurd h (by decide))))
 refine stop_callF rfl (by simp only [WA,simprocAttr]) rfl rfl (hro) ?_
 simp only [WA,simprocAttr,inX,dropS,Bool.not_true,Bool.not_false,cond_true,cond_false]
 (repeat (constructor;focus (clear hK';intros;simp_all;done)))
 (try (apply hK';clear hK' K'))
 repeat' (first|(with_reducible apply zz1)|((with_reducible apply zz2);rfl;intro K' hK';simp only [WA,simprocAttr,hwq];(repeat (constructor;focus (clear hK';intros;simp_all;done)));(try (apply hK';clear hK' K')))|((with_reducible apply zz3);rfl;all_goals (intro h;try exact absurd h (by decide))))
 (with_reducible refine swp_drawX ?_ ?_ ?_ (⟨⟨[],[]⟩,[],[],[],[],[(3,(0,([.d (sD s),.d (iD (c4 : Nat))],sD w2,[2])))]⟩) _ rfl (fun K' hK' gops fin hgops hfin=>?_)
  · kernel_rfl
  · rfl
  · rfl
  repeat' first
   | (refine vcX_dead rfl trivial (by simp only [WA,simprocAttr,UX,UA];rfl) (by simp only [List.nil_append,List.cons_append];rfl) (by simp only [zn2];rfl) ?_)
   | (refine vcX_step rfl rfl trivial (by simp only [WA,simprocAttr,UX,UA,hwy ];rfl) ?_ (by simp only [WA,simprocAttr,UX,UA];rfl) (by simp only [WA,simprocAttr,UX,UA];rfl) (by simp only [List.nil_append,List.cons_append];rfl) (by simp only [zn2];rfl) ?_;focus (first | trivial | ((repeat' apply And.intro) <;> first | trivial | assumption | (clear hK' hfin hgops;intros;simp_all;done))))
  (refine vcX_nil (by subst hfin;kernel_rfl) ?_)
  clear hfin hgops fin gops
  (try (apply hK';clear hK' K')))
 repeat' (first|(with_reducible apply zz1)|((with_reducible apply zz2);rfl;intro K' hK';simp only [WA,simprocAttr];(repeat (constructor;focus (clear hK';intros;simp_all;done)));(try (apply hK';clear hK' K')))|((with_reducible apply zz3);rfl;all_goals (intro h;try exact absurd h (by decide))))
 refine stop_cS rfl (by simp only [UA,WA,simprocAttr]) (hi3) ?_
 simp only [WA,simprocAttr,UM, ]
 (try (apply hK';clear hK' K'))
 repeat' (first|(with_reducible first|apply zw0|apply zw1|apply zw2|apply zw3|apply zw4|apply zw5|apply zw6|apply zw7|apply zw8|apply zw9|apply zw10|apply zw11|apply zw13|apply zw14)|((with_reducible refine zw12 ?_ ?_);rfl)|((with_reducible refine swp_regionX ?_ ?_ (fun K' hK' hP'=>?_));rfl;rfl;simp only [WA,simprocAttr];(repeat (constructor;focus (clear hK' hP';intros;simp_all;done)));(try (apply hK';clear hK' hP';clear K')))|((with_reducible refine zw15 ?_ ?_);rfl;refine ⟨_,rfl,fun h=>?_,fun h=>?_⟩ <;> try exact absurd h (by decide)))
 refine stop_cX rfl (by simp only [UA,WA,simprocAttr]) (hsx) ?_
 simp only [UM,WA,simprocAttr]
 refine hP' _ _ _ ?_
 repeat (first | refine kseq_p ?_ | refine kblk_p ?_ | refine kloop_p ?_)
 simp only [KpanS,US,WA,simprocAttr,h0]
set_option maxHeartbeats 8000000 in
set_option maxRecDepth 100000 in
theorem one_sort (Γ : Gl) (s : ByteArray) (hs : s.size ≤ 2000) (a : Nat) (ha : a ≤ s.size) (hn : isNameB (wOf s a) = true) (n1 : ((wOf s a).toList == ByteArray.toList ⟨#[101,110,100]⟩) = false) (n2 : ((wOf s a).toList == ByteArray.toList ⟨#[114,101,99]⟩) = false) (i62 : isB s (pB s a) 62 = true) (hr0 : isRoleB (wOf s a) = true) (ho : otherB (wOf s a) (wOf s (wAt s (pB s a) + 1)) = true) (i123 : isB s (pB s (wAt s (pB s a) + 1)) 123 = false) (i58 : isB s (pB s (wAt s (pB s a) + 1)) 58 = true) (hG : GD Tryd.prog Γ 0 22 (.slc (sortsL.map sD))) (hz : (decide (0 < idxS (wOf s (wAt s (pB s (wAt s (pB s a) + 1)) + 1)).toList sortsL 0)) = false) : RdG Γ s 22 [] a (.no (wAt s (wAt s (pB s (wAt s (pB s a) + 1)) + 1))):=by
 have hwd:=gw_ok Γ s hs a ha _ _ (hn ▸ right_name Γ (wOf s a))
 obtain ⟨p0,p1⟩:=pB_in s a ha
 have his:=gis_l Γ s hs (pB s a) p1 62 62 rfl
 rw [i62] at his
 have hro:=isRole_fn Γ (wOf s a)
 rw [hr0] at hro
 have hlt:=isB_ltG i62
 have hwq : IntKind.i64.wrap ((wAt s (pB s a) : Int) + 1) = ((wAt s (pB s a) + 1 : Nat) : Int):=by rw [wrap_in (by omega) (by omega)];omega
 have q0 : wAt s (pB s a) + 1 ≤ s.size:=by omega
 obtain ⟨A3,hA3⟩ : ∃ A3,wAt s (pB s a) + 1 = A3:=⟨_,rfl⟩
 simp only [hA3] at hwq q0 ho i123 i58 hz ⊢
 have hwy:=gw_ok Γ s hs A3 q0 _ _ (ho ▸ right_other Γ (wOf s a) (wOf s A3))
 obtain ⟨q1,q2⟩:=pB_in s A3 q0
 have hi3:=gis_l Γ s hs (pB s A3) q2 123 123 rfl
 rw [i123] at hi3
 have hlt4:=isB_ltG i58
 have q3 : wAt s (pB s A3) + 1 ≤ s.size:=by omega
 have hso:=gsign_at Γ s hs (pB s A3) q2 58 58 rfl i58
 obtain ⟨A5,hA5⟩ : ∃ A5,wAt s (pB s A3) + 1 = A5:=⟨_,rfl⟩
 simp only [hA5] at q3 hso hz ⊢
 have hwx:=gword_no Γ s hs A5 q3 _ _ (hz ▸ right_sort Γ hG (wOf s A5))
 unfold RdG
 generalize wAt s A5 = e5 at *
 generalize wAt s (pB s A3) = d4 at *
 generalize pB s A3 = c4 at *
 generalize wOf s A3 = w2 at *
 generalize wAt s (pB s a) = d at *
 generalize pB s a = c1 at *
 generalize wOf s a = w at *
 unfold rBox at hwd his hwy hi3 hso hwx ⊢
 refine xfn_of_swp (N:=85) Tryd.func22 rfl (by decide) rfl (by simp) (fun C h0=>?_)
 simp only [argS]
 repeat' (first|(with_reducible apply zz1)|((with_reducible apply zz2);rfl;intro K' hK';simp only [WA,simprocAttr];(repeat (constructor;focus (clear hK';intros;simp_all;done)));(try (apply hK';clear hK' K')))|((with_reducible apply zz3);rfl;all_goals (intro h;try exact absurd h (by decide))))
 refine stop_cS rfl (by simp only [UA,WA,simprocAttr]) (hwd) ?_
 simp only [WA,simprocAttr,UM, ]
 (try (apply hK';clear hK' K'))
 repeat' (first|(with_reducible apply zz1)|((with_reducible apply zz2);rfl;intro K' hK';simp only [WA,simprocAttr,n1,n2];(repeat (constructor;focus (clear hK';intros;simp_all;done)));(try (apply hK';clear hK' K')))|((with_reducible apply zz3);rfl;all_goals (intro h;try exact absurd h (by decide))))
 refine stop_cS rfl (by simp only [UA,WA,simprocAttr]) (his) ?_
 simp only [WA,simprocAttr,UM,Bool.not_true,Bool.not_false,cond_true,cond_false]
 (try (apply hK';clear hK' K'))
 repeat' (first|(with_reducible apply zz1)|((with_reducible apply zz2);rfl;intro K' hK';simp only [WA,simprocAttr];(repeat (constructor;focus (clear hK';intros;simp_all;done)));(try (apply hK';clear hK' K')))|((with_reducible apply zz3);rfl;all_goals (intro h;try exact absurd h (by decide))))
 refine stop_callF rfl (by simp only [WA,simprocAttr]) rfl rfl (hro) ?_
 simp only [WA,simprocAttr,inX,dropS,Bool.not_true,Bool.not_false,cond_true,cond_false]
 (repeat (constructor;focus (clear hK';intros;simp_all;done)))
 (try (apply hK';clear hK' K'))
 repeat' (first|(with_reducible apply zz1)|((with_reducible apply zz2);rfl;intro K' hK';simp only [WA,simprocAttr,hwq];(repeat (constructor;focus (clear hK';intros;simp_all;done)));(try (apply hK';clear hK' K')))|((with_reducible apply zz3);rfl;all_goals (intro h;try exact absurd h (by decide))))
 (with_reducible refine swp_drawX ?_ ?_ ?_ (⟨⟨[],[]⟩,[],[],[],[],[(3,(0,([.d (sD s),.d (iD (c4 : Nat))],sD w2,[2])))]⟩) _ rfl (fun K' hK' gops fin hgops hfin=>?_)
  · kernel_rfl
  · rfl
  · rfl
  repeat' first
   | (refine vcX_dead rfl trivial (by simp only [WA,simprocAttr,UX,UA];rfl) (by simp only [List.nil_append,List.cons_append];rfl) (by simp only [zn2];rfl) ?_)
   | (refine vcX_step rfl rfl trivial (by simp only [WA,simprocAttr,UX,UA,hwy ];rfl) ?_ (by simp only [WA,simprocAttr,UX,UA];rfl) (by simp only [WA,simprocAttr,UX,UA];rfl) (by simp only [List.nil_append,List.cons_append];rfl) (by simp only [zn2];rfl) ?_;focus (first | trivial | ((repeat' apply And.intro) <;> first | trivial | assumption | (clear hK' hfin hgops;intros;simp_all;done))))
  (refine vcX_nil (by subst hfin;kernel_rfl) ?_)
  clear hfin hgops fin gops
  (try (apply hK';clear hK' K')))
 repeat' (first|(with_reducible apply zz1)|((with_reducible apply zz2);rfl;intro K' hK';simp only [WA,simprocAttr];(repeat (constructor;focus (clear hK';intros;simp_all;done)));(try (apply hK';clear hK' K')))|((with_reducible apply zz3);rfl;all_goals (intro h;try exact absurd h (by decide))))
 refine stop_cS rfl (by simp only [UA,WA,simprocAttr]) (hi3) ?_
 simp only [WA,simprocAttr,UM, ]
 (try (apply hK';clear hK' K'))
 repeat' (first|(with_reducible apply zz1)|((with_reducible apply zz2);rfl;intro K' hK';simp only [WA,simprocAttr];(repeat (constructor;focus (clear hK';intros;simp_all;done)));(try (apply hK';clear hK' K')))|((with_reducible apply zz3);rfl;all_goals (intro h;try exact absurd h (by decide))))
 refine stop_cS rfl (by simp only [UA,WA,simprocAttr]) (hso) ?_
 simp only [WA,simprocAttr,UM, ]
 (try (apply hK';clear hK' K'))
 repeat' (first|(with_reducible apply zz1)|((with_reducible apply zz2);rfl;intro K' hK';simp only [WA,simprocAttr];(repeat (constructor;focus (clear hK';intros;simp_all;done)));(try (apply hK';clear hK' K')))|((with_reducible apply zz3);rfl;all_goals (intro h;try exact absurd h (by decide))))
 (with_reducible refine swp_drawP ?_ ?_ ?_ (⟨⟨[(0,.slc (sortsL.map sD))],[]⟩,[],[],[],[],[(2,(0,([.d (sD s),.d (iD (e5 : Nat))],iD 0,[])))]⟩) _ rfl [] 2 0 ([.d (sD s),.d (iD (e5 : Nat))]) (failG 3 (e5 : Nat)) [2,3,4,5] rfl rfl ?_ (fun K' hK' gops fin hgops hfin=>?_)
  · kernel_rfl
  · rfl
  · rfl
  · kernel_rfl
  repeat' first
   | (refine vcX_dead rfl trivial (by simp only [WA,simprocAttr,UX,UA];rfl) (by simp only [List.nil_append,List.cons_append];rfl) (by simp only [zn2];rfl) ?_)
   | (refine vcX_step rfl rfl trivial (by simp only [WA,simprocAttr,UX,UA,hwx,hG];rfl) ?_ (by simp only [WA,simprocAttr,UX,UA];rfl) (by simp only [WA,simprocAttr,UX,UA];rfl) (by simp only [List.nil_append,List.cons_append];rfl) (by simp only [zn2];rfl) ?_;focus (first | trivial | ((repeat' apply And.intro) <;> first | trivial | assumption | (clear hK' hfin hgops;intros;simp_all;done))))
   | (refine vcX_dead rfl (by (simp only [WA,simprocAttr,UX,UA,hwx,hG]) <;> (first | trivial | ((repeat' apply And.intro) <;> first | trivial | assumption | (clear hK' hfin hgops;intros;simp_all;done)))) (by simp only [WA,simprocAttr,UX,UA];rfl) (by simp only [List.nil_append,List.cons_append];rfl) (by simp only [zn2];rfl) ?_)
  (refine vcX_nil (by subst hfin;kernel_rfl) (fun e' s' hbs=>?_))
  clear hfin hgops fin gops
  clear hK' K')
 repeat (first | refine kseq_p ?_ | refine kblk_p ?_ | refine kloop_p ?_)
 simp only [KpanS,US,WA,simprocAttr,h0,lk_put_same]
set_option maxHeartbeats 8000000 in
set_option maxRecDepth 100000 in
theorem one_dot (Γ : Gl) (s : ByteArray) (hs : s.size ≤ 2000) (a : Nat) (ha : a ≤ s.size) (hn : isNameB (wOf s a) = true) (n1 : ((wOf s a).toList == ByteArray.toList ⟨#[101,110,100]⟩) = false) (n2 : ((wOf s a).toList == ByteArray.toList ⟨#[114,101,99]⟩) = false) (i62 : isB s (pB s a) 62 = true) (hr0 : isRoleB (wOf s a) = true) (ho : otherB (wOf s a) (wOf s (wAt s (pB s a) + 1)) = true) (i123 : isB s (pB s (wAt s (pB s a) + 1)) 123 = false) (i58 : isB s (pB s (wAt s (pB s a) + 1)) 58 = true) (hG : GD Tryd.prog Γ 0 22 (.slc (sortsL.map sD))) (hz : (decide (0 < idxS (wOf s (wAt s (pB s (wAt s (pB s a) + 1)) + 1)).toList sortsL 0)) = true) (hd : isB s (pB s (wAt s (pB s (wAt s (pB s a) + 1)) + 1)) 46 = false) : RdG Γ s 22 [] a (.no (wAt s (pB s (wAt s (pB s (wAt s (pB s a) + 1)) + 1)))):=by
 have hwd:=gw_ok Γ s hs a ha _ _ (hn ▸ right_name Γ (wOf s a))
 obtain ⟨p0,p1⟩:=pB_in s a ha
 have his:=gis_l Γ s hs (pB s a) p1 62 62 rfl
 rw [i62] at his
 have hro:=isRole_fn Γ (wOf s a)
 rw [hr0] at hro
 have hlt:=isB_ltG i62
 have hwq : IntKind.i64.wrap ((wAt s (pB s a) : Int) + 1) = ((wAt s (pB s a) + 1 : Nat) : Int):=by rw [wrap_in (by omega) (by omega)];omega
 have q0 : wAt s (pB s a) + 1 ≤ s.size:=by omega
 obtain ⟨A3,hA3⟩ : ∃ A3,wAt s (pB s a) + 1 = A3:=⟨_,rfl⟩
 simp only [hA3] at hwq q0 ho i123 i58 hz hd ⊢
 have hwy:=gw_ok Γ s hs A3 q0 _ _ (ho ▸ right_other Γ (wOf s a) (wOf s A3))
 obtain ⟨q1,q2⟩:=pB_in s A3 q0
 have hi3:=gis_l Γ s hs (pB s A3) q2 123 123 rfl
 rw [i123] at hi3
 have hlt4:=isB_ltG i58
 have q3 : wAt s (pB s A3) + 1 ≤ s.size:=by omega
 have hso:=gsign_at Γ s hs (pB s A3) q2 58 58 rfl i58
 obtain ⟨A5,hA5⟩ : ∃ A5,wAt s (pB s A3) + 1 = A5:=⟨_,rfl⟩
 simp only [hA5] at q3 hso hz hd ⊢
 have hwz:=gw_ok Γ s hs A5 q3 _ _ (hz ▸ right_sort Γ hG (wOf s A5))
 have hix:=indexS_fn Γ sortsL (wOf s A5) (by decide)
 obtain ⟨q4,q5⟩:=pB_in s A5 q3
 have hsx:=gsign_x Γ s hs (pB s A5) q5 46 46 rfl hd
 unfold RdG
 generalize wAt s (pB s A5) = d6 at *
 generalize idxS (wOf s A5).toList sortsL 0 = ix at *
 generalize pB s A5 = c6 at *
 generalize wOf s A5 = w3 at *
 generalize wAt s (pB s A3) = d4 at *
 generalize pB s A3 = c4 at *
 generalize wOf s A3 = w2 at *
 generalize wAt s (pB s a) = d at *
 generalize pB s a = c1 at *
 generalize wOf s a = w at *
 unfold rBox at hwd his hwy hi3 hso hwz hsx ⊢
 refine xfn_of_swp (N:=85) Tryd.func22 rfl (by decide) rfl (by simp) (fun C h0=>?_)
 simp only [argS]
 repeat' (first|(with_reducible apply zz1)|((with_reducible apply zz2);rfl;intro K' hK';simp only [WA,simprocAttr];(repeat (constructor;focus (clear hK';intros;simp_all;done)));(try (apply hK';clear hK' K')))|((with_reducible apply zz3);rfl;all_goals (intro h;try exact absurd h (by decide))))
 refine stop_cS rfl (by simp only [UA,WA,simprocAttr]) (hwd) ?_
 simp only [WA,simprocAttr,UM, ]
 (try (apply hK';clear hK' K'))
 repeat' (first|(with_reducible apply zz1)|((with_reducible apply zz2);rfl;intro K' hK';simp only [WA,simprocAttr,n1,n2];(repeat (constructor;focus (clear hK';intros;simp_all;done)));(try (apply hK';clear hK' K')))|((with_reducible apply zz3);rfl;all_goals (intro h;try exact absurd h (by decide))))
 refine stop_cS rfl (by simp only [UA,WA,simprocAttr]) (his) ?_
 simp only [WA,simprocAttr,UM,Bool.not_true,Bool.not_false,cond_true,cond_false]
 (try (apply hK';clear hK' K'))
 repeat' (first|(with_reducible apply zz1)|((with_reducible apply zz2);rfl;intro K' hK';simp only [WA,simprocAttr];(repeat (constructor;focus (clear hK';intros;simp_all;done)));(try (apply hK';clear hK' K')))|((with_reducible apply zz3);rfl;all_goals (intro h;try exact absurd h (by decide))))
 refine stop_callF rfl (by simp only [WA,simprocAttr]) rfl rfl (hro) ?_
 simp only [WA,simprocAttr,inX,dropS,Bool.not_true,Bool.not_false,cond_true,cond_false]
 (repeat (constructor;focus (clear hK';intros;simp_all;done)))
 (try (apply hK';clear hK' K'))
 repeat' (first|(with_reducible apply zz1)|((with_reducible apply zz2);rfl;intro K' hK';simp only [WA,simprocAttr,hwq];(repeat (constructor;focus (clear hK';intros;simp_all;done)));(try (apply hK';clear hK' K')))|((with_reducible apply zz3);rfl;all_goals (intro h;try exact absurd h (by decide))))
 (with_reducible refine swp_drawX ?_ ?_ ?_ (⟨⟨[],[]⟩,[],[],[],[],[(3,(0,([.d (sD s),.d (iD (c4 : Nat))],sD w2,[2])))]⟩) _ rfl (fun K' hK' gops fin hgops hfin=>?_)
  · kernel_rfl
  · rfl
  · rfl
  repeat' first
   | (refine vcX_dead rfl trivial (by simp only [WA,simprocAttr,UX,UA];rfl) (by simp only [List.nil_append,List.cons_append];rfl) (by simp only [zn2];rfl) ?_)
   | (refine vcX_step rfl rfl trivial (by simp only [WA,simprocAttr,UX,UA,hwy ];rfl) ?_ (by simp only [WA,simprocAttr,UX,UA];rfl) (by simp only [WA,simprocAttr,UX,UA];rfl) (by simp only [List.nil_append,List.cons_append];rfl) (by simp only [zn2];rfl) ?_;focus (first | trivial | ((repeat' apply And.intro) <;> first | trivial | assumption | (clear hK' hfin hgops;intros;simp_all;done))))
  (refine vcX_nil (by subst hfin;kernel_rfl) ?_)
  clear hfin hgops fin gops
  (try (apply hK';clear hK' K')))
 repeat' (first|(with_reducible apply zz1)|((with_reducible apply zz2);rfl;intro K' hK';simp only [WA,simprocAttr];(repeat (constructor;focus (clear hK';intros;simp_all;done)));(try (apply hK';clear hK' K')))|((with_reducible apply zz3);rfl;all_goals (intro h;try exact absurd h (by decide))))
 refine stop_cS rfl (by simp only [UA,WA,simprocAttr]) (hi3) ?_
 simp only [WA,simprocAttr,UM, ]
 (try (apply hK';clear hK' K'))
 repeat' (first|(with_reducible apply zz1)|((with_reducible apply zz2);rfl;intro K' hK';simp only [WA,simprocAttr];(repeat (constructor;focus (clear hK';intros;simp_all;done)));(try (apply hK';clear hK' K')))|((with_reducible apply zz3);rfl;all_goals (intro h;try exact absurd h (by decide))))
 refine stop_cS rfl (by simp only [UA,WA,simprocAttr]) (hso) ?_
 simp only [WA,simprocAttr,UM, ]
 (try (apply hK';clear hK' K'))
 repeat' (first|(with_reducible apply zz1)|((with_reducible apply zz2);rfl;intro K' hK';simp only [WA,simprocAttr];(repeat (constructor;focus (clear hK';intros;simp_all;done)));(try (apply hK';clear hK' K')))|((with_reducible apply zz3);rfl;all_goals (intro h;try exact absurd h (by decide))))
 (with_reducible refine swp_drawX ?_ ?_ ?_ (⟨⟨[(0,.slc (sortsL.map sD)),(3,iD ix)],[]⟩,[],[],[],[],[(2,(0,([.d (sD s),.d (iD (c6 : Nat))],sD w3,[])))]⟩) _ rfl (fun K' hK' gops fin hgops hfin=>?_)
  · kernel_rfl
  · rfl
  · rfl
  repeat' first
   | (refine vcX_dead rfl trivial (by simp only [WA,simprocAttr,UX,UA];rfl) (by simp only [List.nil_append,List.cons_append];rfl) (by simp only [zn2];rfl) ?_)
   | (refine vcX_step rfl rfl trivial (by simp only [WA,simprocAttr,UX,UA,hwz,hG,hix ];rfl) ?_ (by simp only [WA,simprocAttr,UX,UA];rfl) (by simp only [WA,simprocAttr,UX,UA];rfl) (by simp only [List.nil_append,List.cons_append];rfl) (by simp only [zn2];rfl) ?_;focus (first | trivial | ((repeat' apply And.intro) <;> first | trivial | assumption | (clear hK' hfin hgops;intros;simp_all;done))))
  (refine vcX_nil (by subst hfin;kernel_rfl) ?_)
  clear hfin hgops fin gops
  (try (apply hK';clear hK' K')))
 repeat' (first|(with_reducible first|apply zw0|apply zw1|apply zw2|apply zw3|apply zw4|apply zw5|apply zw6|apply zw7|apply zw8|apply zw9|apply zw10|apply zw11|apply zw13|apply zw14)|((with_reducible refine zw12 ?_ ?_);rfl)|((with_reducible refine swp_regionX ?_ ?_ (fun K' hK' hP'=>?_));rfl;rfl;simp only [WA,simprocAttr];(repeat (constructor;focus (clear hK' hP';intros;simp_all;done)));(try (apply hK';clear hK' hP';clear K')))|((with_reducible refine zw15 ?_ ?_);rfl;refine ⟨_,rfl,fun h=>?_,fun h=>?_⟩ <;> try exact absurd h (by decide)))
 refine stop_cX rfl (by simp only [UA,WA,simprocAttr]) (hsx) ?_
 simp only [UM,WA,simprocAttr]
 refine hP' _ _ _ ?_
 repeat (first | refine kseq_p ?_ | refine kblk_p ?_ | refine kloop_p ?_)
 simp only [KpanS,US,WA,simprocAttr,h0]
set_option maxHeartbeats 8000000 in
set_option maxRecDepth 100000 in
theorem one_sendno (Γ : Gl) (s : ByteArray) (hs : s.size ≤ 2000) (a : Nat) (ha : a ≤ s.size) (hn : isNameB (wOf s a) = true) (n1 : ((wOf s a).toList == ByteArray.toList ⟨#[101,110,100]⟩) = false) (n2 : ((wOf s a).toList == ByteArray.toList ⟨#[114,101,99]⟩) = false) (i62 : isB s (pB s a) 62 = true) (hr0 : isRoleB (wOf s a) = true) (ho : otherB (wOf s a) (wOf s (wAt s (pB s a) + 1)) = true) (i123 : isB s (pB s (wAt s (pB s a) + 1)) 123 = false) (i58 : isB s (pB s (wAt s (pB s a) + 1)) 58 = true) (hG : GD Tryd.prog Γ 0 22 (.slc (sortsL.map sD))) (hz : (decide (0 < idxS (wOf s (wAt s (pB s (wAt s (pB s a) + 1)) + 1)).toList sortsL 0)) = true) (hd : isB s (pB s (wAt s (pB s (wAt s (pB s a) + 1)) + 1)) 46 = true) (b : Nat) (hr : RdG Γ s 22 [] (wAt s (pB s (wAt s (pB s (wAt s (pB s a) + 1)) + 1)) + 1) (.no b)) : RdG Γ s 22 [] a (.no b):=by
 have hwd:=gw_ok Γ s hs a ha _ _ (hn ▸ right_name Γ (wOf s a))
 obtain ⟨p0,p1⟩:=pB_in s a ha
 have his:=gis_l Γ s hs (pB s a) p1 62 62 rfl
 rw [i62] at his
 have hro:=isRole_fn Γ (wOf s a)
 rw [hr0] at hro
 have hlt:=isB_ltG i62
 have hwq : IntKind.i64.wrap ((wAt s (pB s a) : Int) + 1) = ((wAt s (pB s a) + 1 : Nat) : Int):=by rw [wrap_in (by omega) (by omega)];omega
 have q0 : wAt s (pB s a) + 1 ≤ s.size:=by omega
 obtain ⟨A3,hA3⟩ : ∃ A3,wAt s (pB s a) + 1 = A3:=⟨_,rfl⟩
 simp only [hA3] at hwq q0 ho i123 i58 hz hd hr ⊢
 have hwy:=gw_ok Γ s hs A3 q0 _ _ (ho ▸ right_other Γ (wOf s a) (wOf s A3))
 obtain ⟨q1,q2⟩:=pB_in s A3 q0
 have hi3:=gis_l Γ s hs (pB s A3) q2 123 123 rfl
 rw [i123] at hi3
 have hlt4:=isB_ltG i58
 have q3 : wAt s (pB s A3) + 1 ≤ s.size:=by omega
 have hso:=gsign_at Γ s hs (pB s A3) q2 58 58 rfl i58
 obtain ⟨A5,hA5⟩ : ∃ A5,wAt s (pB s A3) + 1 = A5:=⟨_,rfl⟩
 simp only [hA5] at q3 hso hz hd hr ⊢
 have hwz:=gw_ok Γ s hs A5 q3 _ _ (hz ▸ right_sort Γ hG (wOf s A5))
 have hix:=indexS_fn Γ sortsL (wOf s A5) (by decide)
 obtain ⟨q4,q5⟩:=pB_in s A5 q3
 have hsy:=gsign_l Γ s hs (pB s A5) q5 46 46 rfl hd
 unfold RdG at hr ⊢
 generalize wAt s (pB s A5) = d6 at *
 generalize idxS (wOf s A5).toList sortsL 0 = ix at *
 generalize pB s A5 = c6 at *
 generalize wOf s A5 = w3 at *
 generalize wAt s (pB s A3) = d4 at *
 generalize pB s A3 = c4 at *
 generalize wOf s A3 = w2 at *
 generalize wAt s (pB s a) = d at *
 generalize pB s a = c1 at *
 generalize wOf s a = w at *
 unfold rBox at hwd his hwy hi3 hso hwz hsy hr ⊢
 refine xfn_of_swp (N:=85) Tryd.func22 rfl (by decide) rfl (by simp) (fun C h0=>?_)
 simp only [argS]
 repeat' (first|(with_reducible apply zz1)|((with_reducible apply zz2);rfl;intro K' hK';simp only [WA,simprocAttr];(repeat (constructor;focus (clear hK';intros;simp_all;done)));(try (apply hK';clear hK' K')))|((with_reducible apply zz3);rfl;all_goals (intro h;try exact absurd h (by decide))))
 refine stop_cS rfl (by simp only [UA,WA,simprocAttr]) (hwd) ?_
 simp only [WA,simprocAttr,UM, ]
 (try (apply hK';clear hK' K'))
 repeat' (first|(with_reducible apply zz1)|((with_reducible apply zz2);rfl;intro K' hK';simp only [WA,simprocAttr,n1,n2];(repeat (constructor;focus (clear hK';intros;simp_all;done)));(try (apply hK';clear hK' K')))|((with_reducible apply zz3);rfl;all_goals (intro h;try exact absurd h (by decide))))
 refine stop_cS rfl (by simp only [UA,WA,simprocAttr]) (his) ?_
 simp only [WA,simprocAttr,UM,Bool.not_true,Bool.not_false,cond_true,cond_false]
 (try (apply hK';clear hK' K'))
 repeat' (first|(with_reducible apply zz1)|((with_reducible apply zz2);rfl;intro K' hK';simp only [WA,simprocAttr];(repeat (constructor;focus (clear hK';intros;simp_all;done)));(try (apply hK';clear hK' K')))|((with_reducible apply zz3);rfl;all_goals (intro h;try exact absurd h (by decide))))
 refine stop_callF rfl (by simp only [WA,simprocAttr]) rfl rfl (hro) ?_
 simp only [WA,simprocAttr,inX,dropS,Bool.not_true,Bool.not_false,cond_true,cond_false]
 (repeat (constructor;focus (clear hK';intros;simp_all;done)))
 (try (apply hK';clear hK' K'))
 repeat' (first|(with_reducible apply zz1)|((with_reducible apply zz2);rfl;intro K' hK';simp only [WA,simprocAttr,hwq];(repeat (constructor;focus (clear hK';intros;simp_all;done)));(try (apply hK';clear hK' K')))|((with_reducible apply zz3);rfl;all_goals (intro h;try exact absurd h (by decide))))
 (with_reducible refine swp_drawX ?_ ?_ ?_ (⟨⟨[],[]⟩,[],[],[],[],[(3,(0,([.d (sD s),.d (iD (c4 : Nat))],sD w2,[2])))]⟩) _ rfl (fun K' hK' gops fin hgops hfin=>?_)
  · kernel_rfl
  · rfl
  · rfl
  repeat' first
   | (refine vcX_dead rfl trivial (by simp only [WA,simprocAttr,UX,UA];rfl) (by simp only [List.nil_append,List.cons_append];rfl) (by simp only [zn2];rfl) ?_)
   | (refine vcX_step rfl rfl trivial (by simp only [WA,simprocAttr,UX,UA,hwy ];rfl) ?_ (by simp only [WA,simprocAttr,UX,UA];rfl) (by simp only [WA,simprocAttr,UX,UA];rfl) (by simp only [List.nil_append,List.cons_append];rfl) (by simp only [zn2];rfl) ?_;focus (first | trivial | ((repeat' apply And.intro) <;> first | trivial | assumption | (clear hK' hfin hgops;intros;simp_all;done))))
  (refine vcX_nil (by subst hfin;kernel_rfl) ?_)
  clear hfin hgops fin gops
  (try (apply hK';clear hK' K')))
 repeat' (first|(with_reducible apply zz1)|((with_reducible apply zz2);rfl;intro K' hK';simp only [WA,simprocAttr];(repeat (constructor;focus (clear hK';intros;simp_all;done)));(try (apply hK';clear hK' K')))|((with_reducible apply zz3);rfl;all_goals (intro h;try exact absurd h (by decide))))
 refine stop_cS rfl (by simp only [UA,WA,simprocAttr]) (hi3) ?_
 simp only [WA,simprocAttr,UM, ]
 (try (apply hK';clear hK' K'))
 repeat' (first|(with_reducible apply zz1)|((with_reducible apply zz2);rfl;intro K' hK';simp only [WA,simprocAttr];(repeat (constructor;focus (clear hK';intros;simp_all;done)));(try (apply hK';clear hK' K')))|((with_reducible apply zz3);rfl;all_goals (intro h;try exact absurd h (by decide))))
 refine stop_cS rfl (by simp only [UA,WA,simprocAttr]) (hso) ?_
 simp only [WA,simprocAttr,UM, ]
 (try (apply hK';clear hK' K'))
 repeat' (first|(with_reducible apply zz1)|((with_reducible apply zz2);rfl;intro K' hK';simp only [WA,simprocAttr];(repeat (constructor;focus (clear hK';intros;simp_all;done)));(try (apply hK';clear hK' K')))|((with_reducible apply zz3);rfl;all_goals (intro h;try exact absurd h (by decide))))
 (with_reducible refine swp_drawX ?_ ?_ ?_ (⟨⟨[(0,.slc (sortsL.map sD)),(3,iD ix)],[]⟩,[],[],[],[],[(2,(0,([.d (sD s),.d (iD (c6 : Nat))],sD w3,[])))]⟩) _ rfl (fun K' hK' gops fin hgops hfin=>?_)
  · kernel_rfl
  · rfl
  · rfl
  repeat' first
   | (refine vcX_dead rfl trivial (by simp only [WA,simprocAttr,UX,UA];rfl) (by simp only [List.nil_append,List.cons_append];rfl) (by simp only [zn2];rfl) ?_)
   | (refine vcX_step rfl rfl trivial (by simp only [WA,simprocAttr,UX,UA,hwz,hG,hix ];rfl) ?_ (by simp only [WA,simprocAttr,UX,UA];rfl) (by simp only [WA,simprocAttr,UX,UA];rfl) (by simp only [List.nil_append,List.cons_append];rfl) (by simp only [zn2];rfl) ?_;focus (first | trivial | ((repeat' apply And.intro) <;> first | trivial | assumption | (clear hK' hfin hgops;intros;simp_all;done))))
  (refine vcX_nil (by subst hfin;kernel_rfl) ?_)
  clear hfin hgops fin gops
  (try (apply hK';clear hK' K')))
 repeat' (first|(with_reducible apply zz1)|((with_reducible apply zz2);rfl;intro K' hK';simp only [WA,simprocAttr];(repeat (constructor;focus (clear hK';intros;simp_all;done)));(try (apply hK';clear hK' K')))|((with_reducible apply zz3);rfl;all_goals (intro h;try exact absurd h (by decide))))
 refine stop_cS rfl (by simp only [UA,WA,simprocAttr]) (hsy) ?_
 simp only [WA,simprocAttr,UM, ]
 (try (apply hK';clear hK' K'))
 repeat' (first|(with_reducible apply zz1)|((with_reducible apply zz2);rfl;intro K' hK';simp only [WA,simprocAttr];(repeat (constructor;focus (clear hK';intros;simp_all;done)));(try (apply hK';clear hK' K')))|((with_reducible apply zz3);rfl;all_goals (intro h;try exact absurd h (by decide))))
 (with_reducible refine swp_drawP ?_ ?_ ?_ (⟨⟨[],[]⟩,[],[],[],[],[]⟩) _ rfl [] 3 0 ([.d (sD s),.d (iD (b : Nat))]) (failG 3 (b : Nat)) [3,6,7,8,9,10] rfl rfl ?_ (fun K' hK' gops fin hgops hfin=>?_)
  · kernel_rfl
  · rfl
  · rfl
  · kernel_rfl
  repeat' first
   | (refine vcX_dead rfl trivial (by simp only [WA,simprocAttr,UX,UA];rfl) (by simp only [List.nil_append,List.cons_append];rfl) (by simp only [zn2];rfl) ?_)
   | (refine vcX_step rfl rfl trivial (by simp only [WA,simprocAttr,UX,UA,hr,one_max];rfl) ?_ (by simp only [WA,simprocAttr,UX,UA];rfl) (by simp only [WA,simprocAttr,UX,UA];rfl) (by simp only [List.nil_append,List.cons_append];rfl) (by simp only [zn2];rfl) ?_;focus (first | trivial | ((repeat' apply And.intro) <;> first | trivial | assumption | (clear hK' hfin hgops;intros;simp_all;done))))
   | (refine vcX_dead rfl (by (simp only [WA,simprocAttr,UX,UA,hr,one_max]) <;> (first | trivial | ((repeat' apply And.intro) <;> first | trivial | assumption | (clear hK' hfin hgops;intros;simp_all;done)))) (by simp only [WA,simprocAttr,UX,UA];rfl) (by simp only [List.nil_append,List.cons_append];rfl) (by simp only [zn2];rfl) ?_)
  (refine vcX_nil (by subst hfin;kernel_rfl) (fun e' s' hbs=>?_))
  clear hfin hgops fin gops
  clear hK' K')
 repeat (first | refine kseq_p ?_ | refine kblk_p ?_ | refine kloop_p ?_)
 simp only [KpanS,US,WA,simprocAttr,h0,lk_put_same]
set_option maxHeartbeats 8000000 in
set_option maxRecDepth 100000 in
theorem one_sendok (Γ : Gl) (s : ByteArray) (hs : s.size ≤ 2000) (a : Nat) (ha : a ≤ s.size) (hn : isNameB (wOf s a) = true) (n1 : ((wOf s a).toList == ByteArray.toList ⟨#[101,110,100]⟩) = false) (n2 : ((wOf s a).toList == ByteArray.toList ⟨#[114,101,99]⟩) = false) (i62 : isB s (pB s a) 62 = true) (hr0 : isRoleB (wOf s a) = true) (ho : otherB (wOf s a) (wOf s (wAt s (pB s a) + 1)) = true) (i123 : isB s (pB s (wAt s (pB s a) + 1)) 123 = false) (i58 : isB s (pB s (wAt s (pB s a) + 1)) 58 = true) (hG : GD Tryd.prog Γ 0 22 (.slc (sortsL.map sD))) (hz : (decide (0 < idxS (wOf s (wAt s (pB s (wAt s (pB s a) + 1)) + 1)).toList sortsL 0)) = true) (hd : isB s (pB s (wAt s (pB s (wAt s (pB s a) + 1)) + 1)) 46 = true) (x : Gt) (b : Nat) (hr : RdG Γ s 22 [] (wAt s (pB s (wAt s (pB s (wAt s (pB s a) + 1)) + 1)) + 1) (.ok x b)) : RdG Γ s 22 [] a (.ok (.mk 2 (wOf s a) (wOf s (wAt s (pB s a) + 1)) (idxS (wOf s (wAt s (pB s (wAt s (pB s a) + 1)) + 1)).toList sortsL 0) noB [] [x]) b):=by
 have hwd:=gw_ok Γ s hs a ha _ _ (hn ▸ right_name Γ (wOf s a))
 obtain ⟨p0,p1⟩:=pB_in s a ha
 have his:=gis_l Γ s hs (pB s a) p1 62 62 rfl
 rw [i62] at his
 have hro:=isRole_fn Γ (wOf s a)
 rw [hr0] at hro
 have hlt:=isB_ltG i62
 have hwq : IntKind.i64.wrap ((wAt s (pB s a) : Int) + 1) = ((wAt s (pB s a) + 1 : Nat) : Int):=by rw [wrap_in (by omega) (by omega)];omega
 have q0 : wAt s (pB s a) + 1 ≤ s.size:=by omega
 obtain ⟨A3,hA3⟩ : ∃ A3,wAt s (pB s a) + 1 = A3:=⟨_,rfl⟩
 simp only [hA3] at hwq q0 ho i123 i58 hz hd hr ⊢
 have hwy:=gw_ok Γ s hs A3 q0 _ _ (ho ▸ right_other Γ (wOf s a) (wOf s A3))
 obtain ⟨q1,q2⟩:=pB_in s A3 q0
 have hi3:=gis_l Γ s hs (pB s A3) q2 123 123 rfl
 rw [i123] at hi3
 have hlt4:=isB_ltG i58
 have q3 : wAt s (pB s A3) + 1 ≤ s.size:=by omega
 have hso:=gsign_at Γ s hs (pB s A3) q2 58 58 rfl i58
 obtain ⟨A5,hA5⟩ : ∃ A5,wAt s (pB s A3) + 1 = A5:=⟨_,rfl⟩
 simp only [hA5] at q3 hso hz hd hr ⊢
 have hwz:=gw_ok Γ s hs A5 q3 _ _ (hz ▸ right_sort Γ hG (wOf s A5))
 have hix:=indexS_fn Γ sortsL (wOf s A5) (by decide)
 obtain ⟨q4,q5⟩:=pB_in s A5 q3
 have hsy:=gsign_l Γ s hs (pB s A5) q5 46 46 rfl hd
 obtain ⟨xk,xfr,xto,xso,xnm,xls,xl⟩:=x
 simp only [RdG,Gt.d,Gt.ds,List.map_nil] at hr ⊢
 generalize wAt s (pB s A5) = d6 at *
 generalize idxS (wOf s A5).toList sortsL 0 = ix at *
 generalize pB s A5 = c6 at *
 generalize wOf s A5 = w3 at *
 generalize wAt s (pB s A3) = d4 at *
 generalize pB s A3 = c4 at *
 generalize wOf s A3 = w2 at *
 generalize wAt s (pB s a) = d at *
 generalize pB s a = c1 at *
 generalize wOf s a = w at *
 unfold rBox at hwd his hwy hi3 hso hwz hsy hr ⊢
 refine sfn_of_swp (N:=85) Tryd.func22 rfl (by decide) rfl rfl (by simp) (fun C h0=>?_)
 simp only [argS]
 repeat' (first|(with_reducible apply zz1)|((with_reducible apply zz2);rfl;intro K' hK';simp only [WA,simprocAttr];(repeat (constructor;focus (clear hK';intros;simp_all;done)));(try (apply hK';clear hK' K')))|((with_reducible apply zz3);rfl;all_goals (intro h;try exact absurd h (by decide))))
 refine stop_cS rfl (by simp only [UA,WA,simprocAttr]) (hwd) ?_
 simp only [WA,simprocAttr,UM, ]
 (try (apply hK';clear hK' K'))
 repeat' (first|(with_reducible apply zz1)|((with_reducible apply zz2);rfl;intro K' hK';simp only [WA,simprocAttr,n1,n2];(repeat (constructor;focus (clear hK';intros;simp_all;done)));(try (apply hK';clear hK' K')))|((with_reducible apply zz3);rfl;all_goals (intro h;try exact absurd h (by decide))))
 refine stop_cS rfl (by simp only [UA,WA,simprocAttr]) (his) ?_
 simp only [WA,simprocAttr,UM,Bool.not_true,Bool.not_false,cond_true,cond_false]
 (try (apply hK';clear hK' K'))
 repeat' (first|(with_reducible apply zz1)|((with_reducible apply zz2);rfl;intro K' hK';simp only [WA,simprocAttr];(repeat (constructor;focus (clear hK';intros;simp_all;done)));(try (apply hK';clear hK' K')))|((with_reducible apply zz3);rfl;all_goals (intro h;try exact absurd h (by decide))))
 refine stop_callF rfl (by simp only [WA,simprocAttr]) rfl rfl (hro) ?_
 simp only [WA,simprocAttr,inX,dropS,Bool.not_true,Bool.not_false,cond_true,cond_false]
 (repeat (constructor;focus (clear hK';intros;simp_all;done)))
 (try (apply hK';clear hK' K'))
 repeat' (first|(with_reducible apply zz1)|((with_reducible apply zz2);rfl;intro K' hK';simp only [WA,simprocAttr,hwq];(repeat (constructor;focus (clear hK';intros;simp_all;done)));(try (apply hK';clear hK' K')))|((with_reducible apply zz3);rfl;all_goals (intro h;try exact absurd h (by decide))))
 (with_reducible refine swp_drawX ?_ ?_ ?_ (⟨⟨[],[]⟩,[],[],[],[],[(3,(0,([.d (sD s),.d (iD (c4 : Nat))],sD w2,[2])))]⟩) _ rfl (fun K' hK' gops fin hgops hfin=>?_)
  · kernel_rfl
  · rfl
  · rfl
  repeat' first
   | (refine vcX_dead rfl trivial (by simp only [WA,simprocAttr,UX,UA];rfl) (by simp only [List.nil_append,List.cons_append];rfl) (by simp only [zn2];rfl) ?_)
   | (refine vcX_step rfl rfl trivial (by simp only [WA,simprocAttr,UX,UA,hwy ];rfl) ?_ (by simp only [WA,simprocAttr,UX,UA];rfl) (by simp only [WA,simprocAttr,UX,UA];rfl) (by simp only [List.nil_append,List.cons_append];rfl) (by simp only [zn2];rfl) ?_;focus (first | trivial | ((repeat' apply And.intro) <;> first | trivial | assumption | (clear hK' hfin hgops;intros;simp_all;done))))
  (refine vcX_nil (by subst hfin;kernel_rfl) ?_)
  clear hfin hgops fin gops
  (try (apply hK';clear hK' K')))
 repeat' (first|(with_reducible apply zz1)|((with_reducible apply zz2);rfl;intro K' hK';simp only [WA,simprocAttr];(repeat (constructor;focus (clear hK';intros;simp_all;done)));(try (apply hK';clear hK' K')))|((with_reducible apply zz3);rfl;all_goals (intro h;try exact absurd h (by decide))))
 refine stop_cS rfl (by simp only [UA,WA,simprocAttr]) (hi3) ?_
 simp only [WA,simprocAttr,UM, ]
 (try (apply hK';clear hK' K'))
 repeat' (first|(with_reducible apply zz1)|((with_reducible apply zz2);rfl;intro K' hK';simp only [WA,simprocAttr];(repeat (constructor;focus (clear hK';intros;simp_all;done)));(try (apply hK';clear hK' K')))|((with_reducible apply zz3);rfl;all_goals (intro h;try exact absurd h (by decide))))
 refine stop_cS rfl (by simp only [UA,WA,simprocAttr]) (hso) ?_
 simp only [WA,simprocAttr,UM, ]
 (try (apply hK';clear hK' K'))
 repeat' (first|(with_reducible apply zz1)|((with_reducible apply zz2);rfl;intro K' hK';simp only [WA,simprocAttr];(repeat (constructor;focus (clear hK';intros;simp_all;done)));(try (apply hK';clear hK' K')))|((with_reducible apply zz3);rfl;all_goals (intro h;try exact absurd h (by decide))))
 (with_reducible refine swp_drawX ?_ ?_ ?_ (⟨⟨[(0,.slc (sortsL.map sD)),(3,iD ix)],[]⟩,[],[],[],[],[(2,(0,([.d (sD s),.d (iD (c6 : Nat))],sD w3,[])))]⟩) _ rfl (fun K' hK' gops fin hgops hfin=>?_)
  · kernel_rfl
  · rfl
  · rfl
  repeat' first
   | (refine vcX_dead rfl trivial (by simp only [WA,simprocAttr,UX,UA];rfl) (by simp only [List.nil_append,List.cons_append];rfl) (by simp only [zn2];rfl) ?_)
   | (refine vcX_step rfl rfl trivial (by simp only [WA,simprocAttr,UX,UA,hwz,hG,hix ];rfl) ?_ (by simp only [WA,simprocAttr,UX,UA];rfl) (by simp only [WA,simprocAttr,UX,UA];rfl) (by simp only [List.nil_append,List.cons_append];rfl) (by simp only [zn2];rfl) ?_;focus (first | trivial | ((repeat' apply And.intro) <;> first | trivial | assumption | (clear hK' hfin hgops;intros;simp_all;done))))
  (refine vcX_nil (by subst hfin;kernel_rfl) ?_)
  clear hfin hgops fin gops
  (try (apply hK';clear hK' K')))
 repeat' (first|(with_reducible apply zz1)|((with_reducible apply zz2);rfl;intro K' hK';simp only [WA,simprocAttr];(repeat (constructor;focus (clear hK';intros;simp_all;done)));(try (apply hK';clear hK' K')))|((with_reducible apply zz3);rfl;all_goals (intro h;try exact absurd h (by decide))))
 refine stop_cS rfl (by simp only [UA,WA,simprocAttr]) (hsy) ?_
 simp only [WA,simprocAttr,UM, ]
 (try (apply hK';clear hK' K'))
 repeat' (first|(with_reducible apply zz1)|((with_reducible apply zz2);rfl;intro K' hK';simp only [WA,simprocAttr];(repeat (constructor;focus (clear hK';intros;simp_all;done)));(try (apply hK';clear hK' K')))|((with_reducible apply zz3);rfl;all_goals (intro h;try exact absurd h (by decide))))
 (with_reducible refine swp_drawX ?_ ?_ ?_ (⟨⟨[],[]⟩,[(3,(0,([.d (sD s),.d (iD (b : Nat))],.agg [iD xk,sD xfr,sD xto,iD xso,sD xnm,.slc (xls.map sD),.slc (Gt.ds xl)])))],[],[],[],[]⟩) _ rfl (fun K' hK' gops fin hgops hfin=>?_)
  · kernel_rfl
  · rfl
  · rfl
  repeat' first
   | (refine vcX_dead rfl trivial (by simp only [WA,simprocAttr,UX,UA];rfl) (by simp only [List.nil_append,List.cons_append];rfl) (by simp only [zn2];rfl) ?_)
   | (refine vcX_step rfl rfl trivial (by simp only [WA,simprocAttr,UX,UA,hr,one_max ];rfl) ?_ (by simp only [WA,simprocAttr,UX,UA];rfl) (by simp only [WA,simprocAttr,UX,UA];rfl) (by simp only [List.nil_append,List.cons_append];rfl) (by simp only [zn2];rfl) ?_;focus (first | trivial | ((repeat' apply And.intro) <;> first | trivial | assumption | (clear hK' hfin hgops;intros;simp_all;done))))
  (refine vcX_nil (by subst hfin;kernel_rfl) ?_)
  clear hfin hgops fin gops
  (try (apply hK';clear hK' K')))
 repeat' (first|(with_reducible apply zz1)|((with_reducible apply zz2);rfl;intro K' hK';simp only [WA,simprocAttr];(repeat (constructor;focus (clear hK';intros;simp_all;done)));(try (apply hK';clear hK' K')))|((with_reducible apply zz3);rfl;all_goals (intro h;try exact absurd h (by decide))))
 simp only [KretS,retL,retOne,oneV,US,WA,simprocAttr,h0]
 all_goals rfl
end Go.Proofs.YtlnmkdbcdcknjaaDoor.GG
