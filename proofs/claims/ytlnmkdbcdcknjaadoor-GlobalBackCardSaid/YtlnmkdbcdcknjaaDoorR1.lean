/- global's reader: blanks, signs, words; a symbolic walk. -/
-- TYPESA
import Derived.Test.YtlnmkdbcdcknjaaDoorT3
import Derived.Test.YtlnmkdbcdcknjaaDoorG4
import Derived.Test.YtlnmkdbcdcknjaaDoorSwD
set_option linter.unusedVariables false
set_option linter.unusedSimpArgs false
namespace Go.Proofs.YtlnmkdbcdcknjaaDoor.GG
open Go.RowKit Go.Sw
open Go.Sw renaming swp_seq → zw0, swp_block → zw1, swp_skip → zw2, swp_ret → zw3, swp_exit → zw4, swp_label → zw5, kseq_n → zw6, kseq_x → zw7, kseq_r → zw8, kblk_n → zw9, kblk_r → zw10, kblk_xs → zw11, kblk_xn → zw12, kloop_x → zw13, kloop_r → zw14, swp_cond → zw15

set_option maxHeartbeats 8000000 in
set_option maxRecDepth 100000 in
theorem gis_fn (Γ : Gl) (s : ByteArray) (hs : s.size ≤ 2000) (a : Nat) (ha : a ≤ s.size) (c : Nat) : SFn Tryd.prog Γ 23 [.ref 0 0,.d (cD c)] (rBox s a) (.d (.v (.bool (isB s a c)))) (rBox s (wAt s a)):=by
 unfold rBox
 refine sfn_of_swp (N:=57) Tryd.func23 rfl (by decide) rfl rfl (by simp) (fun C h0=>?_)
 simp only [argS]
 repeat' (first|(with_reducible apply zz1)|((with_reducible apply zz2);rfl;intro K' hK';simp only [WA,simprocAttr];(repeat (constructor;focus (clear hK';intros;simp_all;done)));(try (apply hK';clear hK' K')))|((with_reducible apply zz3);rfl;all_goals (intro h;try exact absurd h (by decide))))
 refine swp_loop (α := Nat) (fun _=>[(0,.ref 0 0),(1,.d (cD c))]) (fun j=>[(0,.cells [.d (sD s),.d (iD j)])])
  (fun j=>j ≤ s.size ∧ a + skipB (s.data.toList.drop a) = j + skipB (s.data.toList.drop j)) (fun j=>s.size - j) a ⟨ha,rfl⟩ (by refine sub_of h0 ?_ ?_ ?_ <;> simp only [US,WA,simprocAttr]) (fun j hj=>?_)
 obtain ⟨hj,hk⟩:=hj
 have hb0 : (0 : Int) ≤ (j : Int):=by omega
 by_cases hlt : j < s.size
 · have hb1 : (j : Int) < (s.size : Int):=by omega
   have hd:=drop_at s j hlt
   rw [hd,skipB] at hk
   have hw3 : IntKind.i64.wrap ((j : Int) + 1) = ((j + 1 : Nat) : Int):=by rw [wrap_in (by omega) (by omega)];omega
   generalize hc : (s.data.toList.getD j 0) = q at hk
   by_cases h32 : q.toNat = 32
   · rw [if_pos h32] at hk
     have hc2 : (((s.data.toList.getD j 0).toNat : Int) == 32) = true:=by rw [hc,h32];rfl
     repeat' (first|(with_reducible apply zz1)|((with_reducible apply zz2);rfl;intro K' hK';simp only [WA,simprocAttr];(repeat (constructor;focus (clear hK';intros;simp_all;done)));(try (apply hK';clear hK' K')))|((with_reducible apply zz3);rfl;all_goals (intro h;try exact absurd h (by decide))))
     (with_reducible refine swp_draw ?_ ?_ ?_ ([]) (fun K' hK'=>?_)
      · kernel_rfl
      · rfl
      · rfl
      simp only [WA,simprocAttr,UG,hb0,hb1,Int.toNat_natCast,hc2]
      (try (apply hK';clear hK' K')))
     repeat' (first|(with_reducible apply zz1)|((with_reducible apply zz2);rfl;intro K' hK';simp only [WA,simprocAttr,hw3];(repeat (constructor;focus (clear hK';intros;simp_all;done)));(try (apply hK';clear hK' K')))|((with_reducible apply zz3);rfl;all_goals (intro h;try exact absurd h (by decide))))
     refine ⟨j + 1,⟨(by show j + 1 ≤ s.size;omega),(by rw [hk];omega)⟩,(by show s.size - (j + 1) < s.size - j;omega),by refine sub_of h0 ?_ ?_ ?_ <;> simp only [US,WA,simprocAttr]⟩
   · rw [if_neg h32] at hk
     have hc2 : (((s.data.toList.getD j 0).toNat : Int) == 32) = false:=by rw [hc];simp only [beq_eq_false_iff_ne];omega
     have e : wAt s a = j:=by unfold wAt;omega
     have hr : isB s a c = (((s.data.toList.getD j 0).toNat : Int) == (c : Int)):=by
      unfold isB
      rw [e,if_pos hlt,Bool.eq_iff_iff,beq_iff_eq,beq_iff_eq]
      exact Int.ofNat_inj.symm
     rw [hr,e]
     repeat' (first|(with_reducible apply zz1)|((with_reducible apply zz2);rfl;intro K' hK';simp only [WA,simprocAttr];(repeat (constructor;focus (clear hK';intros;simp_all;done)));(try (apply hK';clear hK' K')))|((with_reducible apply zz3);rfl;all_goals (intro h;try exact absurd h (by decide))))
     (with_reducible refine swp_draw ?_ ?_ ?_ ([]) (fun K' hK'=>?_)
      · kernel_rfl
      · rfl
      · rfl
      simp only [WA,simprocAttr,UG,hb0,hb1,Int.toNat_natCast,hc2]
      (try (apply hK';clear hK' K')))
     repeat' (first|(with_reducible apply zz1)|((with_reducible apply zz2);rfl;intro K' hK';simp only [WA,simprocAttr];(repeat (constructor;focus (clear hK';intros;simp_all;done)));(try (apply hK';clear hK' K')))|((with_reducible apply zz3);rfl;all_goals (intro h;try exact absurd h (by decide))))
     (with_reducible refine swp_draw ?_ ?_ ?_ ([]) (fun K' hK'=>?_)
      · kernel_rfl
      · rfl
      · rfl
      simp only [WA,simprocAttr,UG,hb0,hb1,Int.toNat_natCast]
      (try (apply hK';clear hK' K')))
     repeat' (first|(with_reducible apply zz1)|((with_reducible apply zz2);rfl;intro K' hK';simp only [WA,simprocAttr];(repeat (constructor;focus (clear hK';intros;simp_all;done)));(try (apply hK';clear hK' K')))|((with_reducible apply zz3);rfl;all_goals (intro h;try exact absurd h (by decide))))
     simp only [KretS,retL,retOne,oneV,US,WA,simprocAttr,h0]
 · have hb1 : ¬ (j : Int) < (s.size : Int):=by omega
   have hd : s.data.toList.drop j = []:=List.drop_of_length_le (by rw [sizeL];omega)
   rw [hd] at hk
   have e : wAt s a = j:=by unfold wAt;rw [hk];rfl
   have hr : isB s a c = false:=by unfold isB;rw [e,if_neg hlt]
   rw [hr,e]
   repeat' (first|(with_reducible apply zz1)|((with_reducible apply zz2);rfl;intro K' hK';simp only [WA,simprocAttr];(repeat (constructor;focus (clear hK';intros;simp_all;done)));(try (apply hK';clear hK' K')))|((with_reducible apply zz3);rfl;all_goals (intro h;try exact absurd h (by decide))))
   (with_reducible refine swp_draw ?_ ?_ ?_ ([]) (fun K' hK'=>?_)
    · kernel_rfl
    · rfl
    · rfl
    simp only [WA,simprocAttr,UG,hb1]
    (try (apply hK';clear hK' K')))
   (try simp only [WA,simprocAttr])
   (repeat (constructor;focus (clear hK';intros;simp_all;done)))
   (try (apply hK';clear hK' K'))
   -- TRACE
   repeat' (first|(with_reducible apply zz1)|((with_reducible apply zz2);rfl;intro K' hK';simp only [WA,simprocAttr];(repeat (constructor;focus (clear hK';intros;simp_all;done)));(try (apply hK';clear hK' K')))|((with_reducible apply zz3);rfl;all_goals (intro h;try exact absurd h (by decide))))
   (with_reducible refine swp_draw ?_ ?_ ?_ ([]) (fun K' hK'=>?_)
    · kernel_rfl
    · rfl
    · rfl
    simp only [WA,simprocAttr,UG,hb1]
    (try (apply hK';clear hK' K')))
   (try simp only [WA,simprocAttr])
   (repeat (constructor;focus (clear hK';intros;simp_all;done)))
   (try (apply hK';clear hK' K'))
   repeat' (first|(with_reducible apply zz1)|((with_reducible apply zz2);rfl;intro K' hK';simp only [WA,simprocAttr];(repeat (constructor;focus (clear hK';intros;simp_all;done)));(try (apply hK';clear hK' K')))|((with_reducible apply zz3);rfl;all_goals (intro h;try exact absurd h (by decide))))
   simp only [KretS,retL,retOne,oneV,US,WA,simprocAttr,h0]
def failG (e at' : Int) : Value:=.iface 52 (.agg #[.int .i64 e,.int .i64 at'])
set_option maxHeartbeats 4000000 in
set_option maxRecDepth 100000 in
theorem gfail_fn (Γ : Gl) (s : ByteArray) (a : Int) : XFn Tryd.prog Γ 24 [.ref 0 0] [(0,.cells [.d (sD s),.d (iD a)])] (failG 3 a) [(0,.cells [.d (sD s),.d (iD a)])]:=by
 refine xfn_of_swp (N:=9) Tryd.func24 rfl (by decide) rfl (by simp) (fun C h0=>?_)
 simp only [argS]
 repeat' (first|(with_reducible first|apply zw0|apply zw1|apply zw2|apply zw3|apply zw4|apply zw5|apply zw6|apply zw7|apply zw8|apply zw9|apply zw10|apply zw11|apply zw13|apply zw14)|((with_reducible refine zw12 ?_ ?_);rfl)|((with_reducible refine swp_regionX ?_ ?_ (fun K' hK' hP'=>?_));rfl;rfl;simp only [WA,simprocAttr];(repeat (constructor;focus (clear hK' hP';intros;simp_all;done)));(try (apply hK';clear hK' hP';clear K')))|((with_reducible refine zw15 ?_ ?_);rfl;refine ⟨_,rfl,fun h=>?_,fun h=>?_⟩ <;> try exact absurd h (by decide)))
 refine stop_mki Tryd.underlying52 rfl rfl (by simp only [ok1,val,lk,nbeq,Nat.reduceBEq,cond_true,cond_false,Option.getD_some]) rfl rfl ?_
 simp only [WA,simprocAttr]
 refine stop_panic rfl rfl ?_
 refine hP' _ _ _ ?_
 simp only [KpanS,US,WA,simprocAttr,h0]
 rfl
set_option maxHeartbeats 4000000 in
set_option maxRecDepth 100000 in
theorem gsign_ok (Γ : Gl) (s : ByteArray) (hs : s.size ≤ 2000) (a : Nat) (ha : a ≤ s.size) (c : Nat) (h : isB s a c = true) : SFn Tryd.prog Γ 41 [.ref 0 0,.d (cD c)] (rBox s a) (.tup []) (rBox s (wAt s a + 1)):=by
 have hb:=gis_fn Γ s hs a ha c
 rw [h] at hb
 obtain ⟨hk1,hk2⟩:=wAt_in s a ha
 unfold rBox at hb ⊢
 generalize wAt s a = k at *
 have hw : IntKind.i64.wrap ((k : Int) + 1) = ((k + 1 : Nat) : Int):=by rw [wrap_in (by omega) (by omega)];omega
 refine sfn_of_swp (N:=17) Tryd.func41 rfl (by decide) rfl rfl (by simp) (fun C h0=>?_)
 simp only [argS]
 repeat' (first|(with_reducible apply zz1)|((with_reducible apply zz2);rfl;intro K' hK';simp only [WA,simprocAttr];(repeat (constructor;focus (clear hK';intros;simp_all;done)));(try (apply hK';clear hK' K')))|((with_reducible apply zz3);rfl;all_goals (intro h;try exact absurd h (by decide))))
 refine stop_cS rfl (by simp only [UA,WA,simprocAttr]) (hb) ?_
 simp only [WA,simprocAttr,UM,Bool.not_true,Bool.not_false,cond_true,cond_false]
 (try (apply hK';clear hK' K'))
 repeat' (first|(with_reducible apply zz1)|((with_reducible apply zz2);rfl;intro K' hK';simp only [WA,simprocAttr,hw];(repeat (constructor;focus (clear hK';intros;simp_all;done)));(try (apply hK';clear hK' K')))|((with_reducible apply zz3);rfl;all_goals (intro h;try exact absurd h (by decide))))
 simp only [KretS,retL,retOne,oneV,US,WA,simprocAttr,h0]
set_option maxHeartbeats 4000000 in
set_option maxRecDepth 100000 in
theorem gsign_no (Γ : Gl) (s : ByteArray) (hs : s.size ≤ 2000) (a : Nat) (ha : a ≤ s.size) (c : Nat) (h : isB s a c = false) : XFn Tryd.prog Γ 41 [.ref 0 0,.d (cD c)] (rBox s a) (failG 3 (wAt s a : Nat)) (rBox s (wAt s a)):=by
 have hb:=gis_fn Γ s hs a ha c
 have hf:=gfail_fn Γ s (wAt s a : Nat)
 rw [h] at hb
 unfold rBox at hb ⊢
 generalize wAt s a = k at *
 refine xfn_of_swp (N:=17) Tryd.func41 rfl (by decide) rfl (by simp) (fun C h0=>?_)
 simp only [argS]
 repeat' (first|(with_reducible apply zz1)|((with_reducible apply zz2);rfl;intro K' hK';simp only [WA,simprocAttr];(repeat (constructor;focus (clear hK';intros;simp_all;done)));(try (apply hK';clear hK' K')))|((with_reducible apply zz3);rfl;all_goals (intro h;try exact absurd h (by decide))))
 refine stop_cS rfl (by simp only [UA,WA,simprocAttr]) (hb) ?_
 simp only [WA,simprocAttr,UM,Bool.not_true,Bool.not_false,cond_true,cond_false]
 (try (apply hK';clear hK' K'))
 repeat' (first|(with_reducible first|apply zw0|apply zw1|apply zw2|apply zw3|apply zw4|apply zw5|apply zw6|apply zw7|apply zw8|apply zw9|apply zw10|apply zw11|apply zw13|apply zw14)|((with_reducible refine zw12 ?_ ?_);rfl)|((with_reducible refine swp_regionX ?_ ?_ (fun K' hK' hP'=>?_));rfl;rfl;simp only [WA,simprocAttr];(repeat (constructor;focus (clear hK' hP';intros;simp_all;done)));(try (apply hK';clear hK' hP';clear K')))|((with_reducible refine zw15 ?_ ?_);rfl;refine ⟨_,rfl,fun h=>?_,fun h=>?_⟩ <;> try exact absurd h (by decide)))
 refine stop_cX rfl (by simp only [UA,WA,simprocAttr]) (hf) ?_
 simp only [UM,WA,simprocAttr]
 refine hP' _ _ _ ?_
 repeat (first | refine kseq_p ?_ | refine kblk_p ?_ | refine kloop_p ?_)
 simp only [KpanS,US,WA,simprocAttr,h0]
set_option maxHeartbeats 4000000 in
set_option maxRecDepth 100000 in
theorem gpeek_fn (Γ : Gl) (s : ByteArray) (hs : s.size ≤ 2000) (a : Nat) (ha : a ≤ s.size) : SFn Tryd.prog Γ 59 [.ref 0 0] (rBox s a) (.d (sD (wOf s a))) (rBox s (wAt s a)):=by
 have hb:=gis_fn Γ s hs a ha 32
 have e32 : (cD 32) = .v (.int .u8 32):=rfl
 rw [e32] at hb
 obtain ⟨hk1,hk2⟩:=wAt_in s a ha
 unfold wOf
 unfold rBox at hb ⊢
 generalize wAt s a = k at *
 obtain ⟨r,hr⟩ : ∃ r,s.extract k s.size = r:=⟨_,rfl⟩
 have hrs : r.size = s.size - k:=by
  rw [← hr]
  have:=congrArg List.length (drop_list s k)
  rw [sizeL,List.length_drop,sizeL] at this
  exact this
 have ht:=trimL_fn Γ r
 have htl : (trimLS r).size ≤ r.size:=by
  have h2 : (trimLS r).size = (Lib.trimLeftS r.data.toList abcS.data.toList).length:=by simp [trimLS,packS,ByteArray.size]
  have h3 : (Lib.trimLeftS r.data.toList abcS.data.toList).length ≤ r.data.toList.length:=(List.dropWhile_sublist _).length_le
  rw [sizeL] at h3
  omega
 rw [hr]
 unfold wordL
 generalize trimLS r = T at ht htl ⊢
 have hk0 : (0 : Int) ≤ (k : Int):=by omega
 have hk1' : (k : Int) ≤ (s.size : Int):=by omega
 have hsub : IntKind.i64.wrap ((r.size : Int) - (T.size : Int)) = ((r.size - T.size : Nat) : Int):=by rw [wrap_in (by omega) (by omega)];omega
 have hn2 : (0 : Int) ≤ ((r.size - T.size : Nat) : Int):=by omega
 have hn3 : ((r.size - T.size : Nat) : Int) ≤ (r.size : Int):=by omega
 refine sfn_of_swp (N:=23) Tryd.func59 rfl (by decide) rfl rfl (by simp) (fun C h0=>?_)
 simp only [argS]
 repeat' (first|(with_reducible apply zz1)|((with_reducible apply zz2);rfl;intro K' hK';simp only [WA,simprocAttr];(repeat (constructor;focus (clear hK';intros;simp_all;done)));(try (apply hK';clear hK' K')))|((with_reducible apply zz3);rfl;all_goals (intro h;try exact absurd h (by decide))))
 refine stop_cS rfl (by simp only [UA,WA,simprocAttr]) (hb) ?_
 simp only [WA,simprocAttr,UM, ]
 (try (apply hK';clear hK' K'))
 repeat' (first|(with_reducible apply zz1)|((with_reducible apply zz2);rfl;intro K' hK';simp only [WA,simprocAttr];(repeat (constructor;focus (clear hK';intros;simp_all;done)));(try (apply hK';clear hK' K')))|((with_reducible apply zz3);rfl;all_goals (intro h;try exact absurd h (by decide))))
 (with_reducible refine swp_draw ?_ ?_ ?_ ([]) (fun K' hK'=>?_)
  · kernel_rfl
  · rfl
  · rfl
  simp only [WA,simprocAttr,UG,hk0,hk1',Int.toNat_natCast,hr,Option.toList_toArray,Int.le_refl]
  (try (apply hK';clear hK' K')))
 repeat' (first|(with_reducible apply zz1)|((with_reducible apply zz2);rfl;intro K' hK';simp only [WA,simprocAttr];(repeat (constructor;focus (clear hK';intros;simp_all;done)));(try (apply hK';clear hK' K')))|((with_reducible apply zz3);rfl;all_goals (intro h;try exact absurd h (by decide))))
 refine stop_callF rfl (by simp only [WA,simprocAttr]) rfl rfl (ht) ?_
 simp only [WA,simprocAttr,inX,dropS,hsub,hn2,hn3,Int.toNat_natCast]
 (repeat (constructor;focus (clear hK';intros;simp_all;done)))
 (try (apply hK';clear hK' K'))
 repeat' (first|(with_reducible apply zz1)|((with_reducible apply zz2);rfl;intro K' hK';simp only [WA,simprocAttr];(repeat (constructor;focus (clear hK';intros;simp_all;done)));(try (apply hK';clear hK' K')))|((with_reducible apply zz3);rfl;all_goals (intro h;try exact absurd h (by decide))))
 simp only [KretS,retL,retOne,oneV,US,WA,simprocAttr,h0]
def RightF (Γ : Gl) (f : FuncId) (caps : List SV) (w : ByteArray) (b : Bool) : Prop:=SV.calms caps = true ∧ SFn Tryd.prog Γ f (.d (sD w) :: caps) [] (.d (.v (.bool b))) []
set_option maxHeartbeats 4000000 in
set_option maxRecDepth 100000 in
theorem gword_ok (Γ : Gl) (s : ByteArray) (hs : s.size ≤ 2000) (a : Nat) (ha : a ≤ s.size) (f : FuncId) (caps : List SV) (h : RightF Γ f caps (wOf s a) true) : SFn Tryd.prog Γ 38 [.ref 0 0,.clo f caps] (rBox s a) (.d (sD (wOf s a))) (rBox s (wAt s a + (wOf s a).size)):=by
 have hb:=gpeek_fn Γ s hs a ha
 obtain ⟨hk1,hk2⟩:=wAt_in s a ha
 have hwz : wAt s a + (wOf s a).size ≤ s.size:=by
  have h2 : (wOf s a).size ≤ (s.extract (wAt s a) s.size).size:=by
   unfold wOf wordL
   rw [ByteArray.size_extract];omega
  rw [ByteArray.size_extract] at h2
  omega
 have hwr : IntKind.i64.wrap ((wAt s a : Int) + ((wOf s a).size : Int)) = ((wAt s a + (wOf s a).size : Nat) : Int):=by rw [wrap_in (by omega) (by omega)];omega
 obtain ⟨hc,hf⟩:=h
 have hj:=jks_calms (inX []) hc
 unfold rBox at hb ⊢
 generalize wAt s a = k at *
 generalize wOf s a = w at *
 refine sfn_of_swp (N:=24) Tryd.func38 rfl (by decide) rfl rfl (by simp) (fun C h0=>?_)
 simp only [argS]
 repeat' (first|(with_reducible apply zz1)|((with_reducible apply zz2);rfl;intro K' hK';simp only [WA,simprocAttr];(repeat (constructor;focus (clear hK';intros;simp_all;done)));(try (apply hK';clear hK' K')))|((with_reducible apply zz3);rfl;all_goals (intro h;try exact absurd h (by decide))))
 refine stop_cS rfl (by simp only [UA,WA,simprocAttr]) (hb) ?_
 simp only [WA,simprocAttr,UM,hj]
 (try (apply hK';clear hK' K'))
 repeat' (first|(with_reducible apply zz1)|((with_reducible apply zz2);rfl;intro K' hK';simp only [WA,simprocAttr];(repeat (constructor;focus (clear hK';intros;simp_all;done)));(try (apply hK';clear hK' K')))|((with_reducible apply zz3);rfl;all_goals (intro h;try exact absurd h (by decide))))
 refine stop_callV (caps:=caps) («as» := .d (sD w) :: caps) (s:=[]) (s':=[]) rfl rfl (by simp only [WA,simprocAttr,UA]) ⟨⟨rfl,rfl⟩,argF_calms hc⟩ trivial trivial trivial hf ?_
 simp only [WA,simprocAttr,UM,hj,Bool.not_true,Bool.not_false,cond_true,cond_false]
 (try (apply hK';clear hK' K'))
 repeat' (first|(with_reducible apply zz1)|((with_reducible apply zz2);rfl;intro K' hK';simp only [WA,simprocAttr,hwr];(repeat (constructor;focus (clear hK';intros;simp_all;done)));(try (apply hK';clear hK' K')))|((with_reducible apply zz3);rfl;all_goals (intro h;try exact absurd h (by decide))))
 simp only [KretS,retL,retOne,oneV,US,WA,simprocAttr,h0]
set_option maxHeartbeats 4000000 in
set_option maxRecDepth 100000 in
theorem gword_no (Γ : Gl) (s : ByteArray) (hs : s.size ≤ 2000) (a : Nat) (ha : a ≤ s.size) (f : FuncId) (caps : List SV) (h : RightF Γ f caps (wOf s a) false) : XFn Tryd.prog Γ 38 [.ref 0 0,.clo f caps] (rBox s a) (failG 3 (wAt s a : Nat)) (rBox s (wAt s a)):=by
 have hb:=gpeek_fn Γ s hs a ha
 have hx:=gfail_fn Γ s (wAt s a : Nat)
 obtain ⟨hc,hf⟩:=h
 have hj:=jks_calms (inX []) hc
 unfold rBox at hb ⊢
 generalize wAt s a = k at *
 generalize wOf s a = w at *
 refine xfn_of_swp (N:=24) Tryd.func38 rfl (by decide) rfl (by simp) (fun C h0=>?_)
 simp only [argS]
 repeat' (first|(with_reducible apply zz1)|((with_reducible apply zz2);rfl;intro K' hK';simp only [WA,simprocAttr];(repeat (constructor;focus (clear hK';intros;simp_all;done)));(try (apply hK';clear hK' K')))|((with_reducible apply zz3);rfl;all_goals (intro h;try exact absurd h (by decide))))
 refine stop_cS rfl (by simp only [UA,WA,simprocAttr]) (hb) ?_
 simp only [WA,simprocAttr,UM,hj]
 (try (apply hK';clear hK' K'))
 repeat' (first|(with_reducible apply zz1)|((with_reducible apply zz2);rfl;intro K' hK';simp only [WA,simprocAttr];(repeat (constructor;focus (clear hK';intros;simp_all;done)));(try (apply hK';clear hK' K')))|((with_reducible apply zz3);rfl;all_goals (intro h;try exact absurd h (by decide))))
 refine stop_callV (caps:=caps) («as» := .d (sD w) :: caps) (s:=[]) (s':=[]) rfl rfl (by simp only [WA,simprocAttr,UA]) ⟨⟨rfl,rfl⟩,argF_calms hc⟩ trivial trivial trivial hf ?_
 simp only [WA,simprocAttr,UM,hj,Bool.not_true,Bool.not_false,cond_true,cond_false]
 (try (apply hK';clear hK' K'))
 repeat' (first|(with_reducible first|apply zw0|apply zw1|apply zw2|apply zw3|apply zw4|apply zw5|apply zw6|apply zw7|apply zw8|apply zw9|apply zw10|apply zw11|apply zw13|apply zw14)|((with_reducible refine zw12 ?_ ?_);rfl)|((with_reducible refine swp_regionX ?_ ?_ (fun K' hK' hP'=>?_));rfl;rfl;simp only [WA,simprocAttr];(repeat (constructor;focus (clear hK' hP';intros;simp_all;done)));(try (apply hK';clear hK' hP';clear K')))|((with_reducible refine zw15 ?_ ?_);rfl;refine ⟨_,rfl,fun h=>?_,fun h=>?_⟩ <;> try exact absurd h (by decide)))
 refine stop_cX rfl (by simp only [UA,WA,simprocAttr]) (hx) ?_
 simp only [UM,WA,simprocAttr]
 refine hP' _ _ _ ?_
 repeat (first | refine kseq_p ?_ | refine kblk_p ?_ | refine kloop_p ?_)
 simp only [KpanS,US,WA,simprocAttr,h0]
end Go.Proofs.YtlnmkdbcdcknjaaDoor.GG
