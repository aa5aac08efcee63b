/- types' reader: blanks, signs, words; a symbolic walk. -/
-- TYPESA
import Derived.Test.YtdcplkefmpjppaaDoorDU2
import Derived.Test.YtdcplkefmpjppaaDoorShelfX
set_option linter.unusedVariables false
set_option linter.unusedSimpArgs false
namespace Go.Proofs.YtdcplkefmpjppaaDoor.GG
open Go.RowKit Go.Sw

def trimLS (s : ByteArray) : ByteArray:=packS (Lib.trimLeftS s.data.toList abcS.data.toList)
theorem trimL_fn (Γ : Gl) (s : ByteArray) : DFn Tryd.prog Γ 104 [sD s,sD abcS] (sD (trimLS s)) :=
 dfn_of (by kernel_rfl) rfl rfl fun w h=>Tryd.strings_TrimLeft_ascii s abcS w (by decide) abc_ascii
theorem sizeL (s : ByteArray) : s.data.toList.length = s.size:=rfl
theorem drop_list (s : ByteArray) (j : Nat) : (s.extract j s.size).data.toList = s.data.toList.drop j:=by
 rw [Lib.extract_data]
 exact List.take_of_length_le (by rw [List.length_drop,sizeL];exact Nat.le_refl _)
def skipB : List UInt8 → Nat
 | []=>0
 | c :: l=>if c.toNat = 32 then skipB l + 1 else 0
theorem skipB_len : ∀ l,skipB l ≤ l.length
 | []=>Nat.le_refl _
 | c :: l=>by
  have:=skipB_len l
  unfold skipB
  split
  · simp only [List.length_cons];omega
  · exact Nat.zero_le _
theorem drop_at (s : ByteArray) (j : Nat) (h : j < s.size) : s.data.toList.drop j = s.data.toList.getD j 0 :: s.data.toList.drop (j + 1):=by
 have hl : j < s.data.toList.length:=by rw [sizeL];exact h
 have hz : j < s.data.size:=h
 rw [List.drop_eq_getElem_cons hl]
 simp only [List.getD,List.getElem?_eq_getElem hl,Option.getD_some]

set_option maxHeartbeats 4000000 in
set_option maxRecDepth 100000 in
theorem blanks_fn (Γ : Gl) (s : ByteArray) (hs : s.size ≤ 2000) (a : Nat) (ha : a ≤ s.size) :
 SFn Tryd.prog Γ 123 [.ref 0 0] [(0,.cells [.d (sD s),.d (iD a)])] (.tup []) [(0,.cells [.d (sD s),.d (iD ((a + skipB (s.data.toList.drop a) : Nat) : Int))])]:=by
 refine sfn_of_swp (N:=31) Tryd.func123 rfl (by decide) rfl rfl (by simp) (fun C h0=>?_)
 simp only [argS]
 repeat' (first|(with_reducible apply zz1)|((with_reducible apply zz2);rfl;intro K' hK';simp only [WA,simprocAttr];(repeat (constructor;focus (clear hK';intros;simp_all;done)));(try (apply hK';clear hK' K')))|((with_reducible apply zz3);rfl;all_goals (intro h;try exact absurd h (by decide))))
 refine swp_loop (α := Nat) (fun _=>[(0,.ref 0 0)]) (fun j=>[(0,.cells [.d (sD s),.d (iD j)])])
  (fun j=>j ≤ s.size ∧ a + skipB (s.data.toList.drop a) = j + skipB (s.data.toList.drop j)) (fun j=>s.size - j) a ⟨ha,rfl⟩ (by refine sub_of h0 ?_ ?_ ?_ <;> simp only [US,WA,simprocAttr]) (fun j hj=>?_)
 obtain ⟨hj,hk⟩:=hj
 have hb0 : (0 : Int) ≤ (j : Int):=by omega
 by_cases hlt : j < s.size
 · have hb1 : (j : Int) < (s.size : Int):=by omega
   have hd:=drop_at s j hlt
   rw [hd,skipB] at hk
   have hw3 : IntKind.i64.wrap ((j : Int) + 1) = ((j + 1 : Nat) : Int):=by rw [wrap_in (by omega) (by omega)];omega
   generalize hc : (s.data.toList.getD j 0) = c at hk
   by_cases h32 : c.toNat = 32
   · rw [if_pos h32] at hk
     have hc2 : ((s.data.toList.getD j 0).toNat : Int) = 32:=by rw [hc,h32];rfl
     repeat' (first|(with_reducible apply zz1)|((with_reducible apply zz2);rfl;intro K' hK';simp only [WA,simprocAttr];(repeat (constructor;focus (clear hK';intros;simp_all;done)));(try (apply hK';clear hK' K')))|((with_reducible apply zz3);rfl;all_goals (intro h;try exact absurd h (by decide))))
     (with_reducible refine swp_draw ?_ ?_ ?_ ([]) (fun K' hK'=>?_)
      · kernel_rfl
      · rfl
      · rfl
      simp only [WA,simprocAttr,UG,hb0,hb1,Int.toNat_natCast,hc2]
      (try (apply hK';clear hK' K')))
     repeat' (first|(with_reducible apply zz1)|((with_reducible apply zz2);rfl;intro K' hK';simp only [WA,simprocAttr,hw3];(repeat (constructor;focus (clear hK';intros;simp_all;done)));(try (apply hK';clear hK' K')))|((with_reducible apply zz3);rfl;all_goals (intro h;try exact absurd h (by decide))))
     -- TRACE
     refine ⟨j + 1,⟨(by show j + 1 ≤ s.size;omega),(by rw [hk];omega)⟩,(by show s.size - (j + 1) < s.size - j;omega),by refine sub_of h0 ?_ ?_ ?_ <;> simp only [US,WA,simprocAttr]⟩
   · rw [if_neg h32] at hk
     have hc2 : (((s.data.toList.getD j 0).toNat : Int) == 32) = false:=by rw [hc];simp only [beq_eq_false_iff_ne];omega
     repeat' (first|(with_reducible apply zz1)|((with_reducible apply zz2);rfl;intro K' hK';simp only [WA,simprocAttr];(repeat (constructor;focus (clear hK';intros;simp_all;done)));(try (apply hK';clear hK' K')))|((with_reducible apply zz3);rfl;all_goals (intro h;try exact absurd h (by decide))))
     (with_reducible refine swp_draw ?_ ?_ ?_ ([]) (fun K' hK'=>?_)
      · kernel_rfl
      · rfl
      · rfl
      simp only [WA,simprocAttr,UG,hb0,hb1,Int.toNat_natCast,hc2]
      (try (apply hK';clear hK' K')))
     repeat' (first|(with_reducible apply zz1)|((with_reducible apply zz2);rfl;intro K' hK';simp only [WA,simprocAttr];(repeat (constructor;focus (clear hK';intros;simp_all;done)));(try (apply hK';clear hK' K')))|((with_reducible apply zz3);rfl;all_goals (intro h;try exact absurd h (by decide))))
     rw [hk]
     simp only [KretS,retL,retOne,oneV,US,WA,simprocAttr,h0]
 · have hb1 : ¬ (j : Int) < (s.size : Int):=by omega
   have hd : s.data.toList.drop j = []:=List.drop_of_length_le (by rw [sizeL];omega)
   rw [hd] at hk
   repeat' (first|(with_reducible apply zz1)|((with_reducible apply zz2);rfl;intro K' hK';simp only [WA,simprocAttr];(repeat (constructor;focus (clear hK';intros;simp_all;done)));(try (apply hK';clear hK' K')))|((with_reducible apply zz3);rfl;all_goals (intro h;try exact absurd h (by decide))))
   (with_reducible refine swp_draw ?_ ?_ ?_ ([]) (fun K' hK'=>?_)
    · kernel_rfl
    · rfl
    · rfl
    simp only [WA,simprocAttr,UG,hb1]
    (try (apply hK';clear hK' K')))
   refine ⟨fun h=>h.elim,fun h=>h.elim,hK' _ _ ?_⟩
   clear hK' K'
   repeat' (first|(with_reducible apply zz1)|((with_reducible apply zz2);rfl;intro K' hK';simp only [WA,simprocAttr];(repeat (constructor;focus (clear hK';intros;simp_all;done)));(try (apply hK';clear hK' K')))|((with_reducible apply zz3);rfl;all_goals (intro h;try exact absurd h (by decide))))
   rw [hk]
   simp only [KretS,retL,retOne,oneV,US,WA,simprocAttr,h0,skipB]
def failV (e at' : Int) : Value:=.iface 177 (.agg #[.int .i64 e,.int .i64 at'])
abbrev rBox (s : ByteArray) (a : Nat) : St:=[(0,.cells [.d (sD s),.d (iD (a : Nat))])]
set_option maxHeartbeats 4000000 in
set_option maxRecDepth 100000 in
theorem fail_fn (Γ : Gl) (s : ByteArray) (a : Int) : XFn Tryd.prog Γ 134 [.ref 0 0] [(0,.cells [.d (sD s),.d (iD a)])] (failV 3 a) [(0,.cells [.d (sD s),.d (iD a)])]:=by
 refine xfn_of_swp (N:=9) Tryd.func134 rfl (by decide) rfl (by simp) (fun C h0=>?_)
 simp only [argS]
 repeat' (first|(with_reducible first|refine swp_seq ?_|refine swp_block ?_|refine swp_skip ?_|refine swp_ret ?_|refine swp_exit ?_|refine swp_label ?_|refine kseq_n ?_|refine kseq_x ?_|refine kseq_r ?_|refine kblk_n ?_|refine kblk_r ?_|refine kblk_xs ?_|refine kloop_x ?_|refine kloop_r ?_)|((with_reducible refine kblk_xn ?_ ?_);rfl)|((with_reducible refine swp_regionX ?_ ?_ (fun K' hK' hP'=>?_));rfl;rfl;simp only [WA,simprocAttr];(repeat (constructor;focus (clear hK' hP';intros;simp_all;done)));(try (apply hK';clear hK' hP';clear K')))|((with_reducible refine swp_cond ?_ ?_);rfl;refine ⟨_,rfl,fun h=>?_,fun h=>?_⟩ <;> try exact absurd h (by decide)))
 refine stop_mki Tryd.underlying177 rfl rfl (by simp only [ok1,val,lk,nbeq,Nat.reduceBEq,cond_true,cond_false,Option.getD_some]) rfl rfl ?_
 simp only [WA,simprocAttr]
 refine stop_panic rfl rfl ?_
 refine hP' _ _ _ ?_
 simp only [KpanS,US,WA,simprocAttr,h0]
 rfl
def wAt (s : ByteArray) (a : Nat) : Nat:=a + skipB (s.data.toList.drop a)
theorem wAt_in (s : ByteArray) (a : Nat) (ha : a ≤ s.size) : a ≤ wAt s a ∧ wAt s a ≤ s.size:=by
 unfold wAt
 have:=skipB_len (s.data.toList.drop a)
 rw [List.length_drop,sizeL] at this
 omega
abbrev atS (s : ByteArray) (t : Nat) : Nat:=(s.data.toList.getD t 0).toNat
abbrev cD (c : Nat) : D:=.v (.int .u8 (c : Nat))
def isB (s : ByteArray) (a : Nat) (c : Nat) : Bool:=if wAt s a < s.size then atS s (wAt s a) == c else false

set_option maxHeartbeats 4000000 in
set_option maxRecDepth 100000 in
theorem is_fn (Γ : Gl) (s : ByteArray) (hs : s.size ≤ 2000) (a : Nat) (ha : a ≤ s.size) (c : Nat) : SFn Tryd.prog Γ 136 [.ref 0 0,.d (cD c)] (rBox s a) (.d (.v (.bool (isB s a c)))) (rBox s (wAt s a)):=by
 have hb:=blanks_fn Γ s hs a ha
 obtain ⟨hk1,hk2⟩:=wAt_in s a ha
 have e : a + skipB (s.data.toList.drop a) = wAt s a:=rfl
 rw [e] at hb
 unfold isB
 unfold rBox
 generalize wAt s a = k at *
 have hb0 : (0 : Int) ≤ (k : Int):=by omega
 by_cases hlt : k < s.size
 · have hb1 : (k : Int) < (s.size : Int):=by omega
   rw [if_pos hlt]
   have hc : (((s.data.toList.getD k 0).toNat : Int) == (c : Int)) = (atS s k == c):=by
    rw [Bool.eq_iff_iff,beq_iff_eq,beq_iff_eq]
    exact Int.ofNat_inj
   refine sfn_of_swp (N:=30) Tryd.func136 rfl (by decide) rfl rfl (by simp) (fun C h0=>?_)
   simp only [argS]
   repeat' (first|(with_reducible apply zz1)|((with_reducible apply zz2);rfl;intro K' hK';simp only [WA,simprocAttr];(repeat (constructor;focus (clear hK';intros;simp_all;done)));(try (apply hK';clear hK' K')))|((with_reducible apply zz3);rfl;all_goals (intro h;try exact absurd h (by decide))))
   refine stop_cS rfl (by simp only [UA,WA,simprocAttr]) (hb) ?_
   simp only [WA,simprocAttr,UM, ]
   (try (apply hK';clear hK' K'))
   repeat' (first|(with_reducible apply zz1)|((with_reducible apply zz2);rfl;intro K' hK';simp only [WA,simprocAttr];(repeat (constructor;focus (clear hK';intros;simp_all;done)));(try (apply hK';clear hK' K')))|((with_reducible apply zz3);rfl;all_goals (intro h;try exact absurd h (by decide))))
   (with_reducible refine swp_draw ?_ ?_ ?_ ([]) (fun K' hK'=>?_)
    · kernel_rfl
    · rfl
    · rfl
    simp only [WA,simprocAttr,UG,hb0,hb1,Int.toNat_natCast,hc,Bool.not_true,Bool.not_false,cond_true,cond_false]
    (try (apply hK';clear hK' K')))
   -- TRACE
   repeat' (first|(with_reducible apply zz1)|((with_reducible apply zz2);rfl;intro K' hK';simp only [WA,simprocAttr];(repeat (constructor;focus (clear hK';intros;simp_all;done)));(try (apply hK';clear hK' K')))|((with_reducible apply zz3);rfl;all_goals (intro h;try exact absurd h (by decide))))
   simp only [KretS,retL,retOne,oneV,US,WA,simprocAttr,h0]
 · have hb1 : ¬ (k : Int) < (s.size : Int):=by omega
   rw [if_neg hlt]
   refine sfn_of_swp (N:=30) Tryd.func136 rfl (by decide) rfl rfl (by simp) (fun C h0=>?_)
   simp only [argS]
   repeat' (first|(with_reducible apply zz1)|((with_reducible apply zz2);rfl;intro K' hK';simp only [WA,simprocAttr];(repeat (constructor;focus (clear hK';intros;simp_all;done)));(try (apply hK';clear hK' K')))|((with_reducible apply zz3);rfl;all_goals (intro h;try exact absurd h (by decide))))
   refine stop_cS rfl (by simp only [UA,WA,simprocAttr]) (hb) ?_
   simp only [WA,simprocAttr,UM, ]
   (try (apply hK';clear hK' K'))
   repeat' (first|(with_reducible apply zz1)|((with_reducible apply zz2);rfl;intro K' hK';simp only [WA,simprocAttr];(repeat (constructor;focus (clear hK';intros;simp_all;done)));(try (apply hK';clear hK' K')))|((with_reducible apply zz3);rfl;all_goals (intro h;try exact absurd h (by decide))))
   (with_reducible refine swp_draw ?_ ?_ ?_ ([]) (fun K' hK'=>?_)
    · kernel_rfl
    · rfl
    · rfl
    simp only [WA,simprocAttr,UG,hb0,hb1,Int.toNat_natCast,Bool.not_true,Bool.not_false,Bool.false_and,cond_true,cond_false]
    (try (apply hK';clear hK' K')))
   refine ⟨fun h=>h.elim,hK' _ _ ?_⟩
   clear hK' K'
   repeat' (first|(with_reducible apply zz1)|((with_reducible apply zz2);rfl;intro K' hK';simp only [WA,simprocAttr];(repeat (constructor;focus (clear hK';intros;simp_all;done)));(try (apply hK';clear hK' K')))|((with_reducible apply zz3);rfl;all_goals (intro h;try exact absurd h (by decide))))
   simp only [KretS,retL,retOne,oneV,US,WA,simprocAttr,h0]
set_option maxHeartbeats 4000000 in
set_option maxRecDepth 100000 in
theorem sign_ok (Γ : Gl) (s : ByteArray) (hs : s.size ≤ 2000) (a : Nat) (ha : a ≤ s.size) (c : Nat) (h : isB s a c = true) : SFn Tryd.prog Γ 135 [.ref 0 0,.d (cD c)] (rBox s a) (.tup []) (rBox s (wAt s a + 1)):=by
 have hb:=is_fn Γ s hs a ha c
 rw [h] at hb
 obtain ⟨hk1,hk2⟩:=wAt_in s a ha
 unfold rBox at hb ⊢
 generalize wAt s a = k at *
 have hw : IntKind.i64.wrap ((k : Int) + 1) = ((k + 1 : Nat) : Int):=by rw [wrap_in (by omega) (by omega)];omega
 refine sfn_of_swp (N:=17) Tryd.func135 rfl (by decide) rfl rfl (by simp) (fun C h0=>?_)
 simp only [argS]
 repeat' (first|(with_reducible apply zz1)|((with_reducible apply zz2);rfl;intro K' hK';simp only [WA,simprocAttr];(repeat (constructor;focus (clear hK';intros;simp_all;done)));(try (apply hK';clear hK' K')))|((with_reducible apply zz3);rfl;all_goals (intro h;try exact absurd h (by decide))))
 refine stop_cS rfl (by simp only [UA,WA,simprocAttr]) (hb) ?_
 simp only [WA,simprocAttr,UM,Bool.not_true,Bool.not_false,cond_true,cond_false]
 (try (apply hK';clear hK' K'))
 repeat' (first|(with_reducible apply zz1)|((with_reducible apply zz2);rfl;intro K' hK';simp only [WA,simprocAttr,hw];(repeat (constructor;focus (clear hK';intros;simp_all;done)));(try (apply hK';clear hK' K')))|((with_reducible apply zz3);rfl;all_goals (intro h;try exact absurd h (by decide))))
 simp only [KretS,retL,retOne,oneV,US,WA,simprocAttr,h0]
set_option maxHeartbeats 4000000 in
set_option maxRecDepth 100000 in
theorem sign_no (Γ : Gl) (s : ByteArray) (hs : s.size ≤ 2000) (a : Nat) (ha : a ≤ s.size) (c : Nat) (h : isB s a c = false) : XFn Tryd.prog Γ 135 [.ref 0 0,.d (cD c)] (rBox s a) (failV 3 (wAt s a : Nat)) (rBox s (wAt s a)):=by
 have hb:=is_fn Γ s hs a ha c
 have hf:=fail_fn Γ s (wAt s a : Nat)
 rw [h] at hb
 unfold rBox at hb ⊢
 generalize wAt s a = k at *
 refine xfn_of_swp (N:=17) Tryd.func135 rfl (by decide) rfl (by simp) (fun C h0=>?_)
 simp only [argS]
 repeat' (first|(with_reducible apply zz1)|((with_reducible apply zz2);rfl;intro K' hK';simp only [WA,simprocAttr];(repeat (constructor;focus (clear hK';intros;simp_all;done)));(try (apply hK';clear hK' K')))|((with_reducible apply zz3);rfl;all_goals (intro h;try exact absurd h (by decide))))
 refine stop_cS rfl (by simp only [UA,WA,simprocAttr]) (hb) ?_
 simp only [WA,simprocAttr,UM,Bool.not_true,Bool.not_false,cond_true,cond_false]
 (try (apply hK';clear hK' K'))
 repeat' (first|(with_reducible first|refine swp_seq ?_|refine swp_block ?_|refine swp_skip ?_|refine swp_ret ?_|refine swp_exit ?_|refine swp_label ?_|refine kseq_n ?_|refine kseq_x ?_|refine kseq_r ?_|refine kblk_n ?_|refine kblk_r ?_|refine kblk_xs ?_|refine kloop_x ?_|refine kloop_r ?_)|((with_reducible refine kblk_xn ?_ ?_);rfl)|((with_reducible refine swp_regionX ?_ ?_ (fun K' hK' hP'=>?_));rfl;rfl;simp only [WA,simprocAttr];(repeat (constructor;focus (clear hK' hP';intros;simp_all;done)));(try (apply hK';clear hK' hP';clear K')))|((with_reducible refine swp_cond ?_ ?_);rfl;refine ⟨_,rfl,fun h=>?_,fun h=>?_⟩ <;> try exact absurd h (by decide)))
 refine stop_cX rfl (by simp only [UA,WA,simprocAttr]) (hf) ?_
 simp only [UM,WA,simprocAttr]
 refine hP' _ _ _ ?_
 repeat (first | refine kseq_p ?_ | refine kblk_p ?_ | refine kloop_p ?_)
 simp only [KpanS,US,WA,simprocAttr,h0]
def wordL (r : ByteArray) : ByteArray:=r.extract 0 (r.size - (trimLS r).size)
def wOf (s : ByteArray) (a : Nat) : ByteArray:=wordL (s.extract (wAt s a) s.size)

set_option maxHeartbeats 4000000 in
set_option maxRecDepth 100000 in
theorem word_fn (Γ : Gl) (s : ByteArray) (hs : s.size ≤ 2000) (a : Nat) (ha : a ≤ s.size) : SFn Tryd.prog Γ 133 [.ref 0 0] (rBox s a) (.d (sD (wOf s a))) (rBox s (wAt s a)):=by
 have hb:=blanks_fn Γ s hs a ha
 obtain ⟨hk1,hk2⟩:=wAt_in s a ha
 have e : a + skipB (s.data.toList.drop a) = wAt s a:=rfl
 rw [e] at hb
 unfold wOf
 unfold rBox
 generalize wAt s a = k at *
 obtain ⟨r,hr⟩ : ∃ r,s.extract k s.size = r:=⟨_,rfl⟩
 have hrs : r.size = s.size - k:=by
  rw [← hr]
  have:=congrArg List.length (drop_list s k)
  rw [sizeL,List.length_drop,sizeL] at this
  exact this
 have ht:=trimL_fn Γ r
 have htl : (trimLS r).size ≤ r.size:=by
  have h2 : (trimLS r).size = (Lib.trimLeftS r.data.toList abcS.data.toList).length:=by simp [trimLS,packS,ByteArray.size]
  have h3 : (Lib.trimLeftS r.data.toList abcS.data.toList).length ≤ r.data.toList.length:=(List.dropWhile_sublist _).length_le
  rw [sizeL] at h3
  omega
 rw [hr]
 unfold wordL
 generalize trimLS r = T at ht htl ⊢
 have hk0 : (0 : Int) ≤ (k : Int):=by omega
 have hk1' : (k : Int) ≤ (s.size : Int):=by omega
 have hsub : IntKind.i64.wrap ((r.size : Int) - (T.size : Int)) = ((r.size - T.size : Nat) : Int):=by rw [wrap_in (by omega) (by omega)];omega
 have hn2 : (0 : Int) ≤ ((r.size - T.size : Nat) : Int):=by omega
 have hn3 : ((r.size - T.size : Nat) : Int) ≤ (r.size : Int):=by omega
 refine sfn_of_swp (N:=23) Tryd.func133 rfl (by decide) rfl rfl (by simp) (fun C h0=>?_)
 simp only [argS]
 repeat' (first|(with_reducible apply zz1)|((with_reducible apply zz2);rfl;intro K' hK';simp only [WA,simprocAttr];(repeat (constructor;focus (clear hK';intros;simp_all;done)));(try (apply hK';clear hK' K')))|((with_reducible apply zz3);rfl;all_goals (intro h;try exact absurd h (by decide))))
 refine stop_cS rfl (by simp only [UA,WA,simprocAttr]) (hb) ?_
 simp only [WA,simprocAttr,UM, ]
 (try (apply hK';clear hK' K'))
 repeat' (first|(with_reducible apply zz1)|((with_reducible apply zz2);rfl;intro K' hK';simp only [WA,simprocAttr];(repeat (constructor;focus (clear hK';intros;simp_all;done)));(try (apply hK';clear hK' K')))|((with_reducible apply zz3);rfl;all_goals (intro h;try exact absurd h (by decide))))
 (with_reducible refine swp_draw ?_ ?_ ?_ ([]) (fun K' hK'=>?_)
  · kernel_rfl
  · rfl
  · rfl
  simp only [WA,simprocAttr,UG,hk0,hk1',Int.toNat_natCast,hr,Option.toList_toArray,Int.le_refl]
  (try (apply hK';clear hK' K')))
 repeat' (first|(with_reducible apply zz1)|((with_reducible apply zz2);rfl;intro K' hK';simp only [WA,simprocAttr];(repeat (constructor;focus (clear hK';intros;simp_all;done)));(try (apply hK';clear hK' K')))|((with_reducible apply zz3);rfl;all_goals (intro h;try exact absurd h (by decide))))
 refine stop_callF rfl (by simp only [WA,simprocAttr]) rfl rfl (ht) ?_
 simp only [WA,simprocAttr,inX,dropS,hsub,hn2,hn3,Int.toNat_natCast]
 (repeat (constructor;focus (clear hK';intros;simp_all;done)))
 (try (apply hK';clear hK' K'))
 repeat' (first|(with_reducible apply zz1)|((with_reducible apply zz2);rfl;intro K' hK';simp only [WA,simprocAttr];(repeat (constructor;focus (clear hK';intros;simp_all;done)));(try (apply hK';clear hK' K')))|((with_reducible apply zz3);rfl;all_goals (intro h;try exact absurd h (by decide))))
 simp only [KretS,retL,retOne,oneV,US,WA,simprocAttr,h0]
end Go.Proofs.YtdcplkefmpjppaaDoor.GG
